/- The trees that the walks are asked for: plain, no program in sight. -/
/- A new matcher of the program. -/
/- spec.Matches and impl.Matches, by hand. -/
import Derived.Test.YtlpabbcgichaoaaMatBFnExactFind
import Derived.Test.YtlpabbcgichaoaaImOFnExactFind
import Derived.Deep.QuietTactic
import Derived.BigQuiet
import Derived.StillTailTactics
import Derived.Outline
import Derived.Deep.RegionHeld3
import Derived.Deep.Cut
import Derived.Test.YtlpabbcgichaoaaHw
import Derived.Test.YtlpabbcgichaoaaPk
import Derived.Test.YtlpabbcgichaoaaM1FnExactFind
import Derived.Test.YtlpabbcgichaoaaImFFnExactFind
section
namespace Go.Proofs.Ytlpabbcgichaoaa.PFnExactFind
open Go.RowKit Go.Proofs.YtlpabbcgichaoaaW.PrintWords Go.Proofs.YtlpabbcgichaoaaW.PrintLast Go.Proofs.YtlpabbcgichaoaaW.PrintMore
set_option linter.unusedVariables false
set_option linter.unusedSimpArgs false
mutual
def okB : S31 → Bool
  | ⟨k, a, m, s, l⟩ => decide (1 ≤ k ∧ k ≤ 9) && ((!decide (k = 6 ∨ k = 9) || decide (l.length = 1)) && ((!decide (k = 9) || decide (0 ≤ a ∧ a ≤ 20 ∧ (m < 0 ∨ a ≤ m ∧ m ≤ 20))) && ((!decide (k = 8) || decide (1 ≤ l.length)) && ((!decide (k = 6) || decide (1 ≤ a ∧ a ≤ 9)) && (decide (s.size < 4611686018427387904) && okBL l)))))
def okBL : List S31 → Bool
  | [] => true
  | x :: l => okB x && okBL l
end
theorem okB_W : ∀ (N : Nat), (∀ x : S31, SizeOf.sizeOf x ≤ N → okB x = true → rxW x ∧ rxT x) ∧ (∀ l : List S31, SizeOf.sizeOf l ≤ N → okBL l = true → rxWL l ∧ rxTL l) := by
  intro N
  induction N with
  | zero =>
    refine ⟨fun x hx => ?_, fun l hl => ?_⟩
    · cases x; simp at hx
    · cases l <;> simp at hl
  | succ N ih =>
    refine ⟨?_, ?_⟩
    · rintro ⟨k, a, m, s, l⟩ hx h
      have hl : SizeOf.sizeOf l ≤ N := by simp at hx; omega
      rw [okB] at h
      simp only [Bool.and_eq_true, Bool.or_eq_true, Bool.not_eq_true', decide_eq_true_eq, decide_eq_false_iff_not] at h
      obtain ⟨h1, h2, h3, h4, h5, h6, h7⟩ := h
      obtain ⟨i1, i2⟩ := ih.2 l hl h7
      rw [rxW, rxT]
      exact ⟨⟨h1.1, h1.2, fun h => h2.resolve_left (fun c => c h), fun h => h3.resolve_left (fun c => c h), fun h => h4.resolve_left (fun c => c h), fun h => h5.resolve_left (fun c => c h), i1⟩, h6, i2⟩
    · intro l hl h
      cases l with
      | nil => exact ⟨by rw [rxWL]; trivial, by rw [rxTL]; trivial⟩
      | cons x l =>
        rw [okBL, Bool.and_eq_true] at h
        have hx2 : SizeOf.sizeOf x ≤ N := by simp at hl; omega
        have hl2 : SizeOf.sizeOf l ≤ N := by simp at hl; omega
        obtain ⟨a1, a2⟩ := ih.1 x hx2 h.1
        obtain ⟨b1, b2⟩ := ih.2 l hl2 h.2
        exact ⟨by rw [rxWL]; exact ⟨a1, b1⟩, by rw [rxTL]; exact ⟨a2, b2⟩⟩
theorem rxWL_mem : ∀ (l : List S31), rxWL l → ∀ y ∈ l, rxW y
  | [], _, y, hy => by simp at hy
  | x :: l, h, y, hy => by
    rw [rxWL] at h
    rcases List.mem_cons.1 hy with rfl | hy
    · exact h.1
    · exact rxWL_mem l h.2 y hy
theorem rxTL_mem : ∀ (l : List S31), rxTL l → ∀ y ∈ l, rxT y
  | [], _, y, hy => by simp at hy
  | x :: l, h, y, hy => by
    rw [rxTL] at h
    rcases List.mem_cons.1 hy with rfl | hy
    · exact h.1
    · exact rxTL_mem l h.2 y hy
theorem cntL_mem : ∀ (l : List S31), ∀ y ∈ l, cnt y ≤ cntL l
  | [], y, hy => by simp at hy
  | x :: l, y, hy => by
    rw [cntL]
    rcases List.mem_cons.1 hy with rfl | hy
    · omega
    · have := cntL_mem l y hy; omega
theorem ad_all {P : S31 → Prop} (hP : ∀ k a m s (l : List S31), P ⟨k, a, m, s, l⟩ → ∀ y ∈ l, P y) : ∀ (N : Nat),
    (∀ x : S31, SizeOf.sizeOf x ≤ N → P x → ∀ ns : List (S31 × List Int), (∀ v ∈ ns, P v.1) → ∀ v ∈ ad x ns, P v.1) ∧
    (∀ l : List S31, SizeOf.sizeOf l ≤ N → (∀ y ∈ l, P y) → ∀ ns : List (S31 × List Int), (∀ v ∈ ns, P v.1) → ∀ v ∈ (adL l ns).1, P v.1) := by
  intro N
  induction N with
  | zero =>
    refine ⟨fun x hx => ?_, fun l hl => ?_⟩
    · cases x; simp at hx
    · cases l <;> simp at hl
  | succ N ih =>
    refine ⟨?_, ?_⟩
    · rintro ⟨k, a, m, s, l⟩ hx h ns hn v hv
      have hl : SizeOf.sizeOf l ≤ N := by simp at hx; omega
      rw [ad] at hv
      simp only at hv
      rcases List.mem_or_eq_of_mem_set hv with hv | rfl
      · refine ih.2 l hl (hP _ _ _ _ _ h) _ (fun v hv => ?_) v hv
        rw [List.mem_append, List.mem_singleton] at hv
        rcases hv with hv | rfl
        · exact hn v hv
        · exact h
      · exact h
    · intro l hl h ns hn
      cases l with
      | nil => rw [adL]; exact hn
      | cons x l =>
        have hx2 : SizeOf.sizeOf x ≤ N := by simp at hl; omega
        have hl2 : SizeOf.sizeOf l ≤ N := by simp at hl; omega
        rw [adL]
        exact ih.2 l hl2 (fun y hy => h y (by simp [hy])) _ (ih.1 x hx2 (h x (by simp)) ns hn)
theorem ad_na (x : S31) (k : Nat) : naAt (ad x []) k := by
  by_cases h : k < (ad x []).length
  · exact ((ad_good _).1 x (Nat.le_refl _) []).2.2.2 k (Nat.zero_le _) h
  · intro r ks hr
    rw [List.getElem?_eq_none (by omega)] at hr
    exact absurd hr (by simp)
theorem ad_zero (x : S31) : ∃ ks, (ad x [])[0]? = some (x, ks) := ((ad_good _).1 x (Nat.le_refl _) []).2.2.1
end Go.Proofs.Ytlpabbcgichaoaa.PFnExactFind
end
section
namespace Go.Proofs.Ytlpabbcgichaoaa.PFnExactFind
open Go.RowKit Go.Proofs.Ytlpabbcgichaoaa.Lawful Go.Proofs.YtlpabbcgichaoaaW.PrintWords Go.Proofs.YtlpabbcgichaoaaW.PrintLast Go.Proofs.YtlpabbcgichaoaaW.PrintMore
attribute [local go_sem] max2_int min2_int max_two min_two max_three min_three max_four min_four   -- for this text's walks alone
set_option linter.unusedVariables false
set_option linter.unusedSimpArgs false
section
open Go.Proofs.Ytlpabbcgichaoaa.Lawful
def LMap (W : World) (P : Nat → Prop) (g : Nat) (c : Nat) : Prop := (∀ k, P k ↔ k = g) ∧ W.heap[g]? = some (.map #[] c) ∧ ∀ k, P k → k < W.heap.size
theorem LMap.lt {W : World} {P : Nat → Prop} {g c : Nat} (h : LMap W P g c) : ∀ k, P k → k < W.heap.size := h.2.2
theorem LMap.step {W W' : World} {P S : Nat → Prop} {g c : Nat} (h : LMap W P g c) (hk : Kept W W' S) (hS : ∀ k, P k → ¬ S k) : LMap W' P g c :=
 ⟨h.1, (hk.2 g (h.2.2 g ((h.1 g).2 rfl)) (hS g ((h.1 g).2 rfl))).trans h.2.1, fun k hp => Nat.lt_of_lt_of_le (h.2.2 k hp) hk.1⟩
theorem k31_heap {w w' : World} (hw : ∀ k, k < w.heap.size → w'.heap[k]? = w.heap[k]?) : ∀ (N : Nat), (∀ (x : S31) (cs : List Value), SizeOf.sizeOf x ≤ N → k31.K w x cs → k31.K w' x cs) ∧ (∀ (l : List S31) (A : Option Addr) (n : Nat), SizeOf.sizeOf l ≤ N → k31.C w A n l → k31.C w' A n l) := by
 intro N
 induction N with
 | zero =>
  refine ⟨fun x cs hx => ?_, fun l A n hl => ?_⟩
  ·
   cases x; simp at hx
  cases l <;> simp at hl
 | succ N ih =>
  refine ⟨fun x cs hx h => ?_, fun l A n hl h => ?_⟩
  ·
   obtain ⟨A4, c4, rfl, h4, hC⟩ := k31_open h
   exact k31_mk w' x h4 (ih.2 x.f4 A4 _ (by cases x; simp at hx ⊢; omega) hC)
  obtain ⟨h1, h2, h3⟩ := h
  refine ⟨h1, h2, fun hp => ?_⟩
  obtain ⟨ad, e, h4⟩ := h3 hp
  refine ⟨ad, e, fun j p hj => ?_⟩
  obtain ⟨c, a1, a2, a3⟩ := h4 j p hj
  refine ⟨c, a1, ih.1 p c (by have := List.sizeOf_lt_of_mem (List.mem_of_getElem? hj); omega) a2, fun q u hu => ?_⟩
  have h5 := a3 q u hu
  have hlt := World.block_lt_of_cell? w _ h5
  unfold World.cell? at h5 ⊢
  rw [hw _ hlt]
  exact h5
theorem k31_F {w : World} {A : Option Addr} {n : Nat} {l : List S31} (h : k31.C w A n l) : Kd.F k31 w (fun k => k < w.heap.size) A n l := fun W' hW => (k31_heap (fun k hk => hW k hk hk) _).2 l A n (Nat.le_refl _) h
@[reducible] def imMade (E : imE) (w w' ws : World) (x : S31) (T : ByteArray) : Prop := E.Ok w ∧ E.T = T ∧ E.ns = ad x [] ∧ (∃ PE, E.At w w' PE (.slice none 0 0)) ∧ Kept ws w' (fun _ => False)
theorem imMap_event {P : Program} {ops : Array Oper} {Q : Exit → Act → World → Prop} {rest : List Oper} {oi : Oper} {a : Act} {W : World} {N : Tmp} (hgd : oi.guard = none) (_hd : oi.dst = some N)
  (hrun : (execOp a.eval oi).run P W = .ok (.value (.map (some W.heap.size))) (W.alloc (.map #[] 0)))
  (h : ∀ g, g = W.heap.size → ∀ w1, w1.heap[g]? = some (.map #[] 0) → Below W.heap.size W w1 → wpList P ops Q rest (a.put oi.dst (.map (some g))) w1) : wpList P ops Q (oi :: rest) a W :=
 Kd.event_run hgd hrun (h _ rfl _ (blk_new W _) (below_alloc (Below.refl _ _) _))
theorem LMap.fresh {w w' : World} {g c : Nat} (hg : g = w.heap.size) (h : w'.heap[g]? = some (.map #[] c)) : ∃ P, (∀ k, P k → w.heap.size ≤ k ∧ True) ∧ LMap w' P g c :=
 ⟨fun k => k = g, fun k hk => ⟨by omega, trivial⟩, fun k => Iff.rfl, h, fun k hk => by rw [hk]; exact blk_lt h⟩
theorem Kept.thenB {w ws W W2 : World} {S : Nat → Prop} (h : Kept ws W (fun _ => False)) (h2 : Kept W W2 S) (hS : ∀ k, k < ws.heap.size → S k → k < w.heap.size) (hb0 : Below w.heap.size w ws) (hb2 : Below w.heap.size w W2) : Kept ws W2 (fun _ => False) :=
 ⟨Nat.le_trans h.1 h2.1, fun k hk _ => by
  by_cases c : S k
  ·
   exact (hb2.block k (hS k hk c)).trans (hb0.block k (hS k hk c)).symm
  exact (h2.2 k (Nat.lt_of_lt_of_le hk h.1) c).trans (h.2 k hk (fun h => h))⟩
set_option maxHeartbeats 16000000 in
set_option maxRecDepth 100000 in
theorem impl_new (w ws : World) (x : S31) (T : ByteArray) (A4 : Option Addr) (c4 : Nat) (hB : Below w.heap.size w ws) (hr : Kd.C k31 w A4 x.f4.length x.f4) (hc : x.f4.length ≤ c4) (hw : rxW x) (hn : cnt x ≤ 2000) (hs : rxT x) (hT : T.size ≤ 120) :
  Calls Try.prog 30 #[.agg #[.int .i64 x.f0, .int .i64 x.f1, .int .i64 x.f2, .string x.f3, .slice A4 x.f4.length c4], .string T] ws fun e w' => ∃ E : imE, e = .returned (.pointer (some ⟨E.gG, 0, none⟩)) ∧ imMade E w w' ws x T := by
 have hu := Try.underlying74
 have hu2 := Try.underlying76
 have hu3 := Try.underlying31
 have LM_ := (fun (PG : Nat → Prop) (gG : Nat) (VE VR VG : Value) (ws' : World) h => impl_add w PG (fun k => k < w.heap.size) gG T VE VR VG (fun _ h => h) _ x (Nat.le_refl _) ws' (fun k => k < w.heap.size) none 0 [] A4 c4 (k31_F hr) hc (by simp; omega) h)
 have hall := (ad_all (P := fun y => rxW y ∧ rxT y ∧ cnt y < 1099511627776) (fun k a m s l h y hy => ⟨rxWL_mem l (by have h1 := h.1; rw [rxW] at h1; exact h1.2.2.2.2.2.2) y hy, rxTL_mem l (by have h1 := h.2.1; rw [rxT] at h1; exact h1.2) y hy, by have h1 := h.2.2; rw [cnt] at h1; have := cntL_mem l y hy; omega⟩) _).1 x (Nat.le_refl _) ⟨hw, hs, by omega⟩ [] (fun v hv => by simp at hv)
 have hlen := (ad_len _).1 x (Nat.le_refl _) []
 obtain ⟨n1, hq⟩ : ∃ q : List (S31 × List Int), q = ad x [] := ⟨_, rfl⟩
 rw [← hq] at LM_ hall hlen
 have HLM := Aside0.mk LM_
 have HALL := Aside0.mk hall
 have HLEN := Aside0.mk (show n1.length ≤ 2000 by rw [hlen]; simpa using hn)
 have HQ := Aside0.mk hq
 have HNA := Aside0.mk (ad_na x)
 have HT := Aside0.mk hT
 have HB := Aside0.mk hB
 have HB0 := Aside0.mk hB
 have HK := Aside0.mk (Kept.refl ws (fun _ => False))
 clear LM_ hall hlen hn hw hs hr hc hT hB
 obtain ⟨f0, f1, f2, f3, l⟩ := x
 dsimp only at HLM
 go_enter Try.func30, Try.ntmps30
 go_wp2_with (first | ((with_reducible refine gate_dst (N := 2) rfl ?_); refine box_event ?hg_1 (N := 2) ?hd_1 (cs := #[.int .i64 f0, .int .i64 f1, .int .i64 f2, .string f3, .slice A4 l.length c4]) (t := 31) ?hr_1 ?_; (case hd_1 => rfl); (case hg_1 => rfl); (case hr_1 => first | (go_simp; done) | (go_simp; rfl)); intro gX1 hg w2 hbox hb; have hk := kept_below hb; obtain ⟨PX1, hPX1, HLX1⟩ := LB.fresh hg hbox; have HX1 := Aside0.mk HLX1; clear HLX1; have GEX1 := Aside0.mk (gen_ hg HB.out); have RRX1 := Aside0.mk (show ∀ k_, PX1 k_ → (fun _ => False) k_ ∨ ws.heap.size ≤ k_ from fun k_ h_ => .inr (Nat.le_trans HK.out.1 (hPX1 k_ h_).1)); replace HK := Aside0.mk (HK.out.then_ hk no_R); replace HB := Aside0.mk (below_step HB.out hb); clear hb hk hbox hg hPX1; (try clear hxX1_0 hfX1_0 hxX1_1 hfX1_1 hxX1_2 hfX1_2 hxX1_3 hfX1_3 hxX1_4 hfX1_4); obtain ⟨hxX1_0, hfX1_0, hxX1_1, hfX1_1, hxX1_2, hfX1_2, hxX1_3, hfX1_3, hxX1_4, hfX1_4⟩ := HX1.out.c5) | ((with_reducible refine gate_dst (N := 7) rfl ?_); refine imMap_event (N := 7) ?hg_2 rfl ?hr_2 ?_; (case hg_2 => rfl); (case hr_2 => first | (go_simp; done) | (go_simp; rfl)); intro gME hg w2 hbox hb; have hk := kept_below hb; obtain ⟨PME, hPME, HLME⟩ := LMap.fresh hg hbox; have HME := Aside0.mk HLME; clear HLME; have GEME := Aside0.mk (gen_ hg HB.out); have D_X1_ME := Aside0.mk (new_apart HX1.out.lt hPME); have RRME := Aside0.mk (show ∀ k_, PME k_ → (fun _ => False) k_ ∨ ws.heap.size ≤ k_ from fun k_ h_ => .inr (Nat.le_trans HK.out.1 (hPME k_ h_).1)); replace HX1 := Aside0.mk (HX1.out.step hk no_S); replace HK := Aside0.mk (HK.out.then_ hk no_R); replace HB := Aside0.mk (below_step HB.out hb); clear hb hk hbox hg hPME; (try clear hxX1_0 hfX1_0 hxX1_1 hfX1_1 hxX1_2 hfX1_2 hxX1_3 hfX1_3 hxX1_4 hfX1_4); obtain ⟨hxX1_0, hfX1_0, hxX1_1, hfX1_1, hxX1_2, hfX1_2, hxX1_3, hfX1_3, hxX1_4, hfX1_4⟩ := HX1.out.c5) | ((with_reducible refine gate_dst (N := 8) rfl ?_); refine imMap_event (N := 8) ?hg_3 rfl ?hr_3 ?_; (case hg_3 => rfl); (case hr_3 => first | (go_simp; done) | (go_simp; rfl)); intro gMR hg w2 hbox hb; have hk := kept_below hb; obtain ⟨PMR, hPMR, HLMR⟩ := LMap.fresh hg hbox; have HMR := Aside0.mk HLMR; clear HLMR; have GEMR := Aside0.mk (gen_ hg HB.out); have D_X1_MR := Aside0.mk (new_apart HX1.out.lt hPMR); have D_ME_MR := Aside0.mk (new_apart HME.out.lt hPMR); have RRMR := Aside0.mk (show ∀ k_, PMR k_ → (fun _ => False) k_ ∨ ws.heap.size ≤ k_ from fun k_ h_ => .inr (Nat.le_trans HK.out.1 (hPMR k_ h_).1)); replace HX1 := Aside0.mk (HX1.out.step hk no_S); replace HME := Aside0.mk (HME.out.step hk no_S); replace HK := Aside0.mk (HK.out.then_ hk no_R); replace HB := Aside0.mk (below_step HB.out hb); clear hb hk hbox hg hPMR; (try clear hxX1_0 hfX1_0 hxX1_1 hfX1_1 hxX1_2 hfX1_2 hxX1_3 hfX1_3 hxX1_4 hfX1_4); obtain ⟨hxX1_0, hfX1_0, hxX1_1, hfX1_1, hxX1_2, hfX1_2, hxX1_3, hfX1_3, hxX1_4, hfX1_4⟩ := HX1.out.c5) | ((with_reducible refine gate_dst (N := 10) rfl ?_); refine box_event ?hg_4 (N := 10) ?hd_4 (cs := #[.string T, .slice none 0 0, .map (some gME), .map (some gMR), .slice none 0 0]) (t := 74) ?hr_4 ?_; (case hd_4 => rfl); (case hg_4 => rfl); (case hr_4 => first | (go_simp; done) | (go_simp; rfl)); intro gX2 hg w2 hbox hb; have hk := kept_below hb; obtain ⟨PX2, hPX2, HLX2⟩ := LB.fresh hg hbox; have HX2 := Aside0.mk HLX2; clear HLX2; have GEX2 := Aside0.mk (gen_ hg HB.out); have D_X1_X2 := Aside0.mk (new_apart HX1.out.lt hPX2); have D_ME_X2 := Aside0.mk (new_apart HME.out.lt hPX2); have D_MR_X2 := Aside0.mk (new_apart HMR.out.lt hPX2); have RRX2 := Aside0.mk (show ∀ k_, PX2 k_ → (fun _ => False) k_ ∨ ws.heap.size ≤ k_ from fun k_ h_ => .inr (Nat.le_trans HK.out.1 (hPX2 k_ h_).1)); replace HX1 := Aside0.mk (HX1.out.step hk no_S); replace HME := Aside0.mk (HME.out.step hk no_S); replace HMR := Aside0.mk (HMR.out.step hk no_S); replace HK := Aside0.mk (HK.out.then_ hk no_R); replace HB := Aside0.mk (below_step HB.out hb); clear hb hk hbox hg hPX2; (try clear hxX1_0 hfX1_0 hxX1_1 hfX1_1 hxX1_2 hfX1_2 hxX1_3 hfX1_3 hxX1_4 hfX1_4); obtain ⟨hxX1_0, hfX1_0, hxX1_1, hfX1_1, hxX1_2, hfX1_2, hxX1_3, hfX1_3, hxX1_4, hfX1_4⟩ := HX1.out.c5; (try clear hxX2_0 hfX2_0 hxX2_1 hfX2_1 hxX2_2 hfX2_2 hxX2_3 hfX2_3 hxX2_4 hfX2_4); obtain ⟨hxX2_0, hfX2_0, hxX2_1, hfX2_1, hxX2_2, hfX2_2, hxX2_3, hfX2_3, hxX2_4, hfX2_4⟩ := HX2.out.c5) | ((with_reducible refine gate_callee (f := 44) rfl ?_); refine goesL_ (some 13) rfl rfl Try.func44 (by kernel_rfl) rfl #[.pointer (some ⟨gX2, 0, none⟩), .agg #[.int .i64 f0, .int .i64 f1, .int .i64 f2, .string f3, .slice A4 l.length c4]] rfl (by (try simp only [List.map_toArray, List.map_cons, List.map_nil]); first | done | rfl) ?_; have hat_ := (show imB w _ PX2 (fun k => k < w.heap.size) gX2 none 0 T (.map (some gME)) (.map (some gMR)) (.slice none 0 0) [] from ⟨HB.out, HX2.out, ⟨Kd.N_nil _ _ _ _ _, fun k hk => Nat.lt_of_lt_of_le hk HB.out.size⟩, fun k h1 h2 => by have h3 := (HX2.out.1 k).1 h1; have h4 := GEX2.out; omega, GEX2.out, fun _ h => h⟩); (with_reducible refine (HLM.out _ _ _ _ _ _ hat_).mono ?_); rintro e w2 ⟨BN, DN, PN, rfl, ⟨hb_, hg_, hn_, hd_, hge_, hold_⟩, hrr_, hkk_⟩; refine ⟨_, rfl, ?_⟩; clear hat_; have D_ME_N := Aside0.mk (apart_app hrr_ HME.out.lt (apart_or D_ME_X2.out (fun k h1 h2 => by have h3 := (HME.out.1 k).1 h1; have h4 := GEME.out; omega))); replace HME := Aside0.mk (HME.out.step hkk_ (apart_or D_ME_X2.out (fun k h1 h2 => by have h3 := (HME.out.1 k).1 h1; have h4 := GEME.out; omega))); have D_MR_N := Aside0.mk (apart_app hrr_ HMR.out.lt (apart_or D_MR_X2.out (fun k h1 h2 => by have h3 := (HMR.out.1 k).1 h1; have h4 := GEMR.out; omega))); replace HMR := Aside0.mk (HMR.out.step hkk_ (apart_or D_MR_X2.out (fun k h1 h2 => by have h3 := (HMR.out.1 k).1 h1; have h4 := GEMR.out; omega))); replace HK := Aside0.mk (Kept.thenB HK.out hkk_ (fun k h1 h2 => h2.elim (fun h3 => absurd h1 (by have := (RRX2.out k h3).resolve_left (fun h => h); omega)) id) HB0.out hb_); replace HB := Aside0.mk hb_; replace HX2 := Aside0.mk hg_; have HN := Aside0.mk hn_; have D_X2_N := Aside0.mk hd_; clear hb_ hg_ hn_ hd_ hge_ hold_ hrr_ hkk_ HX1))
 go_ret
 have hgm : gME ≠ gMR := fun e => D_ME_MR.out gME ((HME.out.1 gME).2 rfl) ((HMR.out.1 gME).2 e)
 have hpe : ∀ k, PN k → k ≠ gME ∧ k ≠ gMR := fun k h => ⟨fun e => D_ME_N.out k ((HME.out.1 k).2 e) h, fun e => D_MR_N.out k ((HMR.out.1 k).2 e) h⟩
 refine ⟨⟨PX2, PN, gX2, gME, gMR, BN, DN, T, T.size + 1, n1⟩, rfl, ⟨hgm, rfl, HT.out, GEME.out, GEMR.out, by have := HLEN.out; show n1.length < _; omega, fun k => by show naAt n1 k; rw [HQ.out]; exact HNA.out k, fun k y ks h => HALL.out (y, ks) (List.mem_of_getElem? h)⟩, rfl, HQ.out, ⟨fun k => k = gME ∨ k = gMR, HB.out, HX2.out, HN.out.toLN, ⟨⟨.inl rfl, .inr rfl⟩, fun k h => h.elim (fun e => HME.out.lt k ((HME.out.1 k).2 e)) (fun e => HMR.out.lt k ((HMR.out.1 k).2 e)), ⟨#[], _, HME.out.2.1, fun y hy => by simp at hy⟩, ⟨#[], _, HMR.out.2.1, fun y hy => by simp at hy⟩⟩, fun k h1 h2 => h2.elim (fun e => D_ME_X2.out k ((HME.out.1 k).2 e) h1) (fun e => D_MR_X2.out k ((HMR.out.1 k).2 e) h1), fun k h1 h2 => h2.elim (hpe k h1).1 (hpe k h1).2⟩, HK.out⟩
end
end Go.Proofs.Ytlpabbcgichaoaa.PFnExactFind
end
section
namespace Go.Proofs.Ytlpabbcgichaoaa.PFnExactFind
open Go.RowKit Go.Proofs.Ytlpabbcgichaoaa.Lawful Go.Proofs.YtlpabbcgichaoaaW.PrintWords Go.Proofs.YtlpabbcgichaoaaW.PrintLast Go.Proofs.YtlpabbcgichaoaaW.PrintMore
attribute [local go_sem] max2_int min2_int max_two min_two max_three min_three max_four min_four   -- for this text's walks alone
set_option linter.unusedVariables false
set_option linter.unusedSimpArgs false
section
open Go.Proofs.Ytlpabbcgichaoaa.Lawful
def spec_Matches.f (k : Nat) (a0_0 : Int) (a0_1 : Int) (a0_2 : Int) (a0_3 : ByteArray) (l0_4 : List (S31)) (a1 : ByteArray) (a2 : Int) (a3 : Int) : Option (Bool × Int) :=
 (spec_l06Code.f k a0_0 a0_1 a0_2 a0_3 l0_4 a1).bind fun c => if c = 0 then (if a2 < 0 then some (false, 5) else if a3 < a2 then some (false, 5) else if (a1.size : Int) < a3 then some (false, 5) else (if okB ⟨a0_0, a0_1, a0_2, a0_3, l0_4⟩ = true ∧ cnt ⟨a0_0, a0_1, a0_2, a0_3, l0_4⟩ ≤ 2000 ∧ a1.size ≤ 120 then some (mat (fun i => bt a1 (i : Int)) a1.size ⟨a0_0, a0_1, a0_2, a0_3, l0_4⟩ a2.toNat a3.toNat, 0) else none)) else some (false, c)
set_option maxHeartbeats 16000000 in
set_option maxRecDepth 100000 in
theorem spec_Matches.calls (k : Nat) (a0_0 : Int) (a0_1 : Int) (a0_2 : Int) (a0_3 : ByteArray) (A0_4 : Option Addr) (c0_4 : Nat) (l0_4 : List (S31)) (a1 : ByteArray) (a2 : Int) (a3 : Int) (r1 : Bool) (r2 : Int) (w : World) (hr0_4 : Kd.C k31 w A0_4 l0_4.length l0_4) (hc0_4 : l0_4.length ≤ c0_4) (h : spec_Matches.f k a0_0 a0_1 a0_2 a0_3 l0_4 a1 a2 a3 = some (r1, r2)) :
  Calls Try.prog 20 #[.agg #[.int .i64 a0_0, .int .i64 a0_1, .int .i64 a0_2, .string a0_3, .slice A0_4 l0_4.length c0_4], .string a1, .int .i64 a2, .int .i64 a3] w fun e w' => e = .returned (.tuple #[.bool r1, .int .i64 r2]) ∧ Below w.heap.size w w' := by
 have hu3 := Try.underlying31
 have HR := Aside0.mk hr0_4
 have HC := Aside0.mk hc0_4
 have HB := Aside0.mk (Below.refl w.heap.size w)
 clear hr0_4 hc0_4
 unfold spec_Matches.f at h
 obtain ⟨c, e1, h⟩ := Option.bind_eq_some_iff.1 h
 have E1 := Aside0.mk e1
 clear e1
 by_cases c0 : c = 0
 ·
  rw [if_pos c0] at h
  subst c0
  by_cases d0 : a2 < 0
  ·
   rw [if_pos d0] at h
   have db0 : decide (a2 < 0) = true := decide_eq_true d0
   clear d0
   simp only [Option.some.injEq, Prod.mk.injEq] at h
   obtain ⟨rfl, rfl⟩ := h
   go_enter Try.func20, Try.ntmps20
   go_wp2_with (first | ((with_reducible refine gate_dst (N := 4) rfl ?_); refine bx_ (N := 4) (cs := #[.int .i64 a0_0, .int .i64 a0_1, .int .i64 a0_2, .string a0_3, .slice A0_4 l0_4.length c0_4]) (t := 31) rfl rfl ?hr_1 ?_; (case hr_1 => first | (go_simp; done) | (go_simp; rfl)); intro gX1 hg w2 hb hk PX1 hPX1 HX1; have GEX1 := Aside0.mk (gen_ hg HB.out); replace HB := Aside0.mk (below_step HB.out hb); clear hb hk hg hPX1; replace jX1 := HX1.out.c5) | ((with_reducible refine gate_callee (f := 23) rfl ?_); refine goesL_ (some 15) rfl rfl Try.func23 (by kernel_rfl) rfl #[.agg #[.int .i64 a0_0, .int .i64 a0_1, .int .i64 a0_2, .string a0_3, .slice A0_4 l0_4.length c0_4], .string a1] rfl tA ?_; (with_reducible refine (spec_l06Code.calls k a0_0 a0_1 a0_2 a0_3 _ _ l0_4 a1 0 _ (Kd.C_below HR.out HB.out) HC.out E1.out).mono ?_); rintro e w2 ⟨rfl, hb⟩; refine ⟨_, rfl, ?_⟩; have hk := kept_below hb; replace HX1 := sn hk HX1; replace HB := Aside0.mk (below_step HB.out hb); clear hb hk; replace jX1 := HX1.out.c5))
   go_ret2
   exact ⟨rfl, HB.out⟩
  rw [if_neg d0] at h
  have db0 : decide (a2 < 0) = false := decide_eq_false d0
  by_cases d1 : a3 < a2
  ·
   rw [if_pos d1] at h
   have db1 : decide (a3 < a2) = true := decide_eq_true d1
   clear d1
   simp only [Option.some.injEq, Prod.mk.injEq] at h
   obtain ⟨rfl, rfl⟩ := h
   go_enter Try.func20, Try.ntmps20
   go_wp2_with (first | ((with_reducible refine gate_dst (N := 4) rfl ?_); refine bx_ (N := 4) (cs := #[.int .i64 a0_0, .int .i64 a0_1, .int .i64 a0_2, .string a0_3, .slice A0_4 l0_4.length c0_4]) (t := 31) rfl rfl ?hr_2 ?_; (case hr_2 => first | (go_simp; done) | (go_simp; rfl)); intro gX2 hg w2 hb hk PX2 hPX2 HX2; have GEX2 := Aside0.mk (gen_ hg HB.out); replace HB := Aside0.mk (below_step HB.out hb); clear hb hk hg hPX2; replace jX2 := HX2.out.c5) | ((with_reducible refine gate_callee (f := 23) rfl ?_); refine goesL_ (some 15) rfl rfl Try.func23 (by kernel_rfl) rfl #[.agg #[.int .i64 a0_0, .int .i64 a0_1, .int .i64 a0_2, .string a0_3, .slice A0_4 l0_4.length c0_4], .string a1] rfl tA ?_; (with_reducible refine (spec_l06Code.calls k a0_0 a0_1 a0_2 a0_3 _ _ l0_4 a1 0 _ (Kd.C_below HR.out HB.out) HC.out E1.out).mono ?_); rintro e w2 ⟨rfl, hb⟩; refine ⟨_, rfl, ?_⟩; have hk := kept_below hb; replace HX2 := sn hk HX2; replace HB := Aside0.mk (below_step HB.out hb); clear hb hk; replace jX2 := HX2.out.c5))
   go_ret2
   exact ⟨rfl, HB.out⟩
  rw [if_neg d1] at h
  have db1 : decide (a3 < a2) = false := decide_eq_false d1
  by_cases d2 : (a1.size : Int) < a3
  ·
   rw [if_pos d2] at h
   have db2 : decide ((a1.size : Int) < a3) = true := decide_eq_true d2
   clear d2
   simp only [Option.some.injEq, Prod.mk.injEq] at h
   obtain ⟨rfl, rfl⟩ := h
   go_enter Try.func20, Try.ntmps20
   go_wp2_with (first | ((with_reducible refine gate_dst (N := 4) rfl ?_); refine bx_ (N := 4) (cs := #[.int .i64 a0_0, .int .i64 a0_1, .int .i64 a0_2, .string a0_3, .slice A0_4 l0_4.length c0_4]) (t := 31) rfl rfl ?hr_3 ?_; (case hr_3 => first | (go_simp; done) | (go_simp; rfl)); intro gX3 hg w2 hb hk PX3 hPX3 HX3; have GEX3 := Aside0.mk (gen_ hg HB.out); replace HB := Aside0.mk (below_step HB.out hb); clear hb hk hg hPX3; replace jX3 := HX3.out.c5) | ((with_reducible refine gate_callee (f := 23) rfl ?_); refine goesL_ (some 15) rfl rfl Try.func23 (by kernel_rfl) rfl #[.agg #[.int .i64 a0_0, .int .i64 a0_1, .int .i64 a0_2, .string a0_3, .slice A0_4 l0_4.length c0_4], .string a1] rfl tA ?_; (with_reducible refine (spec_l06Code.calls k a0_0 a0_1 a0_2 a0_3 _ _ l0_4 a1 0 _ (Kd.C_below HR.out HB.out) HC.out E1.out).mono ?_); rintro e w2 ⟨rfl, hb⟩; refine ⟨_, rfl, ?_⟩; have hk := kept_below hb; replace HX3 := sn hk HX3; replace HB := Aside0.mk (below_step HB.out hb); clear hb hk; replace jX3 := HX3.out.c5))
   go_ret2
   exact ⟨rfl, HB.out⟩
  rw [if_neg d2] at h
  have db2 : decide ((a1.size : Int) < a3) = false := decide_eq_false d2
  by_cases g : okB (⟨a0_0, a0_1, a0_2, a0_3, l0_4⟩ : S31) = true ∧ cnt (⟨a0_0, a0_1, a0_2, a0_3, l0_4⟩ : S31) ≤ 2000 ∧ a1.size ≤ 120
  ·
   rw [if_pos g] at h
   simp only [Option.some.injEq, Prod.mk.injEq] at h
   obtain ⟨rfl, rfl⟩ := h
   obtain ⟨i, rfl⟩ := Int.eq_ofNat_of_zero_le (show 0 ≤ a2 by omega)
   obtain ⟨j, rfl⟩ := Int.eq_ofNat_of_zero_le (show 0 ≤ a3 by omega)
   have hij : i ≤ j := by omega
   have hj : j ≤ a1.size := by omega
   have HIJ := Aside0.mk (show i ≤ j ∧ j ≤ a1.size from ⟨hij, hj⟩)
   have dn1 : decide (j < i) = false := decide_eq_false (by omega)
   have dn2 : decide (a1.size < j) = false := decide_eq_false (by omega)
   rw [Int.toNat_natCast, Int.toNat_natCast]
   obtain ⟨hok, hcn, hsz⟩ := g
   obtain ⟨hrw, hrt⟩ := (okB_W _).1 (⟨a0_0, a0_1, a0_2, a0_3, l0_4⟩ : S31) (Nat.le_refl _) hok
   have HM := Aside0.mk (fun (ws : World) hb => spec_Machine1 w ws (⟨a0_0, a0_1, a0_2, a0_3, l0_4⟩ : S31) a1 A0_4 c0_4 hb HR.out HC.out hrw hcn hrt hsz)
   try dsimp only at HM
   obtain ⟨vr, hvr⟩ : ∃ v_, v_ = mat (fun i => bt a1 (i : Int)) a1.size (⟨a0_0, a0_1, a0_2, a0_3, l0_4⟩ : S31) i j := ⟨_, rfl⟩
   rw [← hvr]
   have HVR := Aside0.mk hvr
   clear hvr d0 d1 d2 hij hj hok hcn hsz hrw hrt
   go_enter Try.func20, Try.ntmps20
   go_wp2_with (first | ((with_reducible refine gate_dst (N := 4) rfl ?_); refine bx_ (N := 4) (cs := #[.int .i64 a0_0, .int .i64 a0_1, .int .i64 a0_2, .string a0_3, .slice A0_4 l0_4.length c0_4]) (t := 31) rfl rfl ?hr_4 ?_; (case hr_4 => first | (go_simp; done) | (go_simp; rfl)); intro gX4 hg w2 hb hk PX4 hPX4 HX4; have GEX4 := Aside0.mk (gen_ hg HB.out); replace HB := Aside0.mk (below_step HB.out hb); clear hb hk hg hPX4; replace jX4 := HX4.out.c5) | ((with_reducible refine gate_callee (f := 23) rfl ?_); refine goesL_ (some 15) rfl rfl Try.func23 (by kernel_rfl) rfl #[.agg #[.int .i64 a0_0, .int .i64 a0_1, .int .i64 a0_2, .string a0_3, .slice A0_4 l0_4.length c0_4], .string a1] rfl tA ?_; (with_reducible refine (spec_l06Code.calls k a0_0 a0_1 a0_2 a0_3 _ _ l0_4 a1 0 _ (Kd.C_below HR.out HB.out) HC.out E1.out).mono ?_); rintro e w2 ⟨rfl, hb⟩; refine ⟨_, rfl, ?_⟩; have hk := kept_below hb; replace HX4 := sn hk HX4; replace HB := Aside0.mk (below_step HB.out hb); clear hb hk; replace jX4 := HX4.out.c5) | ((with_reducible refine gate_callee (f := 36) rfl ?_); refine gl_ (some 35) rfl rfl Try.func36 #[.agg #[.int .i64 a0_0, .int .i64 a0_1, .int .i64 a0_2, .string a0_3, .slice A0_4 l0_4.length c0_4], .string a1] rfl rfl ?_; (with_reducible refine (HM.out _ HB.out).mono ?_); rintro e w2 ⟨E, rfl, hok_, hT_, hns_, hst_, ⟨kn, hAt_, hRB_⟩, _, _, _, hkk_⟩; refine ⟨_, rfl, ?_⟩; have HX := Aside0.mk (spec_any E w hok_ _ _ _ _ _ kn w2 (Nat.lt_succ_self _) (Nat.lt_succ_self _) hst_.1 HIJ.out.1 (by rw [hT_]; exact HIJ.out.2) hAt_ (by rw [hT_]; exact hRB_ _)); have HDN := Aside0.mk (hst_.2.1 i j HIJ.out.1); replace HB := Aside0.mk hAt_.1; clear HX4) | ((with_reducible refine gate_dst (N := 42) rfl ?_); refine gl_ (some 42) rfl rfl Try.func37 #[.pointer (some ⟨E.gG, 0, none⟩), .int .i64 ((mk (⟨a0_0, a0_1, a0_2, a0_3, l0_4⟩ : S31) []).2 : Int), .int .i64 (i : Int), .int .i64 (j : Int)] rfl rfl ?_; (with_reducible refine HX.out.mono ?_); rintro e w2 ⟨kn2, rfl, _, hAt2_, _⟩; refine ⟨_, rfl, ?_⟩; replace HB := Aside0.mk hAt2_.1))
   go_ret2
   first | exact ⟨rfl, HB.out⟩ | exact ⟨by rw [HDN.out, ← HVR.out]; rfl, HB.out⟩
  rw [if_neg g] at h
  exact absurd h (by simp)
 rw [if_neg c0] at h
 have cb : (c == 0) = false := beq_eq_false_iff_ne.mpr c0
 have cb2 : (c != 0) = true := bne_iff_ne.mpr c0
 clear c0
 simp only [Option.some.injEq, Prod.mk.injEq] at h
 obtain ⟨rfl, rfl⟩ := h
 go_enter Try.func20, Try.ntmps20
 go_wp2_with (first | ((with_reducible refine gate_dst (N := 4) rfl ?_); refine bx_ (N := 4) (cs := #[.int .i64 a0_0, .int .i64 a0_1, .int .i64 a0_2, .string a0_3, .slice A0_4 l0_4.length c0_4]) (t := 31) rfl rfl ?hr_5 ?_; (case hr_5 => first | (go_simp; done) | (go_simp; rfl)); intro gX5 hg w2 hb hk PX5 hPX5 HX5; have GEX5 := Aside0.mk (gen_ hg HB.out); replace HB := Aside0.mk (below_step HB.out hb); clear hb hk hg hPX5; replace jX5 := HX5.out.c5) | ((with_reducible refine gate_callee (f := 23) rfl ?_); refine goesL_ (some 15) rfl rfl Try.func23 (by kernel_rfl) rfl #[.agg #[.int .i64 a0_0, .int .i64 a0_1, .int .i64 a0_2, .string a0_3, .slice A0_4 l0_4.length c0_4], .string a1] rfl tA ?_; (with_reducible refine (spec_l06Code.calls k a0_0 a0_1 a0_2 a0_3 _ _ l0_4 a1 c _ (Kd.C_below HR.out HB.out) HC.out E1.out).mono ?_); rintro e w2 ⟨rfl, hb⟩; refine ⟨_, rfl, ?_⟩; have hk := kept_below hb; replace HX5 := sn hk HX5; replace HB := Aside0.mk (below_step HB.out hb); clear hb hk; replace jX5 := HX5.out.c5))
 go_ret2
 exact ⟨rfl, HB.out⟩
def impl_Matches.f (k : Nat) (a0_0 : Int) (a0_1 : Int) (a0_2 : Int) (a0_3 : ByteArray) (l0_4 : List (S31)) (a1 : ByteArray) (a2 : Int) (a3 : Int) : Option (Bool × Int) :=
 (impl_matchCode.f k a0_0 a0_1 a0_2 a0_3 l0_4 a1).bind fun c => (impl_within.f a3 0 (a1.size : Int)).bind fun b1 => (if b1 = true then impl_within.f a2 0 a3 else some false).bind fun b2 => (impl_unless.f b2 5).bind fun u => (impl_first.f k ([c, u] : List Int)).bind fun c2 => if c2 = 0 then (if (0 ≤ a2 ∧ a2 ≤ a3 ∧ a3 ≤ (a1.size : Int)) ∧ okB ⟨a0_0, a0_1, a0_2, a0_3, l0_4⟩ = true ∧ cnt ⟨a0_0, a0_1, a0_2, a0_3, l0_4⟩ ≤ 2000 ∧ a1.size ≤ 120 then some (mat (fun i => bt a1 (i : Int)) a1.size ⟨a0_0, a0_1, a0_2, a0_3, l0_4⟩ a2.toNat a3.toNat, 0) else none) else some (false, c2)
set_option maxHeartbeats 16000000 in
set_option maxRecDepth 100000 in
theorem impl_Matches.calls (k : Nat) (a0_0 : Int) (a0_1 : Int) (a0_2 : Int) (a0_3 : ByteArray) (A0_4 : Option Addr) (c0_4 : Nat) (l0_4 : List (S31)) (a1 : ByteArray) (a2 : Int) (a3 : Int) (r1 : Bool) (r2 : Int) (w : World) (hr0_4 : Kd.C k31 w A0_4 l0_4.length l0_4) (hc0_4 : l0_4.length ≤ c0_4) (h : impl_Matches.f k a0_0 a0_1 a0_2 a0_3 l0_4 a1 a2 a3 = some (r1, r2)) :
  Calls Try.prog 21 #[.agg #[.int .i64 a0_0, .int .i64 a0_1, .int .i64 a0_2, .string a0_3, .slice A0_4 l0_4.length c0_4], .string a1, .int .i64 a2, .int .i64 a3] w fun e w' => e = .returned (.tuple #[.bool r1, .int .i64 r2]) ∧ Below w.heap.size w w' := by
 have hu3 := Try.underlying31
 have HR := Aside0.mk hr0_4
 have HC := Aside0.mk hc0_4
 have HB := Aside0.mk (Below.refl w.heap.size w)
 clear hr0_4 hc0_4
 unfold impl_Matches.f at h
 obtain ⟨c, e1, h_1⟩ := Option.bind_eq_some_iff.1 h
 obtain ⟨b1, e2, h_2⟩ := Option.bind_eq_some_iff.1 h_1
 obtain ⟨b2, e3, h_3⟩ := Option.bind_eq_some_iff.1 h_2
 obtain ⟨u, e4, h_4⟩ := Option.bind_eq_some_iff.1 h_3
 obtain ⟨c2, e5, h_5⟩ := Option.bind_eq_some_iff.1 h_4
 clear h h_1 h_2 h_3 h_4
 have h := h_5
 clear h_5
 obtain ⟨y1, hy1⟩ : ∃ y_ : List Int, y_ = [c, u] := ⟨_, rfl⟩
 rw [← hy1] at e5
 have Ny1 := Aside0.mk hy1
 clear hy1
 have E1 := Aside0.mk e1
 have E2 := Aside0.mk e2
 have E4 := Aside0.mk e4
 have E5 := Aside0.mk e5
 clear e1 e2 e4 e5
 have hb1 : (impl_within.f a3 0 (a1.size : Int)) = some b1 := E2.out
 rcases b1 with _ | _
 ·
  clear hb1
  simp only [Bool.false_eq_true, if_false, Option.some.injEq] at e3
  subst e3
  by_cases c0 : c2 = 0
  ·
   rw [if_pos c0] at h
   subst c0
   by_cases g : (0 ≤ a2 ∧ a2 ≤ a3 ∧ a3 ≤ (a1.size : Int)) ∧ okB (⟨a0_0, a0_1, a0_2, a0_3, l0_4⟩ : S31) = true ∧ cnt (⟨a0_0, a0_1, a0_2, a0_3, l0_4⟩ : S31) ≤ 2000 ∧ a1.size ≤ 120
   ·
    rw [if_pos g] at h
    simp only [Option.some.injEq, Prod.mk.injEq] at h
    obtain ⟨rfl, rfl⟩ := h
    obtain ⟨⟨g1, g2, g3⟩, hok, hcn, hsz⟩ := g
    obtain ⟨i, rfl⟩ := Int.eq_ofNat_of_zero_le g1
    obtain ⟨j, rfl⟩ := Int.eq_ofNat_of_zero_le (show 0 ≤ a3 by omega)
    have HIJ := Aside0.mk (show i ≤ j ∧ j ≤ a1.size from ⟨by omega, by omega⟩)
    rw [Int.toNat_natCast, Int.toNat_natCast]
    obtain ⟨hrw, hrt⟩ := (okB_W _).1 (⟨a0_0, a0_1, a0_2, a0_3, l0_4⟩ : S31) (Nat.le_refl _) hok
    have HM := Aside0.mk (fun (ws : World) hb => impl_new w ws (⟨a0_0, a0_1, a0_2, a0_3, l0_4⟩ : S31) a1 A0_4 c0_4 hb HR.out HC.out hrw hcn hrt hsz)
    try dsimp only at HM
    obtain ⟨vr, hvr⟩ : ∃ v_, v_ = mat (fun i => bt a1 (i : Int)) a1.size (⟨a0_0, a0_1, a0_2, a0_3, l0_4⟩ : S31) i j := ⟨_, rfl⟩
    rw [← hvr]
    have HVR := Aside0.mk hvr
    clear hvr g1 g2 g3 hok hcn hsz hrw hrt
    go_enter Try.func21, Try.ntmps21
    go_wp2_with (first | ((with_reducible refine gate_dst (N := 4) rfl ?_); refine bx_ (N := 4) (cs := #[.int .i64 a0_0, .int .i64 a0_1, .int .i64 a0_2, .string a0_3, .slice A0_4 l0_4.length c0_4]) (t := 31) rfl rfl ?hr_6 ?_; (case hr_6 => first | (go_simp; done) | (go_simp; rfl)); intro gX6 hg w2 hb hk PX6 hPX6 HX6; have GEX6 := Aside0.mk (gen_ hg HB.out); replace HB := Aside0.mk (below_step HB.out hb); clear hb hk hg hPX6; replace jX6 := HX6.out.c5) | ((with_reducible refine gate_callee (f := 27) rfl ?_); refine goesL_ (some 13) rfl rfl Try.func27 (by kernel_rfl) rfl #[.agg #[.int .i64 a0_0, .int .i64 a0_1, .int .i64 a0_2, .string a0_3, .slice A0_4 l0_4.length c0_4], .string a1] rfl tA ?_; (with_reducible refine (impl_matchCode.calls k a0_0 a0_1 a0_2 a0_3 _ _ l0_4 a1 c _ (Kd.C_below HR.out HB.out) HC.out E1.out).mono ?_); rintro e w2 ⟨rfl, hb⟩; refine ⟨_, rfl, ?_⟩; have hk := kept_below hb; replace HX6 := sn hk HX6; replace HB := Aside0.mk (below_step HB.out hb); clear hb hk; replace jX6 := HX6.out.c5) | ((with_reducible refine gate_callee (f := 29) rfl ?_); refine goesL_ (some 17) rfl rfl Try.func29 (by kernel_rfl) rfl #[.int .i64 (j : Int), .int .i64 0, .int .i64 (a1.size : Int)] rfl tA ?_; (with_reducible refine (impl_within.calls (j : Int) 0 (a1.size : Int) false _ E2.out).mono ?_); rintro e w2 ⟨rfl, hq⟩; refine ⟨_, rfl, ?_⟩; have hk := kept_drawn hq; replace HX6 := sn hk HX6; replace HB := Aside0.mk (below_drawn HB.out hq); clear hk hq; replace jX6 := HX6.out.c5) | ((with_reducible refine gate_callee (f := 28) rfl ?_); refine goesL_ (some 23) rfl rfl Try.func28 (by kernel_rfl) rfl #[.bool false, .int .i64 5] rfl tA ?_; (with_reducible refine (impl_unless.calls false 5 u _ E4.out).mono ?_); rintro e w2 ⟨rfl, hq⟩; refine ⟨_, rfl, ?_⟩; have hk := kept_drawn hq; replace HX6 := sn hk HX6; replace HB := Aside0.mk (below_drawn HB.out hq); clear hk hq; replace jX6 := HX6.out.c5) | ((with_reducible refine gate_dst (N := 24) rfl ?_); refine Kd.R_lit (Kd.int .i64) _ 3 ?hg_7 (N := 24) ?hd_7 (xs := [c, u]) (inner := [.int .i64 c, .int .i64 u]) (ok := fun _ => True) (okp := fun _ => True) ?hr_7 ?hp_7 (fun _ hk => hk) trivial (Below.refl _ _) (Nat.le_refl _) (by simp) ?_; (case hd_7 => rfl); (case hg_7 => rfl); (case hr_7 => first | (go_simp; done) | (go_simp; rfl)); (case hp_7 => exact (Reps.one (show Kd.M (Kd.int .i64) _ _ _ c [.int .i64 c] from rfl) (Reps.one (show Kd.M (Kd.int .i64) _ _ _ u [.int .i64 u] from rfl) (Reps.none _ _)))); intro vF7 w2 hrF7 hb hg_ hnew_; clear hg_ hnew_; rw [← Ny1.out] at hrF7; have hk := kept_below hb; obtain ⟨PF7, hPF7, HLF7⟩ := LR.fresh rfl HB.out hrF7; have HF7 := Aside0.mk HLF7; clear HLF7 hrF7; have D_X6_F7 := na hPF7 HX6; replace HX6 := sn hk HX6; clear hPF7; obtain ⟨BF7, DF7, e_F7⟩ := HF7.out.val; subst e_F7; replace HB := Aside0.mk (below_step HB.out hb); clear hb hk; replace jX6 := HX6.out.c5) | ((with_reducible refine gate_callee (f := 26) rfl ?_); refine goesL_ (some 25) rfl rfl Try.func26 (by kernel_rfl) rfl #[.slice BF7 y1.length DF7] rfl tA ?_; (with_reducible refine (impl_first.calls k _ _ y1 0 _ HF7.out.reads HF7.out.room E5.out).mono ?_); rintro e w2 ⟨rfl, hq⟩; refine ⟨_, rfl, ?_⟩; have hk := kept_drawn hq; replace HX6 := sn hk HX6; replace HF7 := Aside0.mk (HF7.out.step hk no_S); replace HB := Aside0.mk (below_drawn HB.out hq); clear hk hq; replace jX6 := HX6.out.c5) | ((with_reducible refine gate_callee (f := 30) rfl ?_); refine gl_ (some 31) rfl rfl Try.func30 #[.agg #[.int .i64 a0_0, .int .i64 a0_1, .int .i64 a0_2, .string a0_3, .slice A0_4 l0_4.length c0_4], .string a1] rfl rfl ?_; (with_reducible refine (HM.out _ HB.out).mono ?_); rintro e w2 ⟨E, rfl, hok_, hT_, hns_, ⟨PE_, hAt_⟩, hkk_⟩; refine ⟨_, rfl, ?_⟩; obtain ⟨ks_, hz_⟩ := ad_zero (⟨a0_0, a0_1, a0_2, a0_3, l0_4⟩ : S31); have HX := Aside0.mk (impl_from E w _ hok_ _ (⟨a0_0, a0_1, a0_2, a0_3, l0_4⟩ : S31) (Nat.le_refl _) 0 ks_ i w2 PE_ (by rw [hns_]; exact hz_) (by rw [hT_]; exact Nat.le_trans HIJ.out.1 HIJ.out.2) hAt_); replace HB := Aside0.mk hAt_.1; have HOK := Aside0.mk hok_; have HTT := Aside0.mk hT_; clear HX6) | ((with_reducible refine gate_dst (N := 33) rfl ?_); refine gl_ (some 33) rfl rfl Try.func38 #[.pointer (some ⟨E.gG, 0, none⟩), .int .i64 ((0 : Nat) : Int), .int .i64 (i : Int)] rfl rfl ?_; (with_reducible refine HX.out.mono ?_); rintro e w2 ⟨PE2, A2, c2_, rfl, hAt2_, hl2_, hF2_, _, _, _⟩; refine ⟨_, rfl, ?_⟩; have HLL := Aside0.mk (show j < E.L by have h1 := HOK.out.2.1; have h2 := HIJ.out; rw [HTT.out] at h1; omega); obtain ⟨ad_, eA_, hc_⟩ := im_atN (imLN (base := 0) (rowOf_len' HOK.out.2.1 _) hl2_ hF2_ (fun k h => hAt2_.2.2.2.1.lt k h.1)) j HLL.out; subst eA_; rw [rowOf_getD _ _ _ (by rw [HTT.out]; exact HIJ.out.2), HTT.out] at hc_; have hc2_ := (show _ = some (Value.bool vr) from hc_.trans (by rw [HVR.out])); replace HB := Aside0.mk hAt2_.1; have z1_ := eq_true (show (0 : Int) ≤ (j : Int) from Int.natCast_nonneg _); have z2_ := eq_true (show (j : Int) < (E.L : Int) from Int.ofNat_lt.2 HLL.out); have z3_ := eq_true HLL.out; clear hc_ hAt2_ hl2_ hF2_))
    go_ret2
    exact ⟨rfl, HB.out⟩
   rw [if_neg g] at h
   exact absurd h (by simp)
  rw [if_neg c0] at h
  have cb : (c2 == 0) = false := beq_eq_false_iff_ne.mpr c0
  have cb2 : (c2 != 0) = true := bne_iff_ne.mpr c0
  clear c0
  simp only [Option.some.injEq, Prod.mk.injEq] at h
  obtain ⟨rfl, rfl⟩ := h
  go_enter Try.func21, Try.ntmps21
  go_wp2_with (first | ((with_reducible refine gate_dst (N := 4) rfl ?_); refine bx_ (N := 4) (cs := #[.int .i64 a0_0, .int .i64 a0_1, .int .i64 a0_2, .string a0_3, .slice A0_4 l0_4.length c0_4]) (t := 31) rfl rfl ?hr_8 ?_; (case hr_8 => first | (go_simp; done) | (go_simp; rfl)); intro gX8 hg w2 hb hk PX8 hPX8 HX8; have GEX8 := Aside0.mk (gen_ hg HB.out); replace HB := Aside0.mk (below_step HB.out hb); clear hb hk hg hPX8; replace jX8 := HX8.out.c5) | ((with_reducible refine gate_callee (f := 27) rfl ?_); refine goesL_ (some 13) rfl rfl Try.func27 (by kernel_rfl) rfl #[.agg #[.int .i64 a0_0, .int .i64 a0_1, .int .i64 a0_2, .string a0_3, .slice A0_4 l0_4.length c0_4], .string a1] rfl tA ?_; (with_reducible refine (impl_matchCode.calls k a0_0 a0_1 a0_2 a0_3 _ _ l0_4 a1 c _ (Kd.C_below HR.out HB.out) HC.out E1.out).mono ?_); rintro e w2 ⟨rfl, hb⟩; refine ⟨_, rfl, ?_⟩; have hk := kept_below hb; replace HX8 := sn hk HX8; replace HB := Aside0.mk (below_step HB.out hb); clear hb hk; replace jX8 := HX8.out.c5) | ((with_reducible refine gate_callee (f := 29) rfl ?_); refine goesL_ (some 17) rfl rfl Try.func29 (by kernel_rfl) rfl #[.int .i64 a3, .int .i64 0, .int .i64 (a1.size : Int)] rfl tA ?_; (with_reducible refine (impl_within.calls a3 0 (a1.size : Int) false _ E2.out).mono ?_); rintro e w2 ⟨rfl, hq⟩; refine ⟨_, rfl, ?_⟩; have hk := kept_drawn hq; replace HX8 := sn hk HX8; replace HB := Aside0.mk (below_drawn HB.out hq); clear hk hq; replace jX8 := HX8.out.c5) | ((with_reducible refine gate_callee (f := 28) rfl ?_); refine goesL_ (some 23) rfl rfl Try.func28 (by kernel_rfl) rfl #[.bool false, .int .i64 5] rfl tA ?_; (with_reducible refine (impl_unless.calls false 5 u _ E4.out).mono ?_); rintro e w2 ⟨rfl, hq⟩; refine ⟨_, rfl, ?_⟩; have hk := kept_drawn hq; replace HX8 := sn hk HX8; replace HB := Aside0.mk (below_drawn HB.out hq); clear hk hq; replace jX8 := HX8.out.c5) | ((with_reducible refine gate_dst (N := 24) rfl ?_); refine Kd.R_lit (Kd.int .i64) _ 3 ?hg_9 (N := 24) ?hd_9 (xs := [c, u]) (inner := [.int .i64 c, .int .i64 u]) (ok := fun _ => True) (okp := fun _ => True) ?hr_9 ?hp_9 (fun _ hk => hk) trivial (Below.refl _ _) (Nat.le_refl _) (by simp) ?_; (case hd_9 => rfl); (case hg_9 => rfl); (case hr_9 => first | (go_simp; done) | (go_simp; rfl)); (case hp_9 => exact (Reps.one (show Kd.M (Kd.int .i64) _ _ _ c [.int .i64 c] from rfl) (Reps.one (show Kd.M (Kd.int .i64) _ _ _ u [.int .i64 u] from rfl) (Reps.none _ _)))); intro vF9 w2 hrF9 hb hg_ hnew_; clear hg_ hnew_; rw [← Ny1.out] at hrF9; have hk := kept_below hb; obtain ⟨PF9, hPF9, HLF9⟩ := LR.fresh rfl HB.out hrF9; have HF9 := Aside0.mk HLF9; clear HLF9 hrF9; have D_X8_F9 := na hPF9 HX8; replace HX8 := sn hk HX8; clear hPF9; obtain ⟨BF9, DF9, e_F9⟩ := HF9.out.val; subst e_F9; replace HB := Aside0.mk (below_step HB.out hb); clear hb hk; replace jX8 := HX8.out.c5) | ((with_reducible refine gate_callee (f := 26) rfl ?_); refine goesL_ (some 25) rfl rfl Try.func26 (by kernel_rfl) rfl #[.slice BF9 y1.length DF9] rfl tA ?_; (with_reducible refine (impl_first.calls k _ _ y1 c2 _ HF9.out.reads HF9.out.room E5.out).mono ?_); rintro e w2 ⟨rfl, hq⟩; refine ⟨_, rfl, ?_⟩; have hk := kept_drawn hq; replace HX8 := sn hk HX8; replace HF9 := Aside0.mk (HF9.out.step hk no_S); replace HB := Aside0.mk (below_drawn HB.out hq); clear hk hq; replace jX8 := HX8.out.c5))
  go_ret2
  exact ⟨rfl, HB.out⟩
 clear hb1
 simp only [if_true] at e3
 have E3 := Aside0.mk e3
 clear e3
 rcases b2 with _ | _
 ·
  by_cases c0 : c2 = 0
  ·
   rw [if_pos c0] at h
   subst c0
   by_cases g : (0 ≤ a2 ∧ a2 ≤ a3 ∧ a3 ≤ (a1.size : Int)) ∧ okB (⟨a0_0, a0_1, a0_2, a0_3, l0_4⟩ : S31) = true ∧ cnt (⟨a0_0, a0_1, a0_2, a0_3, l0_4⟩ : S31) ≤ 2000 ∧ a1.size ≤ 120
   ·
    rw [if_pos g] at h
    simp only [Option.some.injEq, Prod.mk.injEq] at h
    obtain ⟨rfl, rfl⟩ := h
    obtain ⟨⟨g1, g2, g3⟩, hok, hcn, hsz⟩ := g
    obtain ⟨i, rfl⟩ := Int.eq_ofNat_of_zero_le g1
    obtain ⟨j, rfl⟩ := Int.eq_ofNat_of_zero_le (show 0 ≤ a3 by omega)
    have HIJ := Aside0.mk (show i ≤ j ∧ j ≤ a1.size from ⟨by omega, by omega⟩)
    rw [Int.toNat_natCast, Int.toNat_natCast]
    obtain ⟨hrw, hrt⟩ := (okB_W _).1 (⟨a0_0, a0_1, a0_2, a0_3, l0_4⟩ : S31) (Nat.le_refl _) hok
    have HM := Aside0.mk (fun (ws : World) hb => impl_new w ws (⟨a0_0, a0_1, a0_2, a0_3, l0_4⟩ : S31) a1 A0_4 c0_4 hb HR.out HC.out hrw hcn hrt hsz)
    try dsimp only at HM
    obtain ⟨vr, hvr⟩ : ∃ v_, v_ = mat (fun i => bt a1 (i : Int)) a1.size (⟨a0_0, a0_1, a0_2, a0_3, l0_4⟩ : S31) i j := ⟨_, rfl⟩
    rw [← hvr]
    have HVR := Aside0.mk hvr
    clear hvr g1 g2 g3 hok hcn hsz hrw hrt
    go_enter Try.func21, Try.ntmps21
    go_wp2_with (first | ((with_reducible refine gate_dst (N := 4) rfl ?_); refine bx_ (N := 4) (cs := #[.int .i64 a0_0, .int .i64 a0_1, .int .i64 a0_2, .string a0_3, .slice A0_4 l0_4.length c0_4]) (t := 31) rfl rfl ?hr_10 ?_; (case hr_10 => first | (go_simp; done) | (go_simp; rfl)); intro gX10 hg w2 hb hk PX10 hPX10 HX10; have GEX10 := Aside0.mk (gen_ hg HB.out); replace HB := Aside0.mk (below_step HB.out hb); clear hb hk hg hPX10; replace jX10 := HX10.out.c5) | ((with_reducible refine gate_callee (f := 27) rfl ?_); refine goesL_ (some 13) rfl rfl Try.func27 (by kernel_rfl) rfl #[.agg #[.int .i64 a0_0, .int .i64 a0_1, .int .i64 a0_2, .string a0_3, .slice A0_4 l0_4.length c0_4], .string a1] rfl tA ?_; (with_reducible refine (impl_matchCode.calls k a0_0 a0_1 a0_2 a0_3 _ _ l0_4 a1 c _ (Kd.C_below HR.out HB.out) HC.out E1.out).mono ?_); rintro e w2 ⟨rfl, hb⟩; refine ⟨_, rfl, ?_⟩; have hk := kept_below hb; replace HX10 := sn hk HX10; replace HB := Aside0.mk (below_step HB.out hb); clear hb hk; replace jX10 := HX10.out.c5) | ((with_reducible refine gate_callee (f := 29) rfl ?_); refine goesL_ (some 17) rfl rfl Try.func29 (by kernel_rfl) rfl #[.int .i64 (j : Int), .int .i64 0, .int .i64 (a1.size : Int)] rfl tA ?_; (with_reducible refine (impl_within.calls (j : Int) 0 (a1.size : Int) true _ E2.out).mono ?_); rintro e w2 ⟨rfl, hq⟩; refine ⟨_, rfl, ?_⟩; have hk := kept_drawn hq; replace HX10 := sn hk HX10; replace HB := Aside0.mk (below_drawn HB.out hq); clear hk hq; replace jX10 := HX10.out.c5) | ((with_reducible refine gate_dst (N := 21) rfl ?_); (refine gate_guard (by rfl) ?_; dsimp only); refine goesL_ (some 21) rfl rfl Try.func29 (by kernel_rfl) rfl #[.int .i64 (i : Int), .int .i64 0, .int .i64 (j : Int)] rfl tA ?_; (with_reducible refine (impl_within.calls (i : Int) 0 (j : Int) false _ E3.out).mono ?_); rintro e w2 ⟨rfl, hq⟩; refine ⟨_, rfl, ?_⟩; have hk := kept_drawn hq; replace HX10 := sn hk HX10; replace HB := Aside0.mk (below_drawn HB.out hq); clear hk hq; replace jX10 := HX10.out.c5) | ((with_reducible refine gate_callee (f := 28) rfl ?_); refine goesL_ (some 23) rfl rfl Try.func28 (by kernel_rfl) rfl #[.bool false, .int .i64 5] rfl tA ?_; (with_reducible refine (impl_unless.calls false 5 u _ E4.out).mono ?_); rintro e w2 ⟨rfl, hq⟩; refine ⟨_, rfl, ?_⟩; have hk := kept_drawn hq; replace HX10 := sn hk HX10; replace HB := Aside0.mk (below_drawn HB.out hq); clear hk hq; replace jX10 := HX10.out.c5) | ((with_reducible refine gate_dst (N := 24) rfl ?_); refine Kd.R_lit (Kd.int .i64) _ 3 ?hg_11 (N := 24) ?hd_11 (xs := [c, u]) (inner := [.int .i64 c, .int .i64 u]) (ok := fun _ => True) (okp := fun _ => True) ?hr_11 ?hp_11 (fun _ hk => hk) trivial (Below.refl _ _) (Nat.le_refl _) (by simp) ?_; (case hd_11 => rfl); (case hg_11 => rfl); (case hr_11 => first | (go_simp; done) | (go_simp; rfl)); (case hp_11 => exact (Reps.one (show Kd.M (Kd.int .i64) _ _ _ c [.int .i64 c] from rfl) (Reps.one (show Kd.M (Kd.int .i64) _ _ _ u [.int .i64 u] from rfl) (Reps.none _ _)))); intro vF11 w2 hrF11 hb hg_ hnew_; clear hg_ hnew_; rw [← Ny1.out] at hrF11; have hk := kept_below hb; obtain ⟨PF11, hPF11, HLF11⟩ := LR.fresh rfl HB.out hrF11; have HF11 := Aside0.mk HLF11; clear HLF11 hrF11; have D_X10_F11 := na hPF11 HX10; replace HX10 := sn hk HX10; clear hPF11; obtain ⟨BF11, DF11, e_F11⟩ := HF11.out.val; subst e_F11; replace HB := Aside0.mk (below_step HB.out hb); clear hb hk; replace jX10 := HX10.out.c5) | ((with_reducible refine gate_callee (f := 26) rfl ?_); refine goesL_ (some 25) rfl rfl Try.func26 (by kernel_rfl) rfl #[.slice BF11 y1.length DF11] rfl tA ?_; (with_reducible refine (impl_first.calls k _ _ y1 0 _ HF11.out.reads HF11.out.room E5.out).mono ?_); rintro e w2 ⟨rfl, hq⟩; refine ⟨_, rfl, ?_⟩; have hk := kept_drawn hq; replace HX10 := sn hk HX10; replace HF11 := Aside0.mk (HF11.out.step hk no_S); replace HB := Aside0.mk (below_drawn HB.out hq); clear hk hq; replace jX10 := HX10.out.c5) | ((with_reducible refine gate_callee (f := 30) rfl ?_); refine gl_ (some 31) rfl rfl Try.func30 #[.agg #[.int .i64 a0_0, .int .i64 a0_1, .int .i64 a0_2, .string a0_3, .slice A0_4 l0_4.length c0_4], .string a1] rfl rfl ?_; (with_reducible refine (HM.out _ HB.out).mono ?_); rintro e w2 ⟨E, rfl, hok_, hT_, hns_, ⟨PE_, hAt_⟩, hkk_⟩; refine ⟨_, rfl, ?_⟩; obtain ⟨ks_, hz_⟩ := ad_zero (⟨a0_0, a0_1, a0_2, a0_3, l0_4⟩ : S31); have HX := Aside0.mk (impl_from E w _ hok_ _ (⟨a0_0, a0_1, a0_2, a0_3, l0_4⟩ : S31) (Nat.le_refl _) 0 ks_ i w2 PE_ (by rw [hns_]; exact hz_) (by rw [hT_]; exact Nat.le_trans HIJ.out.1 HIJ.out.2) hAt_); replace HB := Aside0.mk hAt_.1; have HOK := Aside0.mk hok_; have HTT := Aside0.mk hT_; clear HX10) | ((with_reducible refine gate_dst (N := 33) rfl ?_); refine gl_ (some 33) rfl rfl Try.func38 #[.pointer (some ⟨E.gG, 0, none⟩), .int .i64 ((0 : Nat) : Int), .int .i64 (i : Int)] rfl rfl ?_; (with_reducible refine HX.out.mono ?_); rintro e w2 ⟨PE2, A2, c2_, rfl, hAt2_, hl2_, hF2_, _, _, _⟩; refine ⟨_, rfl, ?_⟩; have HLL := Aside0.mk (show j < E.L by have h1 := HOK.out.2.1; have h2 := HIJ.out; rw [HTT.out] at h1; omega); obtain ⟨ad_, eA_, hc_⟩ := im_atN (imLN (base := 0) (rowOf_len' HOK.out.2.1 _) hl2_ hF2_ (fun k h => hAt2_.2.2.2.1.lt k h.1)) j HLL.out; subst eA_; rw [rowOf_getD _ _ _ (by rw [HTT.out]; exact HIJ.out.2), HTT.out] at hc_; have hc2_ := (show _ = some (Value.bool vr) from hc_.trans (by rw [HVR.out])); replace HB := Aside0.mk hAt2_.1; have z1_ := eq_true (show (0 : Int) ≤ (j : Int) from Int.natCast_nonneg _); have z2_ := eq_true (show (j : Int) < (E.L : Int) from Int.ofNat_lt.2 HLL.out); have z3_ := eq_true HLL.out; clear hc_ hAt2_ hl2_ hF2_))
    go_ret2
    exact ⟨rfl, HB.out⟩
   rw [if_neg g] at h
   exact absurd h (by simp)
  rw [if_neg c0] at h
  have cb : (c2 == 0) = false := beq_eq_false_iff_ne.mpr c0
  have cb2 : (c2 != 0) = true := bne_iff_ne.mpr c0
  clear c0
  simp only [Option.some.injEq, Prod.mk.injEq] at h
  obtain ⟨rfl, rfl⟩ := h
  go_enter Try.func21, Try.ntmps21
  go_wp2_with (first | ((with_reducible refine gate_dst (N := 4) rfl ?_); refine bx_ (N := 4) (cs := #[.int .i64 a0_0, .int .i64 a0_1, .int .i64 a0_2, .string a0_3, .slice A0_4 l0_4.length c0_4]) (t := 31) rfl rfl ?hr_12 ?_; (case hr_12 => first | (go_simp; done) | (go_simp; rfl)); intro gX12 hg w2 hb hk PX12 hPX12 HX12; have GEX12 := Aside0.mk (gen_ hg HB.out); replace HB := Aside0.mk (below_step HB.out hb); clear hb hk hg hPX12; replace jX12 := HX12.out.c5) | ((with_reducible refine gate_callee (f := 27) rfl ?_); refine goesL_ (some 13) rfl rfl Try.func27 (by kernel_rfl) rfl #[.agg #[.int .i64 a0_0, .int .i64 a0_1, .int .i64 a0_2, .string a0_3, .slice A0_4 l0_4.length c0_4], .string a1] rfl tA ?_; (with_reducible refine (impl_matchCode.calls k a0_0 a0_1 a0_2 a0_3 _ _ l0_4 a1 c _ (Kd.C_below HR.out HB.out) HC.out E1.out).mono ?_); rintro e w2 ⟨rfl, hb⟩; refine ⟨_, rfl, ?_⟩; have hk := kept_below hb; replace HX12 := sn hk HX12; replace HB := Aside0.mk (below_step HB.out hb); clear hb hk; replace jX12 := HX12.out.c5) | ((with_reducible refine gate_callee (f := 29) rfl ?_); refine goesL_ (some 17) rfl rfl Try.func29 (by kernel_rfl) rfl #[.int .i64 a3, .int .i64 0, .int .i64 (a1.size : Int)] rfl tA ?_; (with_reducible refine (impl_within.calls a3 0 (a1.size : Int) true _ E2.out).mono ?_); rintro e w2 ⟨rfl, hq⟩; refine ⟨_, rfl, ?_⟩; have hk := kept_drawn hq; replace HX12 := sn hk HX12; replace HB := Aside0.mk (below_drawn HB.out hq); clear hk hq; replace jX12 := HX12.out.c5) | ((with_reducible refine gate_dst (N := 21) rfl ?_); (refine gate_guard (by rfl) ?_; dsimp only); refine goesL_ (some 21) rfl rfl Try.func29 (by kernel_rfl) rfl #[.int .i64 a2, .int .i64 0, .int .i64 a3] rfl tA ?_; (with_reducible refine (impl_within.calls a2 0 a3 false _ E3.out).mono ?_); rintro e w2 ⟨rfl, hq⟩; refine ⟨_, rfl, ?_⟩; have hk := kept_drawn hq; replace HX12 := sn hk HX12; replace HB := Aside0.mk (below_drawn HB.out hq); clear hk hq; replace jX12 := HX12.out.c5) | ((with_reducible refine gate_callee (f := 28) rfl ?_); refine goesL_ (some 23) rfl rfl Try.func28 (by kernel_rfl) rfl #[.bool false, .int .i64 5] rfl tA ?_; (with_reducible refine (impl_unless.calls false 5 u _ E4.out).mono ?_); rintro e w2 ⟨rfl, hq⟩; refine ⟨_, rfl, ?_⟩; have hk := kept_drawn hq; replace HX12 := sn hk HX12; replace HB := Aside0.mk (below_drawn HB.out hq); clear hk hq; replace jX12 := HX12.out.c5) | ((with_reducible refine gate_dst (N := 24) rfl ?_); refine Kd.R_lit (Kd.int .i64) _ 3 ?hg_13 (N := 24) ?hd_13 (xs := [c, u]) (inner := [.int .i64 c, .int .i64 u]) (ok := fun _ => True) (okp := fun _ => True) ?hr_13 ?hp_13 (fun _ hk => hk) trivial (Below.refl _ _) (Nat.le_refl _) (by simp) ?_; (case hd_13 => rfl); (case hg_13 => rfl); (case hr_13 => first | (go_simp; done) | (go_simp; rfl)); (case hp_13 => exact (Reps.one (show Kd.M (Kd.int .i64) _ _ _ c [.int .i64 c] from rfl) (Reps.one (show Kd.M (Kd.int .i64) _ _ _ u [.int .i64 u] from rfl) (Reps.none _ _)))); intro vF13 w2 hrF13 hb hg_ hnew_; clear hg_ hnew_; rw [← Ny1.out] at hrF13; have hk := kept_below hb; obtain ⟨PF13, hPF13, HLF13⟩ := LR.fresh rfl HB.out hrF13; have HF13 := Aside0.mk HLF13; clear HLF13 hrF13; have D_X12_F13 := na hPF13 HX12; replace HX12 := sn hk HX12; clear hPF13; obtain ⟨BF13, DF13, e_F13⟩ := HF13.out.val; subst e_F13; replace HB := Aside0.mk (below_step HB.out hb); clear hb hk; replace jX12 := HX12.out.c5) | ((with_reducible refine gate_callee (f := 26) rfl ?_); refine goesL_ (some 25) rfl rfl Try.func26 (by kernel_rfl) rfl #[.slice BF13 y1.length DF13] rfl tA ?_; (with_reducible refine (impl_first.calls k _ _ y1 c2 _ HF13.out.reads HF13.out.room E5.out).mono ?_); rintro e w2 ⟨rfl, hq⟩; refine ⟨_, rfl, ?_⟩; have hk := kept_drawn hq; replace HX12 := sn hk HX12; replace HF13 := Aside0.mk (HF13.out.step hk no_S); replace HB := Aside0.mk (below_drawn HB.out hq); clear hk hq; replace jX12 := HX12.out.c5))
  go_ret2
  exact ⟨rfl, HB.out⟩
 by_cases c0 : c2 = 0
 ·
  rw [if_pos c0] at h
  subst c0
  by_cases g : (0 ≤ a2 ∧ a2 ≤ a3 ∧ a3 ≤ (a1.size : Int)) ∧ okB (⟨a0_0, a0_1, a0_2, a0_3, l0_4⟩ : S31) = true ∧ cnt (⟨a0_0, a0_1, a0_2, a0_3, l0_4⟩ : S31) ≤ 2000 ∧ a1.size ≤ 120
  ·
   rw [if_pos g] at h
   simp only [Option.some.injEq, Prod.mk.injEq] at h
   obtain ⟨rfl, rfl⟩ := h
   obtain ⟨⟨g1, g2, g3⟩, hok, hcn, hsz⟩ := g
   obtain ⟨i, rfl⟩ := Int.eq_ofNat_of_zero_le g1
   obtain ⟨j, rfl⟩ := Int.eq_ofNat_of_zero_le (show 0 ≤ a3 by omega)
   have HIJ := Aside0.mk (show i ≤ j ∧ j ≤ a1.size from ⟨by omega, by omega⟩)
   rw [Int.toNat_natCast, Int.toNat_natCast]
   obtain ⟨hrw, hrt⟩ := (okB_W _).1 (⟨a0_0, a0_1, a0_2, a0_3, l0_4⟩ : S31) (Nat.le_refl _) hok
   have HM := Aside0.mk (fun (ws : World) hb => impl_new w ws (⟨a0_0, a0_1, a0_2, a0_3, l0_4⟩ : S31) a1 A0_4 c0_4 hb HR.out HC.out hrw hcn hrt hsz)
   try dsimp only at HM
   obtain ⟨vr, hvr⟩ : ∃ v_, v_ = mat (fun i => bt a1 (i : Int)) a1.size (⟨a0_0, a0_1, a0_2, a0_3, l0_4⟩ : S31) i j := ⟨_, rfl⟩
   rw [← hvr]
   have HVR := Aside0.mk hvr
   clear hvr g1 g2 g3 hok hcn hsz hrw hrt
   go_enter Try.func21, Try.ntmps21
   go_wp2_with (first | ((with_reducible refine gate_dst (N := 4) rfl ?_); refine bx_ (N := 4) (cs := #[.int .i64 a0_0, .int .i64 a0_1, .int .i64 a0_2, .string a0_3, .slice A0_4 l0_4.length c0_4]) (t := 31) rfl rfl ?hr_14 ?_; (case hr_14 => first | (go_simp; done) | (go_simp; rfl)); intro gX14 hg w2 hb hk PX14 hPX14 HX14; have GEX14 := Aside0.mk (gen_ hg HB.out); replace HB := Aside0.mk (below_step HB.out hb); clear hb hk hg hPX14; replace jX14 := HX14.out.c5) | ((with_reducible refine gate_callee (f := 27) rfl ?_); refine goesL_ (some 13) rfl rfl Try.func27 (by kernel_rfl) rfl #[.agg #[.int .i64 a0_0, .int .i64 a0_1, .int .i64 a0_2, .string a0_3, .slice A0_4 l0_4.length c0_4], .string a1] rfl tA ?_; (with_reducible refine (impl_matchCode.calls k a0_0 a0_1 a0_2 a0_3 _ _ l0_4 a1 c _ (Kd.C_below HR.out HB.out) HC.out E1.out).mono ?_); rintro e w2 ⟨rfl, hb⟩; refine ⟨_, rfl, ?_⟩; have hk := kept_below hb; replace HX14 := sn hk HX14; replace HB := Aside0.mk (below_step HB.out hb); clear hb hk; replace jX14 := HX14.out.c5) | ((with_reducible refine gate_callee (f := 29) rfl ?_); refine goesL_ (some 17) rfl rfl Try.func29 (by kernel_rfl) rfl #[.int .i64 (j : Int), .int .i64 0, .int .i64 (a1.size : Int)] rfl tA ?_; (with_reducible refine (impl_within.calls (j : Int) 0 (a1.size : Int) true _ E2.out).mono ?_); rintro e w2 ⟨rfl, hq⟩; refine ⟨_, rfl, ?_⟩; have hk := kept_drawn hq; replace HX14 := sn hk HX14; replace HB := Aside0.mk (below_drawn HB.out hq); clear hk hq; replace jX14 := HX14.out.c5) | ((with_reducible refine gate_dst (N := 21) rfl ?_); (refine gate_guard (by rfl) ?_; dsimp only); refine goesL_ (some 21) rfl rfl Try.func29 (by kernel_rfl) rfl #[.int .i64 (i : Int), .int .i64 0, .int .i64 (j : Int)] rfl tA ?_; (with_reducible refine (impl_within.calls (i : Int) 0 (j : Int) true _ E3.out).mono ?_); rintro e w2 ⟨rfl, hq⟩; refine ⟨_, rfl, ?_⟩; have hk := kept_drawn hq; replace HX14 := sn hk HX14; replace HB := Aside0.mk (below_drawn HB.out hq); clear hk hq; replace jX14 := HX14.out.c5) | ((with_reducible refine gate_callee (f := 28) rfl ?_); refine goesL_ (some 23) rfl rfl Try.func28 (by kernel_rfl) rfl #[.bool true, .int .i64 5] rfl tA ?_; (with_reducible refine (impl_unless.calls true 5 u _ E4.out).mono ?_); rintro e w2 ⟨rfl, hq⟩; refine ⟨_, rfl, ?_⟩; have hk := kept_drawn hq; replace HX14 := sn hk HX14; replace HB := Aside0.mk (below_drawn HB.out hq); clear hk hq; replace jX14 := HX14.out.c5) | ((with_reducible refine gate_dst (N := 24) rfl ?_); refine Kd.R_lit (Kd.int .i64) _ 3 ?hg_15 (N := 24) ?hd_15 (xs := [c, u]) (inner := [.int .i64 c, .int .i64 u]) (ok := fun _ => True) (okp := fun _ => True) ?hr_15 ?hp_15 (fun _ hk => hk) trivial (Below.refl _ _) (Nat.le_refl _) (by simp) ?_; (case hd_15 => rfl); (case hg_15 => rfl); (case hr_15 => first | (go_simp; done) | (go_simp; rfl)); (case hp_15 => exact (Reps.one (show Kd.M (Kd.int .i64) _ _ _ c [.int .i64 c] from rfl) (Reps.one (show Kd.M (Kd.int .i64) _ _ _ u [.int .i64 u] from rfl) (Reps.none _ _)))); intro vF15 w2 hrF15 hb hg_ hnew_; clear hg_ hnew_; rw [← Ny1.out] at hrF15; have hk := kept_below hb; obtain ⟨PF15, hPF15, HLF15⟩ := LR.fresh rfl HB.out hrF15; have HF15 := Aside0.mk HLF15; clear HLF15 hrF15; have D_X14_F15 := na hPF15 HX14; replace HX14 := sn hk HX14; clear hPF15; obtain ⟨BF15, DF15, e_F15⟩ := HF15.out.val; subst e_F15; replace HB := Aside0.mk (below_step HB.out hb); clear hb hk; replace jX14 := HX14.out.c5) | ((with_reducible refine gate_callee (f := 26) rfl ?_); refine goesL_ (some 25) rfl rfl Try.func26 (by kernel_rfl) rfl #[.slice BF15 y1.length DF15] rfl tA ?_; (with_reducible refine (impl_first.calls k _ _ y1 0 _ HF15.out.reads HF15.out.room E5.out).mono ?_); rintro e w2 ⟨rfl, hq⟩; refine ⟨_, rfl, ?_⟩; have hk := kept_drawn hq; replace HX14 := sn hk HX14; replace HF15 := Aside0.mk (HF15.out.step hk no_S); replace HB := Aside0.mk (below_drawn HB.out hq); clear hk hq; replace jX14 := HX14.out.c5) | ((with_reducible refine gate_callee (f := 30) rfl ?_); refine gl_ (some 31) rfl rfl Try.func30 #[.agg #[.int .i64 a0_0, .int .i64 a0_1, .int .i64 a0_2, .string a0_3, .slice A0_4 l0_4.length c0_4], .string a1] rfl rfl ?_; (with_reducible refine (HM.out _ HB.out).mono ?_); rintro e w2 ⟨E, rfl, hok_, hT_, hns_, ⟨PE_, hAt_⟩, hkk_⟩; refine ⟨_, rfl, ?_⟩; obtain ⟨ks_, hz_⟩ := ad_zero (⟨a0_0, a0_1, a0_2, a0_3, l0_4⟩ : S31); have HX := Aside0.mk (impl_from E w _ hok_ _ (⟨a0_0, a0_1, a0_2, a0_3, l0_4⟩ : S31) (Nat.le_refl _) 0 ks_ i w2 PE_ (by rw [hns_]; exact hz_) (by rw [hT_]; exact Nat.le_trans HIJ.out.1 HIJ.out.2) hAt_); replace HB := Aside0.mk hAt_.1; have HOK := Aside0.mk hok_; have HTT := Aside0.mk hT_; clear HX14) | ((with_reducible refine gate_dst (N := 33) rfl ?_); refine gl_ (some 33) rfl rfl Try.func38 #[.pointer (some ⟨E.gG, 0, none⟩), .int .i64 ((0 : Nat) : Int), .int .i64 (i : Int)] rfl rfl ?_; (with_reducible refine HX.out.mono ?_); rintro e w2 ⟨PE2, A2, c2_, rfl, hAt2_, hl2_, hF2_, _, _, _⟩; refine ⟨_, rfl, ?_⟩; have HLL := Aside0.mk (show j < E.L by have h1 := HOK.out.2.1; have h2 := HIJ.out; rw [HTT.out] at h1; omega); obtain ⟨ad_, eA_, hc_⟩ := im_atN (imLN (base := 0) (rowOf_len' HOK.out.2.1 _) hl2_ hF2_ (fun k h => hAt2_.2.2.2.1.lt k h.1)) j HLL.out; subst eA_; rw [rowOf_getD _ _ _ (by rw [HTT.out]; exact HIJ.out.2), HTT.out] at hc_; have hc2_ := (show _ = some (Value.bool vr) from hc_.trans (by rw [HVR.out])); replace HB := Aside0.mk hAt2_.1; have z1_ := eq_true (show (0 : Int) ≤ (j : Int) from Int.natCast_nonneg _); have z2_ := eq_true (show (j : Int) < (E.L : Int) from Int.ofNat_lt.2 HLL.out); have z3_ := eq_true HLL.out; clear hc_ hAt2_ hl2_ hF2_))
   go_ret2
   exact ⟨rfl, HB.out⟩
  rw [if_neg g] at h
  exact absurd h (by simp)
 rw [if_neg c0] at h
 have cb : (c2 == 0) = false := beq_eq_false_iff_ne.mpr c0
 have cb2 : (c2 != 0) = true := bne_iff_ne.mpr c0
 clear c0
 simp only [Option.some.injEq, Prod.mk.injEq] at h
 obtain ⟨rfl, rfl⟩ := h
 go_enter Try.func21, Try.ntmps21
 go_wp2_with (first | ((with_reducible refine gate_dst (N := 4) rfl ?_); refine bx_ (N := 4) (cs := #[.int .i64 a0_0, .int .i64 a0_1, .int .i64 a0_2, .string a0_3, .slice A0_4 l0_4.length c0_4]) (t := 31) rfl rfl ?hr_16 ?_; (case hr_16 => first | (go_simp; done) | (go_simp; rfl)); intro gX16 hg w2 hb hk PX16 hPX16 HX16; have GEX16 := Aside0.mk (gen_ hg HB.out); replace HB := Aside0.mk (below_step HB.out hb); clear hb hk hg hPX16; replace jX16 := HX16.out.c5) | ((with_reducible refine gate_callee (f := 27) rfl ?_); refine goesL_ (some 13) rfl rfl Try.func27 (by kernel_rfl) rfl #[.agg #[.int .i64 a0_0, .int .i64 a0_1, .int .i64 a0_2, .string a0_3, .slice A0_4 l0_4.length c0_4], .string a1] rfl tA ?_; (with_reducible refine (impl_matchCode.calls k a0_0 a0_1 a0_2 a0_3 _ _ l0_4 a1 c _ (Kd.C_below HR.out HB.out) HC.out E1.out).mono ?_); rintro e w2 ⟨rfl, hb⟩; refine ⟨_, rfl, ?_⟩; have hk := kept_below hb; replace HX16 := sn hk HX16; replace HB := Aside0.mk (below_step HB.out hb); clear hb hk; replace jX16 := HX16.out.c5) | ((with_reducible refine gate_callee (f := 29) rfl ?_); refine goesL_ (some 17) rfl rfl Try.func29 (by kernel_rfl) rfl #[.int .i64 a3, .int .i64 0, .int .i64 (a1.size : Int)] rfl tA ?_; (with_reducible refine (impl_within.calls a3 0 (a1.size : Int) true _ E2.out).mono ?_); rintro e w2 ⟨rfl, hq⟩; refine ⟨_, rfl, ?_⟩; have hk := kept_drawn hq; replace HX16 := sn hk HX16; replace HB := Aside0.mk (below_drawn HB.out hq); clear hk hq; replace jX16 := HX16.out.c5) | ((with_reducible refine gate_dst (N := 21) rfl ?_); (refine gate_guard (by rfl) ?_; dsimp only); refine goesL_ (some 21) rfl rfl Try.func29 (by kernel_rfl) rfl #[.int .i64 a2, .int .i64 0, .int .i64 a3] rfl tA ?_; (with_reducible refine (impl_within.calls a2 0 a3 true _ E3.out).mono ?_); rintro e w2 ⟨rfl, hq⟩; refine ⟨_, rfl, ?_⟩; have hk := kept_drawn hq; replace HX16 := sn hk HX16; replace HB := Aside0.mk (below_drawn HB.out hq); clear hk hq; replace jX16 := HX16.out.c5) | ((with_reducible refine gate_callee (f := 28) rfl ?_); refine goesL_ (some 23) rfl rfl Try.func28 (by kernel_rfl) rfl #[.bool true, .int .i64 5] rfl tA ?_; (with_reducible refine (impl_unless.calls true 5 u _ E4.out).mono ?_); rintro e w2 ⟨rfl, hq⟩; refine ⟨_, rfl, ?_⟩; have hk := kept_drawn hq; replace HX16 := sn hk HX16; replace HB := Aside0.mk (below_drawn HB.out hq); clear hk hq; replace jX16 := HX16.out.c5) | ((with_reducible refine gate_dst (N := 24) rfl ?_); refine Kd.R_lit (Kd.int .i64) _ 3 ?hg_17 (N := 24) ?hd_17 (xs := [c, u]) (inner := [.int .i64 c, .int .i64 u]) (ok := fun _ => True) (okp := fun _ => True) ?hr_17 ?hp_17 (fun _ hk => hk) trivial (Below.refl _ _) (Nat.le_refl _) (by simp) ?_; (case hd_17 => rfl); (case hg_17 => rfl); (case hr_17 => first | (go_simp; done) | (go_simp; rfl)); (case hp_17 => exact (Reps.one (show Kd.M (Kd.int .i64) _ _ _ c [.int .i64 c] from rfl) (Reps.one (show Kd.M (Kd.int .i64) _ _ _ u [.int .i64 u] from rfl) (Reps.none _ _)))); intro vF17 w2 hrF17 hb hg_ hnew_; clear hg_ hnew_; rw [← Ny1.out] at hrF17; have hk := kept_below hb; obtain ⟨PF17, hPF17, HLF17⟩ := LR.fresh rfl HB.out hrF17; have HF17 := Aside0.mk HLF17; clear HLF17 hrF17; have D_X16_F17 := na hPF17 HX16; replace HX16 := sn hk HX16; clear hPF17; obtain ⟨BF17, DF17, e_F17⟩ := HF17.out.val; subst e_F17; replace HB := Aside0.mk (below_step HB.out hb); clear hb hk; replace jX16 := HX16.out.c5) | ((with_reducible refine gate_callee (f := 26) rfl ?_); refine goesL_ (some 25) rfl rfl Try.func26 (by kernel_rfl) rfl #[.slice BF17 y1.length DF17] rfl tA ?_; (with_reducible refine (impl_first.calls k _ _ y1 c2 _ HF17.out.reads HF17.out.room E5.out).mono ?_); rintro e w2 ⟨rfl, hq⟩; refine ⟨_, rfl, ?_⟩; have hk := kept_drawn hq; replace HX16 := sn hk HX16; replace HF17 := Aside0.mk (HF17.out.step hk no_S); replace HB := Aside0.mk (below_drawn HB.out hq); clear hk hq; replace jX16 := HX16.out.c5))
 go_ret2
 exact ⟨rfl, HB.out⟩
theorem laws_toRx.own (a0_0 : Int) (a0_1 : Int) (a0_2 : Int) (a0_3 : ByteArray) (A0_4 : Option Addr) (c0_4 : Nat) (l0_4 : List (S24)) (r1 : Int) (r2 : Int) (r3 : Int) (r4 : ByteArray) (r5 : List (S31)) (w : World) (hr0_4 : Kd.C k24 w A0_4 l0_4.length l0_4) (hc0_4 : l0_4.length ≤ c0_4) (h : laws_toRx.f a0_0 a0_1 a0_2 a0_3 l0_4 = some (r1, r2, r3, r4, r5)) :
  Calls Try.prog 8 #[.agg #[.int .i64 a0_0, .int .i64 a0_1, .int .i64 a0_2, .string a0_3, .slice A0_4 l0_4.length c0_4]] w fun e w' => ∃ v4_ : Value, e = .returned (.agg #[.int .i64 r1, .int .i64 r2, .int .i64 r3, .string r4, v4_]) ∧ Kd.S k31 31 w' w.heap.size (fun _ => True) v4_ r5 ∧ Below w.heap.size w w' := by
 exact laws_toRx.callsS a0_0 a0_1 a0_2 a0_3 A0_4 c0_4 l0_4 r1 r2 r3 r4 r5 w hr0_4 hc0_4 h
end
end Go.Proofs.Ytlpabbcgichaoaa.PFnExactFind
end
