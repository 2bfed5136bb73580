/- The program's matcher: one byte more. -/
import Derived.Test.YtlpabbcgichaoaaImRFnExactFind
import Derived.Deep.QuietTactic
import Derived.BigQuiet
import Derived.StillTailTactics
import Derived.Outline
import Derived.Deep.RegionHeld3
import Derived.Deep.Cut
import Derived.Test.YtlpabbcgichaoaaHw
import Derived.Test.YtlpabbcgichaoaaPk
namespace Go.Proofs.Ytlpabbcgichaoaa.PFnExactFind
open Go.RowKit Go.Proofs.Ytlpabbcgichaoaa.Lawful Go.Proofs.YtlpabbcgichaoaaW.PrintWords Go.Proofs.YtlpabbcgichaoaaW.PrintLast Go.Proofs.YtlpabbcgichaoaaW.PrintMore
attribute [local go_sem] max2_int min2_int max_two min_two max_three min_three max_four min_four   -- for this text's walks alone
set_option linter.unusedVariables false
set_option linter.unusedSimpArgs false
section
open Go.Proofs.Ytlpabbcgichaoaa.Lawful
section
variable {P : Program} {ops : Array Oper} {rest : List Oper} {o : Oper} {a : Act} {Q : Exit → Act → World → Prop} {Kc : Act → World → Prop} {w0 W : World} {P1 : Nat → Prop}
theorem im_at {g n c : Nat} {kn : List Bool} {base : Nat} (H : LR Kd.bool 4 W base P1 (.slice (some ⟨g, 0, none⟩) n c) kn) (i : Nat) (h : i < n) : W.cell? ⟨g, i, none⟩ = some (.bool (kn.getD i false)) ∧ W.frozen? ⟨g, i, none⟩ = false := by
 have := Kd.R_celln false H.1 (i : Int) (by omega) (by omega)
 rw [Int.toNat_natCast] at this
 refine ⟨?_, this.2⟩
 rw [this.1]
 simp [rdOf]
theorem im_bput {g n c : Nat} {kn : List Bool} (H : LR Kd.bool 4 W w0.heap.size P1 (.slice (some ⟨g, 0, none⟩) n c) kn) (hB : Below w0.heap.size w0 W) (i : Nat) (hi : i < n) (x : Bool) :
  LR Kd.bool 4 (W.setCell ⟨g, i, none⟩ (.bool x)) w0.heap.size P1 (.slice (some ⟨g, 0, none⟩) n c) (kn.set i x) ∧ Kept W (W.setCell ⟨g, i, none⟩ (.bool x)) P1 ∧ Below w0.heap.size w0 (W.setCell ⟨g, i, none⟩ (.bool x)) := by
 have hl : n = kn.length := H.len
 have hp := Kd.R_putg H.1 (i : Int) x
 rw [Int.toNat_natCast] at hp
 obtain ⟨g', c', he, hge, hlt, _⟩ := Kd.R_form H.1 (by omega)
 injection he with he1 _ _
 injection he1 with he1
 injection he1 with he1 _ _
 subst he1
 have hk : Kept W (W.setCell ⟨g, i, none⟩ (.bool x)) P1 := Kept.of_grown hp.2 (Kept.refl W P1) (fun k hk_ => by injection hk_ with hk_; subst hk_; exact .inl (H.1.1 _ rfl))
 exact ⟨H.wrote hp.1 hk, hk, below_set hB hge⟩
theorem im_put1 {g n c : Nat} {kn : List Bool} (H : LR Kd.bool 4 W w0.heap.size P1 (.slice (some ⟨g, 0, none⟩) n c) kn) (hB : Below w0.heap.size w0 W) (i : Nat) (hi : i < n) (x : Bool) (hgd : o.guard = none) {t : TypeId} {p : Tmp} {y : Operand} (hN : o.dst = none) (ho : o.op = .store t (.tmp p) y)
  (hrun : (execOp a.eval o).run P W = .ok .skip (W.setCell ⟨g, i, none⟩ (.bool x)))
  (h : ∀ w2, LR Kd.bool 4 w2 w0.heap.size P1 (.slice (some ⟨g, 0, none⟩) n c) (kn.set i x) → Kept W w2 P1 → Below w0.heap.size w0 w2 → wpList P ops Q rest a w2) : wpList P ops Q (o :: rest) a W := by
 obtain ⟨h1, h2, h3⟩ := im_bput H hB i hi x
 exact store_event hgd ho hN hrun (fun w' hw => by subst hw; exact h _ h1 h2 h3)
theorem im_put1_step {g n c : Nat} {kn : List Bool} (H : LR Kd.bool 4 W w0.heap.size P1 (.slice (some ⟨g, 0, none⟩) n c) kn) (hB : Below w0.heap.size w0 W) (i : Nat) (hi : i < n) (x : Bool) (hw : Region.wanted o (yielded ops a.tmps) = true) (hN : o.dst = none)
  (hrun : (execOp a.eval o).run P W = .ok .skip (W.setCell ⟨g, i, none⟩ (.bool x)))
  (h : ∀ w2, LR Kd.bool 4 w2 w0.heap.size P1 (.slice (some ⟨g, 0, none⟩) n c) (kn.set i x) → Kept W w2 P1 → Below w0.heap.size w0 w2 → Kc a w2) : if Region.wanted o (yielded ops a.tmps) = true then Oper.wp P o a W Kc Q else Kc (a.put o.dst undef) W := by
 obtain ⟨h1, h2, h3⟩ := im_bput H hB i hi x
 exact skip_step hw hN hrun (h _ h1 h2 h3)
end
theorem step_row0 (n i : Nat) (f : Nat → Bool) : rowOf n f = rowOf n (fun j => f j || (false && j == i + 1)) := rowOf_congr (fun j _ => by simp)
theorem step_row1 (n i : Nat) (f : Nat → Bool) : rowOf n (fun j => if j = i + 1 then true else f j) = rowOf n (fun j => f j || (true && j == i + 1)) := rowOf_congr (fun j _ => by
 by_cases e : j = i + 1
 ·
  rw [if_pos e, beq_iff_eq.2 e]; simp
 rw [if_neg e, beq_eq_false_iff_ne.2 e]; simp)
theorem step_row2 (n i : Nat) (f : Nat → Bool) (yes : Bool) (h : i = n) : rowOf n f = rowOf n (fun j => f j || (yes && j == i + 1)) := rowOf_congr (fun j hj => by
 have : (j == i + 1) = false := beq_eq_false_iff_ne.2 (by omega)
 rw [this]; simp)
@[reducible] def impl_step.Post (w ws : World) (PO : Nat → Prop) (gO n cO : Nat) (r : List Bool) (e : Ending) (w' : World) : Prop := e = .returned (.tuple #[]) ∧ LR Kd.bool 4 w' w.heap.size PO (.slice (some ⟨gO, 0, none⟩) n cO) r ∧ Below w.heap.size w w' ∧ Kept ws w' PO
set_option maxHeartbeats 16000000 in
set_option maxRecDepth 100000 in
theorem impl_step (w ws : World) (PG PI PM PX PO : Nat → Prop) (gG gI gM gX gO n cO : Nat) (T : ByteArray) (v1 v2 v3 v4 : Value) (i : Nat) (yes : Bool) (f : Nat → Bool) (hn : n = T.size + 1) (hT : T.size ≤ 120) (hi : i ≤ T.size) (hB : Below w.heap.size w ws) (hG : LB ws PG gG 74 #[.string T, v1, v2, v3, v4]) (hI : LB ws PI gI 3 #[.int .i64 (i : Int)]) (hM : LB ws PM gM 54 #[.pointer (some ⟨gG, 0, none⟩)]) (hX : LB ws PX gX 64 #[.slice (some ⟨gO, 0, none⟩) n cO]) (hO : LR Kd.bool 4 ws w.heap.size PO (.slice (some ⟨gO, 0, none⟩) n cO) (rowOf T.size f)) (d1 : ∀ k, PG k → ¬ PO k) (d2 : ∀ k, PI k → ¬ PO k) (d3 : ∀ k, PM k → ¬ PO k) (d4 : ∀ k, PX k → ¬ PO k) :
  Calls Try.prog 51 #[.bool yes, .pointer (some ⟨gI, 0, none⟩), .pointer (some ⟨gM, 0, none⟩), .pointer (some ⟨gX, 0, none⟩)] ws (impl_step.Post w ws PO gO n cO (rowOf T.size (fun j => f j || (yes && j == i + 1)))) := by
 have hu := Try.underlying74
 have HB := Aside0.mk hB
 have HG := Aside0.mk hG
 have HI := Aside0.mk hI
 have HM := Aside0.mk hM
 have HX := Aside0.mk hX
 have HO := Aside0.mk hO
 have D_G_O := Aside0.mk d1
 have D_I_O := Aside0.mk d2
 have D_M_O := Aside0.mk d3
 have D_X_O := Aside0.mk d4
 have HK := Aside0.mk (Kept.refl ws PO)
 have HN := Aside0.mk hn
 have HS := Aside0.mk (show T.size ≤ 120 ∧ i ≤ T.size from ⟨hT, hi⟩)
 have hwi : wrap64 ((i : Int) + 1) = ((i + 1 : Nat) : Int) := by unfold wrap64; omega
 have hwik : IntKind.i64.wrap ((i : Int) + 1) = ((i + 1 : Nat) : Int) := (i64_w _).trans hwi
 clear hB hG hI hM hX hO d1 d2 d3 d4 hn hT hi
 replace jG := HG.out.c5
 replace jI := HI.out.c1
 replace jM := HM.out.c1
 replace jX := HX.out.c1
 by_cases hlt : i < T.size
 ·
  have clt : decide ((i : Int) < (T.size : Int)) = true := decide_eq_true (Int.ofNat_lt.2 hlt)
  have cltn := decide_eq_true hlt
  have HLT := Aside0.mk hlt
  clear hlt
  rcases yes with _ | _
  ·
   go_enter Try.func51, Try.ntmps51
   go_upto_region 0 with (fail)
   go_quiet (fail)
   generalize hwd_ : World.drewN ws nq = wd_
   have hb_ := (show Below (World.heap ws).size ws wd_ from hwd_ ▸ pw_below_drewN (Below.refl _ _) nq)
   have hk := (Kept.of_below hb_ (fun _ => False))
   replace HG := sn hk HG
   replace HI := sn hk HI
   replace HM := sn hk HM
   replace HX := sn hk HX
   replace HO := Aside0.mk (HO.out.step hk no_S)
   replace HK := Aside0.mk (HK.out.then_ hk no_R)
   replace HB := Aside0.mk (below_step HB.out hb_)
   clear hk hwd_ hb_
   replace jG := HG.out.c5
   replace jI := HI.out.c1
   replace jM := HM.out.c1
   replace jX := HX.out.c1
   go_wp2
   first | go_end0 | ((try simp only [Exit.inBlock, Exit.then]); refine bodyPost_ret (results_none rfl _ _ _) rfl ?_)
   exact ⟨rfl, by rw [← step_row0]; exact HO.out, HB.out, HK.out⟩
  go_enter Try.func51, Try.ntmps51
  go_upto_region 0 with (fail)
  go_quiet (fail)
  generalize hwd_ : World.drewN ws nq = wd_
  have hb_ := (show Below (World.heap ws).size ws wd_ from hwd_ ▸ pw_below_drewN (Below.refl _ _) nq)
  have hk := (Kept.of_below hb_ (fun _ => False))
  replace HG := sn hk HG
  replace HI := sn hk HI
  replace HM := sn hk HM
  replace HX := sn hk HX
  replace HO := Aside0.mk (HO.out.step hk no_S)
  replace HK := Aside0.mk (HK.out.then_ hk no_R)
  replace HB := Aside0.mk (below_step HB.out hb_)
  clear hk hwd_ hb_
  replace jG := HG.out.c5
  replace jI := HI.out.c1
  replace jM := HM.out.c1
  replace jX := HX.out.c1
  obtain ⟨hy0, hy1⟩ := im_at HO.out (i + 1) (by have := HN.out; have := HLT.out; omega)
  have p3 := eq_true (show (0 : Int) ≤ ((i + 1 : Nat) : Int) from Int.natCast_nonneg _)
  have p4 := eq_true (show ((i + 1 : Nat) : Int) < (n : Int) by have := HN.out; have := HLT.out; omega)
  have p4n := eq_true (show i + 1 < n by have := HN.out; have := HLT.out; omega)
  have p3i := eq_true (show (0 : Int) ≤ (i : Int) + 1 by omega)
  have p4i := eq_true (show (i : Int) + 1 < (n : Int) by have := HN.out; have := HLT.out; omega)
  go_wp2_with (first | ((with_reducible refine gate_store (t := 4) (p := 18) rfl ?_); refine im_put1 HO.out HB.out (i + 1) (by have := HN.out; have := HLT.out; omega) true rfl (t := 4) (p := 18) rfl rfl ?hr ?_; (case hr => first | (go_simp; done) | (go_simp; simp only [World.setCells, Nat.reduceAdd, Nat.zero_add]; done)); intro w2 hx hk hb; replace HG := ss hk HG D_G_O.out; replace HI := ss hk HI D_I_O.out; replace HM := ss hk HM D_M_O.out; replace HX := ss hk HX D_X_O.out; replace HK := Aside0.mk (HK.out.then_ hk (fun _ h_ => .inl h_)); replace HB := Aside0.mk hb; replace HO := Aside0.mk hx; clear hk hx hb; replace jG := HG.out.c5; replace jI := HI.out.c1; replace jM := HM.out.c1; replace jX := HX.out.c1))
  first | go_end0 | ((try simp only [Exit.inBlock, Exit.then]); refine bodyPost_ret (results_none rfl _ _ _) rfl ?_)
  exact ⟨rfl, by rw [← step_row1, ← rowOf_set]; exact HO.out, HB.out, HK.out⟩
 have clt : decide ((i : Int) < (T.size : Int)) = false := decide_eq_false (by omega)
 have cltn : decide (i < T.size) = false := decide_eq_false hlt
 have HLT := Aside0.mk (show i = T.size by have := HS.out; omega)
 clear hlt
 go_enter Try.func51, Try.ntmps51
 go_upto_region 0 with (fail)
 go_quiet (fail)
 generalize hwd_ : World.drewN ws nq = wd_
 have hb_ := (show Below (World.heap ws).size ws wd_ from hwd_ ▸ pw_below_drewN (Below.refl _ _) nq)
 have hk := (Kept.of_below hb_ (fun _ => False))
 replace HG := sn hk HG
 replace HI := sn hk HI
 replace HM := sn hk HM
 replace HX := sn hk HX
 replace HO := Aside0.mk (HO.out.step hk no_S)
 replace HK := Aside0.mk (HK.out.then_ hk no_R)
 replace HB := Aside0.mk (below_step HB.out hb_)
 clear hk hwd_ hb_
 replace jG := HG.out.c5
 replace jI := HI.out.c1
 replace jM := HM.out.c1
 replace jX := HX.out.c1
 go_wp2
 first | go_end0 | ((try simp only [Exit.inBlock, Exit.then]); refine bodyPost_ret (results_none rfl _ _ _) rfl ?_)
 exact ⟨rfl, by rw [← step_row2 T.size i f yes HLT.out]; exact HO.out, HB.out, HK.out⟩
end
end Go.Proofs.Ytlpabbcgichaoaa.PFnExactFind
