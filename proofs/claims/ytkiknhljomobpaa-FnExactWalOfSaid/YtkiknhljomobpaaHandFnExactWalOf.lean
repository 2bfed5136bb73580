/- markByteS' row, markRecS and markWal: their contracts, and their walks. -/
import Derived.Test.YtkiknhljomobpaaPFnExactWalOfx0
import Derived.Test.YtkiknhljomobpaaPFnExactWalOfx1
import Derived.Test.YtkiknhljomobpaaPFnExactWalOfx2
import Derived.Test.YtkiknhljomobpaaPFnExactWalOfx3
import Derived.Test.YtkiknhljomobpaaPFnExactWalOfx4
import Derived.Test.YtkiknhljomobpaaPFnExactWalOfx5
import Derived.Test.YtkiknhljomobpaaPFnExactWalOfx6
import Derived.Test.YtkiknhljomobpaaPFnExactWalOfx7
namespace Go.Proofs.Ytkiknhljomobpaa.PFnExactWalOf
open Go.RowKit Go.Proofs.YtkiknhljomobpaaW.PrintWords Go.Proofs.YtkiknhljomobpaaW.PrintLast Go.Proofs.YtkiknhljomobpaaW.PrintMore
attribute [local go_sem] max2_int min2_int max_two min_two max_three min_three max_four min_four   -- for this text's walks alone
set_option linter.unusedVariables false
set_option linter.unusedSimpArgs false
/-! ### markByteS, its row's blocks as they were -/
theorem laws_markByteS.own (k : Nat) (P0_ : Nat → Prop) (u9000_ : Value) (l0 : List Int) (a1 : Int) (r1 : Int) (r2 : List Int) (w0 w : World) (hB : Below w0.heap.size w0 w) (ho0 : Kd.R (Kd.int .u8) 5 w w0.heap.size P0_ u9000_ l0) (h : laws_markByteS.f k l0 a1 = some (r1, r2)) :
    Calls Try.prog 17 #[u9000_, .int .i64 a1] w fun e w' => e = .returned (.int .i64 r1) ∧ Kd.R (Kd.int .u8) 5 w' w0.heap.size P0_ u9000_ r2 ∧ Below w0.heap.size w0 w' ∧ Kept w w' P0_ :=
  (laws_markByteS.calls k P0_ u9000_ l0 a1 r1 r2 w0 w hB ho0 h).mono fun e w' ⟨he, ho, hb, hk⟩ => ⟨he, Kd.R_mono (Kd.R_tight rfl ho) (fun k hk => ho0.1 k hk.symm), hb, hk⟩

/-! ### laws_markRecS: function 90 -/
def laws_markRecS.l0 : Nat → List S45 → Int → Int → Option (Int × List S45)
  | 0, _, _, _ => none
  | k + 1, x0, x1, x5 => if x5 < (x0.length : Int) then (if 0 ≤ x5 then ((laws_markByteS.f k (x0.getD x5.toNat z45).f2 (wrap64 (wrap64 (x1 + 1) + 1))).bind fun t => (laws_markRecS.l0 k (x0.set x5.toNat ⟨x1, wrap64 (x1 + 1), t.2⟩) t.1 (wrap64 (x5 + 1)))) else (none)) else (some (x1, x0))
def laws_markRecS.f (k : Nat) (l0 : List S45) (a1 : Int) : Option (Int × List S45) := laws_markRecS.l0 k l0 a1 0
set_option maxHeartbeats 8000000 in
set_option maxRecDepth 100000 in
theorem laws_markRecS.calls (k : Nat) (P0_ : Nat → Prop) (u9000_ : Value) (l0 : List S45) (a1 : Int) (r1 : Int) (r2 : List S45) (w0 w : World) (hB : Below w0.heap.size w0 w) (ho0 : Kd.S k45 45 w w0.heap.size P0_ u9000_ l0) (h : laws_markRecS.f k l0 a1 = some (r1, r2)) :
    Calls Try.prog 90 #[u9000_, .int .i64 a1] w fun e w' => e = .returned (.int .i64 r1) ∧ Kd.S k45 45 w' w0.heap.size P0_ u9000_ r2 ∧ Below w0.heap.size w0 w' ∧ Kept w w' P0_ := by
  obtain ⟨A0, c0, rfl⟩ := Kd.S_slice ho0
  have HO0 := Aside0.mk ho0
  have HB0 := Aside0.mk hB
  clear ho0 hB
  have H' := Aside0.mk (show laws_markRecS.l0 k l0 a1 0 = some (r1, r2) from h)
  clear h
  go_enter Try.func90, Try.ntmps90
  go_wp2
  go_loopg [1, 5] k (fun kq v1 v5 w' => ∃ (x0_1 : List S45) (x1_1 : Int) (x5_1 : Int), v1 = .int .i64 x1_1 ∧ v5 = .int .i64 x5_1 ∧ Aside0 (laws_markRecS.l0 kq x0_1 x1_1 x5_1 = some (r1, r2)) ∧ Aside0 (kq ≤ k) ∧ Aside0 (x0_1.length = l0.length) ∧ Aside0 (Kd.S k45 45 w' w0.heap.size P0_ (.slice A0 l0.length c0) x0_1) ∧ Aside0 (Kept w w' P0_) ∧ Aside0 (Below w0.heap.size w0 w'))
  case atStart => exact ⟨l0, a1, 0, rfl, rfl, H', ⟨Nat.le_refl _⟩, ⟨rfl⟩, HO0, ⟨Kept.refl _ _⟩, HB0⟩
  case round =>
    clear H' HO0 HB0
    obtain ⟨x0_1, x1_1, x5_1, rfl, rfl, HA, HK1, HL, HS, HK, HB⟩ := hrel
    cases gk with
    | zero => exact absurd HA.out (by simp [laws_markRecS.l0])
    | succ k1 =>
      have H := HA.out
      clear HA
      simp only [laws_markRecS.l0] at H
      rw [HL.out] at H
      by_cases c3 : x5_1 < (l0.length : Int)
      · rw [if_pos c3] at H
        have c3b0 : decide (x5_1 < (l0.length : Int)) = true := decide_eq_true c3
        by_cases c4 : 0 ≤ x5_1
        · rw [if_pos c4] at H
          have c4b0 : decide (0 ≤ x5_1) = true := decide_eq_true c4
          replace H := Option.bind_eq_some_iff.mp H
          obtain ⟨⟨t1, t2⟩, A50, H⟩ := H
          have A5 := Aside0.mk A50
          have H' := Aside0.mk H
          clear A50 H
          obtain ⟨ad, c_, rfl, _⟩ := Kd.C_get (Kd.S_reads' HS.out).2.2 z45 x5_1 c4 (by rw [HL.out]; exact c3)
          obtain ⟨g, rfl⟩ := Kd.R_head (Kd.S_R HS.out)
          obtain ⟨oki, c, hcl, hM, hcell, hfr, hoki, hH⟩ := Kd.S_elem HS.out z45 x5_1 c4 c3
          obtain ⟨v, rfl, hR⟩ := k45_openM hM
          have hge := Kd.R_base (Kd.S_R HS.out) g rfl
          have hPg := HS.out
          obtain ⟨_, hPf⟩ := hPg
          have HPg := Aside0.mk (hPf.1 g rfl)
          have HGE := Aside0.mk hge
          have hx0 : wr.cell? ⟨g, x5_1.toNat * 3, none⟩ = some (.int .i64 (x0_1.getD x5_1.toNat z45).f0) := hcell 0 _ rfl
          have hx1 : wr.cell? ⟨g, x5_1.toNat * 3 + 1, none⟩ = some (.int .i64 (x0_1.getD x5_1.toNat z45).f1) := hcell 1 _ rfl
          have hx2 : wr.cell? ⟨g, x5_1.toNat * 3 + 2, none⟩ = some v := hcell 2 _ rfl
          have hf0 : wr.frozen? ⟨g, x5_1.toNat * 3, none⟩ = false := hfr 0
          have hf1 : wr.frozen? ⟨g, x5_1.toNat * 3 + 1, none⟩ = false := hfr 1
          have hR := Aside0.mk hR
          have hH := Aside0.mk hH
          have hoki := Aside0.mk hoki
          have C3 := Aside0.mk c3
          have C4 := Aside0.mk c4
          clear hcell hcl hfr hge hPf
          replace c3 := eq_true c3
          replace c4 := eq_true c4
          obtain ⟨hs1, hg1⟩ := Kd.H_seg hH.out C4.out C3.out (seg := [.int .i64 x1_1]) (j := 0) (show 0 + 1 ≤ 3 by decide) (by intro q hq; rw [List.mem_singleton.1 hq]; rfl)
          obtain ⟨hs2, hg2⟩ := Kd.H_seg hs1 C4.out C3.out (seg := [.int .i64 (wrap64 (x1_1 + 1))]) (j := 1) (show 1 + 1 ≤ 3 by decide) (by intro q hq; rw [List.mem_singleton.1 hq]; rfl)
          have hne : ∀ k_, oki k_ → some k_ ≠ some g := fun k_ hk_ he_ => (hoki.out k_ hk_).2 (by injection he_)
          have hin : ∀ k_, some g = some k_ → P0_ k_ ∨ w.heap.size ≤ k_ := fun k_ hk_ => .inl (by injection hk_ with hk_; rw [← hk_]; exact HPg.out)
          have HH := Aside0.mk (show Kd.H k45 45 ((wr.setCell ⟨g, x5_1.toNat * 3, none⟩ (.int .i64 x1_1)).setCell ⟨g, x5_1.toNat * 3 + 1, none⟩ (.int .i64 (wrap64 (x1_1 + 1)))) w0.heap.size P0_ (.slice (some ⟨g, 0, none⟩) l0.length c0) x0_1 x5_1 oki [.int .i64 x1_1, .int .i64 (wrap64 (x1_1 + 1)), v] from hs2)
          replace hR := Aside0.mk (show Kd.R (Kd.int .u8) 5 ((wr.setCell ⟨g, x5_1.toNat * 3, none⟩ (.int .i64 x1_1)).setCell ⟨g, x5_1.toNat * 3 + 1, none⟩ (.int .i64 (wrap64 (x1_1 + 1)))) w0.heap.size oki v (x0_1.getD x5_1.toNat z45).f2 from Kd.R_grown (Kd.R_grown hR.out hg1 hne) hg2 hne)
          replace HB := Aside0.mk (show Below w0.heap.size w0 ((wr.setCell ⟨g, x5_1.toNat * 3, none⟩ (.int .i64 x1_1)).setCell ⟨g, x5_1.toNat * 3 + 1, none⟩ (.int .i64 (wrap64 (x1_1 + 1)))) from below_set (below_set HB.out HGE.out) HGE.out)
          replace HK := Aside0.mk (show Kept w ((wr.setCell ⟨g, x5_1.toNat * 3, none⟩ (.int .i64 x1_1)).setCell ⟨g, x5_1.toNat * 3 + 1, none⟩ (.int .i64 (wrap64 (x1_1 + 1)))) P0_ from Kept.of_grown hg2 (Kept.of_grown hg1 HK.out hin) hin)
          clear hs1 hs2 hg1 hg2 hne hin
          go_wp2_with (first | ((with_reducible refine gate_callee (f := 17) rfl ?_); refine goesL_ (some 32) rfl rfl Try.func17 (by kernel_rfl) rfl #[v, .int .i64 (wrap64 (wrap64 (x1_1 + 1) + 1))] rfl (by (try simp only [List.map_toArray, List.map_cons, List.map_nil]); first | done | rfl) ?_; (with_reducible refine (laws_markByteS.own k1 oki v (x0_1.getD x5_1.toNat z45).f2 (wrap64 (wrap64 (x1_1 + 1) + 1)) t1 t2 w0 _ HB.out hR.out A5.out).mono ?_); rintro e w5 ⟨rfl, hR2, hB2, hK2⟩; refine ⟨_, rfl, ?_⟩))
          go_roundg k1
          case measure => have := HK1.out; omega
          case rel => exact ⟨x0_1.set x5_1.toNat ⟨x1_1, wrap64 (x1_1 + 1), t2⟩, t1, wrap64 (x5_1 + 1), rfl, rfl, H', ⟨by have := HK1.out; omega⟩, ⟨by rw [List.length_set]; exact HL.out⟩, ⟨Kd.H_back (Kd.H_kept HH.out hK2 (fun _ _ hn => hn)) (k45_mkM w5 w0.heap.size oki ⟨x1_1, wrap64 (x1_1 + 1), t2⟩ hR2) (fun _ h_ => h_)⟩, ⟨HK.out.then_ hK2 (fun k_ h_ => .inl (hoki.out k_ h_).1)⟩, ⟨hB2⟩⟩
        · rw [if_neg c4] at H
          exact absurd H (by simp)
      · rw [if_neg c3] at H
        have c3b0 : decide (x5_1 < (l0.length : Int)) = false := decide_eq_false c3
        simp only [Option.some.injEq, Prod.mk.injEq] at H
        obtain ⟨rfl, rfl⟩ := H
        go_wp2
        go_ret
        exact ⟨rfl, HS.out, HB.out, HK.out⟩

/-! ### laws_markWal: function 52 -/
def laws_markWal.f (k : Nat) (a0_0 a0_1 a0_2 a0_3 : Int) (l0_4 : List S45) (a0_5 : Int) (a1 : Int) : Option (Int × List S45) := laws_markRecS.f k l0_4 a1
set_option maxHeartbeats 8000000 in
set_option maxRecDepth 100000 in
theorem laws_markWal.own (k : Nat) (P0_ : Nat → Prop) (a0_0 : Int) (a0_1 : Int) (a0_2 : Int) (a0_3 : Int) (u9000_ : Value) (l0_4 : List S45) (a0_5 : Int) (a1 : Int) (r1 : Int) (r2 : List S45) (w0 w : World) (hB : Below w0.heap.size w0 w) (ho0 : Kd.S k45 45 w w0.heap.size P0_ u9000_ l0_4) (h : laws_markWal.f k a0_0 a0_1 a0_2 a0_3 l0_4 a0_5 a1 = some (r1, r2)) :
    Calls Try.prog 52 #[.agg #[.int .i64 a0_0, .int .i64 a0_1, .int .i64 a0_2, .int .i64 a0_3, u9000_, .int .i64 a0_5], .int .i64 a1] w fun e w' => e = .returned (.int .i64 r1) ∧ Kd.S k45 45 w' w0.heap.size P0_ u9000_ r2 ∧ Below w0.heap.size w0 w' ∧ Kept w w' P0_ := by
  have hu67 := Try.underlying67
  obtain ⟨A0, c0, rfl⟩ := Kd.S_slice ho0
  have HS := Aside0.mk ho0
  have HB := Aside0.mk hB
  have HK := Aside0.mk (Kept.refl w P0_)
  have A3 := Aside0.mk (show laws_markRecS.f k l0_4 a1 = some (r1, r2) from h)
  clear h ho0 hB
  go_enter Try.func52, Try.ntmps52
  go_wp2_with (first | ((with_reducible refine gate_dst (N := 2) rfl ?_); refine box_event ?hg (N := 2) ?hd (cs := #[.int .i64 a0_0, .int .i64 a0_1, .int .i64 a0_2, .int .i64 a0_3, .slice A0 l0_4.length c0, .int .i64 a0_5]) (t := 67) ?hr ?_; (case hd => rfl); (case hg => rfl); (case hr => first | (go_simp; done) | (go_simp; rfl)); intro gb hg w5 hbox hb; have hcz4 : w5.cell? ⟨gb, 4, none⟩ = some (.slice A0 l0_4.length c0) := (blk_cell hbox 4).trans rfl; have hfz4 := blk_frozen hbox 4; replace HK := Aside0.mk (HK.out.below hb); replace HB := Aside0.mk (below_step HB.out hb); replace HS := Aside0.mk (Kd.S_below HS.out hb); clear hb hbox hg) |
    ((with_reducible refine gate_callee (f := 90) rfl ?_); refine goesL_ (some 8) rfl rfl Try.func90 (by kernel_rfl) rfl #[.slice A0 l0_4.length c0, .int .i64 a1] rfl (by (try simp only [List.map_toArray, List.map_cons, List.map_nil]); first | done | rfl) ?_; (with_reducible refine (laws_markRecS.calls k _ _ l0_4 a1 r1 r2 w0 _ HB.out HS.out A3.out).mono ?_); rintro e w6 ⟨rfl, hr, hb, hk⟩; refine ⟨_, rfl, ?_⟩; replace HS := Aside0.mk hr; replace HB := Aside0.mk hb; replace HK := Aside0.mk (HK.out.then_ hk (fun k_ h_ => .inl h_)); clear hr hb hk))
  go_ret
  exact ⟨rfl, HS.out, HB.out, HK.out⟩

end Go.Proofs.Ytkiknhljomobpaa.PFnExactWalOf
