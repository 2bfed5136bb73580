/- FnExactDiskCrash: functions walked by hand. No conditions. -/
import Derived.Test.YtfclobfoghbblaaPFnExactDiskCrashx0
import Derived.Test.YtfclobfoghbblaaPFnExactDiskCrashx1
import Derived.Test.YtfclobfoghbblaaPFnExactDiskCrashx2
import Derived.Test.YtfclobfoghbblaaPFnExactDiskCrashx3
import Derived.Test.YtfclobfoghbblaaPFnExactDiskCrashx4
import Derived.Test.YtfclobfoghbblaaPFnExactDiskCrashx5
import Derived.Test.YtfclobfoghbblaaHw
import Derived.Deep.RegionHeld3
import Derived.Deep.Cut
namespace Go.Proofs.Ytfclobfoghbblaa.PFnExactDiskCrash
open Go.RowKit Go.Proofs.Ytfclobfoghbblaa.Lawful Go.Proofs.YtfclobfoghbblaaW.PrintWords Go.Proofs.YtfclobfoghbblaaW.PrintLast Go.Proofs.YtfclobfoghbblaaW.PrintMore
attribute [local go_sem] max2_int min2_int max_two min_two max_three min_three max_four min_four   -- for this text's walks alone
set_option linter.unusedVariables false
set_option linter.unusedSimpArgs false
/-! ### laws_markByteSS: function 56 -/
theorem laws_markByteS.own (k : Nat) (P0_ : Nat → Prop) (u9000_ : Value) (l0 : List Int) (a1 : Int) (r1 : Int) (r2 : List Int) (w0 w : World) (hB : Below w0.heap.size w0 w) (ho0 : Kd.R (Kd.int .u8) 5 w w0.heap.size P0_ u9000_ l0) (h : laws_markByteS.f k l0 a1 = some (r1, r2)) :
    Calls Try.prog 17 #[u9000_, .int .i64 a1] w fun e w' => e = .returned (.int .i64 r1) ∧ Kd.R (Kd.int .u8) 5 w' w0.heap.size P0_ u9000_ r2 ∧ Below w0.heap.size w0 w' ∧ Kept w w' P0_ :=
  (laws_markByteS.calls k P0_ u9000_ l0 a1 r1 r2 w0 w hB ho0 h).mono fun e w' ⟨he, ho, hb, hk⟩ => ⟨he, Kd.R_mono (Kd.R_tight rfl ho) (fun k hk => ho0.1 k hk.symm), hb, hk⟩
def laws_markByteSS.l0 : Nat → List (List Int) → Int → Int → Option (Int × List (List Int))
  | 0, _, _, _ => none
  | k + 1, x0, x1, x5 => if x5 < (x0.length : Int) then (if 0 ≤ x5 then ((laws_markByteS.f k (x0.getD x5.toNat []) x1).bind fun t => (laws_markByteSS.l0 k (x0.set x5.toNat t.2) t.1 (wrap64 (x5 + 1)))) else (none)) else (some (x1, x0))
def laws_markByteSS.f (k : Nat) (l0 : List (List Int)) (a1 : Int) : Option (Int × List (List Int)) := laws_markByteSS.l0 k l0 a1 0
set_option maxHeartbeats 8000000 in
set_option maxRecDepth 100000 in
theorem laws_markByteSS.calls (k : Nat) (P0_ : Nat → Prop) (u9000_ : Value) (l0 : List (List Int)) (a1 : Int) (r1 : Int) (r2 : List (List Int)) (w0 w : World) (hB : Below w0.heap.size w0 w) (ho0 : Kd.S (Kd.slice 5 (Kd.int .u8)) 22 w w0.heap.size P0_ u9000_ l0) (h : laws_markByteSS.f k l0 a1 = some (r1, r2)) :
    Calls Try.prog 56 #[u9000_, .int .i64 a1] w fun e w' => e = .returned (.int .i64 r1) ∧ Kd.S (Kd.slice 5 (Kd.int .u8)) 22 w' w0.heap.size P0_ u9000_ r2 ∧ Below w0.heap.size w0 w' ∧ Kept w w' P0_ := by
  obtain ⟨A0, c0, rfl⟩ := Kd.S_slice ho0
  have HO0 := Aside0.mk ho0
  have HB0 := Aside0.mk hB
  clear ho0 hB
  have H' := Aside0.mk (show laws_markByteSS.l0 k l0 a1 0 = some (r1, r2) from h)
  clear h
  go_enter Try.func56, Try.ntmps56
  go_wp2
  go_loopg [1, 5] k (fun kq v1 v5 w' => ∃ (x0_1 : List (List Int)) (x1_1 : Int) (x5_1 : Int), v1 = .int .i64 x1_1 ∧ v5 = .int .i64 x5_1 ∧ Aside0 (laws_markByteSS.l0 kq x0_1 x1_1 x5_1 = some (r1, r2)) ∧ Aside0 (kq ≤ k) ∧ Aside0 (x0_1.length = l0.length) ∧ Aside0 (Kd.S (Kd.slice 5 (Kd.int .u8)) 22 w' w0.heap.size P0_ (.slice A0 l0.length c0) x0_1) ∧ Aside0 (Kept w w' P0_) ∧ Aside0 (Below w0.heap.size w0 w'))
  case atStart => exact ⟨l0, a1, 0, rfl, rfl, H', ⟨Nat.le_refl _⟩, ⟨rfl⟩, HO0, ⟨Kept.refl _ _⟩, HB0⟩
  case round =>
    clear H' HO0 HB0
    obtain ⟨x0_1, x1_1, x5_1, rfl, rfl, HA, HK1, HL, HS, HK, HB⟩ := hrel
    cases gk with
    | zero => exact absurd HA.out (by simp [laws_markByteSS.l0])
    | succ k1 =>
      have H := HA.out
      clear HA
      simp only [laws_markByteSS.l0] at H
      rw [HL.out] at H
      by_cases c3 : x5_1 < (l0.length : Int)
      · rw [if_pos c3] at H
        have c3b0 : decide (x5_1 < (l0.length : Int)) = true := decide_eq_true c3
        by_cases c4 : 0 ≤ x5_1
        · rw [if_pos c4] at H
          have c4b0 : decide (0 ≤ x5_1) = true := decide_eq_true c4
          replace H := Option.bind_eq_some_iff.mp H
          obtain ⟨⟨t1, t2⟩, A50, H⟩ := H
          have A5 := Aside0.mk A50
          have H' := Aside0.mk H
          clear A50 H
          obtain ⟨ad, c_, rfl, _⟩ := Kd.C_get (Kd.S_reads' HS.out).2.2 [] x5_1 c4 (by rw [HL.out]; exact c3)
          obtain ⟨g, had⟩ := Kd.R_head (Kd.S_R HS.out)
          have HS2 := HS.out
          rw [had] at HS2
          obtain ⟨oki, c, hcl, hM, hcell, hoki, hH⟩ := Kd.S_lend HS2 [] x5_1 c4 c3
          obtain ⟨v, rfl, hR⟩ := hM
          have hx : wr.cell? (ad.add x5_1.toNat) = some v := by
            rw [had, add_plain]
            have := hcell 0 v rfl
            simpa [Kd.slice] using this
          rw [← had] at hH
          have hR := Aside0.mk hR
          have hH := Aside0.mk hH
          have hoki := Aside0.mk hoki
          clear HS2 hcell hcl had
          replace c3 := eq_true c3
          replace c4 := eq_true c4
          go_wp2_with (first | ((with_reducible refine gate_callee (f := 17) rfl ?_); refine goesL_ (some 17) rfl rfl Try.func17 (by kernel_rfl) rfl #[v, .int .i64 x1_1] rfl (by (try simp only [List.map_toArray, List.map_cons, List.map_nil]); first | done | rfl) ?_; (with_reducible refine (laws_markByteS.own k1 oki v (x0_1.getD x5_1.toNat []) x1_1 t1 t2 w0 _ HB.out hR.out A5.out).mono ?_); rintro e w2 ⟨rfl, hR2, hB2, hK2⟩; refine ⟨_, rfl, ?_⟩))
          go_roundg k1
          case measure => have := HK1.out; omega
          case rel => exact ⟨x0_1.set x5_1.toNat t2, t1, wrap64 (x5_1 + 1), rfl, rfl, H', ⟨by have := HK1.out; omega⟩, ⟨by rw [List.length_set]; exact HL.out⟩, ⟨Kd.H_back (Kd.H_kept hH.out hK2 (fun _ _ hn => hn)) (d := Kd.slice 5 (Kd.int .u8)) ⟨v, rfl, hR2⟩ (fun _ h_ => h_)⟩, ⟨HK.out.then_ hK2 (fun k_ h_ => .inl (hoki.out k_ h_).1)⟩, ⟨hB2⟩⟩
        · rw [if_neg c4] at H
          exact absurd H (by simp)
      · rw [if_neg c3] at H
        have c3b0 : decide (x5_1 < (l0.length : Int)) = false := decide_eq_false c3
        simp only [Option.some.injEq, Prod.mk.injEq] at H
        obtain ⟨rfl, rfl⟩ := H
        go_wp2
        go_ret
        exact ⟨rfl, HS.out, HB.out, HK.out⟩

/-! ### laws_markDisk: function 16 -/
def laws_markDisk.f (k : Nat) (l0_0 : List Int) (l0_1 : List (List Int)) (a1 : Int) : Option (Int × List Int × List (List Int)) := (laws_markByteS.f k l0_0 a1).bind fun t => (laws_markByteSS.f k l0_1 t.1).bind fun t2 => some (t2.1, t.2, t2.2)
set_option maxHeartbeats 8000000 in
set_option maxRecDepth 100000 in
theorem laws_markDisk.own (k : Nat) (P0_ P1_ : Nat → Prop) (u9000_ u9001_ : Value) (l0_0 : List Int) (l0_1 : List (List Int)) (a1 : Int) (r1 : Int) (r2 : List Int) (r3 : List (List Int)) (w0 w : World) (hB : Below w0.heap.size w0 w) (ho0 : Kd.R (Kd.int .u8) 5 w w0.heap.size P0_ u9000_ l0_0) (ho1 : Kd.S (Kd.slice 5 (Kd.int .u8)) 22 w w0.heap.size P1_ u9001_ l0_1) (hd0_1 : ∀ k, P0_ k → ¬ P1_ k) (h : laws_markDisk.f k l0_0 l0_1 a1 = some (r1, r2, r3)) :
    Calls Try.prog 16 #[.agg #[u9000_, u9001_], .int .i64 a1] w fun e w' => e = .returned (.int .i64 r1) ∧ Kd.R (Kd.int .u8) 5 w' w0.heap.size P0_ u9000_ r2 ∧ Kd.S (Kd.slice 5 (Kd.int .u8)) 22 w' w0.heap.size P1_ u9001_ r3 ∧ Below w0.heap.size w0 w' ∧ Kept w w' (fun k => P0_ k ∨ P1_ k) := by
  have hu29 := Try.underlying29
  obtain ⟨A0, c0, rfl⟩ := Kd.R_slice ho0
  obtain ⟨A1, c1, rfl⟩ := Kd.S_slice ho1
  have HR := Aside0.mk (show Kd.R (Kd.int .u8) 5 w w0.heap.size (fun k => P0_ k ∧ k < w.heap.size) (.slice A0 l0_0.length c0) l0_0 from Kd.R_mono (Kd.R_bound ho0) (fun k hk => ⟨hk.1, hk.2.2.1⟩))
  have HS := Aside0.mk (show Kd.S (Kd.slice 5 (Kd.int .u8)) 22 w w0.heap.size (fun k => P1_ k ∧ k < w.heap.size) (.slice A1 l0_1.length c1) l0_1 from Kd.S_mono (Kd.S_bound ho1) (fun k hk => ⟨hk.1, hk.2.2.1⟩))
  have HB := Aside0.mk hB
  have HK := Aside0.mk (Kept.refl w (fun k => P0_ k ∨ P1_ k))
  have HD := Aside0.mk hd0_1
  have H := h
  clear h ho0 ho1 hB hd0_1
  unfold laws_markDisk.f at H
  obtain ⟨⟨t1, t2⟩, A30, H⟩ := Option.bind_eq_some_iff.mp H
  obtain ⟨⟨t3, t4⟩, A40, H⟩ := Option.bind_eq_some_iff.mp H
  simp only [Option.some.injEq, Prod.mk.injEq] at H
  obtain ⟨rfl, rfl, rfl⟩ := H
  have A3 := Aside0.mk A30
  have A4 := Aside0.mk A40
  clear A30 A40
  go_enter Try.func16, Try.ntmps16
  go_wp2_with (first | ((with_reducible refine gate_dst (N := 2) rfl ?_); refine box_event ?hg (N := 2) ?hd (cs := #[.slice A0 l0_0.length c0, .slice A1 l0_1.length c1]) (t := 29) ?hr ?_; (case hd => rfl); (case hg => rfl); (case hr => first | (go_simp; done) | (go_simp; rfl)); intro gb hg w5 hbox hb; have HX := Aside0.mk hbox; have HG := Aside0.mk (show ¬ gb < w.heap.size by rw [hg]; exact Nat.lt_irrefl _); replace HK := Aside0.mk (HK.out.below hb); replace HB := Aside0.mk (below_step HB.out hb); replace HR := Aside0.mk (Kd.R_below HR.out hb); replace HS := Aside0.mk (Kd.S_below HS.out hb); clear hb hbox hg; have hcz6_0 : w5.cell? ⟨gb, 0, none⟩ = some (.slice A0 l0_0.length c0) := (blk_cell HX.out 0).trans rfl; have hcz6_1 : w5.cell? ⟨gb, 1, none⟩ = some (.slice A1 l0_1.length c1) := (blk_cell HX.out 1).trans rfl; have hfz6_0 := blk_frozen HX.out 0; have hfz6_1 := blk_frozen HX.out 1) |
    ((with_reducible refine gate_callee (f := 17) rfl ?_); refine goesL_ (some 8) rfl rfl Try.func17 (by kernel_rfl) rfl #[.slice A0 l0_0.length c0, .int .i64 a1] rfl (by (try simp only [List.map_toArray, List.map_cons, List.map_nil]); first | done | rfl) ?_; (with_reducible refine (laws_markByteS.own k _ _ l0_0 a1 t1 t2 w0 _ HB.out HR.out A3.out).mono ?_); rintro e w6 ⟨rfl, hr, hb, hk⟩; refine ⟨_, rfl, ?_⟩; replace HR := Aside0.mk hr; replace HB := Aside0.mk hb; replace HK := Aside0.mk (HK.out.then_ hk (fun k_ h_ => .inl (.inl h_.1))); replace HS := Aside0.mk (Kd.S_kept HS.out hk (fun k_ h1_ h2_ => HD.out k_ h2_.1 h1_.1)); replace HX := Aside0.mk (blk_kept HX.out hk (fun h_ => HG.out h_.2)); clear hr hb hk; have hcy6_1 : w6.cell? ⟨gb, 1, none⟩ = some (.slice A1 l0_1.length c1) := (blk_cell HX.out 1).trans rfl; have hfy6_1 := blk_frozen HX.out 1) |
    ((with_reducible refine gate_callee (f := 56) rfl ?_); refine goesL_ (some 12) rfl rfl Try.func56 (by kernel_rfl) rfl #[.slice A1 l0_1.length c1, .int .i64 t1] rfl (by (try simp only [List.map_toArray, List.map_cons, List.map_nil]); first | done | rfl) ?_; (with_reducible refine (laws_markByteSS.calls k _ _ l0_1 t1 t3 t4 w0 _ HB.out HS.out A4.out).mono ?_); rintro e w7 ⟨rfl, hr, hb, hk⟩; refine ⟨_, rfl, ?_⟩; replace HS := Aside0.mk hr; replace HB := Aside0.mk hb; replace HK := Aside0.mk (HK.out.then_ hk (fun k_ h_ => .inl (.inr h_.1))); replace HR := Aside0.mk (Kd.R_kept HR.out hk (fun k_ h1_ h2_ => HD.out k_ h1_.1 h2_.1)); clear hr hb hk))
  go_ret
  exact ⟨rfl, Kd.R_mono HR.out (fun _ h_ => h_.1), Kd.S_mono HS.out (fun _ h_ => h_.1), HB.out, HK.out⟩

end Go.Proofs.Ytfclobfoghbblaa.PFnExactDiskCrash
