/- FnExactFeed: functions walked by hand: the frames fed apart. No conditions. -/
import Derived.Test.YtkiknhljomobpaaPFnExactFeedx0
import Derived.Test.YtkiknhljomobpaaPFnExactFeedx1
import Derived.Test.YtkiknhljomobpaaPFnExactFeedx2
import Derived.Test.YtkiknhljomobpaaPFnExactFeedx3
import Derived.Test.YtkiknhljomobpaaPFnExactFeedx4
import Derived.Test.YtkiknhljomobpaaPFnExactFeedx5
import Derived.Test.YtkiknhljomobpaaHw
import Derived.Deep.RegionHeld3
import Derived.Deep.Cut
namespace Go.Proofs.Ytkiknhljomobpaa.PFnExactFeed
open Go.RowKit Go.Proofs.Ytkiknhljomobpaa.Lawful Go.Proofs.YtkiknhljomobpaaW.PrintWords Go.Proofs.YtkiknhljomobpaaW.PrintLast Go.Proofs.YtkiknhljomobpaaW.PrintMore
attribute [local go_sem] max2_int min2_int max_two min_two max_three min_three max_four min_four   -- for this text's walks alone
set_option linter.unusedVariables false
set_option linter.unusedSimpArgs false
/-! ### laws_markByteSS: function 45 -/
theorem laws_markByteS.own (k : Nat) (P0_ : Nat → Prop) (u9000_ : Value) (l0 : List Int) (a1 : Int) (r1 : Int) (r2 : List Int) (w0 w : World) (hB : Below w0.heap.size w0 w) (ho0 : Kd.R (Kd.int .u8) 5 w w0.heap.size P0_ u9000_ l0) (h : laws_markByteS.f k l0 a1 = some (r1, r2)) :
    Calls Try.prog 17 #[u9000_, .int .i64 a1] w fun e w' => e = .returned (.int .i64 r1) ∧ Kd.R (Kd.int .u8) 5 w' w0.heap.size P0_ u9000_ r2 ∧ Below w0.heap.size w0 w' ∧ Kept w w' P0_ :=
  (laws_markByteS.calls k P0_ u9000_ l0 a1 r1 r2 w0 w hB ho0 h).mono fun e w' ⟨he, ho, hb, hk⟩ => ⟨he, Kd.R_mono (Kd.R_tight rfl ho) (fun k hk => ho0.1 k hk.symm), hb, hk⟩
def laws_markByteSS.l0 : Nat → List (List Int) → Int → Int → Option (Int × List (List Int))
  | 0, _, _, _ => none
  | k + 1, x0, x1, x5 => if x5 < (x0.length : Int) then (if 0 ≤ x5 then ((laws_markByteS.f k (x0.getD x5.toNat []) x1).bind fun t => (laws_markByteSS.l0 k (x0.set x5.toNat t.2) t.1 (wrap64 (x5 + 1)))) else (none)) else (some (x1, x0))
def laws_markByteSS.f (k : Nat) (l0 : List (List Int)) (a1 : Int) : Option (Int × List (List Int)) := laws_markByteSS.l0 k l0 a1 0
set_option maxHeartbeats 8000000 in
set_option maxRecDepth 100000 in
theorem laws_markByteSS.calls (k : Nat) (P0_ : Nat → Prop) (u9000_ : Value) (l0 : List (List Int)) (a1 : Int) (r1 : Int) (r2 : List (List Int)) (w0 w : World) (hB : Below w0.heap.size w0 w) (ho0 : Kd.S (Kd.slice 5 (Kd.int .u8)) 22 w w0.heap.size P0_ u9000_ l0) (h : laws_markByteSS.f k l0 a1 = some (r1, r2)) :
    Calls Try.prog 45 #[u9000_, .int .i64 a1] w fun e w' => e = .returned (.int .i64 r1) ∧ Kd.S (Kd.slice 5 (Kd.int .u8)) 22 w' w0.heap.size P0_ u9000_ r2 ∧ Below w0.heap.size w0 w' ∧ Kept w w' P0_ := by
  obtain ⟨A0, c0, rfl⟩ := Kd.S_slice ho0
  have HO0 := Aside0.mk ho0
  have HB0 := Aside0.mk hB
  clear ho0 hB
  have H' := Aside0.mk (show laws_markByteSS.l0 k l0 a1 0 = some (r1, r2) from h)
  clear h
  go_enter Try.func45, Try.ntmps45
  go_wp2
  go_loopg [1, 5] k (fun kq v1 v5 w' => ∃ (x0_1 : List (List Int)) (x1_1 : Int) (x5_1 : Int), v1 = .int .i64 x1_1 ∧ v5 = .int .i64 x5_1 ∧ Aside0 (laws_markByteSS.l0 kq x0_1 x1_1 x5_1 = some (r1, r2)) ∧ Aside0 (kq ≤ k) ∧ Aside0 (x0_1.length = l0.length) ∧ Aside0 (Kd.S (Kd.slice 5 (Kd.int .u8)) 22 w' w0.heap.size P0_ (.slice A0 l0.length c0) x0_1) ∧ Aside0 (Kept w w' P0_) ∧ Aside0 (Below w0.heap.size w0 w'))
  case atStart => exact ⟨l0, a1, 0, rfl, rfl, H', ⟨Nat.le_refl _⟩, ⟨rfl⟩, HO0, ⟨Kept.refl _ _⟩, HB0⟩
  case round =>
    clear H' HO0 HB0
    obtain ⟨x0_1, x1_1, x5_1, rfl, rfl, HA, HK1, HL, HS, HK, HB⟩ := hrel
    cases gk with
    | zero => exact absurd HA.out (by simp [laws_markByteSS.l0])
    | succ k1 =>
      have H := HA.out
      clear HA
      simp only [laws_markByteSS.l0] at H
      rw [HL.out] at H
      by_cases c3 : x5_1 < (l0.length : Int)
      · rw [if_pos c3] at H
        have c3b0 : decide (x5_1 < (l0.length : Int)) = true := decide_eq_true c3
        by_cases c4 : 0 ≤ x5_1
        · rw [if_pos c4] at H
          have c4b0 : decide (0 ≤ x5_1) = true := decide_eq_true c4
          replace H := Option.bind_eq_some_iff.mp H
          obtain ⟨⟨t1, t2⟩, A50, H⟩ := H
          have A5 := Aside0.mk A50
          have H' := Aside0.mk H
          clear A50 H
          obtain ⟨ad, c_, rfl, _⟩ := Kd.C_get (Kd.S_reads' HS.out).2.2 [] x5_1 c4 (by rw [HL.out]; exact c3)
          obtain ⟨g, had⟩ := Kd.R_head (Kd.S_R HS.out)
          have HS2 := HS.out
          rw [had] at HS2
          obtain ⟨oki, c, hcl, hM, hcell, hoki, hH⟩ := Kd.S_lend HS2 [] x5_1 c4 c3
          obtain ⟨v, rfl, hR⟩ := hM
          have hx : wr.cell? (ad.add x5_1.toNat) = some v := by
            rw [had, add_plain]
            have := hcell 0 v rfl
            simpa [Kd.slice] using this
          rw [← had] at hH
          have hR := Aside0.mk hR
          have hH := Aside0.mk hH
          have hoki := Aside0.mk hoki
          clear HS2 hcell hcl had
          replace c3 := eq_true c3
          replace c4 := eq_true c4
          go_wp2_with (first | ((with_reducible refine gate_callee (f := 17) rfl ?_); refine goesL_ (some 17) rfl rfl Try.func17 (by kernel_rfl) rfl #[v, .int .i64 x1_1] rfl (by (try simp only [List.map_toArray, List.map_cons, List.map_nil]); first | done | rfl) ?_; (with_reducible refine (laws_markByteS.own k1 oki v (x0_1.getD x5_1.toNat []) x1_1 t1 t2 w0 _ HB.out hR.out A5.out).mono ?_); rintro e w2 ⟨rfl, hR2, hB2, hK2⟩; refine ⟨_, rfl, ?_⟩))
          go_roundg k1
          case measure => have := HK1.out; omega
          case rel => exact ⟨x0_1.set x5_1.toNat t2, t1, wrap64 (x5_1 + 1), rfl, rfl, H', ⟨by have := HK1.out; omega⟩, ⟨by rw [List.length_set]; exact HL.out⟩, ⟨Kd.H_back (Kd.H_kept hH.out hK2 (fun _ _ hn => hn)) (d := Kd.slice 5 (Kd.int .u8)) ⟨v, rfl, hR2⟩ (fun _ h_ => h_)⟩, ⟨HK.out.then_ hK2 (fun k_ h_ => .inl (hoki.out k_ h_).1)⟩, ⟨hB2⟩⟩
        · rw [if_neg c4] at H
          exact absurd H (by simp)
      · rw [if_neg c3] at H
        have c3b0 : decide (x5_1 < (l0.length : Int)) = false := decide_eq_false c3
        simp only [Option.some.injEq, Prod.mk.injEq] at H
        obtain ⟨rfl, rfl⟩ := H
        go_wp2
        go_ret
        exact ⟨rfl, HS.out, HB.out, HK.out⟩

/-! ### impl_Feed: function 42, by hand -/
set_option maxHeartbeats 8000000 in
set_option maxRecDepth 100000 in
theorem impl_Feed.own (k : Nat) (A0 : Option Addr) (c0 : Nat) (l0 : List Int) (A1 : Option Addr) (c1 : Nat) (l1 : List (List Int)) (r1 : List (List Int)) (r2 : List Int) (r3 : Int) (w : World) (hr0 : Kd.C (Kd.int .u8) w A0 l0.length l0) (hc0 : l0.length ≤ c0) (hr1 : Kd.C (Kd.slice 5 (Kd.int .u8)) w A1 l1.length l1) (hc1 : l1.length ≤ c1) (h : impl_Feed.f k l0 l1 = some (r1, r2, r3)) :
    Calls Try.prog 42 #[.slice A0 l0.length c0, .slice A1 l1.length c1] w fun e w' => ∃ v0_ v1_ : Value, e = .returned (.tuple #[v0_, v1_, .int .i64 r3]) ∧ Kd.S (Kd.slice 5 (Kd.int .u8)) 22 w' w.heap.size (fun k_ => (w.heap.size ≤ k_) ∧ some k_ ≠ (v1_ : Value).ownBlock) v0_ r1 ∧ Kd.R (Kd.int .u8) 5 w' w.heap.size (fun k_ => (w.heap.size ≤ k_)) v1_ r2 ∧ Below w.heap.size w w' := by
  have HB := Aside0.mk (Below.refl w.heap.size w)
  unfold impl_Feed.f at h
  obtain ⟨t1, e1, h⟩ := Option.bind_eq_some_iff.1 h
  obtain ⟨t2, e2, h⟩ := Option.bind_eq_some_iff.1 h
  obtain ⟨t3, e3, h⟩ := Option.bind_eq_some_iff.1 h
  obtain ⟨y1, hy1⟩ : ∃ y_ : List Int, y_ = [t1, t2] := ⟨_, rfl⟩
  rw [← hy1] at e3
  have Ny1 := Aside0.mk hy1
  have E1 := Aside0.mk e1
  have E2 := Aside0.mk e2
  have E3 := Aside0.mk e3
  clear hy1 e1 e2 e3
  by_cases c : t3 = 0
  · rw [if_pos c] at h
    have cb : (t3 == 0) = true := beq_iff_eq.mpr c
    have cb2 : (t3 != 0) = false := bne_eq_false_iff_eq.mpr c
    clear c
    obtain ⟨t4, e4, h⟩ := Option.bind_eq_some_iff.1 h
    obtain ⟨y2, hy2⟩ : ∃ y_ : List (List Int), y_ = [] := ⟨_, rfl⟩
    rw [← hy2] at h
    have Ny2 := Aside0.mk hy2
    have E4 := Aside0.mk e4
    have H' := Aside0.mk h
    clear e4 h hy2
    go_enter Try.func42, Try.ntmps42
    go_wp2_with (first | ((with_reducible refine gate_callee (f := 67) rfl ?_); refine goesL_ (some 16) rfl rfl Try.func67 (by kernel_rfl) rfl #[.slice A0 l0.length c0] rfl (by (try simp only [List.map_toArray, List.map_cons, List.map_nil]); first | done | rfl | (simp only [List.length_drop, List.length_take]; rfl)) ?_; (with_reducible refine (impl_longBytes.calls _ _ l0 t1 _ (Kd.C_below hr0 HB.out) hc0 E1.out).mono ?_); rintro e w2 ⟨rfl, hq⟩; refine ⟨_, rfl, ?_⟩; have hk := kept_drawn hq; replace HB := Aside0.mk (below_drawn HB.out hq); clear hk hq) | ((with_reducible refine gate_callee (f := 83) rfl ?_); refine goesL_ (some 19) rfl rfl Try.func83 (by kernel_rfl) rfl #[.int .i64 (l1.length : Int)] rfl (by (try simp only [List.map_toArray, List.map_cons, List.map_nil]); first | done | rfl | (simp only [List.length_drop, List.length_take]; rfl)) ?_; (with_reducible refine (impl_longList.calls (l1.length : Int) t2 _ E2.out).mono ?_); rintro e w2 ⟨rfl, hq⟩; refine ⟨_, rfl, ?_⟩; have hk := kept_drawn hq; replace HB := Aside0.mk (below_drawn HB.out hq); clear hk hq) | ((with_reducible refine gate_dst (N := 20) rfl ?_); refine Kd.R_lit (Kd.int .i64) _ 3 ?hg (N := 20) ?hd (xs := ([t1, t2] : List Int)) (inner := [.int .i64 t1, .int .i64 t2]) (ok := fun _ => True) (okp := fun _ => True) ?hr ?hp (fun _ hk => hk) trivial (Below.refl _ _) (Nat.le_refl _) (by simp) ?_; (case hd => rfl); (case hg => rfl); (case hr => first | (go_simp; done) | (go_simp; rfl)); (case hp => exact ⟨rfl, fun j p hj => by match j with | 0 => (obtain rfl := Option.some.inj hj; rfl) | 1 => (obtain rfl := Option.some.inj hj; rfl) | _ + 2 => (simp at hj)⟩); intro vF1 w2 hrF1 hb hg_ hnew_; clear hg_ hnew_; rw [← Ny1.out] at hrF1; have hk := kept_below hb; obtain ⟨PF1, hPF1, HLF1⟩ := LR.fresh rfl HB.out hrF1; have HF1 := Aside0.mk HLF1; clear HLF1 hrF1; clear hPF1; obtain ⟨BF1, DF1, e_F1⟩ := HF1.out.val; subst e_F1; replace HB := Aside0.mk (below_step HB.out hb); clear hb hk) | ((with_reducible refine gate_callee (f := 66) rfl ?_); refine goesL_ (some 21) rfl rfl Try.func66 (by kernel_rfl) rfl #[.slice BF1 y1.length DF1] rfl (by (try simp only [List.map_toArray, List.map_cons, List.map_nil]); first | done | rfl | (simp only [List.length_drop, List.length_take]; rfl)) ?_; (with_reducible refine (impl_first.calls k _ _ y1 t3 _ HF1.out.reads HF1.out.room E3.out).mono ?_); rintro e w2 ⟨rfl, hq⟩; refine ⟨_, rfl, ?_⟩; have hk := kept_drawn hq; replace HF1 := Aside0.mk (HF1.out.step hk no_S); replace HB := Aside0.mk (below_drawn HB.out hq); clear hk hq) | ((with_reducible refine gate_callee (f := 84) rfl ?_); refine goesL_ (some 26) rfl rfl Try.func84 (by kernel_rfl) rfl #[.slice A0 l0.length c0] rfl (by (try simp only [List.map_toArray, List.map_cons, List.map_nil]); first | done | rfl | (simp only [List.length_drop, List.length_take]; rfl)) ?_; (with_reducible refine (slices_Clone_byte_byte.calls _ _ l0 t4 _ (Kd.C_below hr0 HB.out) hc0 E4.out).mono ?_); rintro e w2 ⟨vF2, rfl, hrF2, hb⟩; refine ⟨_, rfl, ?_⟩; have hk := kept_below hb; obtain ⟨PF2, hPF2, HLF2⟩ := LR.fresh rfl HB.out hrF2; have HF2 := Aside0.mk HLF2; clear HLF2 hrF2; have D_F1_F2 := Aside0.mk (new_apart HF1.out.lt hPF2); replace HF1 := Aside0.mk (HF1.out.step hk no_S); clear hPF2; obtain ⟨BF2, DF2, e_F2⟩ := HF2.out.val; subst e_F2; replace HB := Aside0.mk (below_step HB.out hb); clear hb hk) | ((with_reducible refine gate_dst (N := 27) rfl ?_); refine Kd.S_lit (Kd.slice 5 (Kd.int .u8)) _ 22 ?hg (N := 27) ?hd (xs := ([] : List (List Int))) (inner := []) (ok := fun _ => True) (okp := fun _ => True) ?hr ?hp (fun _ hk => hk) trivial (Below.refl _ _) (Nat.le_refl _) (by simp) ?_; (case hd => rfl); (case hg => rfl); (case hr => first | (go_simp; done) | (go_simp; rfl)); (case hp => exact (Reps.none _ _)); intro vF3 w2 hrF3 hb hg_ hnew_; clear hg_ hnew_; rw [← Ny2.out] at hrF3; have hk := kept_below hb; obtain ⟨PF3, hPF3, HLF3⟩ := LS.fresh HB.out hrF3; have HF3 := Aside0.mk HLF3; clear HLF3 hrF3; have D_F1_F3 := Aside0.mk (new_apart HF1.out.lt hPF3); have D_F2_F3 := Aside0.mk (new_apart HF2.out.lt hPF3); replace HF1 := Aside0.mk (HF1.out.step hk no_S); replace HF2 := Aside0.mk (HF2.out.step hk no_S); clear hPF3; obtain ⟨BF3, DF3, e_F3⟩ := HF3.out.val; subst e_F3; replace HB := Aside0.mk (below_step HB.out hb); clear hb hk))
    go_loopg [8, 9, 30] k (fun kq v8 v9 v30 w' => ∃ (x8 : List Int) (x9 : List (List Int)) (x30 : Int) (P8 P9 : Nat → Prop), v30 = .int .i64 x30 ∧ Aside0 (impl_Feed.l0 kq x8 x9 l1 (l1.length : Int) x30 = some (r1, r2, r3)) ∧ Aside0 (kq ≤ k) ∧ Aside0 (LR (Kd.int .u8) 5 w' w.heap.size P8 v8 x8) ∧ Aside0 (LS (Kd.slice 5 (Kd.int .u8)) 22 w' w.heap.size P9 v9 x9) ∧ Aside0 (∀ k_, P8 k_ → ¬ P9 k_) ∧ Aside0 (Below w.heap.size w w'))
    case atStart => exact ⟨t4, y2, 0, PF2, PF3, rfl, H', ⟨Nat.le_refl _⟩, HF2, HF3, ⟨D_F2_F3.out⟩, HB⟩
    case round =>
      clear H' HB HF1 HF2 HF3
      obtain ⟨x8, x9, x30, P8, P9, rfl, HA, HK1, H8, H9, D_8_9, HB⟩ := hrel
      cases gk with
      | zero => exact absurd HA.out (by simp [impl_Feed.l0])
      | succ k1 =>
        have H := HA.out
        clear HA
        simp only [impl_Feed.l0] at H
        obtain ⟨B8, D8, e_8⟩ := H8.out.val
        subst e_8
        obtain ⟨B9, D9, e_9⟩ := H9.out.val
        subst e_9
        by_cases c1 : x30 < (l1.length : Int)
        · rw [if_pos c1] at H
          by_cases c2 : 0 ≤ x30
          · rw [if_pos c2, if_pos c1] at H
            have cb1 : decide (x30 < (l1.length : Int)) = true := decide_eq_true c1
            have cb2 : decide (0 ≤ x30) = true := decide_eq_true c2
            obtain ⟨adx, Ax, cx, ex, hx, hlx, hix⟩ := at_L2 hr1 x30 c2 c1
            cases ex
            replace hx := (HB.out.cell (World.block_lt_of_cell? w _ hx)).trans hx
            obtain ⟨z, hz⟩ : ∃ z, z = rd_L2 l1 x30 := ⟨_, rfl⟩
            rw [← hz] at H hx hlx hix
            have HIX := Aside0.mk hix
            have HLX := Aside0.mk hlx
            have HR0 := Aside0.mk hr1
            clear hix hlx hr1 hz
            replace c1 := eq_true c1
            replace c2 := eq_true c2
            by_cases c3 : wrap64 ((x8.length : Int) + (z.length : Int)) > 65536
            · rw [if_pos c3] at H
              have cb3 : decide (65536 < wrap64 ((x8.length : Int) + (z.length : Int))) = true := decide_eq_true c3
              clear c3
              simp only [Option.some.injEq, Prod.mk.injEq] at H
              obtain ⟨rfl, rfl, rfl⟩ := H
              go_wp2
              go_ret3
              exact ⟨_, _, rfl, Kd.S_nil _ _ _ _ _, Kd.R_nil _ _ _ _ _, HB.out⟩
            · rw [if_neg c3] at H
              have cb3 : decide (65536 < wrap64 ((x8.length : Int) + (z.length : Int))) = false := decide_eq_false c3
              clear c3
              by_cases c4 : x8.length + z.length < 140737488355328
              · rw [if_pos c4] at H
                have LM4 := Aside0.mk c4
                clear c4
                simp only [Option.bind_some] at H
                obtain ⟨y3, hy3⟩ : ∃ y_ : List Int, y_ = x8 ++ z := ⟨_, rfl⟩
                rw [← hy3] at H
                have Ny3 := Aside0.mk hy3
                clear hy3
                obtain ⟨⟨t5, t6, t7⟩, e5, H⟩ := Option.bind_eq_some_iff.1 H
                have E5 := Aside0.mk e5
                clear e5
                simp only at H
                by_cases c5 : t7 = 0
                · rw [if_pos c5] at H
                  have cb5 : (t7 == 0) = true := beq_iff_eq.mpr c5
                  have cb52 : (t7 != 0) = false := bne_eq_false_iff_eq.mpr c5
                  clear c5
                  by_cases c6 : x9.length + t5.length < 5864062014805
                  · rw [if_pos c6] at H
                    have LM6 := Aside0.mk c6
                    clear c6
                    by_cases c7 : 0 ≤ t6
                    · rw [if_pos c7] at H
                      by_cases c8 : t6 ≤ (y3.length : Int)
                      · rw [if_pos c8] at H
                        obtain ⟨y4, hy4⟩ : ∃ y_ : List Int, y_ = y3.drop t6.toNat := ⟨_, rfl⟩
                        rw [← hy4] at H
                        obtain ⟨t8, e8, H⟩ := Option.bind_eq_some_iff.1 H
                        obtain ⟨y5, hy5⟩ : ∃ y_ : List (List Int), y_ = x9 ++ t5 := ⟨_, rfl⟩
                        rw [← hy5] at H
                        have Ny5 := Aside0.mk hy5
                        have Ny4 := Aside0.mk hy4
                        have E8 := Aside0.mk e8
                        have H' := Aside0.mk H
                        clear H e8 hy4 hy5
                        have C7 := Aside0.mk c7
                        have C8 := Aside0.mk c8
                        clear c7 c8
                        go_upto_region 14 with (first | ((with_reducible refine gate_builtin (b := .append) (xs := #[.tmp 40, .tmp 41]) rfl ?_); at_builtin; refine LR.append_read (Kd.int .u8) (w0 := w) rfl (.tmp 40) (.tmp 41) 22 5 (.int .u8 0) 1 rfl Try.underlying22 info5 rfl (by decide) (by omega) (.slice B8 x8.length D8) x8 z _ _ _ rfl rfl (fun _ _ h_ => h_) H8.out (Kd.C_below HIX.out HB.out) HB.out ?aL ?_; (case aL => have := LM4.out; omega); intro PF4 v_ w2 HL hb hk hR; have D_9_F4 := Aside0.mk (apart_app hR H9.out.lt (apart_symm D_8_9.out)); replace H9 := Aside0.mk (H9.out.step hk (apart_symm D_8_9.out)); rw [← Ny3.out] at HL; have HF4 := Aside0.mk HL; replace HB := Aside0.mk hb; clear hR HL hb hk; clear H8; obtain ⟨BF4, DF4, e_F4⟩ := HF4.out.val; subst e_F4) | ((with_reducible refine gate_callee (f := 77) rfl ?_); refine goesL_ (some 45) rfl rfl Try.func77 (by kernel_rfl) rfl #[.slice BF4 y3.length DF4] rfl (by (try simp only [List.map_toArray, List.map_cons, List.map_nil]); first | done | rfl | (simp only [List.length_drop, List.length_take]; rfl)) ?_; (with_reducible refine (impl_unframe.calls k1 _ _ y3 t5 t6 t7 _ HF4.out.reads HF4.out.room E5.out).mono ?_); rintro e w2 ⟨vF5, rfl, hrF5, hb⟩; refine ⟨_, rfl, ?_⟩; have hk := kept_below hb; obtain ⟨PF5, hPF5, HLF5⟩ := LS.fresh HB.out hrF5; have HF5 := Aside0.mk HLF5; clear HLF5 hrF5; have D_9_F5 := Aside0.mk (new_apart H9.out.lt hPF5); have D_F4_F5 := Aside0.mk (new_apart HF4.out.lt hPF5); replace H9 := Aside0.mk (H9.out.step hk no_S); replace HF4 := Aside0.mk (HF4.out.step hk no_S); clear hPF5; obtain ⟨BF5, DF5, e_F5⟩ := HF5.out.val; subst e_F5; replace HB := Aside0.mk (below_step HB.out hb); clear hb hk))
                        obtain ⟨i05, hi05, _, hsz5, _⟩ := info_parts info5
                        obtain ⟨A5, c5, hlc5, hcut5, hC5⟩ := cut_drop (d := (Kd.int .u8)) (P := Try.prog) 22 5 .i64 Try.underlying22 hi05 hsz5 BF4 DF4 t6 y4 Ny4.out HF4.out.room C7.out C8.out
                        have HLC5 := Aside0.mk hlc5
                        have HC5 := Aside0.mk hC5
                        clear hlc5 hC5 hi05 hsz5
                        go_region_held3 (fun w' => True) (go_keep) (first | ((try (generalize hwd_ : World.drew _ = wd_; have hk := kept_drew hwd_; replace H9 := Aside0.mk (H9.out.step hk no_S); replace HF4 := Aside0.mk (HF4.out.step hk no_S); replace HF5 := Aside0.mk (HF5.out.step hk no_S); replace HB := Aside0.mk (below_drewd HB.out hwd_); clear hk hwd_; skip)); (refine LS.append_rows_step (Kd.slice 5 (Kd.int .u8)) (w0 := w) (by rfl) (.tmp 52) (.tmp 53) 51 22 (.slice none 0 0) 24 rfl Try.underlying51 info22 rfl (by decide) (by omega) (.slice B9 x9.length D9) x9 t5 _ _ _ rfl rfl H9.out HF5.out D_9_F5.out HB.out ?aL ?_; (case aL => have := LM6.out; omega); intro PF6 v_ w2 HL hb hk hR; have D_F4_F6 := Aside0.mk (apart_app hR HF4.out.lt (apart_or (apart_symm D_9_F4.out) D_F4_F5.out)); replace HF4 := Aside0.mk (HF4.out.step hk (apart_symm D_9_F4.out)); rw [← Ny5.out] at HL; have HF6 := Aside0.mk HL; replace HB := Aside0.mk hb; clear hR HL hb hk; clear H9; clear HF5; obtain ⟨BF6, DF6, e_F6⟩ := HF6.out.val; subst e_F6)) | (go_at_call 84; (with_reducible refine (slices_Clone_byte_byte.calls _ _ y4 t8 _ (HC5.out _ HF4.out.reads) HLC5.out E8.out).mono ?_); rintro e w2 ⟨vF7, rfl, hrF7, hb⟩; have hk := kept_below hb; obtain ⟨PF7, hPF7, HLF7⟩ := LR.fresh rfl HB.out hrF7; have HF7 := Aside0.mk HLF7; clear HLF7 hrF7; have D_F4_F7 := Aside0.mk (new_apart HF4.out.lt hPF7); have D_F6_F7 := Aside0.mk (new_apart HF6.out.lt hPF7); replace HF4 := Aside0.mk (HF4.out.step hk no_S); replace HF6 := Aside0.mk (HF6.out.step hk no_S); clear hPF7; obtain ⟨BF7, DF7, e_F7⟩ := HF7.out.val; subst e_F7; replace HB := Aside0.mk (below_step HB.out hb); clear hb hk))
                        go_wp2
                        go_roundg k1
                        case measure => have := HK1.out; omega
                        case rel => exact ⟨t8, y5, wrap64 (x30 + 1), PF7, PF6, rfl, H', ⟨by have := HK1.out; omega⟩, HF7, HF6, ⟨(apart_symm D_F6_F7.out)⟩, HB⟩
                      · rw [if_neg c8] at H
                        exact absurd H (by simp)
                    · rw [if_neg c7] at H
                      exact absurd H (by simp)
                  · rw [if_neg c6] at H
                    exact absurd H (by simp)
                · rw [if_neg c5] at H
                  have cb5 : (t7 == 0) = false := beq_eq_false_iff_ne.mpr c5
                  have cb52 : (t7 != 0) = true := bne_iff_ne.mpr c5
                  clear c5
                  simp only [Option.some.injEq, Prod.mk.injEq] at H
                  obtain ⟨rfl, rfl, rfl⟩ := H
                  go_wp2_with (first | ((with_reducible refine gate_builtin (b := .append) (xs := #[.tmp 40, .tmp 41]) rfl ?_); at_builtin; refine LR.append_read (Kd.int .u8) (w0 := w) rfl (.tmp 40) (.tmp 41) 22 5 (.int .u8 0) 1 rfl Try.underlying22 info5 rfl (by decide) (by omega) (.slice B8 x8.length D8) x8 z _ _ _ rfl rfl (fun _ _ h_ => h_) H8.out (Kd.C_below HIX.out HB.out) HB.out ?aL ?_; (case aL => have := LM4.out; omega); intro PF4 v_ w2 HL hb hk hR; have D_9_F4 := Aside0.mk (apart_app hR H9.out.lt (apart_symm D_8_9.out)); replace H9 := Aside0.mk (H9.out.step hk (apart_symm D_8_9.out)); rw [← Ny3.out] at HL; have HF4 := Aside0.mk HL; replace HB := Aside0.mk hb; clear hR HL hb hk; clear H8; obtain ⟨BF4, DF4, e_F4⟩ := HF4.out.val; subst e_F4) | ((with_reducible refine gate_callee (f := 77) rfl ?_); refine goesL_ (some 45) rfl rfl Try.func77 (by kernel_rfl) rfl #[.slice BF4 y3.length DF4] rfl (by (try simp only [List.map_toArray, List.map_cons, List.map_nil]); first | done | rfl | (simp only [List.length_drop, List.length_take]; rfl)) ?_; (with_reducible refine (impl_unframe.calls k1 _ _ y3 t5 t6 t7 _ HF4.out.reads HF4.out.room E5.out).mono ?_); rintro e w2 ⟨vF5, rfl, hrF5, hb⟩; refine ⟨_, rfl, ?_⟩; have hk := kept_below hb; obtain ⟨PF5, hPF5, HLF5⟩ := LS.fresh HB.out hrF5; have HF5 := Aside0.mk HLF5; clear HLF5 hrF5; have D_9_F5 := Aside0.mk (new_apart H9.out.lt hPF5); have D_F4_F5 := Aside0.mk (new_apart HF4.out.lt hPF5); replace H9 := Aside0.mk (H9.out.step hk no_S); replace HF4 := Aside0.mk (HF4.out.step hk no_S); clear hPF5; obtain ⟨BF5, DF5, e_F5⟩ := HF5.out.val; subst e_F5; replace HB := Aside0.mk (below_step HB.out hb); clear hb hk))
                  go_ret3
                  exact ⟨_, _, rfl, Kd.S_nil _ _ _ _ _, Kd.R_nil _ _ _ _ _, HB.out⟩
              · rw [if_neg c4] at H
                exact absurd H (by simp)
          · rw [if_neg c2] at H
            exact absurd H (by simp)
        · rw [if_neg c1] at H
          have cb1 : decide (x30 < (l1.length : Int)) = false := decide_eq_false c1
          clear c1
          simp only [Option.some.injEq, Prod.mk.injEq] at H
          obtain ⟨rfl, rfl, rfl⟩ := H
          go_wp2
          go_ret3
          exact ⟨_, _, rfl, LS.out H9.out H8.out.1.1 D_8_9.out, LR.out H8.out, HB.out⟩
  · rw [if_neg c] at h
    have cb : (t3 == 0) = false := beq_eq_false_iff_ne.mpr c
    have cb2 : (t3 != 0) = true := bne_iff_ne.mpr c
    clear c
    simp only [Option.some.injEq, Prod.mk.injEq] at h
    obtain ⟨rfl, rfl, rfl⟩ := h
    go_enter Try.func42, Try.ntmps42
    go_wp2_with (first | ((with_reducible refine gate_callee (f := 67) rfl ?_); refine goesL_ (some 16) rfl rfl Try.func67 (by kernel_rfl) rfl #[.slice A0 l0.length c0] rfl (by (try simp only [List.map_toArray, List.map_cons, List.map_nil]); first | done | rfl | (simp only [List.length_drop, List.length_take]; rfl)) ?_; (with_reducible refine (impl_longBytes.calls _ _ l0 t1 _ (Kd.C_below hr0 HB.out) hc0 E1.out).mono ?_); rintro e w2 ⟨rfl, hq⟩; refine ⟨_, rfl, ?_⟩; have hk := kept_drawn hq; replace HB := Aside0.mk (below_drawn HB.out hq); clear hk hq) | ((with_reducible refine gate_callee (f := 83) rfl ?_); refine goesL_ (some 19) rfl rfl Try.func83 (by kernel_rfl) rfl #[.int .i64 (l1.length : Int)] rfl (by (try simp only [List.map_toArray, List.map_cons, List.map_nil]); first | done | rfl | (simp only [List.length_drop, List.length_take]; rfl)) ?_; (with_reducible refine (impl_longList.calls (l1.length : Int) t2 _ E2.out).mono ?_); rintro e w2 ⟨rfl, hq⟩; refine ⟨_, rfl, ?_⟩; have hk := kept_drawn hq; replace HB := Aside0.mk (below_drawn HB.out hq); clear hk hq) | ((with_reducible refine gate_dst (N := 20) rfl ?_); refine Kd.R_lit (Kd.int .i64) _ 3 ?hg (N := 20) ?hd (xs := ([t1, t2] : List Int)) (inner := [.int .i64 t1, .int .i64 t2]) (ok := fun _ => True) (okp := fun _ => True) ?hr ?hp (fun _ hk => hk) trivial (Below.refl _ _) (Nat.le_refl _) (by simp) ?_; (case hd => rfl); (case hg => rfl); (case hr => first | (go_simp; done) | (go_simp; rfl)); (case hp => exact ⟨rfl, fun j p hj => by match j with | 0 => (obtain rfl := Option.some.inj hj; rfl) | 1 => (obtain rfl := Option.some.inj hj; rfl) | _ + 2 => (simp at hj)⟩); intro vF8 w2 hrF8 hb hg_ hnew_; clear hg_ hnew_; rw [← Ny1.out] at hrF8; have hk := kept_below hb; obtain ⟨PF8, hPF8, HLF8⟩ := LR.fresh rfl HB.out hrF8; have HF8 := Aside0.mk HLF8; clear HLF8 hrF8; clear hPF8; obtain ⟨BF8, DF8, e_F8⟩ := HF8.out.val; subst e_F8; replace HB := Aside0.mk (below_step HB.out hb); clear hb hk) | ((with_reducible refine gate_callee (f := 66) rfl ?_); refine goesL_ (some 21) rfl rfl Try.func66 (by kernel_rfl) rfl #[.slice BF8 y1.length DF8] rfl (by (try simp only [List.map_toArray, List.map_cons, List.map_nil]); first | done | rfl | (simp only [List.length_drop, List.length_take]; rfl)) ?_; (with_reducible refine (impl_first.calls k _ _ y1 t3 _ HF8.out.reads HF8.out.room E3.out).mono ?_); rintro e w2 ⟨rfl, hq⟩; refine ⟨_, rfl, ?_⟩; have hk := kept_drawn hq; replace HF8 := Aside0.mk (HF8.out.step hk no_S); replace HB := Aside0.mk (below_drawn HB.out hq); clear hk hq))
    go_ret3
    exact ⟨_, _, rfl, Kd.S_nil _ _ _ _ _, Kd.R_nil _ _ _ _ _, HB.out⟩
/-! ### spec_Feed: function 54, by hand -/
set_option maxHeartbeats 8000000 in
set_option maxRecDepth 100000 in
theorem spec_Feed.own (k : Nat) (A0 : Option Addr) (c0 : Nat) (l0 : List Int) (A1 : Option Addr) (c1 : Nat) (l1 : List (List Int)) (r1 : List (List Int)) (r2 : List Int) (r3 : Int) (w : World) (hr0 : Kd.C (Kd.int .u8) w A0 l0.length l0) (hc0 : l0.length ≤ c0) (hr1 : Kd.C (Kd.slice 5 (Kd.int .u8)) w A1 l1.length l1) (hc1 : l1.length ≤ c1) (h : spec_Feed.f k l0 l1 = some (r1, r2, r3)) :
    Calls Try.prog 54 #[.slice A0 l0.length c0, .slice A1 l1.length c1] w fun e w' => ∃ v0_ v1_ : Value, e = .returned (.tuple #[v0_, v1_, .int .i64 r3]) ∧ Kd.S (Kd.slice 5 (Kd.int .u8)) 22 w' w.heap.size (fun k_ => (w.heap.size ≤ k_) ∧ some k_ ≠ (v1_ : Value).ownBlock) v0_ r1 ∧ Kd.R (Kd.int .u8) 5 w' w.heap.size (fun k_ => (w.heap.size ≤ k_)) v1_ r2 ∧ Below w.heap.size w w' := by
  have HB := Aside0.mk (Below.refl w.heap.size w)
  unfold spec_Feed.f at h
  simp only [Option.bind_some] at h
  obtain ⟨y1, hy1⟩ : ∃ y_ : List (List Int), y_ = [] := ⟨_, rfl⟩
  rw [← hy1] at h
  have Ny1 := Aside0.mk hy1
  obtain ⟨yb, hyb⟩ : ∃ y_ : List Int, y_ = [] := ⟨_, rfl⟩
  have Nyb := Aside0.mk hyb
  by_cases c : (l0.length : Int) > 65536
  · rw [if_pos c] at h
    have cb : decide (65536 < (l0.length : Int)) = true := decide_eq_true c
    clear c
    cases k with
    | zero => exact absurd h (by simp [spec_Feed.j0])
    | succ k =>
      simp only [spec_Feed.j0] at h
      simp only [if_true, Option.some.injEq, Prod.mk.injEq] at h
      obtain ⟨rfl, h2, rfl⟩ := h
      rw [← hyb] at h2
      subst h2
      clear hyb hy1
      go_enter Try.func54, Try.ntmps54
      go_wp2_with (first | ((with_reducible refine gate_dst (N := 14) rfl ?_); refine Kd.S_lit (Kd.slice 5 (Kd.int .u8)) _ 22 ?hg (N := 14) ?hd (xs := ([] : List (List Int))) (inner := []) (ok := fun _ => True) (okp := fun _ => True) ?hr ?hp (fun _ hk => hk) trivial (Below.refl _ _) (Nat.le_refl _) (by simp) ?_; (case hd => rfl); (case hg => rfl); (case hr => first | (go_simp; done) | (go_simp; rfl)); (case hp => exact (Reps.none _ _)); intro vF1 w2 hrF1 hb hg_ hnew_; clear hg_ hnew_; rw [← Ny1.out] at hrF1; have hk := kept_below hb; obtain ⟨PF1, hPF1, HLF1⟩ := LS.fresh HB.out hrF1; have HF1 := Aside0.mk HLF1; clear HLF1 hrF1; clear hPF1; obtain ⟨BF1, DF1, e_F1⟩ := HF1.out.val; subst e_F1; replace HB := Aside0.mk (below_step HB.out hb); clear hb hk) | ((with_reducible refine gate_dst (N := 24) rfl ?_); refine Kd.R_lit (Kd.int .u8) _ 5 ?hg (N := 24) ?hd (xs := ([] : List Int)) (inner := []) (ok := fun _ => True) (okp := fun _ => True) ?hr ?hp (fun _ hk => hk) trivial (Below.refl _ _) (Nat.le_refl _) (by simp) ?_; (case hd => rfl); (case hg => rfl); (case hr => first | (go_simp; done) | (go_simp; rfl)); (case hp => exact (Reps.none _ _)); intro vF2 w2 hrF2 hb hg_ hnew_; clear hg_ hnew_; rw [← Nyb.out] at hrF2; have hk := kept_below hb; obtain ⟨PF2, hPF2, HLF2⟩ := LR.fresh rfl HB.out hrF2; have HF2 := Aside0.mk HLF2; clear HLF2 hrF2; have D_F1_F2 := Aside0.mk (new_apart HF1.out.lt hPF2); replace HF1 := Aside0.mk (HF1.out.step hk no_S); clear hPF2; obtain ⟨BF2, DF2, e_F2⟩ := HF2.out.val; subst e_F2; replace HB := Aside0.mk (below_step HB.out hb); clear hb hk))
      go_ret3
      exact ⟨_, _, rfl, LS.out HF1.out HF2.out.1.1 (apart_symm D_F1_F2.out), LR.out HF2.out, HB.out⟩
  · rw [if_neg c] at h
    have cb : decide (65536 < (l0.length : Int)) = false := decide_eq_false c
    clear c
    by_cases c : (l1.length : Int) > 4096
    · rw [decide_eq_true c] at h
      have cb2 : decide (4096 < (l1.length : Int)) = true := decide_eq_true c
      clear c
      cases k with
      | zero => exact absurd h (by simp [spec_Feed.j0])
      | succ k =>
        simp only [spec_Feed.j0] at h
        simp only [if_true, Option.some.injEq, Prod.mk.injEq] at h
        obtain ⟨rfl, h2, rfl⟩ := h
        rw [← hyb] at h2
        subst h2
        clear hyb hy1
        go_enter Try.func54, Try.ntmps54
        go_wp2_with (first | ((with_reducible refine gate_dst (N := 14) rfl ?_); refine Kd.S_lit (Kd.slice 5 (Kd.int .u8)) _ 22 ?hg (N := 14) ?hd (xs := ([] : List (List Int))) (inner := []) (ok := fun _ => True) (okp := fun _ => True) ?hr ?hp (fun _ hk => hk) trivial (Below.refl _ _) (Nat.le_refl _) (by simp) ?_; (case hd => rfl); (case hg => rfl); (case hr => first | (go_simp; done) | (go_simp; rfl)); (case hp => exact (Reps.none _ _)); intro vF1 w2 hrF1 hb hg_ hnew_; clear hg_ hnew_; rw [← Ny1.out] at hrF1; have hk := kept_below hb; obtain ⟨PF1, hPF1, HLF1⟩ := LS.fresh HB.out hrF1; have HF1 := Aside0.mk HLF1; clear HLF1 hrF1; clear hPF1; obtain ⟨BF1, DF1, e_F1⟩ := HF1.out.val; subst e_F1; replace HB := Aside0.mk (below_step HB.out hb); clear hb hk) | ((with_reducible refine gate_dst (N := 24) rfl ?_); refine Kd.R_lit (Kd.int .u8) _ 5 ?hg (N := 24) ?hd (xs := ([] : List Int)) (inner := []) (ok := fun _ => True) (okp := fun _ => True) ?hr ?hp (fun _ hk => hk) trivial (Below.refl _ _) (Nat.le_refl _) (by simp) ?_; (case hd => rfl); (case hg => rfl); (case hr => first | (go_simp; done) | (go_simp; rfl)); (case hp => exact (Reps.none _ _)); intro vF2 w2 hrF2 hb hg_ hnew_; clear hg_ hnew_; rw [← Nyb.out] at hrF2; have hk := kept_below hb; obtain ⟨PF2, hPF2, HLF2⟩ := LR.fresh rfl HB.out hrF2; have HF2 := Aside0.mk HLF2; clear HLF2 hrF2; have D_F1_F2 := Aside0.mk (new_apart HF1.out.lt hPF2); replace HF1 := Aside0.mk (HF1.out.step hk no_S); clear hPF2; obtain ⟨BF2, DF2, e_F2⟩ := HF2.out.val; subst e_F2; replace HB := Aside0.mk (below_step HB.out hb); clear hb hk))
        go_ret3
        exact ⟨_, _, rfl, LS.out HF1.out HF2.out.1.1 (apart_symm D_F1_F2.out), LR.out HF2.out, HB.out⟩
    · rw [decide_eq_false c] at h
      have cb2 : decide (4096 < (l1.length : Int)) = false := decide_eq_false c
      clear c
      cases k with
      | zero => exact absurd h (by simp [spec_Feed.j0])
      | succ k =>
      simp only [spec_Feed.j0] at h
      rw [if_neg (by simp)] at h
      simp only [Option.bind_some] at h
      rw [← hyb] at h
      by_cases c : yb.length + l0.length < 140737488355328
      · rw [if_pos c] at h
        have LM0 := Aside0.mk c
        obtain ⟨y2, hy2⟩ : ∃ y_ : List (List Int), y_ = [] := ⟨_, rfl⟩
        obtain ⟨y3, hy3⟩ : ∃ y_ : List Int, y_ = yb ++ l0 := ⟨_, rfl⟩
        rw [← hy2, ← hy3] at h
        have Ny2 := Aside0.mk hy2
        have Ny3 := Aside0.mk hy3
        have H' := Aside0.mk h
        clear h hy2 hy3 hy1 hyb c
        go_enter Try.func54, Try.ntmps54
        go_wp2_with (first | ((with_reducible refine gate_dst (N := 14) rfl ?_); refine Kd.S_lit (Kd.slice 5 (Kd.int .u8)) _ 22 ?hg (N := 14) ?hd (xs := ([] : List (List Int))) (inner := []) (ok := fun _ => True) (okp := fun _ => True) ?hr ?hp (fun _ hk => hk) trivial (Below.refl _ _) (Nat.le_refl _) (by simp) ?_; (case hd => rfl); (case hg => rfl); (case hr => first | (go_simp; done) | (go_simp; rfl)); (case hp => exact (Reps.none _ _)); intro vF1 w2 hrF1 hb hg_ hnew_; clear hg_ hnew_; rw [← Ny1.out] at hrF1; have hk := kept_below hb; obtain ⟨PF1, hPF1, HLF1⟩ := LS.fresh HB.out hrF1; have HF1 := Aside0.mk HLF1; clear HLF1 hrF1; clear hPF1; obtain ⟨BF1, DF1, e_F1⟩ := HF1.out.val; subst e_F1; replace HB := Aside0.mk (below_step HB.out hb); clear hb hk) | ((with_reducible refine gate_dst (N := 25) rfl ?_); refine Kd.S_lit (Kd.slice 5 (Kd.int .u8)) _ 22 ?hg (N := 25) ?hd (xs := ([] : List (List Int))) (inner := []) (ok := fun _ => True) (okp := fun _ => True) ?hr ?hp (fun _ hk => hk) trivial (Below.refl _ _) (Nat.le_refl _) (by simp) ?_; (case hd => rfl); (case hg => rfl); (case hr => first | (go_simp; done) | (go_simp; rfl)); (case hp => exact (Reps.none _ _)); intro vF3 w2 hrF3 hb hg_ hnew_; clear hg_ hnew_; rw [← Ny2.out] at hrF3; have hk := kept_below hb; obtain ⟨PF3, hPF3, HLF3⟩ := LS.fresh HB.out hrF3; have HF3 := Aside0.mk HLF3; clear HLF3 hrF3; have D_F1_F3 := Aside0.mk (new_apart HF1.out.lt hPF3); replace HF1 := Aside0.mk (HF1.out.step hk no_S); clear hPF3; obtain ⟨BF3, DF3, e_F3⟩ := HF3.out.val; subst e_F3; replace HB := Aside0.mk (below_step HB.out hb); clear hb hk) | ((with_reducible refine gate_dst (N := 26) rfl ?_); refine Kd.R_lit (Kd.int .u8) _ 5 ?hg (N := 26) ?hd (xs := ([] : List Int)) (inner := []) (ok := fun _ => True) (okp := fun _ => True) ?hr ?hp (fun _ hk => hk) trivial (Below.refl _ _) (Nat.le_refl _) (by simp) ?_; (case hd => rfl); (case hg => rfl); (case hr => first | (go_simp; done) | (go_simp; rfl)); (case hp => exact (Reps.none _ _)); intro vF4 w2 hrF4 hb hg_ hnew_; clear hg_ hnew_; rw [← Nyb.out] at hrF4; have hk := kept_below hb; obtain ⟨PF4, hPF4, HLF4⟩ := LR.fresh rfl HB.out hrF4; have HF4 := Aside0.mk HLF4; clear HLF4 hrF4; have D_F1_F4 := Aside0.mk (new_apart HF1.out.lt hPF4); have D_F3_F4 := Aside0.mk (new_apart HF3.out.lt hPF4); replace HF1 := Aside0.mk (HF1.out.step hk no_S); replace HF3 := Aside0.mk (HF3.out.step hk no_S); clear hPF4; obtain ⟨BF4, DF4, e_F4⟩ := HF4.out.val; subst e_F4; replace HB := Aside0.mk (below_step HB.out hb); clear hb hk) | ((with_reducible refine gate_builtin (b := .append) (xs := #[.tmp 26, .tmp 27]) rfl ?_); at_builtin; refine LR.append_read (Kd.int .u8) (w0 := w) rfl (.tmp 26) (.tmp 27) 22 5 (.int .u8 0) 1 rfl Try.underlying22 info5 rfl (by decide) (by omega) (.slice BF4 yb.length DF4) yb l0 _ _ _ rfl rfl (fun _ _ h_ => h_) HF4.out (Kd.C_below hr0 HB.out) HB.out ?aL ?_; (case aL => have := LM0.out; omega); intro PF5 v_ w2 HL hb hk hR; have D_F1_F5 := Aside0.mk (apart_app hR HF1.out.lt D_F1_F4.out); have D_F3_F5 := Aside0.mk (apart_app hR HF3.out.lt D_F3_F4.out); replace HF1 := Aside0.mk (HF1.out.step hk D_F1_F4.out); replace HF3 := Aside0.mk (HF3.out.step hk D_F3_F4.out); rw [← Ny3.out] at HL; have HF5 := Aside0.mk HL; replace HB := Aside0.mk hb; clear hR HL hb hk; clear HF4; obtain ⟨BF5, DF5, e_F5⟩ := HF5.out.val; subst e_F5))
        go_loopg [8, 9, 10] k (fun kq v8 v9 v10 w' => ∃ (x8 : List (List Int)) (x9 : List Int) (x10 : Int) (P7 P8 P9 : Nat → Prop), v10 = .int .i64 x10 ∧ Aside0 (spec_Feed.l0 kq l1 y1 x8 x9 x10 = some (r1, r2, r3)) ∧ Aside0 (kq ≤ k) ∧ Aside0 (LS (Kd.slice 5 (Kd.int .u8)) 22 w' w.heap.size P7 (.slice BF1 y1.length DF1) y1) ∧ Aside0 (LS (Kd.slice 5 (Kd.int .u8)) 22 w' w.heap.size P8 v8 x8) ∧ Aside0 (LR (Kd.int .u8) 5 w' w.heap.size P9 v9 x9) ∧ Aside0 (∀ k_, P7 k_ → ¬ P8 k_) ∧ Aside0 (∀ k_, P7 k_ → ¬ P9 k_) ∧ Aside0 (∀ k_, P8 k_ → ¬ P9 k_) ∧ Aside0 (Below w.heap.size w w'))
        case atStart => exact ⟨y2, y3, 0, PF1, PF3, PF5, rfl, H', ⟨Nat.le_refl _⟩, HF1, HF3, HF5, ⟨D_F1_F3.out⟩, ⟨D_F1_F5.out⟩, ⟨D_F3_F5.out⟩, HB⟩
        case round =>
          clear H' HB HF1 HF3 HF5
          obtain ⟨x8, x9, x10, P7, P8, P9, rfl, HA, HK1, H7, H8, H9, D_7_8, D_7_9, D_8_9, HB⟩ := hrel
          cases gk with
          | zero => exact absurd HA.out (by simp [spec_Feed.l0])
          | succ k1 =>
            have H := HA.out
            clear HA
            simp only [spec_Feed.l0] at H
            obtain ⟨B8, D8, e_8⟩ := H8.out.val
            subst e_8
            obtain ⟨B9, D9, e_9⟩ := H9.out.val
            subst e_9
            by_cases c1 : x10 < (l1.length : Int)
            · rw [if_pos c1] at H
              by_cases c2 : 0 ≤ x10
              · rw [if_pos c2] at H
                have cb1 : decide (x10 < (l1.length : Int)) = true := decide_eq_true c1
                have cb2 : decide (0 ≤ x10) = true := decide_eq_true c2
                obtain ⟨adx, Ax, cx, ex, hx, hlx, hix⟩ := at_L2 hr1 x10 c2 c1
                cases ex
                replace hx := (HB.out.cell (World.block_lt_of_cell? w _ hx)).trans hx
                obtain ⟨z, hz⟩ : ∃ z, z = rd_L2 l1 x10 := ⟨_, rfl⟩
                rw [← hz] at H hx hlx hix
                have HIX := Aside0.mk hix
                have HLX := Aside0.mk hlx
                have HR0 := Aside0.mk hr1
                clear hix hlx hr1 hz
                replace c1 := eq_true c1
                replace c2 := eq_true c2
                by_cases c3 : wrap64 ((x9.length : Int) + (z.length : Int)) > 65536
                · rw [if_pos c3] at H
                  have cb3 : decide (65536 < wrap64 ((x9.length : Int) + (z.length : Int))) = true := decide_eq_true c3
                  clear c3
                  simp only [Option.some.injEq, Prod.mk.injEq] at H
                  obtain ⟨rfl, h2, rfl⟩ := H
                  rw [← Nyb.out] at h2
                  subst h2
                  go_wp2_with (first | ((with_reducible refine gate_dst (N := 45) rfl ?_); refine Kd.R_lit (Kd.int .u8) _ 5 ?hg (N := 45) ?hd (xs := ([] : List Int)) (inner := []) (ok := fun _ => True) (okp := fun _ => True) ?hr ?hp (fun _ hk => hk) trivial (Below.refl _ _) (Nat.le_refl _) (by simp) ?_; (case hd => rfl); (case hg => rfl); (case hr => first | (go_simp; done) | (go_simp; rfl)); (case hp => exact (Reps.none _ _)); intro vF6 w2 hrF6 hb hg_ hnew_; clear hg_ hnew_; rw [← Nyb.out] at hrF6; have hk := kept_below hb; obtain ⟨PF6, hPF6, HLF6⟩ := LR.fresh rfl HB.out hrF6; have HF6 := Aside0.mk HLF6; clear HLF6 hrF6; have D_7_F6 := Aside0.mk (new_apart H7.out.lt hPF6); have D_8_F6 := Aside0.mk (new_apart H8.out.lt hPF6); have D_9_F6 := Aside0.mk (new_apart H9.out.lt hPF6); replace H7 := Aside0.mk (H7.out.step hk no_S); replace H8 := Aside0.mk (H8.out.step hk no_S); replace H9 := Aside0.mk (H9.out.step hk no_S); clear hPF6; obtain ⟨BF6, DF6, e_F6⟩ := HF6.out.val; subst e_F6; replace HB := Aside0.mk (below_step HB.out hb); clear hb hk))
                  go_ret3
                  exact ⟨_, _, rfl, LS.out H7.out HF6.out.1.1 (apart_symm D_7_F6.out), LR.out HF6.out, HB.out⟩
                · rw [if_neg c3] at H
                  have cb3 : decide (65536 < wrap64 ((x9.length : Int) + (z.length : Int))) = false := decide_eq_false c3
                  clear c3
                  by_cases c4 : x9.length + z.length < 140737488355328
                  · rw [if_pos c4] at H
                    have LM4 := Aside0.mk c4
                    clear c4
                    simp only [Option.bind_some] at H
                    obtain ⟨y4, hy4⟩ : ∃ y_ : List Int, y_ = x9 ++ z := ⟨_, rfl⟩
                    rw [← hy4] at H
                    have Ny4 := Aside0.mk hy4
                    clear hy4
                    obtain ⟨⟨t5, t6, t7⟩, e5, H⟩ := Option.bind_eq_some_iff.1 H
                    have E5 := Aside0.mk e5
                    clear e5
                    simp only at H
                    by_cases c5 : t7 = 0
                    · rw [if_pos c5] at H
                      have cb5 : (t7 == 0) = true := beq_iff_eq.mpr c5
                      have cb52 : (t7 != 0) = false := bne_eq_false_iff_eq.mpr c5
                      clear c5
                      by_cases c6 : x8.length + t5.length < 5864062014805
                      · rw [if_pos c6] at H
                        have LM6 := Aside0.mk c6
                        clear c6
                        by_cases c7 : 0 ≤ t6
                        · rw [if_pos c7] at H
                          by_cases c8 : t6 ≤ (y4.length : Int)
                          · rw [if_pos c8] at H
                            obtain ⟨y5, hy5⟩ : ∃ y_ : List Int, y_ = y4.drop t6.toNat := ⟨_, rfl⟩
                            rw [← hy5, ← Nyb.out] at H
                            by_cases c9 : yb.length + y5.length < 140737488355328
                            · rw [if_pos c9] at H
                              have LM9 := Aside0.mk c9
                              obtain ⟨y6, hy6⟩ : ∃ y_ : List (List Int), y_ = x8 ++ t5 := ⟨_, rfl⟩
                              obtain ⟨y7, hy7⟩ : ∃ y_ : List Int, y_ = yb ++ y5 := ⟨_, rfl⟩
                              rw [← hy6, ← hy7] at H
                              have Ny5 := Aside0.mk hy5
                              have Ny6 := Aside0.mk hy6
                              have Ny7 := Aside0.mk hy7
                              have H' := Aside0.mk H
                              clear H hy5 hy6 hy7 c9
                              have C7 := Aside0.mk c7
                              have C8 := Aside0.mk c8
                              clear c7 c8
                              go_upto_region 13 with (first | ((with_reducible refine gate_builtin (b := .append) (xs := #[.tmp 46, .tmp 50]) rfl ?_); at_builtin; refine LR.append_read (Kd.int .u8) (w0 := w) rfl (.tmp 46) (.tmp 50) 22 5 (.int .u8 0) 1 rfl Try.underlying22 info5 rfl (by decide) (by omega) (.slice B9 x9.length D9) x9 z _ _ _ rfl rfl (fun _ _ h_ => h_) H9.out (Kd.C_below HIX.out HB.out) HB.out ?aL ?_; (case aL => have := LM4.out; omega); intro PF7 v_ w2 HL hb hk hR; have D_7_F7 := Aside0.mk (apart_app hR H7.out.lt D_7_9.out); have D_8_F7 := Aside0.mk (apart_app hR H8.out.lt D_8_9.out); replace H7 := Aside0.mk (H7.out.step hk D_7_9.out); replace H8 := Aside0.mk (H8.out.step hk D_8_9.out); rw [← Ny4.out] at HL; have HF7 := Aside0.mk HL; replace HB := Aside0.mk hb; clear hR HL hb hk; clear H9; obtain ⟨BF7, DF7, e_F7⟩ := HF7.out.val; subst e_F7) | ((with_reducible refine gate_callee (f := 85) rfl ?_); refine goesL_ (some 54) rfl rfl Try.func85 (by kernel_rfl) rfl #[.slice BF7 y4.length DF7] rfl (by (try simp only [List.map_toArray, List.map_cons, List.map_nil]); first | done | rfl | (simp only [List.length_drop, List.length_take]; rfl)) ?_; (with_reducible refine (spec_l01All.calls k1 _ _ y4 t5 t6 t7 _ HF7.out.reads HF7.out.room E5.out).mono ?_); rintro e w2 ⟨vF8, rfl, hrF8, hb⟩; refine ⟨_, rfl, ?_⟩; have hk := kept_below hb; obtain ⟨PF8, hPF8, HLF8⟩ := LS.fresh HB.out hrF8; have HF8 := Aside0.mk HLF8; clear HLF8 hrF8; have D_7_F8 := Aside0.mk (new_apart H7.out.lt hPF8); have D_8_F8 := Aside0.mk (new_apart H8.out.lt hPF8); have D_F7_F8 := Aside0.mk (new_apart HF7.out.lt hPF8); replace H7 := Aside0.mk (H7.out.step hk no_S); replace H8 := Aside0.mk (H8.out.step hk no_S); replace HF7 := Aside0.mk (HF7.out.step hk no_S); clear hPF8; obtain ⟨BF8, DF8, e_F8⟩ := HF8.out.val; subst e_F8; replace HB := Aside0.mk (below_step HB.out hb); clear hb hk))
                              obtain ⟨i05, hi05, _, hsz5, _⟩ := info_parts info5
                              obtain ⟨A5, c5, hlc5, hcut5, hC5⟩ := cut_drop (d := (Kd.int .u8)) (P := Try.prog) 22 5 .i64 Try.underlying22 hi05 hsz5 BF7 DF7 t6 y5 Ny5.out HF7.out.room C7.out C8.out
                              have HLC5 := Aside0.mk hlc5
                              have HC5 := Aside0.mk hC5
                              clear hlc5 hC5 hi05 hsz5
                              go_wp2_with (first | ((with_reducible refine gate_builtin (b := .append) (xs := #[.tmp 63, .tmp 64]) rfl ?_); at_builtin; refine LS.append_rows (Kd.slice 5 (Kd.int .u8)) (w0 := w) rfl (.tmp 63) (.tmp 64) 51 22 (.slice none 0 0) 24 rfl Try.underlying51 info22 rfl (by decide) (by omega) (.slice B8 x8.length D8) x8 t5 _ _ _ rfl rfl H8.out HF8.out D_8_F8.out HB.out ?aL ?_; (case aL => have := LM6.out; omega); intro PF9 v_ w2 HL hb hk hR; have D_7_F9 := Aside0.mk (apart_app hR H7.out.lt (apart_or D_7_8.out D_7_F8.out)); have D_F7_F9 := Aside0.mk (apart_app hR HF7.out.lt (apart_or (apart_symm D_8_F7.out) D_F7_F8.out)); replace H7 := Aside0.mk (H7.out.step hk D_7_8.out); replace HF7 := Aside0.mk (HF7.out.step hk (apart_symm D_8_F7.out)); rw [← Ny6.out] at HL; have HF9 := Aside0.mk HL; replace HB := Aside0.mk hb; clear hR HL hb hk; clear H8; clear HF8; obtain ⟨BF9, DF9, e_F9⟩ := HF9.out.val; subst e_F9) | ((with_reducible refine gate_dst (N := 66) rfl ?_); refine Kd.R_lit (Kd.int .u8) _ 5 ?hg (N := 66) ?hd (xs := ([] : List Int)) (inner := []) (ok := fun _ => True) (okp := fun _ => True) ?hr ?hp (fun _ hk => hk) trivial (Below.refl _ _) (Nat.le_refl _) (by simp) ?_; (case hd => rfl); (case hg => rfl); (case hr => first | (go_simp; done) | (go_simp; rfl)); (case hp => exact (Reps.none _ _)); intro vF10 w2 hrF10 hb hg_ hnew_; clear hg_ hnew_; rw [← Nyb.out] at hrF10; have hk := kept_below hb; obtain ⟨PF10, hPF10, HLF10⟩ := LR.fresh rfl HB.out hrF10; have HF10 := Aside0.mk HLF10; clear HLF10 hrF10; have D_7_F10 := Aside0.mk (new_apart H7.out.lt hPF10); have D_F7_F10 := Aside0.mk (new_apart HF7.out.lt hPF10); have D_F9_F10 := Aside0.mk (new_apart HF9.out.lt hPF10); replace H7 := Aside0.mk (H7.out.step hk no_S); replace HF7 := Aside0.mk (HF7.out.step hk no_S); replace HF9 := Aside0.mk (HF9.out.step hk no_S); clear hPF10; obtain ⟨BF10, DF10, e_F10⟩ := HF10.out.val; subst e_F10; replace HB := Aside0.mk (below_step HB.out hb); clear hb hk) | ((with_reducible refine gate_builtin (b := .append) (xs := #[.tmp 66, .tmp 69]) rfl ?_); at_builtin; refine LR.append_read (Kd.int .u8) (w0 := w) rfl (.tmp 66) (.tmp 69) 22 5 (.int .u8 0) 1 rfl Try.underlying22 info5 rfl (by decide) (by omega) (.slice BF10 yb.length DF10) yb y5 _ _ _ rfl rfl (fun _ _ h_ => h_) HF10.out (HC5.out _ HF7.out.reads) HB.out ?aL ?_; (case aL => have := LM9.out; omega); intro PF11 v_ w2 HL hb hk hR; have D_7_F11 := Aside0.mk (apart_app hR H7.out.lt D_7_F10.out); have D_F7_F11 := Aside0.mk (apart_app hR HF7.out.lt D_F7_F10.out); have D_F9_F11 := Aside0.mk (apart_app hR HF9.out.lt D_F9_F10.out); replace H7 := Aside0.mk (H7.out.step hk D_7_F10.out); replace HF7 := Aside0.mk (HF7.out.step hk D_F7_F10.out); replace HF9 := Aside0.mk (HF9.out.step hk D_F9_F10.out); rw [← Ny7.out] at HL; have HF11 := Aside0.mk HL; replace HB := Aside0.mk hb; clear hR HL hb hk; clear HF10; obtain ⟨BF11, DF11, e_F11⟩ := HF11.out.val; subst e_F11))
                              go_roundg k1
                              case measure => have := HK1.out; omega
                              case rel => exact ⟨y6, y7, wrap64 (x10 + 1), P7, PF9, PF11, rfl, H', ⟨by have := HK1.out; omega⟩, H7, HF9, HF11, ⟨D_7_F9.out⟩, ⟨D_7_F11.out⟩, ⟨D_F9_F11.out⟩, HB⟩
                            · rw [if_neg c9] at H
                              exact absurd H (by simp)
                          · rw [if_neg c8] at H
                            exact absurd H (by simp)
                        · rw [if_neg c7] at H
                          exact absurd H (by simp)
                      · rw [if_neg c6] at H
                        exact absurd H (by simp)
                    · rw [if_neg c5] at H
                      have cb5 : (t7 == 0) = false := beq_eq_false_iff_ne.mpr c5
                      have cb52 : (t7 != 0) = true := bne_iff_ne.mpr c5
                      clear c5
                      simp only [Option.some.injEq, Prod.mk.injEq] at H
                      obtain ⟨rfl, h2, rfl⟩ := H
                      rw [← Nyb.out] at h2
                      subst h2
                      go_wp2_with (first | ((with_reducible refine gate_builtin (b := .append) (xs := #[.tmp 46, .tmp 50]) rfl ?_); at_builtin; refine LR.append_read (Kd.int .u8) (w0 := w) rfl (.tmp 46) (.tmp 50) 22 5 (.int .u8 0) 1 rfl Try.underlying22 info5 rfl (by decide) (by omega) (.slice B9 x9.length D9) x9 z _ _ _ rfl rfl (fun _ _ h_ => h_) H9.out (Kd.C_below HIX.out HB.out) HB.out ?aL ?_; (case aL => have := LM4.out; omega); intro PF7 v_ w2 HL hb hk hR; have D_7_F7 := Aside0.mk (apart_app hR H7.out.lt D_7_9.out); have D_8_F7 := Aside0.mk (apart_app hR H8.out.lt D_8_9.out); replace H7 := Aside0.mk (H7.out.step hk D_7_9.out); replace H8 := Aside0.mk (H8.out.step hk D_8_9.out); rw [← Ny4.out] at HL; have HF7 := Aside0.mk HL; replace HB := Aside0.mk hb; clear hR HL hb hk; clear H9; obtain ⟨BF7, DF7, e_F7⟩ := HF7.out.val; subst e_F7) | ((with_reducible refine gate_callee (f := 85) rfl ?_); refine goesL_ (some 54) rfl rfl Try.func85 (by kernel_rfl) rfl #[.slice BF7 y4.length DF7] rfl (by (try simp only [List.map_toArray, List.map_cons, List.map_nil]); first | done | rfl | (simp only [List.length_drop, List.length_take]; rfl)) ?_; (with_reducible refine (spec_l01All.calls k1 _ _ y4 t5 t6 t7 _ HF7.out.reads HF7.out.room E5.out).mono ?_); rintro e w2 ⟨vF8, rfl, hrF8, hb⟩; refine ⟨_, rfl, ?_⟩; have hk := kept_below hb; obtain ⟨PF8, hPF8, HLF8⟩ := LS.fresh HB.out hrF8; have HF8 := Aside0.mk HLF8; clear HLF8 hrF8; have D_7_F8 := Aside0.mk (new_apart H7.out.lt hPF8); have D_8_F8 := Aside0.mk (new_apart H8.out.lt hPF8); have D_F7_F8 := Aside0.mk (new_apart HF7.out.lt hPF8); replace H7 := Aside0.mk (H7.out.step hk no_S); replace H8 := Aside0.mk (H8.out.step hk no_S); replace HF7 := Aside0.mk (HF7.out.step hk no_S); clear hPF8; obtain ⟨BF8, DF8, e_F8⟩ := HF8.out.val; subst e_F8; replace HB := Aside0.mk (below_step HB.out hb); clear hb hk) | ((with_reducible refine gate_dst (N := 61) rfl ?_); refine Kd.R_lit (Kd.int .u8) _ 5 ?hg (N := 61) ?hd (xs := ([] : List Int)) (inner := []) (ok := fun _ => True) (okp := fun _ => True) ?hr ?hp (fun _ hk => hk) trivial (Below.refl _ _) (Nat.le_refl _) (by simp) ?_; (case hd => rfl); (case hg => rfl); (case hr => first | (go_simp; done) | (go_simp; rfl)); (case hp => exact (Reps.none _ _)); intro vF12 w2 hrF12 hb hg_ hnew_; clear hg_ hnew_; rw [← Nyb.out] at hrF12; have hk := kept_below hb; obtain ⟨PF12, hPF12, HLF12⟩ := LR.fresh rfl HB.out hrF12; have HF12 := Aside0.mk HLF12; clear HLF12 hrF12; have D_7_F12 := Aside0.mk (new_apart H7.out.lt hPF12); have D_8_F12 := Aside0.mk (new_apart H8.out.lt hPF12); have D_F7_F12 := Aside0.mk (new_apart HF7.out.lt hPF12); have D_F8_F12 := Aside0.mk (new_apart HF8.out.lt hPF12); replace H7 := Aside0.mk (H7.out.step hk no_S); replace H8 := Aside0.mk (H8.out.step hk no_S); replace HF7 := Aside0.mk (HF7.out.step hk no_S); replace HF8 := Aside0.mk (HF8.out.step hk no_S); clear hPF12; obtain ⟨BF12, DF12, e_F12⟩ := HF12.out.val; subst e_F12; replace HB := Aside0.mk (below_step HB.out hb); clear hb hk))
                      go_ret3
                      exact ⟨_, _, rfl, LS.out H7.out HF12.out.1.1 (apart_symm D_7_F12.out), LR.out HF12.out, HB.out⟩
                  · rw [if_neg c4] at H
                    exact absurd H (by simp)
              · rw [if_neg c2] at H
                exact absurd H (by simp)
            · rw [if_neg c1] at H
              have cb1 : decide (x10 < (l1.length : Int)) = false := decide_eq_false c1
              clear c1
              simp only [Option.some.injEq, Prod.mk.injEq] at H
              obtain ⟨rfl, rfl, rfl⟩ := H
              go_wp2
              go_ret3
              exact ⟨_, _, rfl, LS.out H8.out H9.out.1.1 (apart_symm D_8_9.out), LR.out H9.out, HB.out⟩
      · rw [if_neg c] at h
        exact absurd h (by simp)
end Go.Proofs.Ytkiknhljomobpaa.PFnExactFeed
