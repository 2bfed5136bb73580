/- FnDisk: functions walked by hand. No conditions. -/
import Derived.Test.YtfclobfoghbblaaPFnDiskx0
import Derived.Test.YtfclobfoghbblaaPFnDiskx1
import Derived.Test.YtfclobfoghbblaaPFnDiskx2
import Derived.Test.YtfclobfoghbblaaPFnDiskx3
import Derived.Test.YtfclobfoghbblaaPFnDiskx4
import Derived.Test.YtfclobfoghbblaaPFnDiskx5
import Derived.Test.YtfclobfoghbblaaPFnDiskx6
import Derived.Test.YtfclobfoghbblaaHw
import Derived.Deep.RegionHeld3
import Derived.Deep.Cut
namespace Go.Proofs.Ytfclobfoghbblaa.PFnDisk
open Go.RowKit Go.Proofs.Ytfclobfoghbblaa.Lawful Go.Proofs.YtfclobfoghbblaaW.PrintWords Go.Proofs.YtfclobfoghbblaaW.PrintLast Go.Proofs.YtfclobfoghbblaaW.PrintMore
attribute [local go_sem] max2_int min2_int max_two min_two max_three min_three max_four min_four   -- for this text's walks alone
set_option linter.unusedVariables false
set_option linter.unusedSimpArgs false
/-! ### impl_Disk_act: function 72, by hand -/
def impl_Disk_act.f (k : Nat) (l0 : List Int) (l1 : List (List Int)) (a0 a1 a2 : Int) (l3 : List Int) : Option (Int × List Int × List (List Int)) :=
  if a0 = 1 then (impl_Disk_size.f k l0 l1).bind fun t => (if wrap64 (t + (l3.length : Int)) > 8192 then some (7, l0, l1) else (slices_Clone_byte_byte.f l3).bind fun c => (if l1.length < 5864062014805 then some (0, l0, l1 ++ [c]) else none))
  else if a0 = 2 then (impl_Disk_bytes.f k l0 l1).bind fun t => some (0, t, [])
  else if a0 = 3 then (if a1 < 0 then some (5, l0, l1) else if a2 < 0 then some (5, l0, l1) else (impl_Disk_crash.f k l0 l1 a1 a2).bind fun t => some (0, t.1, t.2))
  else if a0 = 4 then (impl_Disk_size.f k l0 l1).bind fun t => (impl_within.f a1 0 t).bind fun b => (if b = true then (impl_Disk_bytes.f k l0 l1).bind fun y => (if 0 ≤ a1 then (if a1 ≤ (y.length : Int) then some (0, y.take a1.toNat, []) else none) else none) else some (5, l0, l1))
  else some (3, l0, l1)
/-- What an act leaves: the disk at its place, its rows of those that it had or new. -/
def impl_Disk_act.Post (PG P0 P1 : Nat → Prop) (gG : Nat) (r1 : Int) (r2 : List Int) (r3 : List (List Int)) (w ws : World) (e : Ending) (w' : World) : Prop :=
  ∃ (v0 v1 : Value) (Q0 Q1 : Nat → Prop), e = .returned (.int .i64 r1) ∧ LB w' PG gG 29 #[v0, v1] ∧ LR (Kd.int .u8) 5 w' w.heap.size Q0 v0 r2 ∧ LS (Kd.slice 5 (Kd.int .u8)) 22 w' w.heap.size Q1 v1 r3 ∧ (∀ k_, PG k_ → ¬ Q0 k_) ∧ (∀ k_, PG k_ → ¬ Q1 k_) ∧ (∀ k_, Q0 k_ → ¬ Q1 k_) ∧
    (∀ k_, Q0 k_ → (fun k_ => (PG k_ ∨ P0 k_) ∨ P1 k_) k_ ∨ ws.heap.size ≤ k_) ∧ (∀ k_, Q1 k_ → (fun k_ => (PG k_ ∨ P0 k_) ∨ P1 k_) k_ ∨ ws.heap.size ≤ k_) ∧ Below w.heap.size w w' ∧ Kept ws w' (fun k_ => (PG k_ ∨ P0 k_) ∨ P1 k_)
def impl_Disk_act.T4 : Bool × List (List Nat × List Nat) := (true, [([], []), ([0], [0]), ([1], [1]), ([2], [2]), ([], []), ([4], [4]), ([5], [5]), ([3, 6], [3, 6]), ([7], [7])])
def impl_Disk_act.B4 : List Nat := [0, 1, 3, 7, 0, 16, 48, 127, 255]
theorem impl_Disk_act.tab4 : rtab .any (opsOf Try.f72 4) = impl_Disk_act.T4 := by kernel_rfl
theorem impl_Disk_act.bits4 : waitsOk impl_Disk_act.T4.2 impl_Disk_act.B4 = true := by kernel_rfl
def impl_Disk_act.T6 : Bool × List (List Nat × List Nat) := (true, [([], []), ([], []), ([1], [1]), ([2], [2]), ([3], [3]), ([], []), ([5], [5]), ([6], [6]), ([7], [7]), ([4, 8, 7], [4, 8]), ([0, 0, 1, 2, 3, 4, 5, 6, 7, 8, 9], [0]), ([10, 0, 1, 2, 3, 4, 5, 6, 7, 8, 9], [10]), ([11, 9, 9, 0, 1, 2, 3, 4, 5, 6, 7, 8, 9], [9, 11])])
def impl_Disk_act.B6 : List Nat := [0, 0, 2, 6, 14, 0, 32, 96, 224, 510, 1023, 2047, 4095]
theorem impl_Disk_act.tab6 : rtab .any (opsOf Try.f72 6) = impl_Disk_act.T6 := by kernel_rfl
theorem impl_Disk_act.bits6 : waitsOk impl_Disk_act.T6.2 impl_Disk_act.B6 = true := by kernel_rfl
def impl_Disk_act.T12 : Bool × List (List Nat × List Nat) := (true, [([], []), ([], []), ([1], [1]), ([2], [2]), ([], []), ([4], [4]), ([], []), ([6], [6]), ([3, 5, 7], [3, 5, 7]), ([0, 0, 1, 2, 3, 4, 5, 6, 7, 8], [0]), ([9, 8, 8, 0, 1, 2, 3, 4, 5, 6, 7, 8], [8, 9])])
def impl_Disk_act.B12 : List Nat := [0, 0, 2, 6, 0, 16, 0, 64, 254, 511, 1023]
theorem impl_Disk_act.tab12 : rtab .any (opsOf Try.f72 12) = impl_Disk_act.T12 := by kernel_rfl
theorem impl_Disk_act.bits12 : waitsOk impl_Disk_act.T12.2 impl_Disk_act.B12 = true := by kernel_rfl
def impl_Disk_act.T14 : Bool × List (List Nat × List Nat) := (true, [([], []), ([0], [0]), ([], []), ([2], [2]), ([3], [3]), ([4], [4]), ([1, 5, 5], [1, 5]), ([6], [6])])
def impl_Disk_act.B14 : List Nat := [0, 1, 0, 4, 12, 28, 63, 127]
theorem impl_Disk_act.tab14 : rtab .any (opsOf Try.f72 14) = impl_Disk_act.T14 := by kernel_rfl
theorem impl_Disk_act.bits14 : waitsOk impl_Disk_act.T14.2 impl_Disk_act.B14 = true := by kernel_rfl
def impl_Disk_act.T16 : Bool × List (List Nat × List Nat) := (true, [([], []), ([], []), ([1], [1]), ([2], [2]), ([3], [3]), ([], []), ([5], [5]), ([4, 6], [4, 6]), ([7], [7]), ([0, 0, 1, 2, 3, 4, 5, 6, 7, 8], [0]), ([9, 8, 4, 0, 1, 2, 3, 4, 5, 6, 7, 8], [8, 9])])
def impl_Disk_act.B16 : List Nat := [0, 0, 2, 6, 14, 0, 32, 126, 254, 511, 1023]
theorem impl_Disk_act.tab16 : rtab .any (opsOf Try.f72 16) = impl_Disk_act.T16 := by kernel_rfl
theorem impl_Disk_act.bits16 : waitsOk impl_Disk_act.T16.2 impl_Disk_act.B16 = true := by kernel_rfl
set_option maxHeartbeats 16000000 in
set_option maxRecDepth 100000 in
theorem impl_Disk_act.own (k : Nat) (PG P0 P1 : Nat → Prop) (gG : Nat) (v0 v1 : Value) (l0 : List Int) (l1 : List (List Int)) (a0 a1 a2 : Int) (A3 : Option Addr) (c3 : Nat) (l3 : List Int) (r1 : Int) (r2 : List Int) (r3 : List (List Int)) (w ws : World) (hB : Below w.heap.size w ws) (hge : w.heap.size ≤ gG) (hG : LB ws PG gG 29 #[v0, v1]) (h0 : LR (Kd.int .u8) 5 ws w.heap.size P0 v0 l0) (h1 : LS (Kd.slice 5 (Kd.int .u8)) 22 ws w.heap.size P1 v1 l1)
    (d0 : ∀ k_, PG k_ → ¬ P0 k_) (d1 : ∀ k_, PG k_ → ¬ P1 k_) (d01 : ∀ k_, P0 k_ → ¬ P1 k_) (hr3 : Kd.C (Kd.int .u8) w A3 l3.length l3) (hc3 : l3.length ≤ c3) (h : impl_Disk_act.f k l0 l1 a0 a1 a2 l3 = some (r1, r2, r3)) :
    Calls Try.prog 72 #[.pointer (some ⟨gG, 0, none⟩), .agg #[.int .i64 a0, .int .i64 a1, .int .i64 a2, .slice A3 l3.length c3]] ws fun e w' => impl_Disk_act.Post PG P0 P1 gG r1 r2 r3 w ws e w' := by
  have hu := Try.underlying29
  have hu2 := Try.underlying100
  have HG := Aside0.mk hG
  have H0 := Aside0.mk h0
  have H1 := Aside0.mk h1
  have D_G_0 := Aside0.mk d0
  have D_G_1 := Aside0.mk d1
  have D_0_1 := Aside0.mk d01
  have HR3 := Aside0.mk hr3
  have HL3 := Aside0.mk hc3
  have HB := Aside0.mk hB
  have GEG := Aside0.mk hge
  have HK := Aside0.mk (Kept.refl ws (fun k_ => (PG k_ ∨ P0 k_) ∨ P1 k_))
  have RRG := Aside0.mk (show ∀ k_, PG k_ → (fun k_ => (PG k_ ∨ P0 k_) ∨ P1 k_) k_ ∨ ws.heap.size ≤ k_ from fun _ h_ => .inl (.inl (.inl h_)))
  have RR0 := Aside0.mk (show ∀ k_, P0 k_ → (fun k_ => (PG k_ ∨ P0 k_) ∨ P1 k_) k_ ∨ ws.heap.size ≤ k_ from fun _ h_ => .inl (.inl (.inr h_)))
  have RR1 := Aside0.mk (show ∀ k_, P1 k_ → (fun k_ => (PG k_ ∨ P0 k_) ∨ P1 k_) k_ ∨ ws.heap.size ≤ k_ from fun _ h_ => .inl (.inr h_))
  clear hG h0 h1 d0 d1 d01 hr3 hc3 hB hge
  obtain ⟨B0, D0, e_0⟩ := H0.out.val
  subst e_0
  obtain ⟨B1, D1, e_1⟩ := H1.out.val
  subst e_1
  (try clear hxG_0 hfG_0 hxG_1 hfG_1)
  have hxG_0 := (HG.out.cell 0).trans (show _ = some (.slice B0 l0.length D0) from rfl)
  have hfG_0 := HG.out.frozen 0
  have hxG_1 := (HG.out.cell 1).trans (show _ = some (.slice B1 l1.length D1) from rfl)
  have hfG_1 := HG.out.frozen 1
  unfold impl_Disk_act.f at h
  by_cases k1 : a0 = 1
  · rw [if_pos k1] at h
    have k1b : (a0 == 1) = true := beq_iff_eq.mpr k1
    clear k1
    obtain ⟨t1, e1, h⟩ := Option.bind_eq_some_iff.1 h
    have E1 := Aside0.mk e1
    clear e1
    by_cases c1 : wrap64 (t1 + (l3.length : Int)) > 8192
    · rw [if_pos c1] at h
      have cb1 : decide (8192 < wrap64 (t1 + (l3.length : Int))) = true := decide_eq_true c1
      clear c1
      simp only [Option.some.injEq, Prod.mk.injEq] at h
      obtain ⟨rfl, rfl, rfl⟩ := h

      go_enter Try.func72, Try.ntmps72
      go_upto_region 4 with (first | ((with_reducible refine gate_dst (N := 3) rfl ?_); refine box_event ?hg_1 (N := 3) ?hd_1 (cs := #[.int .i64 a0, .int .i64 a1, .int .i64 a2, .slice A3 l3.length c3]) (t := 100) ?hr_1 ?_; (case hd_1 => rfl); (case hg_1 => rfl); (case hr_1 => first | (go_simp; done) | (go_simp; rfl)); intro gX1 hg w2 hbox hb; have hk := kept_below hb; obtain ⟨PX1, hPX1, HLX1⟩ := LB.fresh hg hbox; have HX1 := Aside0.mk HLX1; clear HLX1; have GEX1 := Aside0.mk (show w.heap.size ≤ gX1 from (by rw [hg]; exact HB.out.size)); have D_G_X1 := Aside0.mk (new_apart HG.out.lt hPX1); have D_0_X1 := Aside0.mk (new_apart H0.out.lt hPX1); have D_1_X1 := Aside0.mk (new_apart H1.out.lt hPX1); have RRX1 := Aside0.mk (show ∀ k_, PX1 k_ → (fun k_ => (PG k_ ∨ P0 k_) ∨ P1 k_) k_ ∨ ws.heap.size ≤ k_ from fun k_ h_ => .inr (Nat.le_trans HK.out.1 (hPX1 k_ h_).1)); replace HG := Aside0.mk (HG.out.step hk no_S); replace H0 := Aside0.mk (H0.out.step hk no_S); replace H1 := Aside0.mk (H1.out.step hk no_S); replace HK := Aside0.mk (HK.out.then_ hk (fun _ h_ => h_.elim)); replace HB := Aside0.mk (below_step HB.out hb); clear hb hk hbox hg hPX1; (try clear hxG_0 hfG_0 hxG_1 hfG_1); have hxG_0 := (HG.out.cell 0).trans (show _ = some (.slice B0 l0.length D0) from rfl); have hfG_0 := HG.out.frozen 0; have hxG_1 := (HG.out.cell 1).trans (show _ = some (.slice B1 l1.length D1) from rfl); have hfG_1 := HG.out.frozen 1; (try clear hxX1_0 hfX1_0 hxX1_1 hfX1_1 hxX1_2 hfX1_2 hxX1_3 hfX1_3); have hxX1_0 := (HX1.out.cell 0).trans (show _ = some (.int .i64 a0) from rfl); have hfX1_0 := HX1.out.frozen 0; have hxX1_1 := (HX1.out.cell 1).trans (show _ = some (.int .i64 a1) from rfl); have hfX1_1 := HX1.out.frozen 1; have hxX1_2 := (HX1.out.cell 2).trans (show _ = some (.int .i64 a2) from rfl); have hfX1_2 := HX1.out.frozen 2; have hxX1_3 := (HX1.out.cell 3).trans (show _ = some (.slice A3 l3.length c3) from rfl); have hfX1_3 := HX1.out.frozen 3))
      refine start_ (n := 9) (S := fun w' => w'.cell? ⟨gG, 0, none⟩ = some (.slice B0 l0.length D0) ∧ w'.cell? ⟨gG, 1, none⟩ = some (.slice B1 l1.length D1) ∧ w'.cell? ⟨gX1, 3, none⟩ = some (.slice A3 l3.length c3)) (ds := []) #[false, false, false, false, false, false, false, false, false] (by kernel_rfl) rfl rfl ⟨hxG_0, hxG_1, hxX1_3⟩ (fun hHeld => ?_)
      refine with_tabW impl_Disk_act.tab4 impl_Disk_act.bits4 (fun HT_ HW_ => ?_)
      generalize hwd_ : World.drew w2 = wd_ at hHeld ⊢
      have hk := kept_drew hwd_
      replace HG := Aside0.mk (HG.out.step hk no_S)
      replace H0 := Aside0.mk (H0.out.step hk no_S)
      replace H1 := Aside0.mk (H1.out.step hk no_S)
      replace HX1 := Aside0.mk (HX1.out.step hk no_S)
      replace HK := Aside0.mk (HK.out.then_ hk (fun _ h_ => h_.elim))
      replace HB := Aside0.mk (below_drewd HB.out hwd_)
      clear hk hwd_
      (try clear hxG_0 hfG_0 hxG_1 hfG_1)
      have hxG_0 := (HG.out.cell 0).trans (show _ = some (.slice B0 l0.length D0) from rfl)
      have hfG_0 := HG.out.frozen 0
      have hxG_1 := (HG.out.cell 1).trans (show _ = some (.slice B1 l1.length D1) from rfl)
      have hfG_1 := HG.out.frozen 1
      (try clear hxX1_0 hfX1_0 hxX1_1 hfX1_1 hxX1_2 hfX1_2 hxX1_3 hfX1_3)
      have hxX1_0 := (HX1.out.cell 0).trans (show _ = some (.int .i64 a0) from rfl)
      have hfX1_0 := HX1.out.frozen 0
      have hxX1_1 := (HX1.out.cell 1).trans (show _ = some (.int .i64 a1) from rfl)
      have hfX1_1 := HX1.out.frozen 1
      have hxX1_2 := (HX1.out.cell 2).trans (show _ = some (.int .i64 a2) from rfl)
      have hfX1_2 := HX1.out.frozen 2
      have hxX1_3 := (HX1.out.cell 3).trans (show _ = some (.slice A3 l3.length c3) from rfl)
      have hfX1_3 := HX1.out.frozen 3
      refine pure_ (i := 0) (N := some 9) (v := ?_) (a' := ?_) #[true, false, false, false, false, false, false, false, false] rfl rfl (any_of HT_.out (by kernel_rfl)) (fun _ _ _ h => h) (Or.inl ⟨by rfl, ?_⟩) ?_ ?_
      rotate_left
      · intro w'
        go_simp
        with_reducible rfl
      rotate_left
      · simp only [Act.put, List.setIfInBounds_toArray, List.set_cons_zero, List.set_cons_succ, i64_w, i32_w]
        rfl
      refine pure_ (i := 1) (N := some 10) (v := ?_) (a' := ?_) #[true, true, false, false, false, false, false, false, false] rfl rfl (any_of HT_.out (by kernel_rfl)) (fun _ _ _ h => h) (Or.inl ⟨by rfl, ?_⟩) ?_ ?_
      rotate_left
      · intro w'
        go_simp
        with_reducible rfl
      rotate_left
      · simp only [Act.put, List.setIfInBounds_toArray, List.set_cons_zero, List.set_cons_succ, i64_w, i32_w]
        rfl
      refine take_ (i := 2) (N := some 11) (v := ?_) (a' := ?_) #[true, true, true, false, false, false, false, false, false] rfl rfl (take_ofW HT_.out HW_.out (by kernel_rfl)) (fun _ _ _ h => h) (Or.inl ⟨by rfl, ?_⟩) hHeld ?_ ?_
      rotate_left
      · rintro w' ⟨s0, s1, s2⟩
        go_simp
        with_reducible rfl
      rotate_left
      · simp only [Act.put, List.setIfInBounds_toArray, List.set_cons_zero, List.set_cons_succ, i64_w, i32_w]
        rfl
      refine pure_ (i := 4) (N := some 13) (v := ?_) (a' := ?_) #[true, true, true, false, true, false, false, false, false] rfl rfl (any_of HT_.out (by kernel_rfl)) (fun _ _ _ h => h) (Or.inl ⟨by rfl, ?_⟩) ?_ ?_
      rotate_left
      · intro w'
        go_simp
        with_reducible rfl
      rotate_left
      · simp only [Act.put, List.setIfInBounds_toArray, List.set_cons_zero, List.set_cons_succ, i64_w, i32_w]
        rfl
      refine take_ (i := 5) (N := some 14) (v := ?_) (a' := ?_) #[true, true, true, false, true, true, false, false, false] rfl rfl (take_ofW HT_.out HW_.out (by kernel_rfl)) (fun _ _ _ h => h) (Or.inl ⟨by rfl, ?_⟩) hHeld ?_ ?_
      rotate_left
      · rintro w' ⟨s0, s1, s2⟩
        go_simp
        with_reducible rfl
      rotate_left
      · simp only [Act.put, List.setIfInBounds_toArray, List.set_cons_zero, List.set_cons_succ, i64_w, i32_w]
        rfl
      refine pure_ (i := 6) (N := some 15) (v := ?_) (a' := ?_) #[true, true, true, false, true, true, true, false, false] rfl rfl (any_of HT_.out (by kernel_rfl)) (fun _ _ _ h => h) (Or.inl ⟨by rfl, ?_⟩) ?_ ?_
      rotate_left
      · intro w'
        go_simp
        with_reducible rfl
      rotate_left
      · simp only [Act.put, List.setIfInBounds_toArray, List.set_cons_zero, List.set_cons_succ, i64_w, i32_w]
        rfl
      refine one_ (i := 3) (N := some 12) #[true, true, true, true, true, true, true, false, false] rfl rfl (one_of HT_.out (by kernel_rfl)) (by decide) (fun K hK => ?_)
      refine goes_ Try.func96 (by kernel_rfl) rfl #[.agg #[.slice B0 l0.length D0, .slice B1 l1.length D1]] (by rfl) rfl rfl (by (try simp only [List.map_toArray, List.map_cons, List.map_nil]); first | done | rfl | (simp only [List.length_drop, List.length_take]; rfl)) ?_
      (with_reducible refine (impl_Disk_size.calls k _ _ l0 _ _ l1 t1 _ H0.out.reads H0.out.room H1.out.reads H1.out.room E1.out).mono ?_)
      rintro e w2 ⟨rfl, hb⟩
      refine ⟨_, rfl, ?_⟩
      have hk := kept_below hb
      replace HG := Aside0.mk (HG.out.step hk no_S)
      replace H0 := Aside0.mk (H0.out.step hk no_S)
      replace H1 := Aside0.mk (H1.out.step hk no_S)
      replace HX1 := Aside0.mk (HX1.out.step hk no_S)
      replace HK := Aside0.mk (HK.out.then_ hk (fun _ h_ => h_.elim))
      replace HB := Aside0.mk (below_step HB.out hb)
      clear hb hk
      (try clear hxG_0 hfG_0 hxG_1 hfG_1)
      have hxG_0 := (HG.out.cell 0).trans (show _ = some (.slice B0 l0.length D0) from rfl)
      have hfG_0 := HG.out.frozen 0
      have hxG_1 := (HG.out.cell 1).trans (show _ = some (.slice B1 l1.length D1) from rfl)
      have hfG_1 := HG.out.frozen 1
      (try clear hxX1_0 hfX1_0 hxX1_1 hfX1_1 hxX1_2 hfX1_2 hxX1_3 hfX1_3)
      have hxX1_0 := (HX1.out.cell 0).trans (show _ = some (.int .i64 a0) from rfl)
      have hfX1_0 := HX1.out.frozen 0
      have hxX1_1 := (HX1.out.cell 1).trans (show _ = some (.int .i64 a1) from rfl)
      have hfX1_1 := HX1.out.frozen 1
      have hxX1_2 := (HX1.out.cell 2).trans (show _ = some (.int .i64 a2) from rfl)
      have hfX1_2 := HX1.out.frozen 2
      have hxX1_3 := (HX1.out.cell 3).trans (show _ = some (.slice A3 l3.length c3) from rfl)
      have hfX1_3 := HX1.out.frozen 3
      refine hK.out _ _ ⟨hxG_0, hxG_1, hxX1_3⟩ (fun hHeld => ?_)
      clear hK K
      refine norm_ (a' := ?_) ?_ ?_
      rotate_left
      · show Act.put _ (some 12) _ = _
        simp only [Act.put, List.setIfInBounds_toArray, List.set_cons_zero, List.set_cons_succ, i64_w, i32_w]
        rfl
      refine pure_ (i := 7) (N := some 16) (v := ?_) (a' := ?_) #[true, true, true, true, true, true, true, true, false] rfl rfl (any_of HT_.out (by kernel_rfl)) (fun _ _ _ h => h) (Or.inl ⟨by rfl, ?_⟩) ?_ ?_
      rotate_left
      · intro w'
        go_simp
        with_reducible rfl
      rotate_left
      · simp only [Act.put, List.setIfInBounds_toArray, List.set_cons_zero, List.set_cons_succ, i64_w, i32_w]
        rfl
      refine pure_ (i := 8) (N := some 17) (v := ?_) (a' := ?_) #[true, true, true, true, true, true, true, true, true] rfl rfl (any_of HT_.out (by kernel_rfl)) (fun _ _ _ h => h) (Or.inl ⟨by rfl, ?_⟩) ?_ ?_
      rotate_left
      · intro w'
        go_simp
        with_reducible rfl
      rotate_left
      · simp only [Act.put, List.setIfInBounds_toArray, List.set_cons_zero, List.set_cons_succ, i64_w, i32_w]
        rfl
      refine done_ (done_of HT_.out (by kernel_rfl)) ?_
      go_wp2
      go_ret
      exact ⟨_, _, _, _, rfl, HG.out, H0.out, H1.out, D_G_0.out, D_G_1.out, D_0_1.out, RR0.out, RR1.out, HB.out, HK.out⟩
    · rw [if_neg c1] at h
      have cb1 : decide (8192 < wrap64 (t1 + (l3.length : Int))) = false := decide_eq_false c1
      clear c1
      obtain ⟨t2, e2, h⟩ := Option.bind_eq_some_iff.1 h
      have E2 := Aside0.mk e2
      clear e2
      by_cases c2 : l1.length < 5864062014805
      · rw [if_pos c2] at h
        have LM2 := Aside0.mk c2
        clear c2
        obtain ⟨y1, hy1⟩ : ∃ y_ : List (List Int), y_ = l1 ++ [t2] := ⟨_, rfl⟩
        rw [← hy1] at h
        have Ny1 := Aside0.mk hy1
        clear hy1
        simp only [Option.some.injEq, Prod.mk.injEq] at h
        obtain ⟨rfl, rfl, rfl⟩ := h

        go_enter Try.func72, Try.ntmps72
        go_upto_region 4 with (first | ((with_reducible refine gate_dst (N := 3) rfl ?_); refine box_event ?hg_1 (N := 3) ?hd_1 (cs := #[.int .i64 a0, .int .i64 a1, .int .i64 a2, .slice A3 l3.length c3]) (t := 100) ?hr_1 ?_; (case hd_1 => rfl); (case hg_1 => rfl); (case hr_1 => first | (go_simp; done) | (go_simp; rfl)); intro gX1 hg w2 hbox hb; have hk := kept_below hb; obtain ⟨PX1, hPX1, HLX1⟩ := LB.fresh hg hbox; have HX1 := Aside0.mk HLX1; clear HLX1; have GEX1 := Aside0.mk (show w.heap.size ≤ gX1 from (by rw [hg]; exact HB.out.size)); have D_G_X1 := Aside0.mk (new_apart HG.out.lt hPX1); have D_0_X1 := Aside0.mk (new_apart H0.out.lt hPX1); have D_1_X1 := Aside0.mk (new_apart H1.out.lt hPX1); have RRX1 := Aside0.mk (show ∀ k_, PX1 k_ → (fun k_ => (PG k_ ∨ P0 k_) ∨ P1 k_) k_ ∨ ws.heap.size ≤ k_ from fun k_ h_ => .inr (Nat.le_trans HK.out.1 (hPX1 k_ h_).1)); replace HG := Aside0.mk (HG.out.step hk no_S); replace H0 := Aside0.mk (H0.out.step hk no_S); replace H1 := Aside0.mk (H1.out.step hk no_S); replace HK := Aside0.mk (HK.out.then_ hk (fun _ h_ => h_.elim)); replace HB := Aside0.mk (below_step HB.out hb); clear hb hk hbox hg hPX1; (try clear hxG_0 hfG_0 hxG_1 hfG_1); have hxG_0 := (HG.out.cell 0).trans (show _ = some (.slice B0 l0.length D0) from rfl); have hfG_0 := HG.out.frozen 0; have hxG_1 := (HG.out.cell 1).trans (show _ = some (.slice B1 l1.length D1) from rfl); have hfG_1 := HG.out.frozen 1; (try clear hxX1_0 hfX1_0 hxX1_1 hfX1_1 hxX1_2 hfX1_2 hxX1_3 hfX1_3); have hxX1_0 := (HX1.out.cell 0).trans (show _ = some (.int .i64 a0) from rfl); have hfX1_0 := HX1.out.frozen 0; have hxX1_1 := (HX1.out.cell 1).trans (show _ = some (.int .i64 a1) from rfl); have hfX1_1 := HX1.out.frozen 1; have hxX1_2 := (HX1.out.cell 2).trans (show _ = some (.int .i64 a2) from rfl); have hfX1_2 := HX1.out.frozen 2; have hxX1_3 := (HX1.out.cell 3).trans (show _ = some (.slice A3 l3.length c3) from rfl); have hfX1_3 := HX1.out.frozen 3))
        refine start_ (n := 9) (S := fun w' => w'.cell? ⟨gG, 0, none⟩ = some (.slice B0 l0.length D0) ∧ w'.cell? ⟨gG, 1, none⟩ = some (.slice B1 l1.length D1) ∧ w'.cell? ⟨gX1, 3, none⟩ = some (.slice A3 l3.length c3)) (ds := []) #[false, false, false, false, false, false, false, false, false] (by kernel_rfl) rfl rfl ⟨hxG_0, hxG_1, hxX1_3⟩ (fun hHeld => ?_)
        refine with_tabW impl_Disk_act.tab4 impl_Disk_act.bits4 (fun HT_ HW_ => ?_)
        generalize hwd_ : World.drew w2 = wd_ at hHeld ⊢
        have hk := kept_drew hwd_
        replace HG := Aside0.mk (HG.out.step hk no_S)
        replace H0 := Aside0.mk (H0.out.step hk no_S)
        replace H1 := Aside0.mk (H1.out.step hk no_S)
        replace HX1 := Aside0.mk (HX1.out.step hk no_S)
        replace HK := Aside0.mk (HK.out.then_ hk (fun _ h_ => h_.elim))
        replace HB := Aside0.mk (below_drewd HB.out hwd_)
        clear hk hwd_
        (try clear hxG_0 hfG_0 hxG_1 hfG_1)
        have hxG_0 := (HG.out.cell 0).trans (show _ = some (.slice B0 l0.length D0) from rfl)
        have hfG_0 := HG.out.frozen 0
        have hxG_1 := (HG.out.cell 1).trans (show _ = some (.slice B1 l1.length D1) from rfl)
        have hfG_1 := HG.out.frozen 1
        (try clear hxX1_0 hfX1_0 hxX1_1 hfX1_1 hxX1_2 hfX1_2 hxX1_3 hfX1_3)
        have hxX1_0 := (HX1.out.cell 0).trans (show _ = some (.int .i64 a0) from rfl)
        have hfX1_0 := HX1.out.frozen 0
        have hxX1_1 := (HX1.out.cell 1).trans (show _ = some (.int .i64 a1) from rfl)
        have hfX1_1 := HX1.out.frozen 1
        have hxX1_2 := (HX1.out.cell 2).trans (show _ = some (.int .i64 a2) from rfl)
        have hfX1_2 := HX1.out.frozen 2
        have hxX1_3 := (HX1.out.cell 3).trans (show _ = some (.slice A3 l3.length c3) from rfl)
        have hfX1_3 := HX1.out.frozen 3
        refine pure_ (i := 0) (N := some 9) (v := ?_) (a' := ?_) #[true, false, false, false, false, false, false, false, false] rfl rfl (any_of HT_.out (by kernel_rfl)) (fun _ _ _ h => h) (Or.inl ⟨by rfl, ?_⟩) ?_ ?_
        rotate_left
        · intro w'
          go_simp
          with_reducible rfl
        rotate_left
        · simp only [Act.put, List.setIfInBounds_toArray, List.set_cons_zero, List.set_cons_succ, i64_w, i32_w]
          rfl
        refine pure_ (i := 1) (N := some 10) (v := ?_) (a' := ?_) #[true, true, false, false, false, false, false, false, false] rfl rfl (any_of HT_.out (by kernel_rfl)) (fun _ _ _ h => h) (Or.inl ⟨by rfl, ?_⟩) ?_ ?_
        rotate_left
        · intro w'
          go_simp
          with_reducible rfl
        rotate_left
        · simp only [Act.put, List.setIfInBounds_toArray, List.set_cons_zero, List.set_cons_succ, i64_w, i32_w]
          rfl
        refine take_ (i := 2) (N := some 11) (v := ?_) (a' := ?_) #[true, true, true, false, false, false, false, false, false] rfl rfl (take_ofW HT_.out HW_.out (by kernel_rfl)) (fun _ _ _ h => h) (Or.inl ⟨by rfl, ?_⟩) hHeld ?_ ?_
        rotate_left
        · rintro w' ⟨s0, s1, s2⟩
          go_simp
          with_reducible rfl
        rotate_left
        · simp only [Act.put, List.setIfInBounds_toArray, List.set_cons_zero, List.set_cons_succ, i64_w, i32_w]
          rfl
        refine pure_ (i := 4) (N := some 13) (v := ?_) (a' := ?_) #[true, true, true, false, true, false, false, false, false] rfl rfl (any_of HT_.out (by kernel_rfl)) (fun _ _ _ h => h) (Or.inl ⟨by rfl, ?_⟩) ?_ ?_
        rotate_left
        · intro w'
          go_simp
          with_reducible rfl
        rotate_left
        · simp only [Act.put, List.setIfInBounds_toArray, List.set_cons_zero, List.set_cons_succ, i64_w, i32_w]
          rfl
        refine take_ (i := 5) (N := some 14) (v := ?_) (a' := ?_) #[true, true, true, false, true, true, false, false, false] rfl rfl (take_ofW HT_.out HW_.out (by kernel_rfl)) (fun _ _ _ h => h) (Or.inl ⟨by rfl, ?_⟩) hHeld ?_ ?_
        rotate_left
        · rintro w' ⟨s0, s1, s2⟩
          go_simp
          with_reducible rfl
        rotate_left
        · simp only [Act.put, List.setIfInBounds_toArray, List.set_cons_zero, List.set_cons_succ, i64_w, i32_w]
          rfl
        refine pure_ (i := 6) (N := some 15) (v := ?_) (a' := ?_) #[true, true, true, false, true, true, true, false, false] rfl rfl (any_of HT_.out (by kernel_rfl)) (fun _ _ _ h => h) (Or.inl ⟨by rfl, ?_⟩) ?_ ?_
        rotate_left
        · intro w'
          go_simp
          with_reducible rfl
        rotate_left
        · simp only [Act.put, List.setIfInBounds_toArray, List.set_cons_zero, List.set_cons_succ, i64_w, i32_w]
          rfl
        refine one_ (i := 3) (N := some 12) #[true, true, true, true, true, true, true, false, false] rfl rfl (one_of HT_.out (by kernel_rfl)) (by decide) (fun K hK => ?_)
        refine goes_ Try.func96 (by kernel_rfl) rfl #[.agg #[.slice B0 l0.length D0, .slice B1 l1.length D1]] (by rfl) rfl rfl (by (try simp only [List.map_toArray, List.map_cons, List.map_nil]); first | done | rfl | (simp only [List.length_drop, List.length_take]; rfl)) ?_
        (with_reducible refine (impl_Disk_size.calls k _ _ l0 _ _ l1 t1 _ H0.out.reads H0.out.room H1.out.reads H1.out.room E1.out).mono ?_)
        rintro e w2 ⟨rfl, hb⟩
        refine ⟨_, rfl, ?_⟩
        have hk := kept_below hb
        replace HG := Aside0.mk (HG.out.step hk no_S)
        replace H0 := Aside0.mk (H0.out.step hk no_S)
        replace H1 := Aside0.mk (H1.out.step hk no_S)
        replace HX1 := Aside0.mk (HX1.out.step hk no_S)
        replace HK := Aside0.mk (HK.out.then_ hk (fun _ h_ => h_.elim))
        replace HB := Aside0.mk (below_step HB.out hb)
        clear hb hk
        (try clear hxG_0 hfG_0 hxG_1 hfG_1)
        have hxG_0 := (HG.out.cell 0).trans (show _ = some (.slice B0 l0.length D0) from rfl)
        have hfG_0 := HG.out.frozen 0
        have hxG_1 := (HG.out.cell 1).trans (show _ = some (.slice B1 l1.length D1) from rfl)
        have hfG_1 := HG.out.frozen 1
        (try clear hxX1_0 hfX1_0 hxX1_1 hfX1_1 hxX1_2 hfX1_2 hxX1_3 hfX1_3)
        have hxX1_0 := (HX1.out.cell 0).trans (show _ = some (.int .i64 a0) from rfl)
        have hfX1_0 := HX1.out.frozen 0
        have hxX1_1 := (HX1.out.cell 1).trans (show _ = some (.int .i64 a1) from rfl)
        have hfX1_1 := HX1.out.frozen 1
        have hxX1_2 := (HX1.out.cell 2).trans (show _ = some (.int .i64 a2) from rfl)
        have hfX1_2 := HX1.out.frozen 2
        have hxX1_3 := (HX1.out.cell 3).trans (show _ = some (.slice A3 l3.length c3) from rfl)
        have hfX1_3 := HX1.out.frozen 3
        refine hK.out _ _ ⟨hxG_0, hxG_1, hxX1_3⟩ (fun hHeld => ?_)
        clear hK K
        refine norm_ (a' := ?_) ?_ ?_
        rotate_left
        · show Act.put _ (some 12) _ = _
          simp only [Act.put, List.setIfInBounds_toArray, List.set_cons_zero, List.set_cons_succ, i64_w, i32_w]
          rfl
        refine pure_ (i := 7) (N := some 16) (v := ?_) (a' := ?_) #[true, true, true, true, true, true, true, true, false] rfl rfl (any_of HT_.out (by kernel_rfl)) (fun _ _ _ h => h) (Or.inl ⟨by rfl, ?_⟩) ?_ ?_
        rotate_left
        · intro w'
          go_simp
          with_reducible rfl
        rotate_left
        · simp only [Act.put, List.setIfInBounds_toArray, List.set_cons_zero, List.set_cons_succ, i64_w, i32_w]
          rfl
        refine pure_ (i := 8) (N := some 17) (v := ?_) (a' := ?_) #[true, true, true, true, true, true, true, true, true] rfl rfl (any_of HT_.out (by kernel_rfl)) (fun _ _ _ h => h) (Or.inl ⟨by rfl, ?_⟩) ?_ ?_
        rotate_left
        · intro w'
          go_simp
          with_reducible rfl
        rotate_left
        · simp only [Act.put, List.setIfInBounds_toArray, List.set_cons_zero, List.set_cons_succ, i64_w, i32_w]
          rfl
        refine done_ (done_of HT_.out (by kernel_rfl)) ?_
        go_upto_region 6 with (fail)
        refine start_ (n := 13) (S := fun w' => w'.cell? ⟨gG, 1, none⟩ = some (.slice B1 l1.length D1) ∧ w'.cell? ⟨gX1, 3, none⟩ = some (.slice A3 l3.length c3)) (ds := [12]) #[false, false, false, false, false, false, false, false, false, false, false, false, false] (by kernel_rfl) rfl rfl ⟨hxG_1, hxX1_3⟩ (fun hHeld => ?_)
        refine with_tabW impl_Disk_act.tab6 impl_Disk_act.bits6 (fun HT_ HW_ => ?_)
        generalize hwd_ : World.drew w2 = wd_ at hHeld ⊢
        have hk := kept_drew hwd_
        replace HG := Aside0.mk (HG.out.step hk no_S)
        replace H0 := Aside0.mk (H0.out.step hk no_S)
        replace H1 := Aside0.mk (H1.out.step hk no_S)
        replace HX1 := Aside0.mk (HX1.out.step hk no_S)
        replace HK := Aside0.mk (HK.out.then_ hk (fun _ h_ => h_.elim))
        replace HB := Aside0.mk (below_drewd HB.out hwd_)
        clear hk hwd_
        (try clear hxG_0 hfG_0 hxG_1 hfG_1)
        have hxG_0 := (HG.out.cell 0).trans (show _ = some (.slice B0 l0.length D0) from rfl)
        have hfG_0 := HG.out.frozen 0
        have hxG_1 := (HG.out.cell 1).trans (show _ = some (.slice B1 l1.length D1) from rfl)
        have hfG_1 := HG.out.frozen 1
        (try clear hxX1_0 hfX1_0 hxX1_1 hfX1_1 hxX1_2 hfX1_2 hxX1_3 hfX1_3)
        have hxX1_0 := (HX1.out.cell 0).trans (show _ = some (.int .i64 a0) from rfl)
        have hfX1_0 := HX1.out.frozen 0
        have hxX1_1 := (HX1.out.cell 1).trans (show _ = some (.int .i64 a1) from rfl)
        have hfX1_1 := HX1.out.frozen 1
        have hxX1_2 := (HX1.out.cell 2).trans (show _ = some (.int .i64 a2) from rfl)
        have hfX1_2 := HX1.out.frozen 2
        have hxX1_3 := (HX1.out.cell 3).trans (show _ = some (.slice A3 l3.length c3) from rfl)
        have hfX1_3 := HX1.out.frozen 3
        refine pure_ (i := 0) (N := some 18) (v := ?_) (a' := ?_) #[true, false, false, false, false, false, false, false, false, false, false, false, false] rfl rfl (any_of HT_.out (by kernel_rfl)) (fun _ _ _ h => h) (Or.inl ⟨by rfl, ?_⟩) ?_ ?_
        rotate_left
        · intro w'
          go_simp
          with_reducible rfl
        rotate_left
        · simp only [Act.put, List.setIfInBounds_toArray, List.set_cons_zero, List.set_cons_succ, i64_w, i32_w]
          rfl
        refine pure_ (i := 1) (N := some 19) (v := ?_) (a' := ?_) #[true, true, false, false, false, false, false, false, false, false, false, false, false] rfl rfl (any_of HT_.out (by kernel_rfl)) (fun _ _ _ h => h) (Or.inl ⟨by rfl, ?_⟩) ?_ ?_
        rotate_left
        · intro w'
          go_simp
          with_reducible rfl
        rotate_left
        · simp only [Act.put, List.setIfInBounds_toArray, List.set_cons_zero, List.set_cons_succ, i64_w, i32_w]
          rfl
        refine pure_ (i := 2) (N := some 20) (v := ?_) (a' := ?_) #[true, true, true, false, false, false, false, false, false, false, false, false, false] rfl rfl (any_of HT_.out (by kernel_rfl)) (fun _ _ _ h => h) (Or.inl ⟨by rfl, ?_⟩) ?_ ?_
        rotate_left
        · intro w'
          go_simp
          with_reducible rfl
        rotate_left
        · simp only [Act.put, List.setIfInBounds_toArray, List.set_cons_zero, List.set_cons_succ, i64_w, i32_w]
          rfl
        refine pure_ (i := 3) (N := some 21) (v := ?_) (a' := ?_) #[true, true, true, true, false, false, false, false, false, false, false, false, false] rfl rfl (any_of HT_.out (by kernel_rfl)) (fun _ _ _ h => h) (Or.inl ⟨by rfl, ?_⟩) ?_ ?_
        rotate_left
        · intro w'
          go_simp
          with_reducible rfl
        rotate_left
        · simp only [Act.put, List.setIfInBounds_toArray, List.set_cons_zero, List.set_cons_succ, i64_w, i32_w]
          rfl
        refine take_ (i := 4) (N := some 22) (v := ?_) (a' := ?_) #[true, true, true, true, true, false, false, false, false, false, false, false, false] rfl rfl (take_ofW HT_.out HW_.out (by kernel_rfl)) (fun _ _ _ h => h) (Or.inl ⟨by rfl, ?_⟩) hHeld ?_ ?_
        rotate_left
        · rintro w' ⟨s0, s1⟩
          go_simp
          with_reducible rfl
        rotate_left
        · simp only [Act.put, List.setIfInBounds_toArray, List.set_cons_zero, List.set_cons_succ, i64_w, i32_w]
          rfl
        refine pure_ (i := 5) (N := some 23) (v := ?_) (a' := ?_) #[true, true, true, true, true, true, false, false, false, false, false, false, false] rfl rfl (any_of HT_.out (by kernel_rfl)) (fun _ _ _ h => h) (Or.inl ⟨by rfl, ?_⟩) ?_ ?_
        rotate_left
        · intro w'
          go_simp
          with_reducible rfl
        rotate_left
        · simp only [Act.put, List.setIfInBounds_toArray, List.set_cons_zero, List.set_cons_succ, i64_w, i32_w]
          rfl
        refine take_ (i := 6) (N := some 24) (v := ?_) (a' := ?_) #[true, true, true, true, true, true, true, false, false, false, false, false, false] rfl rfl (take_ofW HT_.out HW_.out (by kernel_rfl)) (fun _ _ _ h => h) (Or.inl ⟨by rfl, ?_⟩) hHeld ?_ ?_
        rotate_left
        · rintro w' ⟨s0, s1⟩
          go_simp
          with_reducible rfl
        rotate_left
        · simp only [Act.put, List.setIfInBounds_toArray, List.set_cons_zero, List.set_cons_succ, i64_w, i32_w]
          rfl
        refine one_ (i := 7) (N := some 25) #[true, true, true, true, true, true, true, true, false, false, false, false, false] rfl rfl (one_of HT_.out (by kernel_rfl)) (by decide) (fun K hK => ?_)
        refine goes_ Try.func97 (by kernel_rfl) rfl #[.slice A3 l3.length c3] (by rfl) rfl rfl (by (try simp only [List.map_toArray, List.map_cons, List.map_nil]); first | done | rfl | (simp only [List.length_drop, List.length_take]; rfl)) ?_
        (with_reducible refine (slices_Clone_byte_byte.calls _ _ l3 t2 _ (Kd.C_below HR3.out HB.out) HL3.out E2.out).mono ?_)
        rintro e w2 ⟨vF2, rfl, hrF2, hb⟩
        refine ⟨_, rfl, ?_⟩
        have hk := kept_below hb
        obtain ⟨PF2, hPF2, HLF2⟩ := LR.fresh rfl HB.out hrF2
        have HF2 := Aside0.mk HLF2
        clear HLF2 hrF2
        have D_G_F2 := Aside0.mk (new_apart HG.out.lt hPF2)
        have D_0_F2 := Aside0.mk (new_apart H0.out.lt hPF2)
        have D_1_F2 := Aside0.mk (new_apart H1.out.lt hPF2)
        have D_X1_F2 := Aside0.mk (new_apart HX1.out.lt hPF2)
        have RRF2 := Aside0.mk (show ∀ k_, PF2 k_ → (fun k_ => (PG k_ ∨ P0 k_) ∨ P1 k_) k_ ∨ ws.heap.size ≤ k_ from fun k_ h_ => .inr (Nat.le_trans HK.out.1 (hPF2 k_ h_).1))
        replace HG := Aside0.mk (HG.out.step hk no_S)
        replace H0 := Aside0.mk (H0.out.step hk no_S)
        replace H1 := Aside0.mk (H1.out.step hk no_S)
        replace HX1 := Aside0.mk (HX1.out.step hk no_S)
        replace HK := Aside0.mk (HK.out.then_ hk (fun _ h_ => h_.elim))
        clear hPF2
        obtain ⟨BF2, DF2, e_F2⟩ := HF2.out.val
        subst e_F2
        replace HB := Aside0.mk (below_step HB.out hb)
        clear hb hk
        (try clear hxG_0 hfG_0 hxG_1 hfG_1)
        have hxG_0 := (HG.out.cell 0).trans (show _ = some (.slice B0 l0.length D0) from rfl)
        have hfG_0 := HG.out.frozen 0
        have hxG_1 := (HG.out.cell 1).trans (show _ = some (.slice B1 l1.length D1) from rfl)
        have hfG_1 := HG.out.frozen 1
        (try clear hxX1_0 hfX1_0 hxX1_1 hfX1_1 hxX1_2 hfX1_2 hxX1_3 hfX1_3)
        have hxX1_0 := (HX1.out.cell 0).trans (show _ = some (.int .i64 a0) from rfl)
        have hfX1_0 := HX1.out.frozen 0
        have hxX1_1 := (HX1.out.cell 1).trans (show _ = some (.int .i64 a1) from rfl)
        have hfX1_1 := HX1.out.frozen 1
        have hxX1_2 := (HX1.out.cell 2).trans (show _ = some (.int .i64 a2) from rfl)
        have hfX1_2 := HX1.out.frozen 2
        have hxX1_3 := (HX1.out.cell 3).trans (show _ = some (.slice A3 l3.length c3) from rfl)
        have hfX1_3 := HX1.out.frozen 3
        refine hK.out _ _ ⟨hxG_1, hxX1_3⟩ (fun hHeld => ?_)
        clear hK K
        refine norm_ (a' := ?_) ?_ ?_
        rotate_left
        · show Act.put _ (some 25) _ = _
          simp only [Act.put, List.setIfInBounds_toArray, List.set_cons_zero, List.set_cons_succ, i64_w, i32_w]
          rfl
        refine one_ (i := 8) (N := some 26) #[true, true, true, true, true, true, true, true, true, false, false, false, false] rfl rfl (one_of HT_.out (by kernel_rfl)) (by decide) (fun K hK => ?_)
        refine event_step (by rfl) (by first | (go_simp; exact ⟨rfl, rfl⟩) | (go_simp; done) | (go_simp; rfl)) ?_
        refine hK.out _ _ ⟨(pw_cell_below (below_alloc (Below.refl _ _) _) hxG_1), (pw_cell_below (below_alloc (Below.refl _ _) _) hxX1_3)⟩ (fun hHeld => ?_)
        clear hK K
        refine norm_ (a' := ?_) ?_ ?_
        rotate_left
        · show Act.put _ (some 26) _ = _
          simp only [Act.put, List.setIfInBounds_toArray, List.set_cons_zero, List.set_cons_succ, i64_w, i32_w]
          rfl
        refine one_ (i := 9) (N := some 27) #[true, true, true, true, true, true, true, true, true, true, false, false, false] rfl rfl (one_of HT_.out (by kernel_rfl)) (by decide) (fun K hK => ?_)
        refine LS.append1_step (Kd.slice 5 (Kd.int .u8)) (w0 := w) (by rfl) (.tmp 22) (.tmp 26) 23 22 (.slice none 0 0) 24 rfl Try.underlying23 info22 rfl (by decide) (by omega) (.slice B1 l1.length D1) l1 t2 [.slice BF2 t2.length DF2] rfl rfl (by simp) H1.out (Kd.M_row HF2.out.1) D_1_F2.out HB.out ?aL_2 ?_
        (case aL_2 => have := LM2.out; omega)
        intro PF3 v_ w2 HL hb hk hR
        have D_G_F3 := Aside0.mk (apart_app hR HG.out.lt (apart_or D_G_1.out D_G_F2.out))
        have D_0_F3 := Aside0.mk (apart_app hR H0.out.lt (apart_or D_0_1.out D_0_F2.out))
        have D_X1_F3 := Aside0.mk (apart_app hR HX1.out.lt (apart_or (apart_symm D_1_X1.out) D_X1_F2.out))
        have RRF3 := Aside0.mk (show ∀ k_, PF3 k_ → (fun k_ => (PG k_ ∨ P0 k_) ∨ P1 k_) k_ ∨ ws.heap.size ≤ k_ from rr_app hR HK.out.1 (rr_or RR1.out RRF2.out))
        replace HG := Aside0.mk (HG.out.step hk D_G_1.out)
        replace H0 := Aside0.mk (H0.out.step hk D_0_1.out)
        replace HX1 := Aside0.mk (HX1.out.step hk (apart_symm D_1_X1.out))
        replace HK := Aside0.mk (HK.out.then_ hk RR1.out)
        rw [← Ny1.out] at HL
        have HF3 := Aside0.mk HL
        replace HB := Aside0.mk hb
        clear hR HL hb hk
        clear H1
        clear HF2
        obtain ⟨BF3, DF3, e_F3⟩ := HF3.out.val
        subst e_F3
        (try clear hxG_0 hfG_0 hxG_1 hfG_1)
        have hxG_0 := (HG.out.cell 0).trans (show _ = some (.slice B0 l0.length D0) from rfl)
        have hfG_0 := HG.out.frozen 0
        have hxG_1 := (HG.out.cell 1).trans (show _ = some (.slice B1 l1.length D1) from rfl)
        have hfG_1 := HG.out.frozen 1
        (try clear hxX1_0 hfX1_0 hxX1_1 hfX1_1 hxX1_2 hfX1_2 hxX1_3 hfX1_3)
        have hxX1_0 := (HX1.out.cell 0).trans (show _ = some (.int .i64 a0) from rfl)
        have hfX1_0 := HX1.out.frozen 0
        have hxX1_1 := (HX1.out.cell 1).trans (show _ = some (.int .i64 a1) from rfl)
        have hfX1_1 := HX1.out.frozen 1
        have hxX1_2 := (HX1.out.cell 2).trans (show _ = some (.int .i64 a2) from rfl)
        have hfX1_2 := HX1.out.frozen 2
        have hxX1_3 := (HX1.out.cell 3).trans (show _ = some (.slice A3 l3.length c3) from rfl)
        have hfX1_3 := HX1.out.frozen 3
        refine hK.out _ _ ⟨hxG_1, hxX1_3⟩ (fun hHeld => ?_)
        clear hK K
        refine norm_ (a' := ?_) ?_ ?_
        rotate_left
        · show Act.put _ (some 27) _ = _
          simp only [Act.put, List.setIfInBounds_toArray, List.set_cons_zero, List.set_cons_succ, i64_w, i32_w]
          rfl
        refine pure_ (i := 10) (N := some 28) (v := ?_) (a' := ?_) #[true, true, true, true, true, true, true, true, true, true, true, false, false] rfl rfl (any_of HT_.out (by kernel_rfl)) (fun _ _ _ h => h) (Or.inl ⟨by rfl, ?_⟩) ?_ ?_
        rotate_left
        · intro w'
          go_simp
          with_reducible rfl
        rotate_left
        · simp only [Act.put, List.setIfInBounds_toArray, List.set_cons_zero, List.set_cons_succ, i64_w, i32_w]
          rfl
        refine pure_ (i := 11) (N := some 29) (v := ?_) (a' := ?_) #[true, true, true, true, true, true, true, true, true, true, true, true, false] rfl rfl (any_of HT_.out (by kernel_rfl)) (fun _ _ _ h => h) (Or.inl ⟨by rfl, ?_⟩) ?_ ?_
        rotate_left
        · intro w'
          go_simp
          with_reducible rfl
        rotate_left
        · simp only [Act.put, List.setIfInBounds_toArray, List.set_cons_zero, List.set_cons_succ, i64_w, i32_w]
          rfl
        refine last_ (i := 12) (N := none) #[true, true, true, true, true, true, true, true, true, true, true, true, true] rfl rfl (one_of HT_.out (by kernel_rfl)) (by decide) (fun K hK => ?_)
        refine LB.stored_step HG.out HB.out GEG.out 1 [.slice BF3 y1.length DF3] (by rfl) rfl ?hr_3 ?_
        (case hr_3 => first | (go_simp; done) | (go_simp; rfl))
        intro w2 hx hk hb
        replace H0 := Aside0.mk (H0.out.step hk (apart_symm D_G_0.out))
        replace HX1 := Aside0.mk (HX1.out.step hk (apart_symm D_G_X1.out))
        replace HF3 := Aside0.mk (HF3.out.step hk (apart_symm D_G_F3.out))
        replace HK := Aside0.mk (HK.out.then_ hk RRG.out)
        replace HB := Aside0.mk hb
        replace HG := Aside0.mk (show LB w2 PG gG 29 #[.slice B0 l0.length D0, .slice BF3 y1.length DF3] from hx)
        clear hk hx hb
        (try clear hxG_0 hfG_0 hxG_1 hfG_1)
        have hxG_0 := (HG.out.cell 0).trans (show _ = some (.slice B0 l0.length D0) from rfl)
        have hfG_0 := HG.out.frozen 0
        have hxG_1 := (HG.out.cell 1).trans (show _ = some (.slice BF3 y1.length DF3) from rfl)
        have hfG_1 := HG.out.frozen 1
        (try clear hxX1_0 hfX1_0 hxX1_1 hfX1_1 hxX1_2 hfX1_2 hxX1_3 hfX1_3)
        have hxX1_0 := (HX1.out.cell 0).trans (show _ = some (.int .i64 a0) from rfl)
        have hfX1_0 := HX1.out.frozen 0
        have hxX1_1 := (HX1.out.cell 1).trans (show _ = some (.int .i64 a1) from rfl)
        have hfX1_1 := HX1.out.frozen 1
        have hxX1_2 := (HX1.out.cell 2).trans (show _ = some (.int .i64 a2) from rfl)
        have hfX1_2 := HX1.out.frozen 2
        have hxX1_3 := (HX1.out.cell 3).trans (show _ = some (.slice A3 l3.length c3) from rfl)
        have hfX1_3 := HX1.out.frozen 3
        refine hK.out _ _ ?_
        clear hK K
        refine done_ (done_of HT_.out (by kernel_rfl)) ?_
        go_wp2
        go_ret
        exact ⟨_, _, _, _, rfl, HG.out, H0.out, HF3.out, D_G_0.out, D_G_F3.out, D_0_F3.out, RR0.out, RRF3.out, HB.out, HK.out⟩
      · rw [if_neg c2] at h
        exact absurd h (by simp)
  rw [if_neg k1] at h
  have k1b : (a0 == 1) = false := beq_eq_false_iff_ne.mpr k1
  by_cases k2 : a0 = 2
  · rw [if_pos k2] at h
    have k2b : (a0 == 2) = true := beq_iff_eq.mpr k2
    clear k1 k2
    obtain ⟨t1, e1, h⟩ := Option.bind_eq_some_iff.1 h
    have E1 := Aside0.mk e1
    clear e1
    simp only [Option.some.injEq, Prod.mk.injEq] at h
    obtain ⟨rfl, rfl, rfl⟩ := h

    go_enter Try.func72, Try.ntmps72
    go_wp2_with (first | ((with_reducible refine gate_dst (N := 3) rfl ?_); refine box_event ?hg_1 (N := 3) ?hd_1 (cs := #[.int .i64 a0, .int .i64 a1, .int .i64 a2, .slice A3 l3.length c3]) (t := 100) ?hr_1 ?_; (case hd_1 => rfl); (case hg_1 => rfl); (case hr_1 => first | (go_simp; done) | (go_simp; rfl)); intro gX1 hg w2 hbox hb; have hk := kept_below hb; obtain ⟨PX1, hPX1, HLX1⟩ := LB.fresh hg hbox; have HX1 := Aside0.mk HLX1; clear HLX1; have GEX1 := Aside0.mk (show w.heap.size ≤ gX1 from (by rw [hg]; exact HB.out.size)); have D_G_X1 := Aside0.mk (new_apart HG.out.lt hPX1); have D_0_X1 := Aside0.mk (new_apart H0.out.lt hPX1); have D_1_X1 := Aside0.mk (new_apart H1.out.lt hPX1); have RRX1 := Aside0.mk (show ∀ k_, PX1 k_ → (fun k_ => (PG k_ ∨ P0 k_) ∨ P1 k_) k_ ∨ ws.heap.size ≤ k_ from fun k_ h_ => .inr (Nat.le_trans HK.out.1 (hPX1 k_ h_).1)); replace HG := Aside0.mk (HG.out.step hk no_S); replace H0 := Aside0.mk (H0.out.step hk no_S); replace H1 := Aside0.mk (H1.out.step hk no_S); replace HK := Aside0.mk (HK.out.then_ hk (fun _ h_ => h_.elim)); replace HB := Aside0.mk (below_step HB.out hb); clear hb hk hbox hg hPX1; (try clear hxG_0 hfG_0 hxG_1 hfG_1); have hxG_0 := (HG.out.cell 0).trans (show _ = some (.slice B0 l0.length D0) from rfl); have hfG_0 := HG.out.frozen 0; have hxG_1 := (HG.out.cell 1).trans (show _ = some (.slice B1 l1.length D1) from rfl); have hfG_1 := HG.out.frozen 1; (try clear hxX1_0 hfX1_0 hxX1_1 hfX1_1 hxX1_2 hfX1_2 hxX1_3 hfX1_3); have hxX1_0 := (HX1.out.cell 0).trans (show _ = some (.int .i64 a0) from rfl); have hfX1_0 := HX1.out.frozen 0; have hxX1_1 := (HX1.out.cell 1).trans (show _ = some (.int .i64 a1) from rfl); have hfX1_1 := HX1.out.frozen 1; have hxX1_2 := (HX1.out.cell 2).trans (show _ = some (.int .i64 a2) from rfl); have hfX1_2 := HX1.out.frozen 2; have hxX1_3 := (HX1.out.cell 3).trans (show _ = some (.slice A3 l3.length c3) from rfl); have hfX1_3 := HX1.out.frozen 3) | ((with_reducible refine gate_callee (f := 54) rfl ?_); refine goesL_ (some 36) rfl rfl Try.func54 (by kernel_rfl) rfl #[.agg #[.slice B0 l0.length D0, .slice B1 l1.length D1]] rfl (by (try simp only [List.map_toArray, List.map_cons, List.map_nil]); first | done | rfl | (simp only [List.length_drop, List.length_take]; rfl)) ?_; (with_reducible refine (impl_Disk_bytes.calls k _ _ l0 _ _ l1 t1 _ H0.out.reads H0.out.room H1.out.reads H1.out.room E1.out).mono ?_); rintro e w2 ⟨vF4, rfl, hrF4, hb⟩; refine ⟨_, rfl, ?_⟩; have hk := kept_below hb; obtain ⟨PF4, hPF4, HLF4⟩ := LR.fresh rfl HB.out hrF4; have HF4 := Aside0.mk HLF4; clear HLF4 hrF4; have D_G_F4 := Aside0.mk (new_apart HG.out.lt hPF4); have D_0_F4 := Aside0.mk (new_apart H0.out.lt hPF4); have D_1_F4 := Aside0.mk (new_apart H1.out.lt hPF4); have D_X1_F4 := Aside0.mk (new_apart HX1.out.lt hPF4); have RRF4 := Aside0.mk (show ∀ k_, PF4 k_ → (fun k_ => (PG k_ ∨ P0 k_) ∨ P1 k_) k_ ∨ ws.heap.size ≤ k_ from fun k_ h_ => .inr (Nat.le_trans HK.out.1 (hPF4 k_ h_).1)); replace HG := Aside0.mk (HG.out.step hk no_S); replace H0 := Aside0.mk (H0.out.step hk no_S); replace H1 := Aside0.mk (H1.out.step hk no_S); replace HX1 := Aside0.mk (HX1.out.step hk no_S); replace HK := Aside0.mk (HK.out.then_ hk (fun _ h_ => h_.elim)); clear hPF4; obtain ⟨BF4, DF4, e_F4⟩ := HF4.out.val; subst e_F4; replace HB := Aside0.mk (below_step HB.out hb); clear hb hk; (try clear hxG_0 hfG_0 hxG_1 hfG_1); have hxG_0 := (HG.out.cell 0).trans (show _ = some (.slice B0 l0.length D0) from rfl); have hfG_0 := HG.out.frozen 0; have hxG_1 := (HG.out.cell 1).trans (show _ = some (.slice B1 l1.length D1) from rfl); have hfG_1 := HG.out.frozen 1; (try clear hxX1_0 hfX1_0 hxX1_1 hfX1_1 hxX1_2 hfX1_2 hxX1_3 hfX1_3); have hxX1_0 := (HX1.out.cell 0).trans (show _ = some (.int .i64 a0) from rfl); have hfX1_0 := HX1.out.frozen 0; have hxX1_1 := (HX1.out.cell 1).trans (show _ = some (.int .i64 a1) from rfl); have hfX1_1 := HX1.out.frozen 1; have hxX1_2 := (HX1.out.cell 2).trans (show _ = some (.int .i64 a2) from rfl); have hfX1_2 := HX1.out.frozen 2; have hxX1_3 := (HX1.out.cell 3).trans (show _ = some (.slice A3 l3.length c3) from rfl); have hfX1_3 := HX1.out.frozen 3) | ((with_reducible refine gate_store (t := 29) (p := 38) rfl ?_); refine LB.stored HG.out HB.out GEG.out 0 [.slice BF4 t1.length DF4, .slice none 0 0] rfl (t := 29) (p := 38) rfl rfl ?hr_4 ?_; (case hr_4 => first | (go_simp; done) | (go_simp; rfl)); intro w2 hx hk hb; replace H0 := Aside0.mk (H0.out.step hk (apart_symm D_G_0.out)); replace H1 := Aside0.mk (H1.out.step hk (apart_symm D_G_1.out)); replace HX1 := Aside0.mk (HX1.out.step hk (apart_symm D_G_X1.out)); replace HF4 := Aside0.mk (HF4.out.step hk (apart_symm D_G_F4.out)); replace HK := Aside0.mk (HK.out.then_ hk RRG.out); replace HB := Aside0.mk hb; replace HG := Aside0.mk (show LB w2 PG gG 29 #[.slice BF4 t1.length DF4, .slice none 0 0] from hx); clear hk hx hb; (try clear hxG_0 hfG_0 hxG_1 hfG_1); have hxG_0 := (HG.out.cell 0).trans (show _ = some (.slice BF4 t1.length DF4) from rfl); have hfG_0 := HG.out.frozen 0; have hxG_1 := (HG.out.cell 1).trans (show _ = some (.slice none 0 0) from rfl); have hfG_1 := HG.out.frozen 1; (try clear hxX1_0 hfX1_0 hxX1_1 hfX1_1 hxX1_2 hfX1_2 hxX1_3 hfX1_3); have hxX1_0 := (HX1.out.cell 0).trans (show _ = some (.int .i64 a0) from rfl); have hfX1_0 := HX1.out.frozen 0; have hxX1_1 := (HX1.out.cell 1).trans (show _ = some (.int .i64 a1) from rfl); have hfX1_1 := HX1.out.frozen 1; have hxX1_2 := (HX1.out.cell 2).trans (show _ = some (.int .i64 a2) from rfl); have hfX1_2 := HX1.out.frozen 2; have hxX1_3 := (HX1.out.cell 3).trans (show _ = some (.slice A3 l3.length c3) from rfl); have hfX1_3 := HX1.out.frozen 3))
    go_ret
    exact ⟨_, _, _, _, rfl, HG.out, HF4.out, LS.nil _ _ _ _, D_G_F4.out, fun _ _ h_ => h_, fun _ _ h_ => h_, RRF4.out, fun _ h_ => h_.elim, HB.out, HK.out⟩
  rw [if_neg k2] at h
  have k2b : (a0 == 2) = false := beq_eq_false_iff_ne.mpr k2
  by_cases k3 : a0 = 3
  · rw [if_pos k3] at h
    have k3b : (a0 == 3) = true := beq_iff_eq.mpr k3
    clear k1 k2 k3
    by_cases c1 : a1 < 0
    · rw [if_pos c1] at h
      have cb1 : decide (a1 < 0) = true := decide_eq_true c1
      clear c1
      simp only [Option.some.injEq, Prod.mk.injEq] at h
      obtain ⟨rfl, rfl, rfl⟩ := h
      go_enter Try.func72, Try.ntmps72
      go_wp2_with (first | ((with_reducible refine gate_dst (N := 3) rfl ?_); refine box_event ?hg_1 (N := 3) ?hd_1 (cs := #[.int .i64 a0, .int .i64 a1, .int .i64 a2, .slice A3 l3.length c3]) (t := 100) ?hr_1 ?_; (case hd_1 => rfl); (case hg_1 => rfl); (case hr_1 => first | (go_simp; done) | (go_simp; rfl)); intro gX1 hg w2 hbox hb; have hk := kept_below hb; obtain ⟨PX1, hPX1, HLX1⟩ := LB.fresh hg hbox; have HX1 := Aside0.mk HLX1; clear HLX1; have GEX1 := Aside0.mk (show w.heap.size ≤ gX1 from (by rw [hg]; exact HB.out.size)); have D_G_X1 := Aside0.mk (new_apart HG.out.lt hPX1); have D_0_X1 := Aside0.mk (new_apart H0.out.lt hPX1); have D_1_X1 := Aside0.mk (new_apart H1.out.lt hPX1); have RRX1 := Aside0.mk (show ∀ k_, PX1 k_ → (fun k_ => (PG k_ ∨ P0 k_) ∨ P1 k_) k_ ∨ ws.heap.size ≤ k_ from fun k_ h_ => .inr (Nat.le_trans HK.out.1 (hPX1 k_ h_).1)); replace HG := Aside0.mk (HG.out.step hk no_S); replace H0 := Aside0.mk (H0.out.step hk no_S); replace H1 := Aside0.mk (H1.out.step hk no_S); replace HK := Aside0.mk (HK.out.then_ hk (fun _ h_ => h_.elim)); replace HB := Aside0.mk (below_step HB.out hb); clear hb hk hbox hg hPX1; (try clear hxG_0 hfG_0 hxG_1 hfG_1); have hxG_0 := (HG.out.cell 0).trans (show _ = some (.slice B0 l0.length D0) from rfl); have hfG_0 := HG.out.frozen 0; have hxG_1 := (HG.out.cell 1).trans (show _ = some (.slice B1 l1.length D1) from rfl); have hfG_1 := HG.out.frozen 1; (try clear hxX1_0 hfX1_0 hxX1_1 hfX1_1 hxX1_2 hfX1_2 hxX1_3 hfX1_3); have hxX1_0 := (HX1.out.cell 0).trans (show _ = some (.int .i64 a0) from rfl); have hfX1_0 := HX1.out.frozen 0; have hxX1_1 := (HX1.out.cell 1).trans (show _ = some (.int .i64 a1) from rfl); have hfX1_1 := HX1.out.frozen 1; have hxX1_2 := (HX1.out.cell 2).trans (show _ = some (.int .i64 a2) from rfl); have hfX1_2 := HX1.out.frozen 2; have hxX1_3 := (HX1.out.cell 3).trans (show _ = some (.slice A3 l3.length c3) from rfl); have hfX1_3 := HX1.out.frozen 3))
      go_ret
      exact ⟨_, _, _, _, rfl, HG.out, H0.out, H1.out, D_G_0.out, D_G_1.out, D_0_1.out, RR0.out, RR1.out, HB.out, HK.out⟩
    · rw [if_neg c1] at h
      have cb1 : decide (a1 < 0) = false := decide_eq_false c1
      clear c1
      by_cases c2 : a2 < 0
      · rw [if_pos c2] at h
        have cb2 : decide (a2 < 0) = true := decide_eq_true c2
        clear c2
        simp only [Option.some.injEq, Prod.mk.injEq] at h
        obtain ⟨rfl, rfl, rfl⟩ := h
        go_enter Try.func72, Try.ntmps72
        go_wp2_with (first | ((with_reducible refine gate_dst (N := 3) rfl ?_); refine box_event ?hg_1 (N := 3) ?hd_1 (cs := #[.int .i64 a0, .int .i64 a1, .int .i64 a2, .slice A3 l3.length c3]) (t := 100) ?hr_1 ?_; (case hd_1 => rfl); (case hg_1 => rfl); (case hr_1 => first | (go_simp; done) | (go_simp; rfl)); intro gX1 hg w2 hbox hb; have hk := kept_below hb; obtain ⟨PX1, hPX1, HLX1⟩ := LB.fresh hg hbox; have HX1 := Aside0.mk HLX1; clear HLX1; have GEX1 := Aside0.mk (show w.heap.size ≤ gX1 from (by rw [hg]; exact HB.out.size)); have D_G_X1 := Aside0.mk (new_apart HG.out.lt hPX1); have D_0_X1 := Aside0.mk (new_apart H0.out.lt hPX1); have D_1_X1 := Aside0.mk (new_apart H1.out.lt hPX1); have RRX1 := Aside0.mk (show ∀ k_, PX1 k_ → (fun k_ => (PG k_ ∨ P0 k_) ∨ P1 k_) k_ ∨ ws.heap.size ≤ k_ from fun k_ h_ => .inr (Nat.le_trans HK.out.1 (hPX1 k_ h_).1)); replace HG := Aside0.mk (HG.out.step hk no_S); replace H0 := Aside0.mk (H0.out.step hk no_S); replace H1 := Aside0.mk (H1.out.step hk no_S); replace HK := Aside0.mk (HK.out.then_ hk (fun _ h_ => h_.elim)); replace HB := Aside0.mk (below_step HB.out hb); clear hb hk hbox hg hPX1; (try clear hxG_0 hfG_0 hxG_1 hfG_1); have hxG_0 := (HG.out.cell 0).trans (show _ = some (.slice B0 l0.length D0) from rfl); have hfG_0 := HG.out.frozen 0; have hxG_1 := (HG.out.cell 1).trans (show _ = some (.slice B1 l1.length D1) from rfl); have hfG_1 := HG.out.frozen 1; (try clear hxX1_0 hfX1_0 hxX1_1 hfX1_1 hxX1_2 hfX1_2 hxX1_3 hfX1_3); have hxX1_0 := (HX1.out.cell 0).trans (show _ = some (.int .i64 a0) from rfl); have hfX1_0 := HX1.out.frozen 0; have hxX1_1 := (HX1.out.cell 1).trans (show _ = some (.int .i64 a1) from rfl); have hfX1_1 := HX1.out.frozen 1; have hxX1_2 := (HX1.out.cell 2).trans (show _ = some (.int .i64 a2) from rfl); have hfX1_2 := HX1.out.frozen 2; have hxX1_3 := (HX1.out.cell 3).trans (show _ = some (.slice A3 l3.length c3) from rfl); have hfX1_3 := HX1.out.frozen 3))
        go_ret
        exact ⟨_, _, _, _, rfl, HG.out, H0.out, H1.out, D_G_0.out, D_G_1.out, D_0_1.out, RR0.out, RR1.out, HB.out, HK.out⟩
      · rw [if_neg c2] at h
        have cb2 : decide (a2 < 0) = false := decide_eq_false c2
        clear c2
        obtain ⟨⟨t1, t2⟩, e1, h⟩ := Option.bind_eq_some_iff.1 h
        have E1 := Aside0.mk e1
        clear e1
        simp only [Option.some.injEq, Prod.mk.injEq] at h
        obtain ⟨rfl, rfl, rfl⟩ := h

        go_enter Try.func72, Try.ntmps72
        go_upto_region 12 with (first | ((with_reducible refine gate_dst (N := 3) rfl ?_); refine box_event ?hg_1 (N := 3) ?hd_1 (cs := #[.int .i64 a0, .int .i64 a1, .int .i64 a2, .slice A3 l3.length c3]) (t := 100) ?hr_1 ?_; (case hd_1 => rfl); (case hg_1 => rfl); (case hr_1 => first | (go_simp; done) | (go_simp; rfl)); intro gX1 hg w2 hbox hb; have hk := kept_below hb; obtain ⟨PX1, hPX1, HLX1⟩ := LB.fresh hg hbox; have HX1 := Aside0.mk HLX1; clear HLX1; have GEX1 := Aside0.mk (show w.heap.size ≤ gX1 from (by rw [hg]; exact HB.out.size)); have D_G_X1 := Aside0.mk (new_apart HG.out.lt hPX1); have D_0_X1 := Aside0.mk (new_apart H0.out.lt hPX1); have D_1_X1 := Aside0.mk (new_apart H1.out.lt hPX1); have RRX1 := Aside0.mk (show ∀ k_, PX1 k_ → (fun k_ => (PG k_ ∨ P0 k_) ∨ P1 k_) k_ ∨ ws.heap.size ≤ k_ from fun k_ h_ => .inr (Nat.le_trans HK.out.1 (hPX1 k_ h_).1)); replace HG := Aside0.mk (HG.out.step hk no_S); replace H0 := Aside0.mk (H0.out.step hk no_S); replace H1 := Aside0.mk (H1.out.step hk no_S); replace HK := Aside0.mk (HK.out.then_ hk (fun _ h_ => h_.elim)); replace HB := Aside0.mk (below_step HB.out hb); clear hb hk hbox hg hPX1; (try clear hxG_0 hfG_0 hxG_1 hfG_1); have hxG_0 := (HG.out.cell 0).trans (show _ = some (.slice B0 l0.length D0) from rfl); have hfG_0 := HG.out.frozen 0; have hxG_1 := (HG.out.cell 1).trans (show _ = some (.slice B1 l1.length D1) from rfl); have hfG_1 := HG.out.frozen 1; (try clear hxX1_0 hfX1_0 hxX1_1 hfX1_1 hxX1_2 hfX1_2 hxX1_3 hfX1_3); have hxX1_0 := (HX1.out.cell 0).trans (show _ = some (.int .i64 a0) from rfl); have hfX1_0 := HX1.out.frozen 0; have hxX1_1 := (HX1.out.cell 1).trans (show _ = some (.int .i64 a1) from rfl); have hfX1_1 := HX1.out.frozen 1; have hxX1_2 := (HX1.out.cell 2).trans (show _ = some (.int .i64 a2) from rfl); have hfX1_2 := HX1.out.frozen 2; have hxX1_3 := (HX1.out.cell 3).trans (show _ = some (.slice A3 l3.length c3) from rfl); have hfX1_3 := HX1.out.frozen 3))
        refine start_ (n := 11) (S := fun w' => w'.cell? ⟨gG, 0, none⟩ = some (.slice B0 l0.length D0) ∧ w'.cell? ⟨gG, 1, none⟩ = some (.slice B1 l1.length D1) ∧ w'.cell? ⟨gX1, 1, none⟩ = some (.int .i64 a1) ∧ w'.cell? ⟨gX1, 2, none⟩ = some (.int .i64 a2)) (ds := [10]) #[false, false, false, false, false, false, false, false, false, false, false] (by kernel_rfl) rfl rfl ⟨hxG_0, hxG_1, hxX1_1, hxX1_2⟩ (fun hHeld => ?_)
        refine with_tabW impl_Disk_act.tab12 impl_Disk_act.bits12 (fun HT_ HW_ => ?_)
        generalize hwd_ : World.drew w2 = wd_ at hHeld ⊢
        have hk := kept_drew hwd_
        replace HG := Aside0.mk (HG.out.step hk no_S)
        replace H0 := Aside0.mk (H0.out.step hk no_S)
        replace H1 := Aside0.mk (H1.out.step hk no_S)
        replace HX1 := Aside0.mk (HX1.out.step hk no_S)
        replace HK := Aside0.mk (HK.out.then_ hk (fun _ h_ => h_.elim))
        replace HB := Aside0.mk (below_drewd HB.out hwd_)
        clear hk hwd_
        (try clear hxG_0 hfG_0 hxG_1 hfG_1)
        have hxG_0 := (HG.out.cell 0).trans (show _ = some (.slice B0 l0.length D0) from rfl)
        have hfG_0 := HG.out.frozen 0
        have hxG_1 := (HG.out.cell 1).trans (show _ = some (.slice B1 l1.length D1) from rfl)
        have hfG_1 := HG.out.frozen 1
        (try clear hxX1_0 hfX1_0 hxX1_1 hfX1_1 hxX1_2 hfX1_2 hxX1_3 hfX1_3)
        have hxX1_0 := (HX1.out.cell 0).trans (show _ = some (.int .i64 a0) from rfl)
        have hfX1_0 := HX1.out.frozen 0
        have hxX1_1 := (HX1.out.cell 1).trans (show _ = some (.int .i64 a1) from rfl)
        have hfX1_1 := HX1.out.frozen 1
        have hxX1_2 := (HX1.out.cell 2).trans (show _ = some (.int .i64 a2) from rfl)
        have hfX1_2 := HX1.out.frozen 2
        have hxX1_3 := (HX1.out.cell 3).trans (show _ = some (.slice A3 l3.length c3) from rfl)
        have hfX1_3 := HX1.out.frozen 3
        refine pure_ (i := 0) (N := some 49) (v := ?_) (a' := ?_) #[true, false, false, false, false, false, false, false, false, false, false] rfl rfl (any_of HT_.out (by kernel_rfl)) (fun _ _ _ h => h) (Or.inl ⟨by rfl, ?_⟩) ?_ ?_
        rotate_left
        · intro w'
          go_simp
          with_reducible rfl
        rotate_left
        · simp only [Act.put, List.setIfInBounds_toArray, List.set_cons_zero, List.set_cons_succ, i64_w, i32_w]
          rfl
        refine pure_ (i := 1) (N := some 50) (v := ?_) (a' := ?_) #[true, true, false, false, false, false, false, false, false, false, false] rfl rfl (any_of HT_.out (by kernel_rfl)) (fun _ _ _ h => h) (Or.inl ⟨by rfl, ?_⟩) ?_ ?_
        rotate_left
        · intro w'
          go_simp
          with_reducible rfl
        rotate_left
        · simp only [Act.put, List.setIfInBounds_toArray, List.set_cons_zero, List.set_cons_succ, i64_w, i32_w]
          rfl
        refine pure_ (i := 2) (N := some 51) (v := ?_) (a' := ?_) #[true, true, true, false, false, false, false, false, false, false, false] rfl rfl (any_of HT_.out (by kernel_rfl)) (fun _ _ _ h => h) (Or.inl ⟨by rfl, ?_⟩) ?_ ?_
        rotate_left
        · intro w'
          go_simp
          with_reducible rfl
        rotate_left
        · simp only [Act.put, List.setIfInBounds_toArray, List.set_cons_zero, List.set_cons_succ, i64_w, i32_w]
          rfl
        refine take_ (i := 3) (N := some 52) (v := ?_) (a' := ?_) #[true, true, true, true, false, false, false, false, false, false, false] rfl rfl (take_ofW HT_.out HW_.out (by kernel_rfl)) (fun _ _ _ h => h) (Or.inl ⟨by rfl, ?_⟩) hHeld ?_ ?_
        rotate_left
        · rintro w' ⟨s0, s1, s2, s3⟩
          go_simp
          with_reducible rfl
        rotate_left
        · simp only [Act.put, List.setIfInBounds_toArray, List.set_cons_zero, List.set_cons_succ, i64_w, i32_w]
          rfl
        refine pure_ (i := 4) (N := some 53) (v := ?_) (a' := ?_) #[true, true, true, true, true, false, false, false, false, false, false] rfl rfl (any_of HT_.out (by kernel_rfl)) (fun _ _ _ h => h) (Or.inl ⟨by rfl, ?_⟩) ?_ ?_
        rotate_left
        · intro w'
          go_simp
          with_reducible rfl
        rotate_left
        · simp only [Act.put, List.setIfInBounds_toArray, List.set_cons_zero, List.set_cons_succ, i64_w, i32_w]
          rfl
        refine take_ (i := 5) (N := some 54) (v := ?_) (a' := ?_) #[true, true, true, true, true, true, false, false, false, false, false] rfl rfl (take_ofW HT_.out HW_.out (by kernel_rfl)) (fun _ _ _ h => h) (Or.inl ⟨by rfl, ?_⟩) hHeld ?_ ?_
        rotate_left
        · rintro w' ⟨s0, s1, s2, s3⟩
          go_simp
          with_reducible rfl
        rotate_left
        · simp only [Act.put, List.setIfInBounds_toArray, List.set_cons_zero, List.set_cons_succ, i64_w, i32_w]
          rfl
        refine pure_ (i := 6) (N := some 55) (v := ?_) (a' := ?_) #[true, true, true, true, true, true, true, false, false, false, false] rfl rfl (any_of HT_.out (by kernel_rfl)) (fun _ _ _ h => h) (Or.inl ⟨by rfl, ?_⟩) ?_ ?_
        rotate_left
        · intro w'
          go_simp
          with_reducible rfl
        rotate_left
        · simp only [Act.put, List.setIfInBounds_toArray, List.set_cons_zero, List.set_cons_succ, i64_w, i32_w]
          rfl
        refine take_ (i := 7) (N := some 56) (v := ?_) (a' := ?_) #[true, true, true, true, true, true, true, true, false, false, false] rfl rfl (take_ofW HT_.out HW_.out (by kernel_rfl)) (fun _ _ _ h => h) (Or.inl ⟨by rfl, ?_⟩) hHeld ?_ ?_
        rotate_left
        · rintro w' ⟨s0, s1, s2, s3⟩
          go_simp
          with_reducible rfl
        rotate_left
        · simp only [Act.put, List.setIfInBounds_toArray, List.set_cons_zero, List.set_cons_succ, i64_w, i32_w]
          rfl
        refine one_ (i := 8) (N := some 57) #[true, true, true, true, true, true, true, true, true, false, false] rfl rfl (one_of HT_.out (by kernel_rfl)) (by decide) (fun K hK => ?_)
        refine goes_ Try.func69 (by kernel_rfl) rfl #[.agg #[.slice B0 l0.length D0, .slice B1 l1.length D1], .int .i64 a1, .int .i64 a2] (by rfl) rfl rfl (by (try simp only [List.map_toArray, List.map_cons, List.map_nil]); first | done | rfl | (simp only [List.length_drop, List.length_take]; rfl)) ?_
        (with_reducible refine (impl_Disk_crash.calls k _ _ l0 _ _ l1 a1 a2 t1 t2 _ H0.out.reads H0.out.room H1.out.reads H1.out.room E1.out).mono ?_)
        rintro e w2 ⟨vF5, vF6, rfl, hrF5, hrF6, hb⟩
        refine ⟨_, rfl, ?_⟩
        have hk := kept_below hb
        obtain ⟨PF5, hPF5, HLF5⟩ := LR.fresh rfl HB.out hrF5
        have HF5 := Aside0.mk HLF5
        clear HLF5 hrF5
        have D_G_F5 := Aside0.mk (new_apart HG.out.lt hPF5)
        have D_0_F5 := Aside0.mk (new_apart H0.out.lt hPF5)
        have D_1_F5 := Aside0.mk (new_apart H1.out.lt hPF5)
        have D_X1_F5 := Aside0.mk (new_apart HX1.out.lt hPF5)
        have RRF5 := Aside0.mk (show ∀ k_, PF5 k_ → (fun k_ => (PG k_ ∨ P0 k_) ∨ P1 k_) k_ ∨ ws.heap.size ≤ k_ from fun k_ h_ => .inr (Nat.le_trans HK.out.1 (hPF5 k_ h_).1))
        obtain ⟨PF6, hPF6, HLF6⟩ := LS.fresh HB.out hrF6
        have HF6 := Aside0.mk HLF6
        clear HLF6 hrF6
        have D_G_F6 := Aside0.mk (new_apart HG.out.lt hPF6)
        have D_0_F6 := Aside0.mk (new_apart H0.out.lt hPF6)
        have D_1_F6 := Aside0.mk (new_apart H1.out.lt hPF6)
        have D_X1_F6 := Aside0.mk (new_apart HX1.out.lt hPF6)
        have RRF6 := Aside0.mk (show ∀ k_, PF6 k_ → (fun k_ => (PG k_ ∨ P0 k_) ∨ P1 k_) k_ ∨ ws.heap.size ≤ k_ from fun k_ h_ => .inr (Nat.le_trans HK.out.1 (hPF6 k_ h_).1))
        have D_F5_F6 := Aside0.mk (show ∀ k_, PF5 k_ → ¬ PF6 k_ from fun k_ h1_ h2_ => by have a1_ := hPF5 k_ h1_; have a2_ := hPF6 k_ h2_; simp_all)
        replace HG := Aside0.mk (HG.out.step hk no_S)
        replace H0 := Aside0.mk (H0.out.step hk no_S)
        replace H1 := Aside0.mk (H1.out.step hk no_S)
        replace HX1 := Aside0.mk (HX1.out.step hk no_S)
        replace HK := Aside0.mk (HK.out.then_ hk (fun _ h_ => h_.elim))
        clear hPF5
        obtain ⟨BF5, DF5, e_F5⟩ := HF5.out.val
        subst e_F5
        clear hPF6
        obtain ⟨BF6, DF6, e_F6⟩ := HF6.out.val
        subst e_F6
        replace HB := Aside0.mk (below_step HB.out hb)
        clear hb hk
        (try clear hxG_0 hfG_0 hxG_1 hfG_1)
        have hxG_0 := (HG.out.cell 0).trans (show _ = some (.slice B0 l0.length D0) from rfl)
        have hfG_0 := HG.out.frozen 0
        have hxG_1 := (HG.out.cell 1).trans (show _ = some (.slice B1 l1.length D1) from rfl)
        have hfG_1 := HG.out.frozen 1
        (try clear hxX1_0 hfX1_0 hxX1_1 hfX1_1 hxX1_2 hfX1_2 hxX1_3 hfX1_3)
        have hxX1_0 := (HX1.out.cell 0).trans (show _ = some (.int .i64 a0) from rfl)
        have hfX1_0 := HX1.out.frozen 0
        have hxX1_1 := (HX1.out.cell 1).trans (show _ = some (.int .i64 a1) from rfl)
        have hfX1_1 := HX1.out.frozen 1
        have hxX1_2 := (HX1.out.cell 2).trans (show _ = some (.int .i64 a2) from rfl)
        have hfX1_2 := HX1.out.frozen 2
        have hxX1_3 := (HX1.out.cell 3).trans (show _ = some (.slice A3 l3.length c3) from rfl)
        have hfX1_3 := HX1.out.frozen 3
        refine hK.out _ _ ⟨hxG_0, hxG_1, hxX1_1, hxX1_2⟩ (fun hHeld => ?_)
        clear hK K
        refine norm_ (a' := ?_) ?_ ?_
        rotate_left
        · show Act.put _ (some 57) _ = _
          simp only [Act.put, List.setIfInBounds_toArray, List.set_cons_zero, List.set_cons_succ, i64_w, i32_w]
          rfl
        refine pure_ (i := 9) (N := some 58) (v := ?_) (a' := ?_) #[true, true, true, true, true, true, true, true, true, true, false] rfl rfl (any_of HT_.out (by kernel_rfl)) (fun _ _ _ h => h) (Or.inl ⟨by rfl, ?_⟩) ?_ ?_
        rotate_left
        · intro w'
          go_simp
          with_reducible rfl
        rotate_left
        · simp only [Act.put, List.setIfInBounds_toArray, List.set_cons_zero, List.set_cons_succ, i64_w, i32_w]
          rfl
        refine last_ (i := 10) (N := none) #[true, true, true, true, true, true, true, true, true, true, true] rfl rfl (one_of HT_.out (by kernel_rfl)) (by decide) (fun K hK => ?_)
        refine LB.stored_step HG.out HB.out GEG.out 0 [.slice BF5 t1.length DF5, .slice BF6 t2.length DF6] (by rfl) rfl ?hr_5 ?_
        (case hr_5 => first | (go_simp; done) | (go_simp; rfl))
        intro w2 hx hk hb
        replace H0 := Aside0.mk (H0.out.step hk (apart_symm D_G_0.out))
        replace H1 := Aside0.mk (H1.out.step hk (apart_symm D_G_1.out))
        replace HX1 := Aside0.mk (HX1.out.step hk (apart_symm D_G_X1.out))
        replace HF5 := Aside0.mk (HF5.out.step hk (apart_symm D_G_F5.out))
        replace HF6 := Aside0.mk (HF6.out.step hk (apart_symm D_G_F6.out))
        replace HK := Aside0.mk (HK.out.then_ hk RRG.out)
        replace HB := Aside0.mk hb
        replace HG := Aside0.mk (show LB w2 PG gG 29 #[.slice BF5 t1.length DF5, .slice BF6 t2.length DF6] from hx)
        clear hk hx hb
        (try clear hxG_0 hfG_0 hxG_1 hfG_1)
        have hxG_0 := (HG.out.cell 0).trans (show _ = some (.slice BF5 t1.length DF5) from rfl)
        have hfG_0 := HG.out.frozen 0
        have hxG_1 := (HG.out.cell 1).trans (show _ = some (.slice BF6 t2.length DF6) from rfl)
        have hfG_1 := HG.out.frozen 1
        (try clear hxX1_0 hfX1_0 hxX1_1 hfX1_1 hxX1_2 hfX1_2 hxX1_3 hfX1_3)
        have hxX1_0 := (HX1.out.cell 0).trans (show _ = some (.int .i64 a0) from rfl)
        have hfX1_0 := HX1.out.frozen 0
        have hxX1_1 := (HX1.out.cell 1).trans (show _ = some (.int .i64 a1) from rfl)
        have hfX1_1 := HX1.out.frozen 1
        have hxX1_2 := (HX1.out.cell 2).trans (show _ = some (.int .i64 a2) from rfl)
        have hfX1_2 := HX1.out.frozen 2
        have hxX1_3 := (HX1.out.cell 3).trans (show _ = some (.slice A3 l3.length c3) from rfl)
        have hfX1_3 := HX1.out.frozen 3
        refine hK.out _ _ ?_
        clear hK K
        refine done_ (done_of HT_.out (by kernel_rfl)) ?_
        go_wp2
        go_ret
        exact ⟨_, _, _, _, rfl, HG.out, HF5.out, HF6.out, D_G_F5.out, D_G_F6.out, D_F5_F6.out, RRF5.out, RRF6.out, HB.out, HK.out⟩
  rw [if_neg k3] at h
  have k3b : (a0 == 3) = false := beq_eq_false_iff_ne.mpr k3
  by_cases k4 : a0 = 4
  · rw [if_pos k4] at h
    have k4b : (a0 == 4) = true := beq_iff_eq.mpr k4
    clear k1 k2 k3 k4
    obtain ⟨t1, e1, h⟩ := Option.bind_eq_some_iff.1 h
    have E1 := Aside0.mk e1
    obtain ⟨t2, e2, h⟩ := Option.bind_eq_some_iff.1 h
    have E2 := Aside0.mk e2
    clear e1 e2
    by_cases c1 : t2 = true
    · rw [if_pos c1] at h
      subst c1
      obtain ⟨t3, e3, h⟩ := Option.bind_eq_some_iff.1 h
      have E3 := Aside0.mk e3
      clear e3
      by_cases c2 : 0 ≤ a1
      · rw [if_pos c2] at h
        by_cases c3 : a1 ≤ (t3.length : Int)
        · rw [if_pos c3] at h
          have C2 := Aside0.mk c2
          have C3 := Aside0.mk c3
          clear c2 c3
          obtain ⟨y1, hy1⟩ : ∃ y_ : List Int, y_ = t3.take a1.toNat := ⟨_, rfl⟩
          rw [← hy1] at h
          have Ny1 := Aside0.mk hy1
          clear hy1
          simp only [Option.some.injEq, Prod.mk.injEq] at h
          obtain ⟨rfl, rfl, rfl⟩ := h

          go_enter Try.func72, Try.ntmps72
          go_upto_region 14 with (first | ((with_reducible refine gate_dst (N := 3) rfl ?_); refine box_event ?hg_1 (N := 3) ?hd_1 (cs := #[.int .i64 a0, .int .i64 a1, .int .i64 a2, .slice A3 l3.length c3]) (t := 100) ?hr_1 ?_; (case hd_1 => rfl); (case hg_1 => rfl); (case hr_1 => first | (go_simp; done) | (go_simp; rfl)); intro gX1 hg w2 hbox hb; have hk := kept_below hb; obtain ⟨PX1, hPX1, HLX1⟩ := LB.fresh hg hbox; have HX1 := Aside0.mk HLX1; clear HLX1; have GEX1 := Aside0.mk (show w.heap.size ≤ gX1 from (by rw [hg]; exact HB.out.size)); have D_G_X1 := Aside0.mk (new_apart HG.out.lt hPX1); have D_0_X1 := Aside0.mk (new_apart H0.out.lt hPX1); have D_1_X1 := Aside0.mk (new_apart H1.out.lt hPX1); have RRX1 := Aside0.mk (show ∀ k_, PX1 k_ → (fun k_ => (PG k_ ∨ P0 k_) ∨ P1 k_) k_ ∨ ws.heap.size ≤ k_ from fun k_ h_ => .inr (Nat.le_trans HK.out.1 (hPX1 k_ h_).1)); replace HG := Aside0.mk (HG.out.step hk no_S); replace H0 := Aside0.mk (H0.out.step hk no_S); replace H1 := Aside0.mk (H1.out.step hk no_S); replace HK := Aside0.mk (HK.out.then_ hk (fun _ h_ => h_.elim)); replace HB := Aside0.mk (below_step HB.out hb); clear hb hk hbox hg hPX1; (try clear hxG_0 hfG_0 hxG_1 hfG_1); have hxG_0 := (HG.out.cell 0).trans (show _ = some (.slice B0 l0.length D0) from rfl); have hfG_0 := HG.out.frozen 0; have hxG_1 := (HG.out.cell 1).trans (show _ = some (.slice B1 l1.length D1) from rfl); have hfG_1 := HG.out.frozen 1; (try clear hxX1_0 hfX1_0 hxX1_1 hfX1_1 hxX1_2 hfX1_2 hxX1_3 hfX1_3); have hxX1_0 := (HX1.out.cell 0).trans (show _ = some (.int .i64 a0) from rfl); have hfX1_0 := HX1.out.frozen 0; have hxX1_1 := (HX1.out.cell 1).trans (show _ = some (.int .i64 a1) from rfl); have hfX1_1 := HX1.out.frozen 1; have hxX1_2 := (HX1.out.cell 2).trans (show _ = some (.int .i64 a2) from rfl); have hfX1_2 := HX1.out.frozen 2; have hxX1_3 := (HX1.out.cell 3).trans (show _ = some (.slice A3 l3.length c3) from rfl); have hfX1_3 := HX1.out.frozen 3))
          refine start_ (n := 8) (S := fun w' => w'.cell? ⟨gG, 0, none⟩ = some (.slice B0 l0.length D0) ∧ w'.cell? ⟨gG, 1, none⟩ = some (.slice B1 l1.length D1) ∧ w'.cell? ⟨gX1, 1, none⟩ = some (.int .i64 a1)) (ds := []) #[false, false, false, false, false, false, false, false] (by kernel_rfl) rfl rfl ⟨hxG_0, hxG_1, hxX1_1⟩ (fun hHeld => ?_)
          refine with_tabW impl_Disk_act.tab14 impl_Disk_act.bits14 (fun HT_ HW_ => ?_)
          generalize hwd_ : World.drew w2 = wd_ at hHeld ⊢
          have hk := kept_drew hwd_
          replace HG := Aside0.mk (HG.out.step hk no_S)
          replace H0 := Aside0.mk (H0.out.step hk no_S)
          replace H1 := Aside0.mk (H1.out.step hk no_S)
          replace HX1 := Aside0.mk (HX1.out.step hk no_S)
          replace HK := Aside0.mk (HK.out.then_ hk (fun _ h_ => h_.elim))
          replace HB := Aside0.mk (below_drewd HB.out hwd_)
          clear hk hwd_
          (try clear hxG_0 hfG_0 hxG_1 hfG_1)
          have hxG_0 := (HG.out.cell 0).trans (show _ = some (.slice B0 l0.length D0) from rfl)
          have hfG_0 := HG.out.frozen 0
          have hxG_1 := (HG.out.cell 1).trans (show _ = some (.slice B1 l1.length D1) from rfl)
          have hfG_1 := HG.out.frozen 1
          (try clear hxX1_0 hfX1_0 hxX1_1 hfX1_1 hxX1_2 hfX1_2 hxX1_3 hfX1_3)
          have hxX1_0 := (HX1.out.cell 0).trans (show _ = some (.int .i64 a0) from rfl)
          have hfX1_0 := HX1.out.frozen 0
          have hxX1_1 := (HX1.out.cell 1).trans (show _ = some (.int .i64 a1) from rfl)
          have hfX1_1 := HX1.out.frozen 1
          have hxX1_2 := (HX1.out.cell 2).trans (show _ = some (.int .i64 a2) from rfl)
          have hfX1_2 := HX1.out.frozen 2
          have hxX1_3 := (HX1.out.cell 3).trans (show _ = some (.slice A3 l3.length c3) from rfl)
          have hfX1_3 := HX1.out.frozen 3
          refine pure_ (i := 0) (N := some 61) (v := ?_) (a' := ?_) #[true, false, false, false, false, false, false, false] rfl rfl (any_of HT_.out (by kernel_rfl)) (fun _ _ _ h => h) (Or.inl ⟨by rfl, ?_⟩) ?_ ?_
          rotate_left
          · intro w'
            go_simp
            with_reducible rfl
          rotate_left
          · simp only [Act.put, List.setIfInBounds_toArray, List.set_cons_zero, List.set_cons_succ, i64_w, i32_w]
            rfl
          refine take_ (i := 1) (N := some 62) (v := ?_) (a' := ?_) #[true, true, false, false, false, false, false, false] rfl rfl (take_ofW HT_.out HW_.out (by kernel_rfl)) (fun _ _ _ h => h) (Or.inl ⟨by rfl, ?_⟩) hHeld ?_ ?_
          rotate_left
          · rintro w' ⟨s0, s1, s2⟩
            go_simp
            with_reducible rfl
          rotate_left
          · simp only [Act.put, List.setIfInBounds_toArray, List.set_cons_zero, List.set_cons_succ, i64_w, i32_w]
            rfl
          refine pure_ (i := 2) (N := some 63) (v := ?_) (a' := ?_) #[true, true, true, false, false, false, false, false] rfl rfl (any_of HT_.out (by kernel_rfl)) (fun _ _ _ h => h) (Or.inl ⟨by rfl, ?_⟩) ?_ ?_
          rotate_left
          · intro w'
            go_simp
            with_reducible rfl
          rotate_left
          · simp only [Act.put, List.setIfInBounds_toArray, List.set_cons_zero, List.set_cons_succ, i64_w, i32_w]
            rfl
          refine pure_ (i := 3) (N := some 64) (v := ?_) (a' := ?_) #[true, true, true, true, false, false, false, false] rfl rfl (any_of HT_.out (by kernel_rfl)) (fun _ _ _ h => h) (Or.inl ⟨by rfl, ?_⟩) ?_ ?_
          rotate_left
          · intro w'
            go_simp
            with_reducible rfl
          rotate_left
          · simp only [Act.put, List.setIfInBounds_toArray, List.set_cons_zero, List.set_cons_succ, i64_w, i32_w]
            rfl
          refine take_ (i := 4) (N := some 65) (v := ?_) (a' := ?_) #[true, true, true, true, true, false, false, false] rfl rfl (take_ofW HT_.out HW_.out (by kernel_rfl)) (fun _ _ _ h => h) (Or.inl ⟨by rfl, ?_⟩) hHeld ?_ ?_
          rotate_left
          · rintro w' ⟨s0, s1, s2⟩
            go_simp
            with_reducible rfl
          rotate_left
          · simp only [Act.put, List.setIfInBounds_toArray, List.set_cons_zero, List.set_cons_succ, i64_w, i32_w]
            rfl
          refine one_ (i := 5) (N := some 66) #[true, true, true, true, true, true, false, false] rfl rfl (one_of HT_.out (by kernel_rfl)) (by decide) (fun K hK => ?_)
          refine goes_ Try.func96 (by kernel_rfl) rfl #[.agg #[.slice B0 l0.length D0, .slice B1 l1.length D1]] (by rfl) rfl rfl (by (try simp only [List.map_toArray, List.map_cons, List.map_nil]); first | done | rfl | (simp only [List.length_drop, List.length_take]; rfl)) ?_
          (with_reducible refine (impl_Disk_size.calls k _ _ l0 _ _ l1 t1 _ H0.out.reads H0.out.room H1.out.reads H1.out.room E1.out).mono ?_)
          rintro e w2 ⟨rfl, hb⟩
          refine ⟨_, rfl, ?_⟩
          have hk := kept_below hb
          replace HG := Aside0.mk (HG.out.step hk no_S)
          replace H0 := Aside0.mk (H0.out.step hk no_S)
          replace H1 := Aside0.mk (H1.out.step hk no_S)
          replace HX1 := Aside0.mk (HX1.out.step hk no_S)
          replace HK := Aside0.mk (HK.out.then_ hk (fun _ h_ => h_.elim))
          replace HB := Aside0.mk (below_step HB.out hb)
          clear hb hk
          (try clear hxG_0 hfG_0 hxG_1 hfG_1)
          have hxG_0 := (HG.out.cell 0).trans (show _ = some (.slice B0 l0.length D0) from rfl)
          have hfG_0 := HG.out.frozen 0
          have hxG_1 := (HG.out.cell 1).trans (show _ = some (.slice B1 l1.length D1) from rfl)
          have hfG_1 := HG.out.frozen 1
          (try clear hxX1_0 hfX1_0 hxX1_1 hfX1_1 hxX1_2 hfX1_2 hxX1_3 hfX1_3)
          have hxX1_0 := (HX1.out.cell 0).trans (show _ = some (.int .i64 a0) from rfl)
          have hfX1_0 := HX1.out.frozen 0
          have hxX1_1 := (HX1.out.cell 1).trans (show _ = some (.int .i64 a1) from rfl)
          have hfX1_1 := HX1.out.frozen 1
          have hxX1_2 := (HX1.out.cell 2).trans (show _ = some (.int .i64 a2) from rfl)
          have hfX1_2 := HX1.out.frozen 2
          have hxX1_3 := (HX1.out.cell 3).trans (show _ = some (.slice A3 l3.length c3) from rfl)
          have hfX1_3 := HX1.out.frozen 3
          refine hK.out _ _ ⟨hxG_0, hxG_1, hxX1_1⟩ (fun hHeld => ?_)
          clear hK K
          refine norm_ (a' := ?_) ?_ ?_
          rotate_left
          · show Act.put _ (some 66) _ = _
            simp only [Act.put, List.setIfInBounds_toArray, List.set_cons_zero, List.set_cons_succ, i64_w, i32_w]
            rfl
          refine one_ (i := 6) (N := some 67) #[true, true, true, true, true, true, true, false] rfl rfl (one_of HT_.out (by kernel_rfl)) (by decide) (fun K hK => ?_)
          refine goes_ Try.func99 (by kernel_rfl) rfl #[.int .i64 a1, .int .i64 0, .int .i64 t1] (by rfl) rfl rfl (by (try simp only [List.map_toArray, List.map_cons, List.map_nil]); first | done | rfl | (simp only [List.length_drop, List.length_take]; rfl)) ?_
          (with_reducible refine (impl_within.calls a1 0 t1 true _ E2.out).mono ?_)
          rintro e w2 ⟨rfl, hq⟩
          refine ⟨_, rfl, ?_⟩
          have hk := kept_drawn hq
          replace HG := Aside0.mk (HG.out.step hk no_S)
          replace H0 := Aside0.mk (H0.out.step hk no_S)
          replace H1 := Aside0.mk (H1.out.step hk no_S)
          replace HX1 := Aside0.mk (HX1.out.step hk no_S)
          replace HK := Aside0.mk (HK.out.then_ hk (fun _ h_ => h_.elim))
          replace HB := Aside0.mk (below_drawn HB.out hq)
          clear hk hq
          (try clear hxG_0 hfG_0 hxG_1 hfG_1)
          have hxG_0 := (HG.out.cell 0).trans (show _ = some (.slice B0 l0.length D0) from rfl)
          have hfG_0 := HG.out.frozen 0
          have hxG_1 := (HG.out.cell 1).trans (show _ = some (.slice B1 l1.length D1) from rfl)
          have hfG_1 := HG.out.frozen 1
          (try clear hxX1_0 hfX1_0 hxX1_1 hfX1_1 hxX1_2 hfX1_2 hxX1_3 hfX1_3)
          have hxX1_0 := (HX1.out.cell 0).trans (show _ = some (.int .i64 a0) from rfl)
          have hfX1_0 := HX1.out.frozen 0
          have hxX1_1 := (HX1.out.cell 1).trans (show _ = some (.int .i64 a1) from rfl)
          have hfX1_1 := HX1.out.frozen 1
          have hxX1_2 := (HX1.out.cell 2).trans (show _ = some (.int .i64 a2) from rfl)
          have hfX1_2 := HX1.out.frozen 2
          have hxX1_3 := (HX1.out.cell 3).trans (show _ = some (.slice A3 l3.length c3) from rfl)
          have hfX1_3 := HX1.out.frozen 3
          refine hK.out _ _ ⟨hxG_0, hxG_1, hxX1_1⟩ (fun hHeld => ?_)
          clear hK K
          refine norm_ (a' := ?_) ?_ ?_
          rotate_left
          · show Act.put _ (some 67) _ = _
            simp only [Act.put, List.setIfInBounds_toArray, List.set_cons_zero, List.set_cons_succ, i64_w, i32_w]
            rfl
          refine pure_ (i := 7) (N := some 68) (v := ?_) (a' := ?_) #[true, true, true, true, true, true, true, true] rfl rfl (any_of HT_.out (by kernel_rfl)) (fun _ _ _ h => h) (Or.inl ⟨by rfl, ?_⟩) ?_ ?_
          rotate_left
          · intro w'
            go_simp
            with_reducible rfl
          rotate_left
          · simp only [Act.put, List.setIfInBounds_toArray, List.set_cons_zero, List.set_cons_succ, i64_w, i32_w]
            rfl
          refine done_ (done_of HT_.out (by kernel_rfl)) ?_
          go_upto_region 16 with (fail)
          refine start_ (n := 11) (S := fun w' => w'.cell? ⟨gG, 0, none⟩ = some (.slice B0 l0.length D0) ∧ w'.cell? ⟨gG, 1, none⟩ = some (.slice B1 l1.length D1) ∧ w'.cell? ⟨gX1, 1, none⟩ = some (.int .i64 a1)) (ds := [10]) #[false, false, false, false, false, false, false, false, false, false, false] (by kernel_rfl) rfl rfl ⟨hxG_0, hxG_1, hxX1_1⟩ (fun hHeld => ?_)
          refine with_tabW impl_Disk_act.tab16 impl_Disk_act.bits16 (fun HT_ HW_ => ?_)
          generalize hwd_ : World.drew w2 = wd_ at hHeld ⊢
          have hk := kept_drew hwd_
          replace HG := Aside0.mk (HG.out.step hk no_S)
          replace H0 := Aside0.mk (H0.out.step hk no_S)
          replace H1 := Aside0.mk (H1.out.step hk no_S)
          replace HX1 := Aside0.mk (HX1.out.step hk no_S)
          replace HK := Aside0.mk (HK.out.then_ hk (fun _ h_ => h_.elim))
          replace HB := Aside0.mk (below_drewd HB.out hwd_)
          clear hk hwd_
          (try clear hxG_0 hfG_0 hxG_1 hfG_1)
          have hxG_0 := (HG.out.cell 0).trans (show _ = some (.slice B0 l0.length D0) from rfl)
          have hfG_0 := HG.out.frozen 0
          have hxG_1 := (HG.out.cell 1).trans (show _ = some (.slice B1 l1.length D1) from rfl)
          have hfG_1 := HG.out.frozen 1
          (try clear hxX1_0 hfX1_0 hxX1_1 hfX1_1 hxX1_2 hfX1_2 hxX1_3 hfX1_3)
          have hxX1_0 := (HX1.out.cell 0).trans (show _ = some (.int .i64 a0) from rfl)
          have hfX1_0 := HX1.out.frozen 0
          have hxX1_1 := (HX1.out.cell 1).trans (show _ = some (.int .i64 a1) from rfl)
          have hfX1_1 := HX1.out.frozen 1
          have hxX1_2 := (HX1.out.cell 2).trans (show _ = some (.int .i64 a2) from rfl)
          have hfX1_2 := HX1.out.frozen 2
          have hxX1_3 := (HX1.out.cell 3).trans (show _ = some (.slice A3 l3.length c3) from rfl)
          have hfX1_3 := HX1.out.frozen 3
          refine pure_ (i := 0) (N := some 69) (v := ?_) (a' := ?_) #[true, false, false, false, false, false, false, false, false, false, false] rfl rfl (any_of HT_.out (by kernel_rfl)) (fun _ _ _ h => h) (Or.inl ⟨by rfl, ?_⟩) ?_ ?_
          rotate_left
          · intro w'
            go_simp
            with_reducible rfl
          rotate_left
          · simp only [Act.put, List.setIfInBounds_toArray, List.set_cons_zero, List.set_cons_succ, i64_w, i32_w]
            rfl
          refine pure_ (i := 1) (N := some 70) (v := ?_) (a' := ?_) #[true, true, false, false, false, false, false, false, false, false, false] rfl rfl (any_of HT_.out (by kernel_rfl)) (fun _ _ _ h => h) (Or.inl ⟨by rfl, ?_⟩) ?_ ?_
          rotate_left
          · intro w'
            go_simp
            with_reducible rfl
          rotate_left
          · simp only [Act.put, List.setIfInBounds_toArray, List.set_cons_zero, List.set_cons_succ, i64_w, i32_w]
            rfl
          refine pure_ (i := 2) (N := some 71) (v := ?_) (a' := ?_) #[true, true, true, false, false, false, false, false, false, false, false] rfl rfl (any_of HT_.out (by kernel_rfl)) (fun _ _ _ h => h) (Or.inl ⟨by rfl, ?_⟩) ?_ ?_
          rotate_left
          · intro w'
            go_simp
            with_reducible rfl
          rotate_left
          · simp only [Act.put, List.setIfInBounds_toArray, List.set_cons_zero, List.set_cons_succ, i64_w, i32_w]
            rfl
          refine take_ (i := 3) (N := some 72) (v := ?_) (a' := ?_) #[true, true, true, true, false, false, false, false, false, false, false] rfl rfl (take_ofW HT_.out HW_.out (by kernel_rfl)) (fun _ _ _ h => h) (Or.inl ⟨by rfl, ?_⟩) hHeld ?_ ?_
          rotate_left
          · rintro w' ⟨s0, s1, s2⟩
            go_simp
            with_reducible rfl
          rotate_left
          · simp only [Act.put, List.setIfInBounds_toArray, List.set_cons_zero, List.set_cons_succ, i64_w, i32_w]
            rfl
          refine pure_ (i := 5) (N := some 74) (v := ?_) (a' := ?_) #[true, true, true, true, false, true, false, false, false, false, false] rfl rfl (any_of HT_.out (by kernel_rfl)) (fun _ _ _ h => h) (Or.inl ⟨by rfl, ?_⟩) ?_ ?_
          rotate_left
          · intro w'
            go_simp
            with_reducible rfl
          rotate_left
          · simp only [Act.put, List.setIfInBounds_toArray, List.set_cons_zero, List.set_cons_succ, i64_w, i32_w]
            rfl
          refine take_ (i := 6) (N := some 75) (v := ?_) (a' := ?_) #[true, true, true, true, false, true, true, false, false, false, false] rfl rfl (take_ofW HT_.out HW_.out (by kernel_rfl)) (fun _ _ _ h => h) (Or.inl ⟨by rfl, ?_⟩) hHeld ?_ ?_
          rotate_left
          · rintro w' ⟨s0, s1, s2⟩
            go_simp
            with_reducible rfl
          rotate_left
          · simp only [Act.put, List.setIfInBounds_toArray, List.set_cons_zero, List.set_cons_succ, i64_w, i32_w]
            rfl
          refine one_ (i := 4) (N := some 73) #[true, true, true, true, true, true, true, false, false, false, false] rfl rfl (one_of HT_.out (by kernel_rfl)) (by decide) (fun K hK => ?_)
          refine goes_ Try.func54 (by kernel_rfl) rfl #[.agg #[.slice B0 l0.length D0, .slice B1 l1.length D1]] (by rfl) rfl rfl (by (try simp only [List.map_toArray, List.map_cons, List.map_nil]); first | done | rfl | (simp only [List.length_drop, List.length_take]; rfl)) ?_
          (with_reducible refine (impl_Disk_bytes.calls k _ _ l0 _ _ l1 t3 _ H0.out.reads H0.out.room H1.out.reads H1.out.room E3.out).mono ?_)
          rintro e w2 ⟨vF7, rfl, hrF7, hb⟩
          refine ⟨_, rfl, ?_⟩
          have hk := kept_below hb
          obtain ⟨PF7, hPF7, HLF7⟩ := LR.fresh rfl HB.out hrF7
          have HF7 := Aside0.mk HLF7
          clear HLF7 hrF7
          have D_G_F7 := Aside0.mk (new_apart HG.out.lt hPF7)
          have D_0_F7 := Aside0.mk (new_apart H0.out.lt hPF7)
          have D_1_F7 := Aside0.mk (new_apart H1.out.lt hPF7)
          have D_X1_F7 := Aside0.mk (new_apart HX1.out.lt hPF7)
          have RRF7 := Aside0.mk (show ∀ k_, PF7 k_ → (fun k_ => (PG k_ ∨ P0 k_) ∨ P1 k_) k_ ∨ ws.heap.size ≤ k_ from fun k_ h_ => .inr (Nat.le_trans HK.out.1 (hPF7 k_ h_).1))
          replace HG := Aside0.mk (HG.out.step hk no_S)
          replace H0 := Aside0.mk (H0.out.step hk no_S)
          replace H1 := Aside0.mk (H1.out.step hk no_S)
          replace HX1 := Aside0.mk (HX1.out.step hk no_S)
          replace HK := Aside0.mk (HK.out.then_ hk (fun _ h_ => h_.elim))
          clear hPF7
          obtain ⟨BF7, DF7, e_F7⟩ := HF7.out.val
          subst e_F7
          replace HB := Aside0.mk (below_step HB.out hb)
          clear hb hk
          (try clear hxG_0 hfG_0 hxG_1 hfG_1)
          have hxG_0 := (HG.out.cell 0).trans (show _ = some (.slice B0 l0.length D0) from rfl)
          have hfG_0 := HG.out.frozen 0
          have hxG_1 := (HG.out.cell 1).trans (show _ = some (.slice B1 l1.length D1) from rfl)
          have hfG_1 := HG.out.frozen 1
          (try clear hxX1_0 hfX1_0 hxX1_1 hfX1_1 hxX1_2 hfX1_2 hxX1_3 hfX1_3)
          have hxX1_0 := (HX1.out.cell 0).trans (show _ = some (.int .i64 a0) from rfl)
          have hfX1_0 := HX1.out.frozen 0
          have hxX1_1 := (HX1.out.cell 1).trans (show _ = some (.int .i64 a1) from rfl)
          have hfX1_1 := HX1.out.frozen 1
          have hxX1_2 := (HX1.out.cell 2).trans (show _ = some (.int .i64 a2) from rfl)
          have hfX1_2 := HX1.out.frozen 2
          have hxX1_3 := (HX1.out.cell 3).trans (show _ = some (.slice A3 l3.length c3) from rfl)
          have hfX1_3 := HX1.out.frozen 3
          refine hK.out _ _ ⟨hxG_0, hxG_1, hxX1_1⟩ (fun hHeld => ?_)
          clear hK K
          refine norm_ (a' := ?_) ?_ ?_
          rotate_left
          · show Act.put _ (some 73) _ = _
            simp only [Act.put, List.setIfInBounds_toArray, List.set_cons_zero, List.set_cons_succ, i64_w, i32_w]
            rfl
          obtain ⟨i01, hi01, _, hsz1, _⟩ := info_parts info5
          obtain ⟨hlc1, hcut1, hC1⟩ := cut_take (d := (Kd.int .u8)) (P := Try.prog) 22 5 .i64 Try.underlying22 hi01 BF7 DF7 a1 y1 Ny1.out HF7.out.room C2.out C3.out
          have HT := Aside0.mk (LR.cut HF7.out Ny1.out C2.out C3.out)
          clear hlc1 hC1 hi01 hsz1 HF7
          have RRT := RRF7
          have D_G_T := D_G_F7
          have D_0_T := D_0_F7
          have D_1_T := D_1_F7
          have D_X1_T := D_X1_F7
          refine pure_ (i := 7) (N := some 76) (v := ?_) (a' := ?_) #[true, true, true, true, true, true, true, true, false, false, false] rfl rfl (any_of HT_.out (by kernel_rfl)) (fun _ _ _ h => h) (Or.inl ⟨by rfl, ?_⟩) ?_ ?_
          rotate_left
          · intro w'
            go_simp
            with_reducible rfl
          rotate_left
          · simp only [Act.put, List.setIfInBounds_toArray, List.set_cons_zero, List.set_cons_succ, i64_w, i32_w]
            rfl
          refine pure_ (i := 8) (N := some 77) (v := ?_) (a' := ?_) #[true, true, true, true, true, true, true, true, true, false, false] rfl rfl (any_of HT_.out (by kernel_rfl)) (fun _ _ _ h => h) (Or.inl ⟨by rfl, ?_⟩) ?_ ?_
          rotate_left
          · intro w'
            go_simp
            with_reducible rfl
          rotate_left
          · simp only [Act.put, List.setIfInBounds_toArray, List.set_cons_zero, List.set_cons_succ, i64_w, i32_w]
            rfl
          refine pure_ (i := 9) (N := some 78) (v := ?_) (a' := ?_) #[true, true, true, true, true, true, true, true, true, true, false] rfl rfl (any_of HT_.out (by kernel_rfl)) (fun _ _ _ h => h) (Or.inl ⟨by rfl, ?_⟩) ?_ ?_
          rotate_left
          · intro w'
            go_simp
            with_reducible rfl
          rotate_left
          · simp only [Act.put, List.setIfInBounds_toArray, List.set_cons_zero, List.set_cons_succ, i64_w, i32_w]
            rfl
          refine last_ (i := 10) (N := none) #[true, true, true, true, true, true, true, true, true, true, true] rfl rfl (one_of HT_.out (by kernel_rfl)) (by decide) (fun K hK => ?_)
          refine LB.stored_step HG.out HB.out GEG.out 0 [.slice BF7 y1.length DF7, .slice none 0 0] (by rfl) rfl ?hr_6 ?_
          (case hr_6 => first | (go_simp; done) | (go_simp; rfl))
          intro w2 hx hk hb
          replace H0 := Aside0.mk (H0.out.step hk (apart_symm D_G_0.out))
          replace H1 := Aside0.mk (H1.out.step hk (apart_symm D_G_1.out))
          replace HX1 := Aside0.mk (HX1.out.step hk (apart_symm D_G_X1.out))
          replace HT := Aside0.mk (HT.out.step hk (apart_symm D_G_T.out))
          replace HK := Aside0.mk (HK.out.then_ hk RRG.out)
          replace HB := Aside0.mk hb
          replace HG := Aside0.mk (show LB w2 PG gG 29 #[.slice BF7 y1.length DF7, .slice none 0 0] from hx)
          clear hk hx hb
          (try clear hxG_0 hfG_0 hxG_1 hfG_1)
          have hxG_0 := (HG.out.cell 0).trans (show _ = some (.slice BF7 y1.length DF7) from rfl)
          have hfG_0 := HG.out.frozen 0
          have hxG_1 := (HG.out.cell 1).trans (show _ = some (.slice none 0 0) from rfl)
          have hfG_1 := HG.out.frozen 1
          (try clear hxX1_0 hfX1_0 hxX1_1 hfX1_1 hxX1_2 hfX1_2 hxX1_3 hfX1_3)
          have hxX1_0 := (HX1.out.cell 0).trans (show _ = some (.int .i64 a0) from rfl)
          have hfX1_0 := HX1.out.frozen 0
          have hxX1_1 := (HX1.out.cell 1).trans (show _ = some (.int .i64 a1) from rfl)
          have hfX1_1 := HX1.out.frozen 1
          have hxX1_2 := (HX1.out.cell 2).trans (show _ = some (.int .i64 a2) from rfl)
          have hfX1_2 := HX1.out.frozen 2
          have hxX1_3 := (HX1.out.cell 3).trans (show _ = some (.slice A3 l3.length c3) from rfl)
          have hfX1_3 := HX1.out.frozen 3
          refine hK.out _ _ ?_
          clear hK K
          refine done_ (done_of HT_.out (by kernel_rfl)) ?_
          go_wp2
          go_ret
          exact ⟨_, _, _, _, rfl, HG.out, HT.out, LS.nil _ _ _ _, D_G_T.out, fun _ _ h_ => h_, fun _ _ h_ => h_, RRT.out, fun _ h_ => h_.elim, HB.out, HK.out⟩
        · rw [if_neg c3] at h
          exact absurd h (by simp)
      · rw [if_neg c2] at h
        exact absurd h (by simp)
    · rw [if_neg c1] at h
      obtain rfl : t2 = false := by cases t2; rfl; exact absurd rfl c1
      clear c1
      simp only [Option.some.injEq, Prod.mk.injEq] at h
      obtain ⟨rfl, rfl, rfl⟩ := h

      go_enter Try.func72, Try.ntmps72
      go_upto_region 14 with (first | ((with_reducible refine gate_dst (N := 3) rfl ?_); refine box_event ?hg_1 (N := 3) ?hd_1 (cs := #[.int .i64 a0, .int .i64 a1, .int .i64 a2, .slice A3 l3.length c3]) (t := 100) ?hr_1 ?_; (case hd_1 => rfl); (case hg_1 => rfl); (case hr_1 => first | (go_simp; done) | (go_simp; rfl)); intro gX1 hg w2 hbox hb; have hk := kept_below hb; obtain ⟨PX1, hPX1, HLX1⟩ := LB.fresh hg hbox; have HX1 := Aside0.mk HLX1; clear HLX1; have GEX1 := Aside0.mk (show w.heap.size ≤ gX1 from (by rw [hg]; exact HB.out.size)); have D_G_X1 := Aside0.mk (new_apart HG.out.lt hPX1); have D_0_X1 := Aside0.mk (new_apart H0.out.lt hPX1); have D_1_X1 := Aside0.mk (new_apart H1.out.lt hPX1); have RRX1 := Aside0.mk (show ∀ k_, PX1 k_ → (fun k_ => (PG k_ ∨ P0 k_) ∨ P1 k_) k_ ∨ ws.heap.size ≤ k_ from fun k_ h_ => .inr (Nat.le_trans HK.out.1 (hPX1 k_ h_).1)); replace HG := Aside0.mk (HG.out.step hk no_S); replace H0 := Aside0.mk (H0.out.step hk no_S); replace H1 := Aside0.mk (H1.out.step hk no_S); replace HK := Aside0.mk (HK.out.then_ hk (fun _ h_ => h_.elim)); replace HB := Aside0.mk (below_step HB.out hb); clear hb hk hbox hg hPX1; (try clear hxG_0 hfG_0 hxG_1 hfG_1); have hxG_0 := (HG.out.cell 0).trans (show _ = some (.slice B0 l0.length D0) from rfl); have hfG_0 := HG.out.frozen 0; have hxG_1 := (HG.out.cell 1).trans (show _ = some (.slice B1 l1.length D1) from rfl); have hfG_1 := HG.out.frozen 1; (try clear hxX1_0 hfX1_0 hxX1_1 hfX1_1 hxX1_2 hfX1_2 hxX1_3 hfX1_3); have hxX1_0 := (HX1.out.cell 0).trans (show _ = some (.int .i64 a0) from rfl); have hfX1_0 := HX1.out.frozen 0; have hxX1_1 := (HX1.out.cell 1).trans (show _ = some (.int .i64 a1) from rfl); have hfX1_1 := HX1.out.frozen 1; have hxX1_2 := (HX1.out.cell 2).trans (show _ = some (.int .i64 a2) from rfl); have hfX1_2 := HX1.out.frozen 2; have hxX1_3 := (HX1.out.cell 3).trans (show _ = some (.slice A3 l3.length c3) from rfl); have hfX1_3 := HX1.out.frozen 3))
      refine start_ (n := 8) (S := fun w' => w'.cell? ⟨gG, 0, none⟩ = some (.slice B0 l0.length D0) ∧ w'.cell? ⟨gG, 1, none⟩ = some (.slice B1 l1.length D1) ∧ w'.cell? ⟨gX1, 1, none⟩ = some (.int .i64 a1)) (ds := []) #[false, false, false, false, false, false, false, false] (by kernel_rfl) rfl rfl ⟨hxG_0, hxG_1, hxX1_1⟩ (fun hHeld => ?_)
      refine with_tabW impl_Disk_act.tab14 impl_Disk_act.bits14 (fun HT_ HW_ => ?_)
      generalize hwd_ : World.drew w2 = wd_ at hHeld ⊢
      have hk := kept_drew hwd_
      replace HG := Aside0.mk (HG.out.step hk no_S)
      replace H0 := Aside0.mk (H0.out.step hk no_S)
      replace H1 := Aside0.mk (H1.out.step hk no_S)
      replace HX1 := Aside0.mk (HX1.out.step hk no_S)
      replace HK := Aside0.mk (HK.out.then_ hk (fun _ h_ => h_.elim))
      replace HB := Aside0.mk (below_drewd HB.out hwd_)
      clear hk hwd_
      (try clear hxG_0 hfG_0 hxG_1 hfG_1)
      have hxG_0 := (HG.out.cell 0).trans (show _ = some (.slice B0 l0.length D0) from rfl)
      have hfG_0 := HG.out.frozen 0
      have hxG_1 := (HG.out.cell 1).trans (show _ = some (.slice B1 l1.length D1) from rfl)
      have hfG_1 := HG.out.frozen 1
      (try clear hxX1_0 hfX1_0 hxX1_1 hfX1_1 hxX1_2 hfX1_2 hxX1_3 hfX1_3)
      have hxX1_0 := (HX1.out.cell 0).trans (show _ = some (.int .i64 a0) from rfl)
      have hfX1_0 := HX1.out.frozen 0
      have hxX1_1 := (HX1.out.cell 1).trans (show _ = some (.int .i64 a1) from rfl)
      have hfX1_1 := HX1.out.frozen 1
      have hxX1_2 := (HX1.out.cell 2).trans (show _ = some (.int .i64 a2) from rfl)
      have hfX1_2 := HX1.out.frozen 2
      have hxX1_3 := (HX1.out.cell 3).trans (show _ = some (.slice A3 l3.length c3) from rfl)
      have hfX1_3 := HX1.out.frozen 3
      refine pure_ (i := 0) (N := some 61) (v := ?_) (a' := ?_) #[true, false, false, false, false, false, false, false] rfl rfl (any_of HT_.out (by kernel_rfl)) (fun _ _ _ h => h) (Or.inl ⟨by rfl, ?_⟩) ?_ ?_
      rotate_left
      · intro w'
        go_simp
        with_reducible rfl
      rotate_left
      · simp only [Act.put, List.setIfInBounds_toArray, List.set_cons_zero, List.set_cons_succ, i64_w, i32_w]
        rfl
      refine take_ (i := 1) (N := some 62) (v := ?_) (a' := ?_) #[true, true, false, false, false, false, false, false] rfl rfl (take_ofW HT_.out HW_.out (by kernel_rfl)) (fun _ _ _ h => h) (Or.inl ⟨by rfl, ?_⟩) hHeld ?_ ?_
      rotate_left
      · rintro w' ⟨s0, s1, s2⟩
        go_simp
        with_reducible rfl
      rotate_left
      · simp only [Act.put, List.setIfInBounds_toArray, List.set_cons_zero, List.set_cons_succ, i64_w, i32_w]
        rfl
      refine pure_ (i := 2) (N := some 63) (v := ?_) (a' := ?_) #[true, true, true, false, false, false, false, false] rfl rfl (any_of HT_.out (by kernel_rfl)) (fun _ _ _ h => h) (Or.inl ⟨by rfl, ?_⟩) ?_ ?_
      rotate_left
      · intro w'
        go_simp
        with_reducible rfl
      rotate_left
      · simp only [Act.put, List.setIfInBounds_toArray, List.set_cons_zero, List.set_cons_succ, i64_w, i32_w]
        rfl
      refine pure_ (i := 3) (N := some 64) (v := ?_) (a' := ?_) #[true, true, true, true, false, false, false, false] rfl rfl (any_of HT_.out (by kernel_rfl)) (fun _ _ _ h => h) (Or.inl ⟨by rfl, ?_⟩) ?_ ?_
      rotate_left
      · intro w'
        go_simp
        with_reducible rfl
      rotate_left
      · simp only [Act.put, List.setIfInBounds_toArray, List.set_cons_zero, List.set_cons_succ, i64_w, i32_w]
        rfl
      refine take_ (i := 4) (N := some 65) (v := ?_) (a' := ?_) #[true, true, true, true, true, false, false, false] rfl rfl (take_ofW HT_.out HW_.out (by kernel_rfl)) (fun _ _ _ h => h) (Or.inl ⟨by rfl, ?_⟩) hHeld ?_ ?_
      rotate_left
      · rintro w' ⟨s0, s1, s2⟩
        go_simp
        with_reducible rfl
      rotate_left
      · simp only [Act.put, List.setIfInBounds_toArray, List.set_cons_zero, List.set_cons_succ, i64_w, i32_w]
        rfl
      refine one_ (i := 5) (N := some 66) #[true, true, true, true, true, true, false, false] rfl rfl (one_of HT_.out (by kernel_rfl)) (by decide) (fun K hK => ?_)
      refine goes_ Try.func96 (by kernel_rfl) rfl #[.agg #[.slice B0 l0.length D0, .slice B1 l1.length D1]] (by rfl) rfl rfl (by (try simp only [List.map_toArray, List.map_cons, List.map_nil]); first | done | rfl | (simp only [List.length_drop, List.length_take]; rfl)) ?_
      (with_reducible refine (impl_Disk_size.calls k _ _ l0 _ _ l1 t1 _ H0.out.reads H0.out.room H1.out.reads H1.out.room E1.out).mono ?_)
      rintro e w2 ⟨rfl, hb⟩
      refine ⟨_, rfl, ?_⟩
      have hk := kept_below hb
      replace HG := Aside0.mk (HG.out.step hk no_S)
      replace H0 := Aside0.mk (H0.out.step hk no_S)
      replace H1 := Aside0.mk (H1.out.step hk no_S)
      replace HX1 := Aside0.mk (HX1.out.step hk no_S)
      replace HK := Aside0.mk (HK.out.then_ hk (fun _ h_ => h_.elim))
      replace HB := Aside0.mk (below_step HB.out hb)
      clear hb hk
      (try clear hxG_0 hfG_0 hxG_1 hfG_1)
      have hxG_0 := (HG.out.cell 0).trans (show _ = some (.slice B0 l0.length D0) from rfl)
      have hfG_0 := HG.out.frozen 0
      have hxG_1 := (HG.out.cell 1).trans (show _ = some (.slice B1 l1.length D1) from rfl)
      have hfG_1 := HG.out.frozen 1
      (try clear hxX1_0 hfX1_0 hxX1_1 hfX1_1 hxX1_2 hfX1_2 hxX1_3 hfX1_3)
      have hxX1_0 := (HX1.out.cell 0).trans (show _ = some (.int .i64 a0) from rfl)
      have hfX1_0 := HX1.out.frozen 0
      have hxX1_1 := (HX1.out.cell 1).trans (show _ = some (.int .i64 a1) from rfl)
      have hfX1_1 := HX1.out.frozen 1
      have hxX1_2 := (HX1.out.cell 2).trans (show _ = some (.int .i64 a2) from rfl)
      have hfX1_2 := HX1.out.frozen 2
      have hxX1_3 := (HX1.out.cell 3).trans (show _ = some (.slice A3 l3.length c3) from rfl)
      have hfX1_3 := HX1.out.frozen 3
      refine hK.out _ _ ⟨hxG_0, hxG_1, hxX1_1⟩ (fun hHeld => ?_)
      clear hK K
      refine norm_ (a' := ?_) ?_ ?_
      rotate_left
      · show Act.put _ (some 66) _ = _
        simp only [Act.put, List.setIfInBounds_toArray, List.set_cons_zero, List.set_cons_succ, i64_w, i32_w]
        rfl
      refine one_ (i := 6) (N := some 67) #[true, true, true, true, true, true, true, false] rfl rfl (one_of HT_.out (by kernel_rfl)) (by decide) (fun K hK => ?_)
      refine goes_ Try.func99 (by kernel_rfl) rfl #[.int .i64 a1, .int .i64 0, .int .i64 t1] (by rfl) rfl rfl (by (try simp only [List.map_toArray, List.map_cons, List.map_nil]); first | done | rfl | (simp only [List.length_drop, List.length_take]; rfl)) ?_
      (with_reducible refine (impl_within.calls a1 0 t1 false _ E2.out).mono ?_)
      rintro e w2 ⟨rfl, hq⟩
      refine ⟨_, rfl, ?_⟩
      have hk := kept_drawn hq
      replace HG := Aside0.mk (HG.out.step hk no_S)
      replace H0 := Aside0.mk (H0.out.step hk no_S)
      replace H1 := Aside0.mk (H1.out.step hk no_S)
      replace HX1 := Aside0.mk (HX1.out.step hk no_S)
      replace HK := Aside0.mk (HK.out.then_ hk (fun _ h_ => h_.elim))
      replace HB := Aside0.mk (below_drawn HB.out hq)
      clear hk hq
      (try clear hxG_0 hfG_0 hxG_1 hfG_1)
      have hxG_0 := (HG.out.cell 0).trans (show _ = some (.slice B0 l0.length D0) from rfl)
      have hfG_0 := HG.out.frozen 0
      have hxG_1 := (HG.out.cell 1).trans (show _ = some (.slice B1 l1.length D1) from rfl)
      have hfG_1 := HG.out.frozen 1
      (try clear hxX1_0 hfX1_0 hxX1_1 hfX1_1 hxX1_2 hfX1_2 hxX1_3 hfX1_3)
      have hxX1_0 := (HX1.out.cell 0).trans (show _ = some (.int .i64 a0) from rfl)
      have hfX1_0 := HX1.out.frozen 0
      have hxX1_1 := (HX1.out.cell 1).trans (show _ = some (.int .i64 a1) from rfl)
      have hfX1_1 := HX1.out.frozen 1
      have hxX1_2 := (HX1.out.cell 2).trans (show _ = some (.int .i64 a2) from rfl)
      have hfX1_2 := HX1.out.frozen 2
      have hxX1_3 := (HX1.out.cell 3).trans (show _ = some (.slice A3 l3.length c3) from rfl)
      have hfX1_3 := HX1.out.frozen 3
      refine hK.out _ _ ⟨hxG_0, hxG_1, hxX1_1⟩ (fun hHeld => ?_)
      clear hK K
      refine norm_ (a' := ?_) ?_ ?_
      rotate_left
      · show Act.put _ (some 67) _ = _
        simp only [Act.put, List.setIfInBounds_toArray, List.set_cons_zero, List.set_cons_succ, i64_w, i32_w]
        rfl
      refine pure_ (i := 7) (N := some 68) (v := ?_) (a' := ?_) #[true, true, true, true, true, true, true, true] rfl rfl (any_of HT_.out (by kernel_rfl)) (fun _ _ _ h => h) (Or.inl ⟨by rfl, ?_⟩) ?_ ?_
      rotate_left
      · intro w'
        go_simp
        with_reducible rfl
      rotate_left
      · simp only [Act.put, List.setIfInBounds_toArray, List.set_cons_zero, List.set_cons_succ, i64_w, i32_w]
        rfl
      refine done_ (done_of HT_.out (by kernel_rfl)) ?_
      go_wp2
      go_ret
      exact ⟨_, _, _, _, rfl, HG.out, H0.out, H1.out, D_G_0.out, D_G_1.out, D_0_1.out, RR0.out, RR1.out, HB.out, HK.out⟩
  rw [if_neg k4] at h
  have k4b : (a0 == 4) = false := beq_eq_false_iff_ne.mpr k4
  clear k1 k2 k3 k4
  simp only [Option.some.injEq, Prod.mk.injEq] at h
  obtain ⟨rfl, rfl, rfl⟩ := h
  go_enter Try.func72, Try.ntmps72
  go_wp2_with (first | ((with_reducible refine gate_dst (N := 3) rfl ?_); refine box_event ?hg_1 (N := 3) ?hd_1 (cs := #[.int .i64 a0, .int .i64 a1, .int .i64 a2, .slice A3 l3.length c3]) (t := 100) ?hr_1 ?_; (case hd_1 => rfl); (case hg_1 => rfl); (case hr_1 => first | (go_simp; done) | (go_simp; rfl)); intro gX1 hg w2 hbox hb; have hk := kept_below hb; obtain ⟨PX1, hPX1, HLX1⟩ := LB.fresh hg hbox; have HX1 := Aside0.mk HLX1; clear HLX1; have GEX1 := Aside0.mk (show w.heap.size ≤ gX1 from (by rw [hg]; exact HB.out.size)); have D_G_X1 := Aside0.mk (new_apart HG.out.lt hPX1); have D_0_X1 := Aside0.mk (new_apart H0.out.lt hPX1); have D_1_X1 := Aside0.mk (new_apart H1.out.lt hPX1); have RRX1 := Aside0.mk (show ∀ k_, PX1 k_ → (fun k_ => (PG k_ ∨ P0 k_) ∨ P1 k_) k_ ∨ ws.heap.size ≤ k_ from fun k_ h_ => .inr (Nat.le_trans HK.out.1 (hPX1 k_ h_).1)); replace HG := Aside0.mk (HG.out.step hk no_S); replace H0 := Aside0.mk (H0.out.step hk no_S); replace H1 := Aside0.mk (H1.out.step hk no_S); replace HK := Aside0.mk (HK.out.then_ hk (fun _ h_ => h_.elim)); replace HB := Aside0.mk (below_step HB.out hb); clear hb hk hbox hg hPX1; (try clear hxG_0 hfG_0 hxG_1 hfG_1); have hxG_0 := (HG.out.cell 0).trans (show _ = some (.slice B0 l0.length D0) from rfl); have hfG_0 := HG.out.frozen 0; have hxG_1 := (HG.out.cell 1).trans (show _ = some (.slice B1 l1.length D1) from rfl); have hfG_1 := HG.out.frozen 1; (try clear hxX1_0 hfX1_0 hxX1_1 hfX1_1 hxX1_2 hfX1_2 hxX1_3 hfX1_3); have hxX1_0 := (HX1.out.cell 0).trans (show _ = some (.int .i64 a0) from rfl); have hfX1_0 := HX1.out.frozen 0; have hxX1_1 := (HX1.out.cell 1).trans (show _ = some (.int .i64 a1) from rfl); have hfX1_1 := HX1.out.frozen 1; have hxX1_2 := (HX1.out.cell 2).trans (show _ = some (.int .i64 a2) from rfl); have hfX1_2 := HX1.out.frozen 2; have hxX1_3 := (HX1.out.cell 3).trans (show _ = some (.slice A3 l3.length c3) from rfl); have hfX1_3 := HX1.out.frozen 3))
  go_ret
  exact ⟨_, _, _, _, rfl, HG.out, H0.out, H1.out, D_G_0.out, D_G_1.out, D_0_1.out, RR0.out, RR1.out, HB.out, HK.out⟩
/-! ### impl_DiskRun: function 29, by hand -/
def impl_DiskRun.l0 : Nat → List S100 → Int → List Int → List Int → List (List Int) → Option (List Int × List Int × List (List Int) × Int)
  | 0, _, _, _, _, _ => none
  | k + 1, x0, i, c, s, p => if i < (x0.length : Int) then (if 0 ≤ i then ((impl_Disk_act.f k s p (rd_T100 x0 i).f0 (rd_T100 x0 i).f1 (rd_T100 x0 i).f2 (rd_T100 x0 i).f3).bind fun t => (if c.length < 17592186044416 then (impl_DiskRun.l0 k x0 (wrap64 (i + 1)) (c ++ [t.1]) t.2.1 t.2.2) else none)) else none) else some (c, s, p, 0)
def impl_DiskRun.f (k : Nat) (l0 : List S100) : Option (List Int × List Int × List (List Int) × Int) := (impl_longList.f (l0.length : Int)).bind fun t1 => (impl_unless.f (decide ((l0.length : Int) ≤ 200)) 7).bind fun t2 => (impl_first.f k [t1, t2]).bind fun t3 => (if t3 = 0 then impl_DiskRun.l0 k l0 0 [] [] [] else some ([], [], [], t3))
def impl_DiskRun.T10 : Bool × List (List Nat × List Nat) := (true, [([], []), ([], []), ([0, 0], [0]), ([1, 2, 0, 1, 2], [1]), ([3, 0, 1, 2, 3], [])])
def impl_DiskRun.B10 : List Nat := [0, 0, 1, 7, 15]
theorem impl_DiskRun.tab10 : rtab .any (opsOf Try.f29 10) = impl_DiskRun.T10 := by kernel_rfl
theorem impl_DiskRun.bits10 : waitsOk impl_DiskRun.T10.2 impl_DiskRun.B10 = true := by kernel_rfl
set_option maxHeartbeats 16000000 in
set_option maxRecDepth 100000 in
theorem impl_DiskRun.own (k : Nat) (A0 : Option Addr) (c0 : Nat) (l0 : List S100) (r1 : List Int) (r2 : List Int) (r3 : List (List Int)) (r4 : Int) (w : World) (hr0 : Kd.C k100 w A0 l0.length l0) (hc0 : l0.length ≤ c0) (h : impl_DiskRun.f k l0 = some (r1, r2, r3, r4)) :
    Calls Try.prog 29 #[.slice A0 l0.length c0] w fun e w' => ∃ v0_ v1_ v2_ : Value, e = .returned (.tuple #[v0_, .agg #[v1_, v2_], .int .i64 r4]) ∧ Kd.R (Kd.int .i64) 3 w' w.heap.size (fun k_ => (w.heap.size ≤ k_)) v0_ r1 ∧ Kd.R (Kd.int .u8) 5 w' w.heap.size (fun k_ => (w.heap.size ≤ k_) ∧ some k_ ≠ (v0_ : Value).ownBlock) v1_ r2 ∧ Kd.S (Kd.slice 5 (Kd.int .u8)) 22 w' w.heap.size (fun k_ => (w.heap.size ≤ k_) ∧ some k_ ≠ (v0_ : Value).ownBlock ∧ some k_ ≠ (v1_ : Value).ownBlock) v2_ r3 ∧ Below w.heap.size w w' := by
  have hu := Try.underlying29
  have hu2 := Try.underlying100
  have HB := Aside0.mk (Below.refl w.heap.size w)
  have HR0 := Aside0.mk hr0
  have HC0 := Aside0.mk hc0
  unfold impl_DiskRun.f at h
  obtain ⟨t1, e1, h⟩ := Option.bind_eq_some_iff.1 h
  obtain ⟨t2, e2, h⟩ := Option.bind_eq_some_iff.1 h
  obtain ⟨y1, hy1⟩ : ∃ y_ : List Int, y_ = [t1, t2] := ⟨_, rfl⟩
  rw [← hy1] at h
  obtain ⟨t3, e3, h⟩ := Option.bind_eq_some_iff.1 h
  have E1 := Aside0.mk e1
  have E2 := Aside0.mk e2
  have E3 := Aside0.mk e3
  have Ny1 := Aside0.mk hy1
  clear e1 e2 e3 hy1 hr0 hc0
  by_cases c : t3 = 0
  · rw [if_pos c] at h
    have cb : (t3 == 0) = true := beq_iff_eq.mpr c
    have cb2 : (t3 != 0) = false := bne_eq_false_iff_eq.mpr c
    clear c
    obtain ⟨y2, hy2⟩ : ∃ y_ : List Int, y_ = [] := ⟨_, rfl⟩
    have Ny2 := Aside0.mk hy2
    have H' := Aside0.mk (show impl_DiskRun.l0 k l0 0 y2 [] [] = some (r1, r2, r3, r4) from by rw [hy2]; exact h)
    clear h hy2
    go_enter Try.func29, Try.ntmps29
    go_wp2_with (first | ((with_reducible refine gate_dst (N := 3) rfl ?_); refine box_event ?hg_1 (N := 3) ?hd_1 (cs := #[.slice none 0 0, .slice none 0 0]) (t := 29) ?hr_1 ?_; (case hd_1 => rfl); (case hg_1 => rfl); (case hr_1 => first | (go_simp; done) | (go_simp; rfl)); intro gX1 hg w2 hbox hb; have hk := kept_below hb; obtain ⟨PX1, hPX1, HLX1⟩ := LB.fresh hg hbox; have HX1 := Aside0.mk HLX1; clear HLX1; have GEX1 := Aside0.mk (show w.heap.size ≤ gX1 from (by rw [hg]; exact HB.out.size)); replace HB := Aside0.mk (below_step HB.out hb); clear hb hk hbox hg hPX1; (try clear hxX1_0 hfX1_0 hxX1_1 hfX1_1); have hxX1_0 := (HX1.out.cell 0).trans (show _ = some (.slice none 0 0) from rfl); have hfX1_0 := HX1.out.frozen 0; have hxX1_1 := (HX1.out.cell 1).trans (show _ = some (.slice none 0 0) from rfl); have hfX1_1 := HX1.out.frozen 1) | ((with_reducible refine gate_callee (f := 71) rfl ?_); refine goesL_ (some 12) rfl rfl Try.func71 (by kernel_rfl) rfl #[.int .i64 (l0.length : Int)] rfl (by (try simp only [List.map_toArray, List.map_cons, List.map_nil]); first | done | rfl | (simp only [List.length_drop, List.length_take]; rfl)) ?_; (with_reducible refine (impl_longList.calls (l0.length : Int) t1 _ E1.out).mono ?_); rintro e w2 ⟨rfl, hq⟩; refine ⟨_, rfl, ?_⟩; have hk := kept_drawn hq; replace HX1 := Aside0.mk (HX1.out.step hk no_S); replace HB := Aside0.mk (below_drawn HB.out hq); clear hk hq; (try clear hxX1_0 hfX1_0 hxX1_1 hfX1_1); have hxX1_0 := (HX1.out.cell 0).trans (show _ = some (.slice none 0 0) from rfl); have hfX1_0 := HX1.out.frozen 0; have hxX1_1 := (HX1.out.cell 1).trans (show _ = some (.slice none 0 0) from rfl); have hfX1_1 := HX1.out.frozen 1) | ((with_reducible refine gate_callee (f := 68) rfl ?_); refine goesL_ (some 16) rfl rfl Try.func68 (by kernel_rfl) rfl #[.bool (decide ((l0.length : Int) ≤ 200)), .int .i64 7] rfl (by (try simp only [List.map_toArray, List.map_cons, List.map_nil]); first | done | rfl | (simp only [List.length_drop, List.length_take]; rfl)) ?_; (with_reducible refine (impl_unless.calls (decide ((l0.length : Int) ≤ 200)) 7 t2 _ E2.out).mono ?_); rintro e w2 ⟨rfl, hq⟩; refine ⟨_, rfl, ?_⟩; have hk := kept_drawn hq; replace HX1 := Aside0.mk (HX1.out.step hk no_S); replace HB := Aside0.mk (below_drawn HB.out hq); clear hk hq; (try clear hxX1_0 hfX1_0 hxX1_1 hfX1_1); have hxX1_0 := (HX1.out.cell 0).trans (show _ = some (.slice none 0 0) from rfl); have hfX1_0 := HX1.out.frozen 0; have hxX1_1 := (HX1.out.cell 1).trans (show _ = some (.slice none 0 0) from rfl); have hfX1_1 := HX1.out.frozen 1) | ((with_reducible refine gate_dst (N := 17) rfl ?_); refine Kd.R_lit (Kd.int .i64) _ 3 ?hg_2 (N := 17) ?hd_2 (xs := ([t1, t2] : List Int)) (inner := [.int .i64 t1, .int .i64 t2]) (ok := fun _ => True) (okp := fun _ => True) ?hr_2 ?hp_2 (fun _ hk => hk) trivial (Below.refl _ _) (Nat.le_refl _) (by simp) ?_; (case hd_2 => rfl); (case hg_2 => rfl); (case hr_2 => first | (go_simp; done) | (go_simp; rfl)); (case hp_2 => exact ⟨rfl, fun j p hj => by match j with | 0 => (obtain rfl := Option.some.inj hj; rfl) | 1 => (obtain rfl := Option.some.inj hj; rfl) | _ + 2 => (simp at hj)⟩); intro vF2 w2 hrF2 hb hg_ hnew_; clear hg_ hnew_; rw [← Ny1.out] at hrF2; have hk := kept_below hb; obtain ⟨PF2, hPF2, HLF2⟩ := LR.fresh rfl HB.out hrF2; have HF2 := Aside0.mk HLF2; clear HLF2 hrF2; have D_X1_F2 := Aside0.mk (new_apart HX1.out.lt hPF2); replace HX1 := Aside0.mk (HX1.out.step hk no_S); clear hPF2; obtain ⟨BF2, DF2, e_F2⟩ := HF2.out.val; subst e_F2; replace HB := Aside0.mk (below_step HB.out hb); clear hb hk; (try clear hxX1_0 hfX1_0 hxX1_1 hfX1_1); have hxX1_0 := (HX1.out.cell 0).trans (show _ = some (.slice none 0 0) from rfl); have hfX1_0 := HX1.out.frozen 0; have hxX1_1 := (HX1.out.cell 1).trans (show _ = some (.slice none 0 0) from rfl); have hfX1_1 := HX1.out.frozen 1) | ((with_reducible refine gate_callee (f := 67) rfl ?_); refine goesL_ (some 18) rfl rfl Try.func67 (by kernel_rfl) rfl #[.slice BF2 y1.length DF2] rfl (by (try simp only [List.map_toArray, List.map_cons, List.map_nil]); first | done | rfl | (simp only [List.length_drop, List.length_take]; rfl)) ?_; (with_reducible refine (impl_first.calls k _ _ y1 t3 _ HF2.out.reads HF2.out.room E3.out).mono ?_); rintro e w2 ⟨rfl, hq⟩; refine ⟨_, rfl, ?_⟩; have hk := kept_drawn hq; replace HX1 := Aside0.mk (HX1.out.step hk no_S); replace HF2 := Aside0.mk (HF2.out.step hk no_S); replace HB := Aside0.mk (below_drawn HB.out hq); clear hk hq; (try clear hxX1_0 hfX1_0 hxX1_1 hfX1_1); have hxX1_0 := (HX1.out.cell 0).trans (show _ = some (.slice none 0 0) from rfl); have hfX1_0 := HX1.out.frozen 0; have hxX1_1 := (HX1.out.cell 1).trans (show _ = some (.slice none 0 0) from rfl); have hfX1_1 := HX1.out.frozen 1) | ((with_reducible refine gate_dst (N := 24) rfl ?_); refine Kd.R_lit (Kd.int .i64) _ 3 ?hg_3 (N := 24) ?hd_3 (xs := ([] : List Int)) (inner := []) (ok := fun _ => True) (okp := fun _ => True) ?hr_3 ?hp_3 (fun _ hk => hk) trivial (Below.refl _ _) (Nat.le_refl _) (by simp) ?_; (case hd_3 => rfl); (case hg_3 => rfl); (case hr_3 => first | (go_simp; done) | (go_simp; rfl)); (case hp_3 => exact (Reps.none _ _)); intro vF3 w2 hrF3 hb hg_ hnew_; clear hg_ hnew_; rw [← Ny2.out] at hrF3; have hk := kept_below hb; obtain ⟨PF3, hPF3, HLF3⟩ := LR.fresh rfl HB.out hrF3; have HF3 := Aside0.mk HLF3; clear HLF3 hrF3; have D_X1_F3 := Aside0.mk (new_apart HX1.out.lt hPF3); have D_F2_F3 := Aside0.mk (new_apart HF2.out.lt hPF3); replace HX1 := Aside0.mk (HX1.out.step hk no_S); replace HF2 := Aside0.mk (HF2.out.step hk no_S); clear hPF3; obtain ⟨BF3, DF3, e_F3⟩ := HF3.out.val; subst e_F3; replace HB := Aside0.mk (below_step HB.out hb); clear hb hk; (try clear hxX1_0 hfX1_0 hxX1_1 hfX1_1); have hxX1_0 := (HX1.out.cell 0).trans (show _ = some (.slice none 0 0) from rfl); have hfX1_0 := HX1.out.frozen 0; have hxX1_1 := (HX1.out.cell 1).trans (show _ = some (.slice none 0 0) from rfl); have hfX1_1 := HX1.out.frozen 1) | ((with_reducible refine gate_dst (N := 6) rfl ?_); refine box_event ?hg_4 (N := 6) ?hd_4 (cs := #[.slice none 0 0, .slice none 0 0]) (t := 29) ?hr_4 ?_; (case hd_4 => rfl); (case hg_4 => rfl); (case hr_4 => first | (go_simp; done) | (go_simp; rfl)); intro gX4 hg w2 hbox hb; have hk := kept_below hb; obtain ⟨PX4, hPX4, HLX4⟩ := LB.fresh hg hbox; have HX4 := Aside0.mk HLX4; clear HLX4; have GEX4 := Aside0.mk (show w.heap.size ≤ gX4 from (by rw [hg]; exact HB.out.size)); have D_X1_X4 := Aside0.mk (new_apart HX1.out.lt hPX4); have D_F2_X4 := Aside0.mk (new_apart HF2.out.lt hPX4); have D_F3_X4 := Aside0.mk (new_apart HF3.out.lt hPX4); replace HX1 := Aside0.mk (HX1.out.step hk no_S); replace HF2 := Aside0.mk (HF2.out.step hk no_S); replace HF3 := Aside0.mk (HF3.out.step hk no_S); replace HB := Aside0.mk (below_step HB.out hb); clear hb hk hbox hg hPX4; (try clear hxX1_0 hfX1_0 hxX1_1 hfX1_1); have hxX1_0 := (HX1.out.cell 0).trans (show _ = some (.slice none 0 0) from rfl); have hfX1_0 := HX1.out.frozen 0; have hxX1_1 := (HX1.out.cell 1).trans (show _ = some (.slice none 0 0) from rfl); have hfX1_1 := HX1.out.frozen 1; (try clear hxX4_0 hfX4_0 hxX4_1 hfX4_1); have hxX4_0 := (HX4.out.cell 0).trans (show _ = some (.slice none 0 0) from rfl); have hfX4_0 := HX4.out.frozen 0; have hxX4_1 := (HX4.out.cell 1).trans (show _ = some (.slice none 0 0) from rfl); have hfX4_1 := HX4.out.frozen 1) | ((with_reducible refine gate_store (t := 29) (p := 6) rfl ?_); refine LB.stored HX4.out HB.out GEX4.out 0 [.slice none 0 0, .slice none 0 0] rfl (t := 29) (p := 6) rfl rfl ?hr_5 ?_; (case hr_5 => first | (go_simp; done) | (go_simp; rfl)); intro w2 hx hk hb; replace HX1 := Aside0.mk (HX1.out.step hk D_X1_X4.out); replace HF2 := Aside0.mk (HF2.out.step hk D_F2_X4.out); replace HF3 := Aside0.mk (HF3.out.step hk D_F3_X4.out); replace HB := Aside0.mk hb; replace HX4 := Aside0.mk (show LB w2 PX4 gX4 29 #[.slice none 0 0, .slice none 0 0] from hx); clear hk hx hb; (try clear hxX1_0 hfX1_0 hxX1_1 hfX1_1); have hxX1_0 := (HX1.out.cell 0).trans (show _ = some (.slice none 0 0) from rfl); have hfX1_0 := HX1.out.frozen 0; have hxX1_1 := (HX1.out.cell 1).trans (show _ = some (.slice none 0 0) from rfl); have hfX1_1 := HX1.out.frozen 1; (try clear hxX4_0 hfX4_0 hxX4_1 hfX4_1); have hxX4_0 := (HX4.out.cell 0).trans (show _ = some (.slice none 0 0) from rfl); have hfX4_0 := HX4.out.frozen 0; have hxX4_1 := (HX4.out.cell 1).trans (show _ = some (.slice none 0 0) from rfl); have hfX4_1 := HX4.out.frozen 1))
    go_loopg [7, 27] k (fun kq v7 v27 w' => ∃ (x7 : List Int) (i : Int) (s : List Int) (q : List (List Int)) (vs vq : Value) (P7 Ps Pq : Nat → Prop), v27 = .int .i64 i ∧ Aside0 (impl_DiskRun.l0 kq l0 i x7 s q = some (r1, r2, r3, r4)) ∧ Aside0 (kq ≤ k) ∧ Aside0 (LR (Kd.int .i64) 3 w' w.heap.size P7 v7 x7) ∧ Aside0 (LB w' PX4 gX4 29 #[vs, vq]) ∧ Aside0 (LB w' PX1 gX1 29 #[.slice none 0 0, .slice none 0 0]) ∧ Aside0 (LR (Kd.int .u8) 5 w' w.heap.size Ps vs s) ∧ Aside0 (LS (Kd.slice 5 (Kd.int .u8)) 22 w' w.heap.size Pq vq q) ∧ Aside0 (∀ k_, PX1 k_ → ¬ PX4 k_) ∧ Aside0 (∀ k_, PX4 k_ → ¬ P7 k_) ∧ Aside0 (∀ k_, PX4 k_ → ¬ Ps k_) ∧ Aside0 (∀ k_, PX4 k_ → ¬ Pq k_) ∧ Aside0 (∀ k_, PX1 k_ → ¬ P7 k_) ∧ Aside0 (∀ k_, PX1 k_ → ¬ Ps k_) ∧ Aside0 (∀ k_, PX1 k_ → ¬ Pq k_) ∧ Aside0 (∀ k_, P7 k_ → ¬ Ps k_) ∧ Aside0 (∀ k_, P7 k_ → ¬ Pq k_) ∧ Aside0 (∀ k_, Ps k_ → ¬ Pq k_) ∧ Aside0 (Below w.heap.size w w'))
    case atStart => exact ⟨y2, 0, [], [], _, _, PF3, fun _ => False, fun _ => False, rfl, H', ⟨Nat.le_refl _⟩, HF3, HX4, HX1, ⟨LR.nil _ _ _ _⟩, ⟨LS.nil _ _ _ _⟩, ⟨D_X1_X4.out⟩, ⟨(apart_symm D_F3_X4.out)⟩, ⟨fun _ _ h_ => h_⟩, ⟨fun _ _ h_ => h_⟩, ⟨D_X1_F3.out⟩, ⟨fun _ _ h_ => h_⟩, ⟨fun _ _ h_ => h_⟩, ⟨fun _ _ h_ => h_⟩, ⟨fun _ _ h_ => h_⟩, ⟨fun _ _ h_ => h_⟩, HB⟩
    case round =>
      clear H' HB HX1 HF2 HF3 HX4 hxX1_0 hfX1_0 hxX1_1 hfX1_1 hxX4_0 hfX4_0 hxX4_1 hfX4_1
      obtain ⟨x7, i, s, q, vs, vq, P7, Ps, Pq, rfl, HA, HK1, H7, HX4, HX1, Hs, Hq, D_X1_X4, D_X4_7, D_X4_s, D_X4_q, D_X1_7, D_X1_s, D_X1_q, D_7_s, D_7_q, D_s_q, HB⟩ := hrel
      cases gk with
      | zero => exact absurd HA.out (by simp [impl_DiskRun.l0])
      | succ k1 =>
        have H := HA.out
        clear HA
        simp only [impl_DiskRun.l0] at H
        obtain ⟨B7, D7, e_7⟩ := H7.out.val
        subst e_7
        obtain ⟨Bs, Ds, e_s⟩ := Hs.out.val
        subst e_s
        obtain ⟨Bq, Dq, e_q⟩ := Hq.out.val
        subst e_q
        (try clear hxX1_0 hfX1_0 hxX1_1 hfX1_1)
        have hxX1_0 := (HX1.out.cell 0).trans (show _ = some (.slice none 0 0) from rfl)
        have hfX1_0 := HX1.out.frozen 0
        have hxX1_1 := (HX1.out.cell 1).trans (show _ = some (.slice none 0 0) from rfl)
        have hfX1_1 := HX1.out.frozen 1
        (try clear hxX4_0 hfX4_0 hxX4_1 hfX4_1)
        have hxX4_0 := (HX4.out.cell 0).trans (show _ = some (.slice Bs s.length Ds) from rfl)
        have hfX4_0 := HX4.out.frozen 0
        have hxX4_1 := (HX4.out.cell 1).trans (show _ = some (.slice Bq q.length Dq) from rfl)
        have hfX4_1 := HX4.out.frozen 1
        by_cases c1 : i < (l0.length : Int)
        · rw [if_pos c1] at H
          have cb1 : decide (i < (l0.length : Int)) = true := decide_eq_true c1
          by_cases c2 : 0 ≤ i
          · rw [if_pos c2] at H
            have cb2 : decide (0 ≤ i) = true := decide_eq_true c2
            obtain ⟨adx, A3, c3, ex, hx0, hx1, hx2, hx3, hl3, hi3⟩ := at_T100 HR0.out i c2 c1
            cases ex
            obtain ⟨z, hz⟩ : ∃ z, z = rd_T100 l0 i := ⟨_, rfl⟩
            rw [← hz] at H hx0 hx1 hx2 hx3 hl3 hi3
            replace hx0 := (HB.out.cell (World.block_lt_of_cell? w _ hx0)).trans hx0
            replace hx1 := (HB.out.cell (World.block_lt_of_cell? w _ hx1)).trans hx1
            replace hx2 := (HB.out.cell (World.block_lt_of_cell? w _ hx2)).trans hx2
            replace hx3 := (HB.out.cell (World.block_lt_of_cell? w _ hx3)).trans hx3
            have HIX := Aside0.mk hi3
            have HLX := Aside0.mk hl3
            clear hi3 hl3 hz
            replace c1 := eq_true c1
            replace c2 := eq_true c2
            obtain ⟨⟨t1, t2, t3⟩, e1, H⟩ := Option.bind_eq_some_iff.1 H
            have E1 := Aside0.mk e1
            clear e1
            simp only at H
            by_cases c4 : x7.length < 17592186044416
            · rw [if_pos c4] at H
              have LM4 := Aside0.mk c4
              clear c4
              obtain ⟨y3, hy3⟩ : ∃ y_ : List Int, y_ = x7 ++ [t1] := ⟨_, rfl⟩
              rw [← hy3] at H
              have Ny3 := Aside0.mk hy3
              have H' := Aside0.mk H
              clear H hy3
              go_wp2_with (first | ((with_reducible refine gate_dst (N := 9) rfl ?_); refine box_event ?hg_6 (N := 9) ?hd_6 (cs := #[.int .i64 0, .int .i64 0, .int .i64 0, .slice none 0 0]) (t := 100) ?hr_6 ?_; (case hd_6 => rfl); (case hg_6 => rfl); (case hr_6 => first | (go_simp; done) | (go_simp; rfl)); intro gX5 hg w2 hbox hb; have hk := kept_below hb; obtain ⟨PX5, hPX5, HLX5⟩ := LB.fresh hg hbox; have HX5 := Aside0.mk HLX5; clear HLX5; have GEX5 := Aside0.mk (show w.heap.size ≤ gX5 from (by rw [hg]; exact HB.out.size)); have D_X1_X5 := Aside0.mk (new_apart HX1.out.lt hPX5); have D_X4_X5 := Aside0.mk (new_apart HX4.out.lt hPX5); have D_7_X5 := Aside0.mk (new_apart H7.out.lt hPX5); have D_s_X5 := Aside0.mk (new_apart Hs.out.lt hPX5); have D_q_X5 := Aside0.mk (new_apart Hq.out.lt hPX5); replace HX1 := Aside0.mk (HX1.out.step hk no_S); replace HX4 := Aside0.mk (HX4.out.step hk no_S); replace H7 := Aside0.mk (H7.out.step hk no_S); replace Hs := Aside0.mk (Hs.out.step hk no_S); replace Hq := Aside0.mk (Hq.out.step hk no_S); replace HB := Aside0.mk (below_step HB.out hb); clear hb hk hbox hg hPX5; (try clear hxX1_0 hfX1_0 hxX1_1 hfX1_1); have hxX1_0 := (HX1.out.cell 0).trans (show _ = some (.slice none 0 0) from rfl); have hfX1_0 := HX1.out.frozen 0; have hxX1_1 := (HX1.out.cell 1).trans (show _ = some (.slice none 0 0) from rfl); have hfX1_1 := HX1.out.frozen 1; (try clear hxX4_0 hfX4_0 hxX4_1 hfX4_1); have hxX4_0 := (HX4.out.cell 0).trans (show _ = some (.slice Bs s.length Ds) from rfl); have hfX4_0 := HX4.out.frozen 0; have hxX4_1 := (HX4.out.cell 1).trans (show _ = some (.slice Bq q.length Dq) from rfl); have hfX4_1 := HX4.out.frozen 1; (try clear hxX5_0 hfX5_0 hxX5_1 hfX5_1 hxX5_2 hfX5_2 hxX5_3 hfX5_3); have hxX5_0 := (HX5.out.cell 0).trans (show _ = some (.int .i64 0) from rfl); have hfX5_0 := HX5.out.frozen 0; have hxX5_1 := (HX5.out.cell 1).trans (show _ = some (.int .i64 0) from rfl); have hfX5_1 := HX5.out.frozen 1; have hxX5_2 := (HX5.out.cell 2).trans (show _ = some (.int .i64 0) from rfl); have hfX5_2 := HX5.out.frozen 2; have hxX5_3 := (HX5.out.cell 3).trans (show _ = some (.slice none 0 0) from rfl); have hfX5_3 := HX5.out.frozen 3) | ((with_reducible refine gate_store (t := 100) (p := 9) rfl ?_); refine LB.stored HX5.out HB.out GEX5.out 0 [.int .i64 z.f0, .int .i64 z.f1, .int .i64 z.f2, .slice A3 z.f3.length c3] rfl (t := 100) (p := 9) rfl rfl ?hr_7 ?_; (case hr_7 => first | (go_simp; done) | (go_simp; rfl)); intro w2 hx hk hb; replace HX1 := Aside0.mk (HX1.out.step hk D_X1_X5.out); replace HX4 := Aside0.mk (HX4.out.step hk D_X4_X5.out); replace H7 := Aside0.mk (H7.out.step hk D_7_X5.out); replace Hs := Aside0.mk (Hs.out.step hk D_s_X5.out); replace Hq := Aside0.mk (Hq.out.step hk D_q_X5.out); replace HB := Aside0.mk hb; replace HX5 := Aside0.mk (show LB w2 PX5 gX5 100 #[.int .i64 z.f0, .int .i64 z.f1, .int .i64 z.f2, .slice A3 z.f3.length c3] from hx); clear hk hx hb; (try clear hxX1_0 hfX1_0 hxX1_1 hfX1_1); have hxX1_0 := (HX1.out.cell 0).trans (show _ = some (.slice none 0 0) from rfl); have hfX1_0 := HX1.out.frozen 0; have hxX1_1 := (HX1.out.cell 1).trans (show _ = some (.slice none 0 0) from rfl); have hfX1_1 := HX1.out.frozen 1; (try clear hxX4_0 hfX4_0 hxX4_1 hfX4_1); have hxX4_0 := (HX4.out.cell 0).trans (show _ = some (.slice Bs s.length Ds) from rfl); have hfX4_0 := HX4.out.frozen 0; have hxX4_1 := (HX4.out.cell 1).trans (show _ = some (.slice Bq q.length Dq) from rfl); have hfX4_1 := HX4.out.frozen 1; (try clear hxX5_0 hfX5_0 hxX5_1 hfX5_1 hxX5_2 hfX5_2 hxX5_3 hfX5_3); have hxX5_0 := (HX5.out.cell 0).trans (show _ = some (.int .i64 z.f0) from rfl); have hfX5_0 := HX5.out.frozen 0; have hxX5_1 := (HX5.out.cell 1).trans (show _ = some (.int .i64 z.f1) from rfl); have hfX5_1 := HX5.out.frozen 1; have hxX5_2 := (HX5.out.cell 2).trans (show _ = some (.int .i64 z.f2) from rfl); have hfX5_2 := HX5.out.frozen 2; have hxX5_3 := (HX5.out.cell 3).trans (show _ = some (.slice A3 z.f3.length c3) from rfl); have hfX5_3 := HX5.out.frozen 3) | ((with_reducible refine gate_callee (f := 72) rfl ?_); refine goesL_ (some 33) rfl rfl Try.func72 (by kernel_rfl) rfl #[.pointer (some ⟨gX4, 0, none⟩), .agg #[.int .i64 z.f0, .int .i64 z.f1, .int .i64 z.f2, .slice A3 z.f3.length c3]] rfl (by (try simp only [List.map_toArray, List.map_cons, List.map_nil]); first | done | rfl) ?_; (with_reducible refine (impl_Disk_act.own k1 PX4 Ps Pq gX4 _ _ s q z.f0 z.f1 z.f2 A3 c3 z.f3 t1 t2 t3 w _ HB.out GEX4.out HX4.out Hs.out Hq.out D_X4_s.out D_X4_q.out D_s_q.out HIX.out HLX.out E1.out).mono ?_); rintro e w2 ⟨v5, v6, Q5, Q6, rfl, hG, h5, h6, d5, d6, d56, rr5, rr6, hb, hk⟩; refine ⟨_, rfl, ?_⟩; have D_X1_5 := Aside0.mk (apart_app rr5 HX1.out.lt (apart_or (apart_or D_X1_X4.out D_X1_s.out) D_X1_q.out)); have D_X1_6 := Aside0.mk (apart_app rr6 HX1.out.lt (apart_or (apart_or D_X1_X4.out D_X1_s.out) D_X1_q.out)); have D_7_5 := Aside0.mk (apart_app rr5 H7.out.lt (apart_or (apart_or (apart_symm D_X4_7.out) D_7_s.out) D_7_q.out)); have D_7_6 := Aside0.mk (apart_app rr6 H7.out.lt (apart_or (apart_or (apart_symm D_X4_7.out) D_7_s.out) D_7_q.out)); have D_X5_5 := Aside0.mk (apart_app rr5 HX5.out.lt (apart_or (apart_or (apart_symm D_X4_X5.out) (apart_symm D_s_X5.out)) (apart_symm D_q_X5.out))); have D_X5_6 := Aside0.mk (apart_app rr6 HX5.out.lt (apart_or (apart_or (apart_symm D_X4_X5.out) (apart_symm D_s_X5.out)) (apart_symm D_q_X5.out))); replace HX1 := Aside0.mk (HX1.out.step hk (apart_or (apart_or D_X1_X4.out D_X1_s.out) D_X1_q.out)); replace H7 := Aside0.mk (H7.out.step hk (apart_or (apart_or (apart_symm D_X4_7.out) D_7_s.out) D_7_q.out)); replace HX5 := Aside0.mk (HX5.out.step hk (apart_or (apart_or (apart_symm D_X4_X5.out) (apart_symm D_s_X5.out)) (apart_symm D_q_X5.out))); replace HX4 := Aside0.mk hG; have H5 := Aside0.mk h5; have H6 := Aside0.mk h6; have D_X4_5 := Aside0.mk d5; have D_X4_6 := Aside0.mk d6; have D_5_6 := Aside0.mk d56; replace HB := Aside0.mk hb; clear hG h5 h6 d5 d6 d56 rr5 rr6 hb hk Hs Hq; obtain ⟨B5, D5, e_5⟩ := H5.out.val; subst e_5; obtain ⟨B6, D6, e_6⟩ := H6.out.val; subst e_6; (try clear hxX1_0 hfX1_0 hxX1_1 hfX1_1); have hxX1_0 := (HX1.out.cell 0).trans (show _ = some (.slice none 0 0) from rfl); have hfX1_0 := HX1.out.frozen 0; have hxX1_1 := (HX1.out.cell 1).trans (show _ = some (.slice none 0 0) from rfl); have hfX1_1 := HX1.out.frozen 1; (try clear hxX4_0 hfX4_0 hxX4_1 hfX4_1); have hxX4_0 := (HX4.out.cell 0).trans (show _ = some (.slice B5 t2.length D5) from rfl); have hfX4_0 := HX4.out.frozen 0; have hxX4_1 := (HX4.out.cell 1).trans (show _ = some (.slice B6 t3.length D6) from rfl); have hfX4_1 := HX4.out.frozen 1; (try clear hxX5_0 hfX5_0 hxX5_1 hfX5_1 hxX5_2 hfX5_2 hxX5_3 hfX5_3); have hxX5_0 := (HX5.out.cell 0).trans (show _ = some (.int .i64 z.f0) from rfl); have hfX5_0 := HX5.out.frozen 0; have hxX5_1 := (HX5.out.cell 1).trans (show _ = some (.int .i64 z.f1) from rfl); have hfX5_1 := HX5.out.frozen 1; have hxX5_2 := (HX5.out.cell 2).trans (show _ = some (.int .i64 z.f2) from rfl); have hfX5_2 := HX5.out.frozen 2; have hxX5_3 := (HX5.out.cell 3).trans (show _ = some (.slice A3 z.f3.length c3) from rfl); have hfX5_3 := HX5.out.frozen 3) | ((with_reducible refine gate_builtin (b := .append) (xs := #[.tmp 31, .tmp 34]) rfl ?_); at_builtin; refine LR.append1 (Kd.int .i64) (w0 := w) rfl (.tmp 31) (.tmp 34) 52 3 (.int .i64 0) 8 rfl Try.underlying52 info3 rfl (by decide) (by omega) (.slice B7 x7.length D7) x7 t1 [.int .i64 t1] rfl rfl (by simp) H7.out rfl (fun _ _ h_ => h_) HB.out ?aL_8 ?_; (case aL_8 => have := LM4.out; omega); intro PF6 v_ w2 HL hb hk hR; have D_X1_F6 := Aside0.mk (apart_app hR HX1.out.lt D_X1_7.out); have D_X4_F6 := Aside0.mk (apart_app hR HX4.out.lt D_X4_7.out); have D_X5_F6 := Aside0.mk (apart_app hR HX5.out.lt (apart_symm D_7_X5.out)); have D_5_F6 := Aside0.mk (apart_app hR H5.out.lt (apart_symm D_7_5.out)); have D_6_F6 := Aside0.mk (apart_app hR H6.out.lt (apart_symm D_7_6.out)); replace HX1 := Aside0.mk (HX1.out.step hk D_X1_7.out); replace HX4 := Aside0.mk (HX4.out.step hk D_X4_7.out); replace HX5 := Aside0.mk (HX5.out.step hk (apart_symm D_7_X5.out)); replace H5 := Aside0.mk (H5.out.step hk (apart_symm D_7_5.out)); replace H6 := Aside0.mk (H6.out.step hk (apart_symm D_7_6.out)); rw [← Ny3.out] at HL; have HF6 := Aside0.mk HL; replace HB := Aside0.mk hb; clear hR HL hb hk; clear H7; obtain ⟨BF6, DF6, e_F6⟩ := HF6.out.val; subst e_F6; (try clear hxX1_0 hfX1_0 hxX1_1 hfX1_1); have hxX1_0 := (HX1.out.cell 0).trans (show _ = some (.slice none 0 0) from rfl); have hfX1_0 := HX1.out.frozen 0; have hxX1_1 := (HX1.out.cell 1).trans (show _ = some (.slice none 0 0) from rfl); have hfX1_1 := HX1.out.frozen 1; (try clear hxX4_0 hfX4_0 hxX4_1 hfX4_1); have hxX4_0 := (HX4.out.cell 0).trans (show _ = some (.slice B5 t2.length D5) from rfl); have hfX4_0 := HX4.out.frozen 0; have hxX4_1 := (HX4.out.cell 1).trans (show _ = some (.slice B6 t3.length D6) from rfl); have hfX4_1 := HX4.out.frozen 1; (try clear hxX5_0 hfX5_0 hxX5_1 hfX5_1 hxX5_2 hfX5_2 hxX5_3 hfX5_3); have hxX5_0 := (HX5.out.cell 0).trans (show _ = some (.int .i64 z.f0) from rfl); have hfX5_0 := HX5.out.frozen 0; have hxX5_1 := (HX5.out.cell 1).trans (show _ = some (.int .i64 z.f1) from rfl); have hfX5_1 := HX5.out.frozen 1; have hxX5_2 := (HX5.out.cell 2).trans (show _ = some (.int .i64 z.f2) from rfl); have hfX5_2 := HX5.out.frozen 2; have hxX5_3 := (HX5.out.cell 3).trans (show _ = some (.slice A3 z.f3.length c3) from rfl); have hfX5_3 := HX5.out.frozen 3))
              go_roundg k1
              case measure => have := HK1.out; omega
              case rel => exact ⟨y3, wrap64 (i + 1), t2, t3, _, _, PF6, Q5, Q6, rfl, H', ⟨by have := HK1.out; omega⟩, HF6, HX4, HX1, H5, H6, ⟨D_X1_X4.out⟩, ⟨D_X4_F6.out⟩, ⟨D_X4_5.out⟩, ⟨D_X4_6.out⟩, ⟨D_X1_F6.out⟩, ⟨D_X1_5.out⟩, ⟨D_X1_6.out⟩, ⟨(apart_symm D_5_F6.out)⟩, ⟨(apart_symm D_6_F6.out)⟩, ⟨D_5_6.out⟩, HB⟩
            · rw [if_neg c4] at H
              exact absurd H (by simp)
          · rw [if_neg c2] at H
            exact absurd H (by simp)
        · rw [if_neg c1] at H
          have cb1 : decide (i < (l0.length : Int)) = false := decide_eq_false c1
          clear c1
          simp only [Option.some.injEq, Prod.mk.injEq] at H
          obtain ⟨rfl, rfl, rfl, rfl⟩ := H
          go_upto_region 10 with (fail)
          refine start_ (n := 5) (S := fun w' => w'.cell? ⟨gX4, 0, none⟩ = some (.slice Bs s.length Ds) ∧ w'.cell? ⟨gX4, 1, none⟩ = some (.slice Bq q.length Dq)) (ds := []) #[false, false, false, false, false] (by kernel_rfl) rfl rfl ⟨hxX4_0, hxX4_1⟩ (fun hHeld => ?_)
          refine with_tabW impl_DiskRun.tab10 impl_DiskRun.bits10 (fun HT_ HW_ => ?_)
          generalize hwd_ : World.drew wr = wd_ at hHeld ⊢
          have hk := kept_drew hwd_
          replace HX1 := Aside0.mk (HX1.out.step hk no_S)
          replace HX4 := Aside0.mk (HX4.out.step hk no_S)
          replace H7 := Aside0.mk (H7.out.step hk no_S)
          replace Hs := Aside0.mk (Hs.out.step hk no_S)
          replace Hq := Aside0.mk (Hq.out.step hk no_S)
          replace HB := Aside0.mk (below_drewd HB.out hwd_)
          clear hk hwd_
          (try clear hxX1_0 hfX1_0 hxX1_1 hfX1_1)
          have hxX1_0 := (HX1.out.cell 0).trans (show _ = some (.slice none 0 0) from rfl)
          have hfX1_0 := HX1.out.frozen 0
          have hxX1_1 := (HX1.out.cell 1).trans (show _ = some (.slice none 0 0) from rfl)
          have hfX1_1 := HX1.out.frozen 1
          (try clear hxX4_0 hfX4_0 hxX4_1 hfX4_1)
          have hxX4_0 := (HX4.out.cell 0).trans (show _ = some (.slice Bs s.length Ds) from rfl)
          have hfX4_0 := HX4.out.frozen 0
          have hxX4_1 := (HX4.out.cell 1).trans (show _ = some (.slice Bq q.length Dq) from rfl)
          have hfX4_1 := HX4.out.frozen 1
          refine pure_ (i := 0) (N := some 37) (v := ?_) (a' := ?_) #[true, false, false, false, false] rfl rfl (any_of HT_.out (by kernel_rfl)) (fun _ _ _ h => h) (Or.inl ⟨by rfl, ?_⟩) ?_ ?_
          rotate_left
          · intro w'
            go_simp
            with_reducible rfl
          rotate_left
          · simp only [Act.put, List.setIfInBounds_toArray, List.set_cons_zero, List.set_cons_succ, i64_w, i32_w]
            rfl
          refine take_ (i := 1) (N := some 38) (v := ?_) (a' := ?_) #[true, true, false, false, false] rfl rfl (take_ofW HT_.out HW_.out (by kernel_rfl)) (fun _ _ _ h => h) (Or.inl ⟨by rfl, ?_⟩) hHeld ?_ ?_
          rotate_left
          · rintro w' ⟨s0, s1⟩
            go_simp
            with_reducible rfl
          rotate_left
          · simp only [Act.put, List.setIfInBounds_toArray, List.set_cons_zero, List.set_cons_succ, i64_w, i32_w]
            rfl
          refine pure_ (i := 2) (N := some 2) (v := ?_) (a' := ?_) #[true, true, true, false, false] rfl rfl (any_of HT_.out (by kernel_rfl)) (fun _ _ _ h => h) (Or.inl ⟨by rfl, ?_⟩) ?_ ?_
          rotate_left
          · intro w'
            go_simp
            with_reducible rfl
          rotate_left
          · simp only [Act.put, List.setIfInBounds_toArray, List.set_cons_zero, List.set_cons_succ, i64_w, i32_w]
            rfl
          refine one_ (i := 3) (N := none) #[true, true, true, true, false] rfl rfl (one_of HT_.out (by kernel_rfl)) (by decide) (fun K hK => ?_)
          refine LB.stored_step HX1.out HB.out GEX1.out 0 [.slice Bs s.length Ds, .slice Bq q.length Dq] (by rfl) rfl ?hr_9 ?_
          (case hr_9 => first | (go_simp; done) | (go_simp; rfl))
          intro w2 hx hk hb
          replace HX4 := Aside0.mk (HX4.out.step hk (apart_symm D_X1_X4.out))
          replace H7 := Aside0.mk (H7.out.step hk (apart_symm D_X1_7.out))
          replace Hs := Aside0.mk (Hs.out.step hk (apart_symm D_X1_s.out))
          replace Hq := Aside0.mk (Hq.out.step hk (apart_symm D_X1_q.out))
          replace HB := Aside0.mk hb
          replace HX1 := Aside0.mk (show LB w2 PX1 gX1 29 #[.slice Bs s.length Ds, .slice Bq q.length Dq] from hx)
          clear hk hx hb
          (try clear hxX1_0 hfX1_0 hxX1_1 hfX1_1)
          have hxX1_0 := (HX1.out.cell 0).trans (show _ = some (.slice Bs s.length Ds) from rfl)
          have hfX1_0 := HX1.out.frozen 0
          have hxX1_1 := (HX1.out.cell 1).trans (show _ = some (.slice Bq q.length Dq) from rfl)
          have hfX1_1 := HX1.out.frozen 1
          (try clear hxX4_0 hfX4_0 hxX4_1 hfX4_1)
          have hxX4_0 := (HX4.out.cell 0).trans (show _ = some (.slice Bs s.length Ds) from rfl)
          have hfX4_0 := HX4.out.frozen 0
          have hxX4_1 := (HX4.out.cell 1).trans (show _ = some (.slice Bq q.length Dq) from rfl)
          have hfX4_1 := HX4.out.frozen 1
          refine hK.out _ _ ⟨hxX4_0, hxX4_1⟩ (fun hHeld => ?_)
          clear hK K
          refine pure_ (i := 4) (N := some 4) (v := ?_) (a' := ?_) #[true, true, true, true, true] rfl rfl (any_of HT_.out (by kernel_rfl)) (fun _ _ _ h => h) (Or.inl ⟨by rfl, ?_⟩) ?_ ?_
          rotate_left
          · intro w'
            go_simp
            with_reducible rfl
          rotate_left
          · simp only [Act.put, List.setIfInBounds_toArray, List.set_cons_zero, List.set_cons_succ, i64_w, i32_w]
            rfl
          refine done_ (done_of HT_.out (by kernel_rfl)) ?_
          go_wp2
          refine bodyPost_ret (results_list (rs := [.tmp 2, .cell 3 29, .tmp 4]) rfl (by simp) (.tmp (.cell gX1 29 #[.slice Bs s.length Ds, .slice Bq q.length Dq] (0, 0) _ rfl HX1.out.2.1 Try.underlying29 rfl (by kernel_rfl) (.tmp .nil)))) rfl ?_
          exact ⟨_, _, _, rfl, LR.out H7.out, LR.out1 Hs.out H7.out.1.1 D_7_s.out, LS.out2 Hq.out H7.out.1.1 D_7_q.out Hs.out.1.1 D_s_q.out, HB.out⟩
  · rw [if_neg c] at h
    have cb : (t3 == 0) = false := beq_eq_false_iff_ne.mpr c
    have cb2 : (t3 != 0) = true := bne_iff_ne.mpr c
    clear c
    simp only [Option.some.injEq, Prod.mk.injEq] at h
    obtain ⟨rfl, rfl, rfl, rfl⟩ := h
    go_enter Try.func29, Try.ntmps29
    go_wp2_with (first | ((with_reducible refine gate_dst (N := 3) rfl ?_); refine box_event ?hg_10 (N := 3) ?hd_10 (cs := #[.slice none 0 0, .slice none 0 0]) (t := 29) ?hr_10 ?_; (case hd_10 => rfl); (case hg_10 => rfl); (case hr_10 => first | (go_simp; done) | (go_simp; rfl)); intro gX7 hg w2 hbox hb; have hk := kept_below hb; obtain ⟨PX7, hPX7, HLX7⟩ := LB.fresh hg hbox; have HX7 := Aside0.mk HLX7; clear HLX7; have GEX7 := Aside0.mk (show w.heap.size ≤ gX7 from (by rw [hg]; exact HB.out.size)); replace HB := Aside0.mk (below_step HB.out hb); clear hb hk hbox hg hPX7; (try clear hxX7_0 hfX7_0 hxX7_1 hfX7_1); have hxX7_0 := (HX7.out.cell 0).trans (show _ = some (.slice none 0 0) from rfl); have hfX7_0 := HX7.out.frozen 0; have hxX7_1 := (HX7.out.cell 1).trans (show _ = some (.slice none 0 0) from rfl); have hfX7_1 := HX7.out.frozen 1) | ((with_reducible refine gate_callee (f := 71) rfl ?_); refine goesL_ (some 12) rfl rfl Try.func71 (by kernel_rfl) rfl #[.int .i64 (l0.length : Int)] rfl (by (try simp only [List.map_toArray, List.map_cons, List.map_nil]); first | done | rfl | (simp only [List.length_drop, List.length_take]; rfl)) ?_; (with_reducible refine (impl_longList.calls (l0.length : Int) t1 _ E1.out).mono ?_); rintro e w2 ⟨rfl, hq⟩; refine ⟨_, rfl, ?_⟩; have hk := kept_drawn hq; replace HX7 := Aside0.mk (HX7.out.step hk no_S); replace HB := Aside0.mk (below_drawn HB.out hq); clear hk hq; (try clear hxX7_0 hfX7_0 hxX7_1 hfX7_1); have hxX7_0 := (HX7.out.cell 0).trans (show _ = some (.slice none 0 0) from rfl); have hfX7_0 := HX7.out.frozen 0; have hxX7_1 := (HX7.out.cell 1).trans (show _ = some (.slice none 0 0) from rfl); have hfX7_1 := HX7.out.frozen 1) | ((with_reducible refine gate_callee (f := 68) rfl ?_); refine goesL_ (some 16) rfl rfl Try.func68 (by kernel_rfl) rfl #[.bool (decide ((l0.length : Int) ≤ 200)), .int .i64 7] rfl (by (try simp only [List.map_toArray, List.map_cons, List.map_nil]); first | done | rfl | (simp only [List.length_drop, List.length_take]; rfl)) ?_; (with_reducible refine (impl_unless.calls (decide ((l0.length : Int) ≤ 200)) 7 t2 _ E2.out).mono ?_); rintro e w2 ⟨rfl, hq⟩; refine ⟨_, rfl, ?_⟩; have hk := kept_drawn hq; replace HX7 := Aside0.mk (HX7.out.step hk no_S); replace HB := Aside0.mk (below_drawn HB.out hq); clear hk hq; (try clear hxX7_0 hfX7_0 hxX7_1 hfX7_1); have hxX7_0 := (HX7.out.cell 0).trans (show _ = some (.slice none 0 0) from rfl); have hfX7_0 := HX7.out.frozen 0; have hxX7_1 := (HX7.out.cell 1).trans (show _ = some (.slice none 0 0) from rfl); have hfX7_1 := HX7.out.frozen 1) | ((with_reducible refine gate_dst (N := 17) rfl ?_); refine Kd.R_lit (Kd.int .i64) _ 3 ?hg_11 (N := 17) ?hd_11 (xs := ([t1, t2] : List Int)) (inner := [.int .i64 t1, .int .i64 t2]) (ok := fun _ => True) (okp := fun _ => True) ?hr_11 ?hp_11 (fun _ hk => hk) trivial (Below.refl _ _) (Nat.le_refl _) (by simp) ?_; (case hd_11 => rfl); (case hg_11 => rfl); (case hr_11 => first | (go_simp; done) | (go_simp; rfl)); (case hp_11 => exact ⟨rfl, fun j p hj => by match j with | 0 => (obtain rfl := Option.some.inj hj; rfl) | 1 => (obtain rfl := Option.some.inj hj; rfl) | _ + 2 => (simp at hj)⟩); intro vF8 w2 hrF8 hb hg_ hnew_; clear hg_ hnew_; rw [← Ny1.out] at hrF8; have hk := kept_below hb; obtain ⟨PF8, hPF8, HLF8⟩ := LR.fresh rfl HB.out hrF8; have HF8 := Aside0.mk HLF8; clear HLF8 hrF8; have D_X7_F8 := Aside0.mk (new_apart HX7.out.lt hPF8); replace HX7 := Aside0.mk (HX7.out.step hk no_S); clear hPF8; obtain ⟨BF8, DF8, e_F8⟩ := HF8.out.val; subst e_F8; replace HB := Aside0.mk (below_step HB.out hb); clear hb hk; (try clear hxX7_0 hfX7_0 hxX7_1 hfX7_1); have hxX7_0 := (HX7.out.cell 0).trans (show _ = some (.slice none 0 0) from rfl); have hfX7_0 := HX7.out.frozen 0; have hxX7_1 := (HX7.out.cell 1).trans (show _ = some (.slice none 0 0) from rfl); have hfX7_1 := HX7.out.frozen 1) | ((with_reducible refine gate_callee (f := 67) rfl ?_); refine goesL_ (some 18) rfl rfl Try.func67 (by kernel_rfl) rfl #[.slice BF8 y1.length DF8] rfl (by (try simp only [List.map_toArray, List.map_cons, List.map_nil]); first | done | rfl | (simp only [List.length_drop, List.length_take]; rfl)) ?_; (with_reducible refine (impl_first.calls k _ _ y1 t3 _ HF8.out.reads HF8.out.room E3.out).mono ?_); rintro e w2 ⟨rfl, hq⟩; refine ⟨_, rfl, ?_⟩; have hk := kept_drawn hq; replace HX7 := Aside0.mk (HX7.out.step hk no_S); replace HF8 := Aside0.mk (HF8.out.step hk no_S); replace HB := Aside0.mk (below_drawn HB.out hq); clear hk hq; (try clear hxX7_0 hfX7_0 hxX7_1 hfX7_1); have hxX7_0 := (HX7.out.cell 0).trans (show _ = some (.slice none 0 0) from rfl); have hfX7_0 := HX7.out.frozen 0; have hxX7_1 := (HX7.out.cell 1).trans (show _ = some (.slice none 0 0) from rfl); have hfX7_1 := HX7.out.frozen 1) | ((with_reducible refine gate_store (t := 29) (p := 3) rfl ?_); refine LB.stored HX7.out HB.out GEX7.out 0 [.slice none 0 0, .slice none 0 0] rfl (t := 29) (p := 3) rfl rfl ?hr_12 ?_; (case hr_12 => first | (go_simp; done) | (go_simp; rfl)); intro w2 hx hk hb; replace HF8 := Aside0.mk (HF8.out.step hk (apart_symm D_X7_F8.out)); replace HB := Aside0.mk hb; replace HX7 := Aside0.mk (show LB w2 PX7 gX7 29 #[.slice none 0 0, .slice none 0 0] from hx); clear hk hx hb; (try clear hxX7_0 hfX7_0 hxX7_1 hfX7_1); have hxX7_0 := (HX7.out.cell 0).trans (show _ = some (.slice none 0 0) from rfl); have hfX7_0 := HX7.out.frozen 0; have hxX7_1 := (HX7.out.cell 1).trans (show _ = some (.slice none 0 0) from rfl); have hfX7_1 := HX7.out.frozen 1))
    refine bodyPost_ret (results_list (rs := [.tmp 2, .cell 3 29, .tmp 4]) rfl (by simp) (.tmp (.cell gX7 29 #[.slice none 0 0, .slice none 0 0] (0, 0) _ rfl HX7.out.2.1 Try.underlying29 rfl (by kernel_rfl) (.tmp .nil)))) rfl ?_
    exact ⟨_, _, _, rfl, Kd.R_nil _ _ _ _ _, Kd.R_nil _ _ _ _ _, Kd.S_nil _ _ _ _ _, HB.out⟩
/-! ### spec_DiskRun: function 31, by hand -/
def spec_DiskRun.l0 : Nat → List S100 → Int → List Int → List Int → List (List Int) → Option (List Int × List Int × List (List Int) × Int)
  | 0, _, _, _, _, _ => none
  | k + 1, x0, i, c, s, p => if i < (x0.length : Int) then (if 0 ≤ i then ((spec_l02Act.f k s p (rd_T100 x0 i).f0 (rd_T100 x0 i).f1 (rd_T100 x0 i).f2 (rd_T100 x0 i).f3).bind fun t => (if c.length < 17592186044416 then (spec_DiskRun.l0 k x0 (wrap64 (i + 1)) (c ++ [t.2.2]) t.1 t.2.1) else none)) else none) else some (c, s, p, 0)
def spec_DiskRun.f (k : Nat) (l0 : List S100) : Option (List Int × List Int × List (List Int) × Int) := if (l0.length : Int) > 4096 then some ([], [], [], 2) else if (l0.length : Int) > 200 then some ([], [], [], 7) else spec_DiskRun.l0 k l0 0 [] [] []
def spec_DiskRun.T10 : Bool × List (List Nat × List Nat) := (true, [([], []), ([], []), ([], []), ([1, 2], [1, 2]), ([3], [3]), ([0, 4], [0, 4]), ([5], [5]), ([6], [6]), ([6], [6]), ([], []), ([9, 7, 5, 0, 1, 2, 3, 4, 5, 6, 7, 9], [7, 9]), ([8, 10, 0, 1, 2, 3, 4, 5, 6, 7, 8, 9, 10], [8])])
def spec_DiskRun.B10 : List Nat := [0, 0, 0, 6, 14, 31, 63, 127, 127, 0, 767, 2047]
theorem spec_DiskRun.tab10 : rtab .any (opsOf Try.f31 10) = spec_DiskRun.T10 := by kernel_rfl
theorem spec_DiskRun.bits10 : waitsOk spec_DiskRun.T10.2 spec_DiskRun.B10 = true := by kernel_rfl
def spec_DiskRun.T13 : Bool × List (List Nat × List Nat) := (true, [([], []), ([], []), ([0, 0], [0]), ([1, 2, 0, 1, 2], [1]), ([3, 0, 1, 2, 3], [])])
def spec_DiskRun.B13 : List Nat := [0, 0, 1, 7, 15]
theorem spec_DiskRun.tab13 : rtab .any (opsOf Try.f31 13) = spec_DiskRun.T13 := by kernel_rfl
theorem spec_DiskRun.bits13 : waitsOk spec_DiskRun.T13.2 spec_DiskRun.B13 = true := by kernel_rfl
set_option maxHeartbeats 16000000 in
set_option maxRecDepth 100000 in
theorem spec_DiskRun.own (k : Nat) (A0 : Option Addr) (c0 : Nat) (l0 : List S100) (r1 : List Int) (r2 : List Int) (r3 : List (List Int)) (r4 : Int) (w : World) (hr0 : Kd.C k100 w A0 l0.length l0) (hc0 : l0.length ≤ c0) (h : spec_DiskRun.f k l0 = some (r1, r2, r3, r4)) :
    Calls Try.prog 31 #[.slice A0 l0.length c0] w fun e w' => ∃ v0_ v1_ v2_ : Value, e = .returned (.tuple #[v0_, .agg #[v1_, v2_], .int .i64 r4]) ∧ Kd.R (Kd.int .i64) 3 w' w.heap.size (fun k_ => (w.heap.size ≤ k_)) v0_ r1 ∧ Kd.V (Kd.int .u8) 5 w' w.heap.size (fun k_ => (w.heap.size ≤ k_)) v1_ r2 ∧ Kd.V (Kd.slice 5 (Kd.int .u8)) 22 w' w.heap.size (fun k_ => (w.heap.size ≤ k_)) v2_ r3 ∧ Below w.heap.size w w' := by
  have hu := Try.underlying29
  have hu2 := Try.underlying100
  have HB := Aside0.mk (Below.refl w.heap.size w)
  have HR0 := Aside0.mk hr0
  have HC0 := Aside0.mk hc0
  clear hr0 hc0
  unfold spec_DiskRun.f at h
  obtain ⟨y2, hy2⟩ : ∃ y_ : List Int, y_ = [] := ⟨_, rfl⟩
  have Ny2 := Aside0.mk hy2
  by_cases c : (l0.length : Int) > 4096
  · rw [if_pos c] at h
    have cb : decide (4096 < (l0.length : Int)) = true := decide_eq_true c
    clear c
    simp only [Option.some.injEq, Prod.mk.injEq] at h
    obtain ⟨h1, rfl, rfl, rfl⟩ := h
    rw [← hy2] at h1
    subst h1
    clear hy2
    go_enter Try.func31, Try.ntmps31
    go_wp2_with (first | ((with_reducible refine gate_dst (N := 3) rfl ?_); refine box_event ?hg_1 (N := 3) ?hd_1 (cs := #[.slice none 0 0, .slice none 0 0]) (t := 29) ?hr_1 ?_; (case hd_1 => rfl); (case hg_1 => rfl); (case hr_1 => first | (go_simp; done) | (go_simp; rfl)); intro gX1 hg w2 hbox hb; have hk := kept_below hb; obtain ⟨PX1, hPX1, HLX1⟩ := LB.fresh hg hbox; have HX1 := Aside0.mk HLX1; clear HLX1; have GEX1 := Aside0.mk (show w.heap.size ≤ gX1 from (by rw [hg]; exact HB.out.size)); replace HB := Aside0.mk (below_step HB.out hb); clear hb hk hbox hg hPX1; (try clear hxX1_0 hfX1_0 hxX1_1 hfX1_1); have hxX1_0 := (HX1.out.cell 0).trans (show _ = some (.slice none 0 0) from rfl); have hfX1_0 := HX1.out.frozen 0; have hxX1_1 := (HX1.out.cell 1).trans (show _ = some (.slice none 0 0) from rfl); have hfX1_1 := HX1.out.frozen 1) | ((with_reducible refine gate_dst (N := 13) rfl ?_); refine Kd.R_lit (Kd.int .i64) _ 3 ?hg_2 (N := 13) ?hd_2 (xs := ([] : List Int)) (inner := []) (ok := fun _ => True) (okp := fun _ => True) ?hr_2 ?hp_2 (fun _ hk => hk) trivial (Below.refl _ _) (Nat.le_refl _) (by simp) ?_; (case hd_2 => rfl); (case hg_2 => rfl); (case hr_2 => first | (go_simp; done) | (go_simp; rfl)); (case hp_2 => exact (Reps.none _ _)); intro vF2 w2 hrF2 hb hg_ hnew_; clear hg_ hnew_; rw [← Ny2.out] at hrF2; have hk := kept_below hb; obtain ⟨PF2, hPF2, HLF2⟩ := LR.fresh rfl HB.out hrF2; have HF2 := Aside0.mk HLF2; clear HLF2 hrF2; have D_X1_F2 := Aside0.mk (new_apart HX1.out.lt hPF2); replace HX1 := Aside0.mk (HX1.out.step hk no_S); clear hPF2; obtain ⟨BF2, DF2, e_F2⟩ := HF2.out.val; subst e_F2; replace HB := Aside0.mk (below_step HB.out hb); clear hb hk; (try clear hxX1_0 hfX1_0 hxX1_1 hfX1_1); have hxX1_0 := (HX1.out.cell 0).trans (show _ = some (.slice none 0 0) from rfl); have hfX1_0 := HX1.out.frozen 0; have hxX1_1 := (HX1.out.cell 1).trans (show _ = some (.slice none 0 0) from rfl); have hfX1_1 := HX1.out.frozen 1) | ((with_reducible refine gate_store (t := 29) (p := 3) rfl ?_); refine LB.stored HX1.out HB.out GEX1.out 0 [.slice none 0 0, .slice none 0 0] rfl (t := 29) (p := 3) rfl rfl ?hr_3 ?_; (case hr_3 => first | (go_simp; done) | (go_simp; rfl)); intro w2 hx hk hb; replace HF2 := Aside0.mk (HF2.out.step hk (apart_symm D_X1_F2.out)); replace HB := Aside0.mk hb; replace HX1 := Aside0.mk (show LB w2 PX1 gX1 29 #[.slice none 0 0, .slice none 0 0] from hx); clear hk hx hb; (try clear hxX1_0 hfX1_0 hxX1_1 hfX1_1); have hxX1_0 := (HX1.out.cell 0).trans (show _ = some (.slice none 0 0) from rfl); have hfX1_0 := HX1.out.frozen 0; have hxX1_1 := (HX1.out.cell 1).trans (show _ = some (.slice none 0 0) from rfl); have hfX1_1 := HX1.out.frozen 1))
    refine bodyPost_ret (results_list (rs := [.tmp 2, .cell 3 29, .tmp 4]) rfl (by simp) (.tmp (.cell gX1 29 #[.slice none 0 0, .slice none 0 0] (0, 0) _ rfl HX1.out.2.1 Try.underlying29 rfl (by kernel_rfl) (.tmp .nil)))) rfl ?_
    exact ⟨_, _, _, rfl, LR.out HF2.out, Kd.V_nil _ _ _ _ _, Kd.V_nil _ _ _ _ _, HB.out⟩
  rw [if_neg c] at h
  have cb : decide (4096 < (l0.length : Int)) = false := decide_eq_false c
  clear c
  by_cases c : (l0.length : Int) > 200
  · rw [if_pos c] at h
    have cb2 : decide (200 < (l0.length : Int)) = true := decide_eq_true c
    clear c
    simp only [Option.some.injEq, Prod.mk.injEq] at h
    obtain ⟨h1, rfl, rfl, rfl⟩ := h
    rw [← hy2] at h1
    subst h1
    clear hy2
    go_enter Try.func31, Try.ntmps31
    go_wp2_with (first | ((with_reducible refine gate_dst (N := 3) rfl ?_); refine box_event ?hg_1 (N := 3) ?hd_1 (cs := #[.slice none 0 0, .slice none 0 0]) (t := 29) ?hr_1 ?_; (case hd_1 => rfl); (case hg_1 => rfl); (case hr_1 => first | (go_simp; done) | (go_simp; rfl)); intro gX1 hg w2 hbox hb; have hk := kept_below hb; obtain ⟨PX1, hPX1, HLX1⟩ := LB.fresh hg hbox; have HX1 := Aside0.mk HLX1; clear HLX1; have GEX1 := Aside0.mk (show w.heap.size ≤ gX1 from (by rw [hg]; exact HB.out.size)); replace HB := Aside0.mk (below_step HB.out hb); clear hb hk hbox hg hPX1; (try clear hxX1_0 hfX1_0 hxX1_1 hfX1_1); have hxX1_0 := (HX1.out.cell 0).trans (show _ = some (.slice none 0 0) from rfl); have hfX1_0 := HX1.out.frozen 0; have hxX1_1 := (HX1.out.cell 1).trans (show _ = some (.slice none 0 0) from rfl); have hfX1_1 := HX1.out.frozen 1) | ((with_reducible refine gate_dst (N := 18) rfl ?_); refine Kd.R_lit (Kd.int .i64) _ 3 ?hg_4 (N := 18) ?hd_4 (xs := ([] : List Int)) (inner := []) (ok := fun _ => True) (okp := fun _ => True) ?hr_4 ?hp_4 (fun _ hk => hk) trivial (Below.refl _ _) (Nat.le_refl _) (by simp) ?_; (case hd_4 => rfl); (case hg_4 => rfl); (case hr_4 => first | (go_simp; done) | (go_simp; rfl)); (case hp_4 => exact (Reps.none _ _)); intro vF3 w2 hrF3 hb hg_ hnew_; clear hg_ hnew_; rw [← Ny2.out] at hrF3; have hk := kept_below hb; obtain ⟨PF3, hPF3, HLF3⟩ := LR.fresh rfl HB.out hrF3; have HF3 := Aside0.mk HLF3; clear HLF3 hrF3; have D_X1_F3 := Aside0.mk (new_apart HX1.out.lt hPF3); replace HX1 := Aside0.mk (HX1.out.step hk no_S); clear hPF3; obtain ⟨BF3, DF3, e_F3⟩ := HF3.out.val; subst e_F3; replace HB := Aside0.mk (below_step HB.out hb); clear hb hk; (try clear hxX1_0 hfX1_0 hxX1_1 hfX1_1); have hxX1_0 := (HX1.out.cell 0).trans (show _ = some (.slice none 0 0) from rfl); have hfX1_0 := HX1.out.frozen 0; have hxX1_1 := (HX1.out.cell 1).trans (show _ = some (.slice none 0 0) from rfl); have hfX1_1 := HX1.out.frozen 1) | ((with_reducible refine gate_store (t := 29) (p := 3) rfl ?_); refine LB.stored HX1.out HB.out GEX1.out 0 [.slice none 0 0, .slice none 0 0] rfl (t := 29) (p := 3) rfl rfl ?hr_5 ?_; (case hr_5 => first | (go_simp; done) | (go_simp; rfl)); intro w2 hx hk hb; replace HF3 := Aside0.mk (HF3.out.step hk (apart_symm D_X1_F3.out)); replace HB := Aside0.mk hb; replace HX1 := Aside0.mk (show LB w2 PX1 gX1 29 #[.slice none 0 0, .slice none 0 0] from hx); clear hk hx hb; (try clear hxX1_0 hfX1_0 hxX1_1 hfX1_1); have hxX1_0 := (HX1.out.cell 0).trans (show _ = some (.slice none 0 0) from rfl); have hfX1_0 := HX1.out.frozen 0; have hxX1_1 := (HX1.out.cell 1).trans (show _ = some (.slice none 0 0) from rfl); have hfX1_1 := HX1.out.frozen 1))
    refine bodyPost_ret (results_list (rs := [.tmp 2, .cell 3 29, .tmp 4]) rfl (by simp) (.tmp (.cell gX1 29 #[.slice none 0 0, .slice none 0 0] (0, 0) _ rfl HX1.out.2.1 Try.underlying29 rfl (by kernel_rfl) (.tmp .nil)))) rfl ?_
    exact ⟨_, _, _, rfl, LR.out HF3.out, Kd.V_nil _ _ _ _ _, Kd.V_nil _ _ _ _ _, HB.out⟩
  rw [if_neg c] at h
  have cb2 : decide (200 < (l0.length : Int)) = false := decide_eq_false c
  clear c
  have H' := Aside0.mk (show spec_DiskRun.l0 k l0 0 y2 [] [] = some (r1, r2, r3, r4) from by rw [hy2]; exact h)
  clear h hy2
  go_enter Try.func31, Try.ntmps31
  go_wp2_with (first | ((with_reducible refine gate_dst (N := 3) rfl ?_); refine box_event ?hg_1 (N := 3) ?hd_1 (cs := #[.slice none 0 0, .slice none 0 0]) (t := 29) ?hr_1 ?_; (case hd_1 => rfl); (case hg_1 => rfl); (case hr_1 => first | (go_simp; done) | (go_simp; rfl)); intro gX1 hg w2 hbox hb; have hk := kept_below hb; obtain ⟨PX1, hPX1, HLX1⟩ := LB.fresh hg hbox; have HX1 := Aside0.mk HLX1; clear HLX1; have GEX1 := Aside0.mk (show w.heap.size ≤ gX1 from (by rw [hg]; exact HB.out.size)); replace HB := Aside0.mk (below_step HB.out hb); clear hb hk hbox hg hPX1; (try clear hxX1_0 hfX1_0 hxX1_1 hfX1_1); have hxX1_0 := (HX1.out.cell 0).trans (show _ = some (.slice none 0 0) from rfl); have hfX1_0 := HX1.out.frozen 0; have hxX1_1 := (HX1.out.cell 1).trans (show _ = some (.slice none 0 0) from rfl); have hfX1_1 := HX1.out.frozen 1) | ((with_reducible refine gate_dst (N := 5) rfl ?_); refine box_event ?hg_6 (N := 5) ?hd_6 (cs := #[.slice none 0 0, .slice none 0 0]) (t := 29) ?hr_6 ?_; (case hd_6 => rfl); (case hg_6 => rfl); (case hr_6 => first | (go_simp; done) | (go_simp; rfl)); intro gX4 hg w2 hbox hb; have hk := kept_below hb; obtain ⟨PX4, hPX4, HLX4⟩ := LB.fresh hg hbox; have HX4 := Aside0.mk HLX4; clear HLX4; have GEX4 := Aside0.mk (show w.heap.size ≤ gX4 from (by rw [hg]; exact HB.out.size)); have D_X1_X4 := Aside0.mk (new_apart HX1.out.lt hPX4); replace HX1 := Aside0.mk (HX1.out.step hk no_S); replace HB := Aside0.mk (below_step HB.out hb); clear hb hk hbox hg hPX4; (try clear hxX1_0 hfX1_0 hxX1_1 hfX1_1); have hxX1_0 := (HX1.out.cell 0).trans (show _ = some (.slice none 0 0) from rfl); have hfX1_0 := HX1.out.frozen 0; have hxX1_1 := (HX1.out.cell 1).trans (show _ = some (.slice none 0 0) from rfl); have hfX1_1 := HX1.out.frozen 1; (try clear hxX4_0 hfX4_0 hxX4_1 hfX4_1); have hxX4_0 := (HX4.out.cell 0).trans (show _ = some (.slice none 0 0) from rfl); have hfX4_0 := HX4.out.frozen 0; have hxX4_1 := (HX4.out.cell 1).trans (show _ = some (.slice none 0 0) from rfl); have hfX4_1 := HX4.out.frozen 1) | ((with_reducible refine gate_store (t := 29) (p := 5) rfl ?_); refine LB.stored HX4.out HB.out GEX4.out 0 [.slice none 0 0, .slice none 0 0] rfl (t := 29) (p := 5) rfl rfl ?hr_7 ?_; (case hr_7 => first | (go_simp; done) | (go_simp; rfl)); intro w2 hx hk hb; replace HX1 := Aside0.mk (HX1.out.step hk D_X1_X4.out); replace HB := Aside0.mk hb; replace HX4 := Aside0.mk (show LB w2 PX4 gX4 29 #[.slice none 0 0, .slice none 0 0] from hx); clear hk hx hb; (try clear hxX1_0 hfX1_0 hxX1_1 hfX1_1); have hxX1_0 := (HX1.out.cell 0).trans (show _ = some (.slice none 0 0) from rfl); have hfX1_0 := HX1.out.frozen 0; have hxX1_1 := (HX1.out.cell 1).trans (show _ = some (.slice none 0 0) from rfl); have hfX1_1 := HX1.out.frozen 1; (try clear hxX4_0 hfX4_0 hxX4_1 hfX4_1); have hxX4_0 := (HX4.out.cell 0).trans (show _ = some (.slice none 0 0) from rfl); have hfX4_0 := HX4.out.frozen 0; have hxX4_1 := (HX4.out.cell 1).trans (show _ = some (.slice none 0 0) from rfl); have hfX4_1 := HX4.out.frozen 1) | ((with_reducible refine gate_dst (N := 21) rfl ?_); refine Kd.R_lit (Kd.int .i64) _ 3 ?hg_8 (N := 21) ?hd_8 (xs := ([] : List Int)) (inner := []) (ok := fun _ => True) (okp := fun _ => True) ?hr_8 ?hp_8 (fun _ hk => hk) trivial (Below.refl _ _) (Nat.le_refl _) (by simp) ?_; (case hd_8 => rfl); (case hg_8 => rfl); (case hr_8 => first | (go_simp; done) | (go_simp; rfl)); (case hp_8 => exact (Reps.none _ _)); intro vF5 w2 hrF5 hb hg_ hnew_; clear hg_ hnew_; rw [← Ny2.out] at hrF5; have hk := kept_below hb; obtain ⟨PF5, hPF5, HLF5⟩ := LR.fresh rfl HB.out hrF5; have HF5 := Aside0.mk HLF5; clear HLF5 hrF5; have D_X1_F5 := Aside0.mk (new_apart HX1.out.lt hPF5); have D_X4_F5 := Aside0.mk (new_apart HX4.out.lt hPF5); replace HX1 := Aside0.mk (HX1.out.step hk no_S); replace HX4 := Aside0.mk (HX4.out.step hk no_S); clear hPF5; obtain ⟨BF5, DF5, e_F5⟩ := HF5.out.val; subst e_F5; replace HB := Aside0.mk (below_step HB.out hb); clear hb hk; (try clear hxX1_0 hfX1_0 hxX1_1 hfX1_1); have hxX1_0 := (HX1.out.cell 0).trans (show _ = some (.slice none 0 0) from rfl); have hfX1_0 := HX1.out.frozen 0; have hxX1_1 := (HX1.out.cell 1).trans (show _ = some (.slice none 0 0) from rfl); have hfX1_1 := HX1.out.frozen 1; (try clear hxX4_0 hfX4_0 hxX4_1 hfX4_1); have hxX4_0 := (HX4.out.cell 0).trans (show _ = some (.slice none 0 0) from rfl); have hfX4_0 := HX4.out.frozen 0; have hxX4_1 := (HX4.out.cell 1).trans (show _ = some (.slice none 0 0) from rfl); have hfX4_1 := HX4.out.frozen 1))
  go_loopg [6, 7] k (fun kq v6 v7 w' => ∃ (x6 : List Int) (i : Int) (s : List Int) (q : List (List Int)) (vs vq : Value) (P6 Ps Pq : Nat → Prop), v7 = .int .i64 i ∧ Aside0 (spec_DiskRun.l0 kq l0 i x6 s q = some (r1, r2, r3, r4)) ∧ Aside0 (kq ≤ k) ∧ Aside0 (LR (Kd.int .i64) 3 w' w.heap.size P6 v6 x6) ∧ Aside0 (LB w' PX4 gX4 29 #[vs, vq]) ∧ Aside0 (LB w' PX1 gX1 29 #[.slice none 0 0, .slice none 0 0]) ∧ Aside0 (LN (Kd.int .u8) 5 w' w.heap.size Ps vs s) ∧ Aside0 (LN (Kd.slice 5 (Kd.int .u8)) 22 w' w.heap.size Pq vq q) ∧ Aside0 (∀ k_, PX1 k_ → ¬ PX4 k_) ∧ Aside0 (∀ k_, PX4 k_ → ¬ P6 k_) ∧ Aside0 (∀ k_, PX4 k_ → ¬ Ps k_) ∧ Aside0 (∀ k_, PX4 k_ → ¬ Pq k_) ∧ Aside0 (∀ k_, PX1 k_ → ¬ P6 k_) ∧ Aside0 (∀ k_, PX1 k_ → ¬ Ps k_) ∧ Aside0 (∀ k_, PX1 k_ → ¬ Pq k_) ∧ Aside0 (∀ k_, P6 k_ → ¬ Ps k_) ∧ Aside0 (∀ k_, P6 k_ → ¬ Pq k_) ∧ Aside0 (∀ k_, Ps k_ → ¬ Pq k_) ∧ Aside0 (∀ k_, Ps k_ ∨ Pq k_ → w.heap.size ≤ k_) ∧ Aside0 (Below w.heap.size w w'))
  case atStart => exact ⟨y2, 0, [], [], _, _, PF5, fun _ => False, fun _ => False, rfl, H', ⟨Nat.le_refl _⟩, HF5, HX4, HX1, ⟨LN.nil _ _ _ _⟩, ⟨LN.nil _ _ _ _⟩, ⟨D_X1_X4.out⟩, ⟨D_X4_F5.out⟩, ⟨fun _ _ h_ => h_⟩, ⟨fun _ _ h_ => h_⟩, ⟨D_X1_F5.out⟩, ⟨fun _ _ h_ => h_⟩, ⟨fun _ _ h_ => h_⟩, ⟨fun _ _ h_ => h_⟩, ⟨fun _ _ h_ => h_⟩, ⟨fun _ _ h_ => h_⟩, ⟨fun _ h_ => h_.elim (fun h_ => h_.elim) (fun h_ => h_.elim)⟩, HB⟩
  case round =>
    clear H' HB HX1 HX4 HF5 hxX1_0 hfX1_0 hxX1_1 hfX1_1 hxX4_0 hfX4_0 hxX4_1 hfX4_1
    obtain ⟨x6, i, s, q, vs, vq, P6, Ps, Pq, rfl, HA, HK1, H6, HX4, HX1, Hs, Hq, D_X1_X4, D_X4_6, D_X4_s, D_X4_q, D_X1_6, D_X1_s, D_X1_q, D_6_s, D_6_q, D_s_q, HN, HB⟩ := hrel
    cases gk with
    | zero => exact absurd HA.out (by simp [spec_DiskRun.l0])
    | succ k1 =>
      have H := HA.out
      clear HA
      simp only [spec_DiskRun.l0] at H
      obtain ⟨B6, D6, e_6⟩ := H6.out.val
      subst e_6
      obtain ⟨Bs, Ds, e_s⟩ := Hs.out.val
      subst e_s
      obtain ⟨Bq, Dq, e_q⟩ := Hq.out.val
      subst e_q
      (try clear hxX1_0 hfX1_0 hxX1_1 hfX1_1)
      have hxX1_0 := (HX1.out.cell 0).trans (show _ = some (.slice none 0 0) from rfl)
      have hfX1_0 := HX1.out.frozen 0
      have hxX1_1 := (HX1.out.cell 1).trans (show _ = some (.slice none 0 0) from rfl)
      have hfX1_1 := HX1.out.frozen 1
      (try clear hxX4_0 hfX4_0 hxX4_1 hfX4_1)
      have hxX4_0 := (HX4.out.cell 0).trans (show _ = some (.slice Bs s.length Ds) from rfl)
      have hfX4_0 := HX4.out.frozen 0
      have hxX4_1 := (HX4.out.cell 1).trans (show _ = some (.slice Bq q.length Dq) from rfl)
      have hfX4_1 := HX4.out.frozen 1
      by_cases c1 : i < (l0.length : Int)
      · rw [if_pos c1] at H
        have cb1 : decide (i < (l0.length : Int)) = true := decide_eq_true c1
        by_cases c2 : 0 ≤ i
        · rw [if_pos c2] at H
          have cb2 : decide (0 ≤ i) = true := decide_eq_true c2
          obtain ⟨adx, A3, c3, ex, hx0, hx1, hx2, hx3, hl3, hi3⟩ := at_T100 HR0.out i c2 c1
          cases ex
          obtain ⟨z, hz⟩ : ∃ z, z = rd_T100 l0 i := ⟨_, rfl⟩
          rw [← hz] at H hx0 hx1 hx2 hx3 hl3 hi3
          have HE0 := Aside0.mk hx0
          have HE1 := Aside0.mk hx1
          have HE2 := Aside0.mk hx2
          have HE3 := Aside0.mk hx3
          have HIX := Aside0.mk hi3
          have HLX := Aside0.mk hl3
          clear hi3 hl3 hz hx0 hx1 hx2 hx3
          replace c1 := eq_true c1
          replace c2 := eq_true c2
          obtain ⟨⟨t1, t2, t3⟩, e1, H⟩ := Option.bind_eq_some_iff.1 H
          have E1 := Aside0.mk e1
          clear e1
          simp only at H
          by_cases c4 : x6.length < 17592186044416
          · rw [if_pos c4] at H
            have LM4 := Aside0.mk c4
            clear c4
            obtain ⟨y3, hy3⟩ : ∃ y_ : List Int, y_ = x6 ++ [t3] := ⟨_, rfl⟩
            rw [← hy3] at H
            have Ny3 := Aside0.mk hy3
            have H' := Aside0.mk H
            clear H hy3
            go_upto_region 10 with (fail)
            refine start_ (n := 12) (S := fun w' => w'.cell? ⟨gX4, 0, none⟩ = some (.slice Bs s.length Ds) ∧ w'.cell? ⟨gX4, 1, none⟩ = some (.slice Bq q.length Dq) ∧ w'.cell? (adx.add (i.toNat * 4)) = some (.int .i64 z.f0) ∧ w'.cell? ⟨(adx.add (i.toNat * 4)).block, (adx.add (i.toNat * 4)).off + 1, none⟩ = some (.int .i64 z.f1) ∧ w'.cell? ⟨(adx.add (i.toNat * 4)).block, (adx.add (i.toNat * 4)).off + 2, none⟩ = some (.int .i64 z.f2) ∧ w'.cell? ⟨(adx.add (i.toNat * 4)).block, (adx.add (i.toNat * 4)).off + 3, none⟩ = some (.slice A3 z.f3.length c3)) (ds := []) #[false, false, false, false, false, false, false, false, false, false, false, false] (by kernel_rfl) rfl rfl ⟨hxX4_0, hxX4_1, ((HB.out.cell (World.block_lt_of_cell? w _ HE0.out)).trans HE0.out), ((HB.out.cell (World.block_lt_of_cell? w _ HE1.out)).trans HE1.out), ((HB.out.cell (World.block_lt_of_cell? w _ HE2.out)).trans HE2.out), ((HB.out.cell (World.block_lt_of_cell? w _ HE3.out)).trans HE3.out)⟩ (fun hHeld => ?_)
            refine with_tabW spec_DiskRun.tab10 spec_DiskRun.bits10 (fun HT_ HW_ => ?_)
            generalize hwd_ : World.drew wr = wd_ at hHeld ⊢
            have hk := kept_drew hwd_
            replace HX1 := Aside0.mk (HX1.out.step hk no_S)
            replace HX4 := Aside0.mk (HX4.out.step hk no_S)
            replace H6 := Aside0.mk (H6.out.step hk no_S)
            replace Hs := Aside0.mk (Hs.out.step hk no_S)
            replace Hq := Aside0.mk (Hq.out.step hk no_S)
            replace HB := Aside0.mk (below_drewd HB.out hwd_)
            clear hk hwd_
            (try clear hxX1_0 hfX1_0 hxX1_1 hfX1_1)
            have hxX1_0 := (HX1.out.cell 0).trans (show _ = some (.slice none 0 0) from rfl)
            have hfX1_0 := HX1.out.frozen 0
            have hxX1_1 := (HX1.out.cell 1).trans (show _ = some (.slice none 0 0) from rfl)
            have hfX1_1 := HX1.out.frozen 1
            (try clear hxX4_0 hfX4_0 hxX4_1 hfX4_1)
            have hxX4_0 := (HX4.out.cell 0).trans (show _ = some (.slice Bs s.length Ds) from rfl)
            have hfX4_0 := HX4.out.frozen 0
            have hxX4_1 := (HX4.out.cell 1).trans (show _ = some (.slice Bq q.length Dq) from rfl)
            have hfX4_1 := HX4.out.frozen 1
            refine take_ (i := 0) (N := some 29) (v := ?_) (a' := ?_) #[true, false, false, false, false, false, false, false, false, false, false, false] rfl rfl (take_ofW HT_.out HW_.out (by kernel_rfl)) (fun _ _ _ h => h) (Or.inl ⟨by rfl, ?_⟩) hHeld ?_ ?_
            rotate_left
            · rintro w' ⟨s0, s1, s2, s3, s4, s5⟩
              go_simp
              with_reducible rfl
            rotate_left
            · simp only [Act.put, List.setIfInBounds_toArray, List.set_cons_zero, List.set_cons_succ, i64_w, i32_w]
              rfl
            refine pure_ (i := 1) (N := some 30) (v := ?_) (a' := ?_) #[true, true, false, false, false, false, false, false, false, false, false, false] rfl rfl (any_of HT_.out (by kernel_rfl)) (fun _ _ _ h => h) (Or.inl ⟨by rfl, ?_⟩) ?_ ?_
            rotate_left
            · intro w'
              go_simp
              with_reducible rfl
            rotate_left
            · simp only [Act.put, List.setIfInBounds_toArray, List.set_cons_zero, List.set_cons_succ, i64_w, i32_w]
              rfl
            refine pure_ (i := 2) (N := some 31) (v := ?_) (a' := ?_) #[true, true, true, false, false, false, false, false, false, false, false, false] rfl rfl (any_of HT_.out (by kernel_rfl)) (fun _ _ _ h => h) (Or.inl ⟨by rfl, ?_⟩) ?_ ?_
            rotate_left
            · intro w'
              go_simp
              with_reducible rfl
            rotate_left
            · simp only [Act.put, List.setIfInBounds_toArray, List.set_cons_zero, List.set_cons_succ, i64_w, i32_w]
              rfl
            refine pure_ (i := 3) (N := some 32) (v := ?_) (a' := ?_) #[true, true, true, true, false, false, false, false, false, false, false, false] rfl rfl (any_of HT_.out (by kernel_rfl)) (fun _ _ _ h => h) (Or.inl ⟨by rfl, ?_⟩) ?_ ?_
            rotate_left
            · intro w'
              go_simp
              with_reducible rfl
            rotate_left
            · simp only [Act.put, List.setIfInBounds_toArray, List.set_cons_zero, List.set_cons_succ, i64_w, i32_w]
              rfl
            refine take_ (i := 4) (N := some 33) (v := ?_) (a' := ?_) #[true, true, true, true, true, false, false, false, false, false, false, false] rfl rfl (take_ofW HT_.out HW_.out (by kernel_rfl)) (fun _ _ _ h => h) (Or.inl ⟨by rfl, ?_⟩) hHeld ?_ ?_
            rotate_left
            · rintro w' ⟨s0, s1, s2, s3, s4, s5⟩
              go_simp
              with_reducible rfl
            rotate_left
            · simp only [Act.put, List.setIfInBounds_toArray, List.set_cons_zero, List.set_cons_succ, i64_w, i32_w]
              rfl
            refine two_ (i := 5) (j := 9) (Ni := some 34) (Nj := some 8) #[true, true, true, true, true, true, false, false, false, false, false, false] #[true, true, true, true, true, false, false, false, false, true, false, false] rfl rfl rfl rfl (two_of HT_.out (by kernel_rfl)) (by decide) (by decide) (fun K hK => ?_) (fun K hK => ?_)
            · refine goes_ Try.func75 (by kernel_rfl) rfl #[.agg #[.slice Bs s.length Ds, .slice Bq q.length Dq], .agg #[.int .i64 z.f0, .int .i64 z.f1, .int .i64 z.f2, .slice A3 z.f3.length c3]] (by rfl) rfl rfl (by (try simp only [List.map_toArray, List.map_cons, List.map_nil]); first | done | rfl) ?_
              (with_reducible refine (spec_l02Act.calls k1 Ps Pq _ _ s q z.f0 z.f1 z.f2 A3 c3 z.f3 t1 t2 t3 w _ Hs.out Hq.out D_s_q.out (Kd.C_below HIX.out HB.out) HLX.out E1.out).mono ?_)
              rintro e w2 ⟨v4, v5, Q4, Q5, rfl, h4, h5, rr4, rr5, d45, hb⟩
              refine ⟨_, rfl, ?_⟩
              have hk := kept_below hb
              have D_X1_4 := Aside0.mk (apart_app rr4 HX1.out.lt (apart_or D_X1_s.out D_X1_q.out))
              have D_X1_5 := Aside0.mk (apart_app rr5 HX1.out.lt (apart_or D_X1_s.out D_X1_q.out))
              have D_X4_4 := Aside0.mk (apart_app rr4 HX4.out.lt (apart_or D_X4_s.out D_X4_q.out))
              have D_X4_5 := Aside0.mk (apart_app rr5 HX4.out.lt (apart_or D_X4_s.out D_X4_q.out))
              have D_6_4 := Aside0.mk (apart_app rr4 H6.out.lt (apart_or D_6_s.out D_6_q.out))
              have D_6_5 := Aside0.mk (apart_app rr5 H6.out.lt (apart_or D_6_s.out D_6_q.out))
              have HN2 := Aside0.mk (show ∀ k_, Q4 k_ ∨ Q5 k_ → w.heap.size ≤ k_ from fun k_ h_ => (h_.elim (rr4 k_) (rr5 k_)).elim (HN.out k_) (fun z_ => Nat.le_trans HB.out.size z_))
              replace HX1 := Aside0.mk (HX1.out.step hk no_S)
              replace HX4 := Aside0.mk (HX4.out.step hk no_S)
              replace H6 := Aside0.mk (H6.out.step hk no_S)
              have H4 := Aside0.mk h4
              have H5 := Aside0.mk h5
              have D_4_5 := Aside0.mk d45
              replace HB := Aside0.mk (below_step HB.out hb)
              clear h4 h5 rr4 rr5 d45 hb hk Hs Hq
              obtain ⟨B4, D4, e_4⟩ := H4.out.val
              subst e_4
              obtain ⟨B5, D5, e_5⟩ := H5.out.val
              subst e_5
              (try clear hxX1_0 hfX1_0 hxX1_1 hfX1_1)
              have hxX1_0 := (HX1.out.cell 0).trans (show _ = some (.slice none 0 0) from rfl)
              have hfX1_0 := HX1.out.frozen 0
              have hxX1_1 := (HX1.out.cell 1).trans (show _ = some (.slice none 0 0) from rfl)
              have hfX1_1 := HX1.out.frozen 1
              (try clear hxX4_0 hfX4_0 hxX4_1 hfX4_1)
              have hxX4_0 := (HX4.out.cell 0).trans (show _ = some (.slice Bs s.length Ds) from rfl)
              have hfX4_0 := HX4.out.frozen 0
              have hxX4_1 := (HX4.out.cell 1).trans (show _ = some (.slice Bq q.length Dq) from rfl)
              have hfX4_1 := HX4.out.frozen 1
              refine hK.out _ _ ⟨hxX4_0, hxX4_1, ((HB.out.cell (World.block_lt_of_cell? w _ HE0.out)).trans HE0.out), ((HB.out.cell (World.block_lt_of_cell? w _ HE1.out)).trans HE1.out), ((HB.out.cell (World.block_lt_of_cell? w _ HE2.out)).trans HE2.out), ((HB.out.cell (World.block_lt_of_cell? w _ HE3.out)).trans HE3.out)⟩ (fun hHeld => ?_)
              clear hK K
              refine norm_ (a' := ?_) ?_ ?_
              rotate_left
              · show Act.put _ (some 34) _ = _
                simp only [Act.put, List.setIfInBounds_toArray, List.set_cons_zero, List.set_cons_succ, i64_w, i32_w]
                rfl
              refine pure_ (i := 6) (N := some 28) (v := ?_) (a' := ?_) #[true, true, true, true, true, true, true, false, false, false, false, false] rfl rfl (any_of HT_.out (by kernel_rfl)) (fun _ _ _ h => h) (Or.inl ⟨by rfl, ?_⟩) ?_ ?_
              rotate_left
              · intro w'
                go_simp
                with_reducible rfl
              rotate_left
              · simp only [Act.put, List.setIfInBounds_toArray, List.set_cons_zero, List.set_cons_succ, i64_w, i32_w]
                rfl
              refine pure_ (i := 7) (N := some 35) (v := ?_) (a' := ?_) #[true, true, true, true, true, true, true, true, false, false, false, false] rfl rfl (any_of HT_.out (by kernel_rfl)) (fun _ _ _ h => h) (Or.inl ⟨by rfl, ?_⟩) ?_ ?_
              rotate_left
              · intro w'
                go_simp
                with_reducible rfl
              rotate_left
              · simp only [Act.put, List.setIfInBounds_toArray, List.set_cons_zero, List.set_cons_succ, i64_w, i32_w]
                rfl
              refine pure_ (i := 8) (N := some 36) (v := ?_) (a' := ?_) #[true, true, true, true, true, true, true, true, true, false, false, false] rfl rfl (any_of HT_.out (by kernel_rfl)) (fun _ _ _ h => h) (Or.inl ⟨by rfl, ?_⟩) ?_ ?_
              rotate_left
              · intro w'
                go_simp
                with_reducible rfl
              rotate_left
              · simp only [Act.put, List.setIfInBounds_toArray, List.set_cons_zero, List.set_cons_succ, i64_w, i32_w]
                rfl
              refine one_ (i := 9) (N := some 8) #[true, true, true, true, true, true, true, true, true, true, false, false] rfl rfl (one_of HT_.out (by kernel_rfl)) (by decide) (fun K hK => ?_)
              refine box_step ?hg_9 (N := 8) ?hd_9 (cs := #[.slice none 0 0, .slice none 0 0]) (t := 29) ?hr_9 ?_
              (case hd_9 => rfl)
              (case hg_9 => exact (by rfl))
              (case hr_9 => first | (go_simp; done) | (go_simp; rfl))
              intro gX6 hg w2 hbox hb
              have hk := kept_below hb
              obtain ⟨PX6, hPX6, HLX6⟩ := LB.fresh hg hbox
              have HX6 := Aside0.mk HLX6
              clear HLX6
              have GEX6 := Aside0.mk (show w.heap.size ≤ gX6 from (by rw [hg]; exact HB.out.size))
              have D_X1_X6 := Aside0.mk (new_apart HX1.out.lt hPX6)
              have D_X4_X6 := Aside0.mk (new_apart HX4.out.lt hPX6)
              have D_6_X6 := Aside0.mk (new_apart H6.out.lt hPX6)
              have D_4_X6 := Aside0.mk (new_apart H4.out.lt hPX6)
              have D_5_X6 := Aside0.mk (new_apart H5.out.lt hPX6)
              replace HX1 := Aside0.mk (HX1.out.step hk no_S)
              replace HX4 := Aside0.mk (HX4.out.step hk no_S)
              replace H6 := Aside0.mk (H6.out.step hk no_S)
              replace H4 := Aside0.mk (H4.out.step hk no_S)
              replace H5 := Aside0.mk (H5.out.step hk no_S)
              replace HB := Aside0.mk (below_step HB.out hb)
              clear hb hk hbox hg hPX6
              (try clear hxX1_0 hfX1_0 hxX1_1 hfX1_1)
              have hxX1_0 := (HX1.out.cell 0).trans (show _ = some (.slice none 0 0) from rfl)
              have hfX1_0 := HX1.out.frozen 0
              have hxX1_1 := (HX1.out.cell 1).trans (show _ = some (.slice none 0 0) from rfl)
              have hfX1_1 := HX1.out.frozen 1
              (try clear hxX4_0 hfX4_0 hxX4_1 hfX4_1)
              have hxX4_0 := (HX4.out.cell 0).trans (show _ = some (.slice Bs s.length Ds) from rfl)
              have hfX4_0 := HX4.out.frozen 0
              have hxX4_1 := (HX4.out.cell 1).trans (show _ = some (.slice Bq q.length Dq) from rfl)
              have hfX4_1 := HX4.out.frozen 1
              (try clear hxX6_0 hfX6_0 hxX6_1 hfX6_1)
              have hxX6_0 := (HX6.out.cell 0).trans (show _ = some (.slice none 0 0) from rfl)
              have hfX6_0 := HX6.out.frozen 0
              have hxX6_1 := (HX6.out.cell 1).trans (show _ = some (.slice none 0 0) from rfl)
              have hfX6_1 := HX6.out.frozen 1
              refine hK.out _ _ ⟨hxX4_0, hxX4_1, ((HB.out.cell (World.block_lt_of_cell? w _ HE0.out)).trans HE0.out), ((HB.out.cell (World.block_lt_of_cell? w _ HE1.out)).trans HE1.out), ((HB.out.cell (World.block_lt_of_cell? w _ HE2.out)).trans HE2.out), ((HB.out.cell (World.block_lt_of_cell? w _ HE3.out)).trans HE3.out)⟩ (fun hHeld => ?_)
              clear hK K
              refine norm_ (a' := ?_) ?_ ?_
              rotate_left
              · show Act.put _ (some 8) _ = _
                simp only [Act.put, List.setIfInBounds_toArray, List.set_cons_zero, List.set_cons_succ, i64_w, i32_w]
                rfl
              refine one_ (i := 10) (N := none) #[true, true, true, true, true, true, true, true, true, true, true, false] rfl rfl (one_of HT_.out (by kernel_rfl)) (by decide) (fun K hK => ?_)
              refine LB.stored_step HX6.out HB.out GEX6.out 0 [.slice B4 t1.length D4, .slice B5 t2.length D5] (by rfl) rfl ?hr_10 ?_
              (case hr_10 => first | (go_simp; done) | (go_simp; rfl))
              intro w2 hx hk hb
              replace HX1 := Aside0.mk (HX1.out.step hk D_X1_X6.out)
              replace HX4 := Aside0.mk (HX4.out.step hk D_X4_X6.out)
              replace H6 := Aside0.mk (H6.out.step hk D_6_X6.out)
              replace H4 := Aside0.mk (H4.out.step hk D_4_X6.out)
              replace H5 := Aside0.mk (H5.out.step hk D_5_X6.out)
              replace HB := Aside0.mk hb
              replace HX6 := Aside0.mk (show LB w2 PX6 gX6 29 #[.slice B4 t1.length D4, .slice B5 t2.length D5] from hx)
              clear hk hx hb
              (try clear hxX1_0 hfX1_0 hxX1_1 hfX1_1)
              have hxX1_0 := (HX1.out.cell 0).trans (show _ = some (.slice none 0 0) from rfl)
              have hfX1_0 := HX1.out.frozen 0
              have hxX1_1 := (HX1.out.cell 1).trans (show _ = some (.slice none 0 0) from rfl)
              have hfX1_1 := HX1.out.frozen 1
              (try clear hxX4_0 hfX4_0 hxX4_1 hfX4_1)
              have hxX4_0 := (HX4.out.cell 0).trans (show _ = some (.slice Bs s.length Ds) from rfl)
              have hfX4_0 := HX4.out.frozen 0
              have hxX4_1 := (HX4.out.cell 1).trans (show _ = some (.slice Bq q.length Dq) from rfl)
              have hfX4_1 := HX4.out.frozen 1
              (try clear hxX6_0 hfX6_0 hxX6_1 hfX6_1)
              have hxX6_0 := (HX6.out.cell 0).trans (show _ = some (.slice B4 t1.length D4) from rfl)
              have hfX6_0 := HX6.out.frozen 0
              have hxX6_1 := (HX6.out.cell 1).trans (show _ = some (.slice B5 t2.length D5) from rfl)
              have hfX6_1 := HX6.out.frozen 1
              refine hK.out _ _ ⟨hxX4_0, hxX4_1, ((HB.out.cell (World.block_lt_of_cell? w _ HE0.out)).trans HE0.out), ((HB.out.cell (World.block_lt_of_cell? w _ HE1.out)).trans HE1.out), ((HB.out.cell (World.block_lt_of_cell? w _ HE2.out)).trans HE2.out), ((HB.out.cell (World.block_lt_of_cell? w _ HE3.out)).trans HE3.out)⟩ (fun hHeld => ?_)
              clear hK K
              refine pure_ (i := 11) (N := some 9) (v := ?_) (a' := ?_) #[true, true, true, true, true, true, true, true, true, true, true, true] rfl rfl (any_of HT_.out (by kernel_rfl)) (fun _ _ _ h => h) (Or.inl ⟨by rfl, ?_⟩) ?_ ?_
              rotate_left
              · intro w'
                go_simp
                with_reducible rfl
              rotate_left
              · simp only [Act.put, List.setIfInBounds_toArray, List.set_cons_zero, List.set_cons_succ, i64_w, i32_w]
                rfl
              refine done_ (done_of HT_.out (by kernel_rfl)) ?_
              go_wp2_with (first | ((with_reducible refine gate_store (t := 29) (p := 5) rfl ?_); refine LB.stored HX4.out HB.out GEX4.out 0 [.slice B4 t1.length D4, .slice B5 t2.length D5] rfl (t := 29) (p := 5) rfl rfl ?hr_11 ?_; (case hr_11 => first | (go_simp; done) | (go_simp; rfl)); intro w2 hx hk hb; replace HX1 := Aside0.mk (HX1.out.step hk D_X1_X4.out); replace H6 := Aside0.mk (H6.out.step hk (apart_symm D_X4_6.out)); replace H4 := Aside0.mk (H4.out.step hk (apart_symm D_X4_4.out)); replace H5 := Aside0.mk (H5.out.step hk (apart_symm D_X4_5.out)); replace HX6 := Aside0.mk (HX6.out.step hk (apart_symm D_X4_X6.out)); replace HB := Aside0.mk hb; replace HX4 := Aside0.mk (show LB w2 PX4 gX4 29 #[.slice B4 t1.length D4, .slice B5 t2.length D5] from hx); clear hk hx hb; (try clear hxX1_0 hfX1_0 hxX1_1 hfX1_1); have hxX1_0 := (HX1.out.cell 0).trans (show _ = some (.slice none 0 0) from rfl); have hfX1_0 := HX1.out.frozen 0; have hxX1_1 := (HX1.out.cell 1).trans (show _ = some (.slice none 0 0) from rfl); have hfX1_1 := HX1.out.frozen 1; (try clear hxX4_0 hfX4_0 hxX4_1 hfX4_1); have hxX4_0 := (HX4.out.cell 0).trans (show _ = some (.slice B4 t1.length D4) from rfl); have hfX4_0 := HX4.out.frozen 0; have hxX4_1 := (HX4.out.cell 1).trans (show _ = some (.slice B5 t2.length D5) from rfl); have hfX4_1 := HX4.out.frozen 1; (try clear hxX6_0 hfX6_0 hxX6_1 hfX6_1); have hxX6_0 := (HX6.out.cell 0).trans (show _ = some (.slice B4 t1.length D4) from rfl); have hfX6_0 := HX6.out.frozen 0; have hxX6_1 := (HX6.out.cell 1).trans (show _ = some (.slice B5 t2.length D5) from rfl); have hfX6_1 := HX6.out.frozen 1) | ((with_reducible refine gate_builtin (b := .append) (xs := #[.tmp 38, .tmp 40]) rfl ?_); at_builtin; refine LR.append1 (Kd.int .i64) (w0 := w) rfl (.tmp 38) (.tmp 40) 52 3 (.int .i64 0) 8 rfl Try.underlying52 info3 rfl (by decide) (by omega) (.slice B6 x6.length D6) x6 t3 [.int .i64 t3] rfl rfl (by simp) H6.out rfl (fun _ _ h_ => h_) HB.out ?aL_12 ?_; (case aL_12 => have := LM4.out; omega); intro PF7 v_ w2 HL hb hk hR; have D_X1_F7 := Aside0.mk (apart_app hR HX1.out.lt D_X1_6.out); have D_X4_F7 := Aside0.mk (apart_app hR HX4.out.lt D_X4_6.out); have D_4_F7 := Aside0.mk (apart_app hR H4.out.lt (apart_symm D_6_4.out)); have D_5_F7 := Aside0.mk (apart_app hR H5.out.lt (apart_symm D_6_5.out)); have D_X6_F7 := Aside0.mk (apart_app hR HX6.out.lt (apart_symm D_6_X6.out)); replace HX1 := Aside0.mk (HX1.out.step hk D_X1_6.out); replace HX4 := Aside0.mk (HX4.out.step hk D_X4_6.out); replace H4 := Aside0.mk (H4.out.step hk (apart_symm D_6_4.out)); replace H5 := Aside0.mk (H5.out.step hk (apart_symm D_6_5.out)); replace HX6 := Aside0.mk (HX6.out.step hk (apart_symm D_6_X6.out)); rw [← Ny3.out] at HL; have HF7 := Aside0.mk HL; replace HB := Aside0.mk hb; clear hR HL hb hk; clear H6; obtain ⟨BF7, DF7, e_F7⟩ := HF7.out.val; subst e_F7; (try clear hxX1_0 hfX1_0 hxX1_1 hfX1_1); have hxX1_0 := (HX1.out.cell 0).trans (show _ = some (.slice none 0 0) from rfl); have hfX1_0 := HX1.out.frozen 0; have hxX1_1 := (HX1.out.cell 1).trans (show _ = some (.slice none 0 0) from rfl); have hfX1_1 := HX1.out.frozen 1; (try clear hxX4_0 hfX4_0 hxX4_1 hfX4_1); have hxX4_0 := (HX4.out.cell 0).trans (show _ = some (.slice B4 t1.length D4) from rfl); have hfX4_0 := HX4.out.frozen 0; have hxX4_1 := (HX4.out.cell 1).trans (show _ = some (.slice B5 t2.length D5) from rfl); have hfX4_1 := HX4.out.frozen 1; (try clear hxX6_0 hfX6_0 hxX6_1 hfX6_1); have hxX6_0 := (HX6.out.cell 0).trans (show _ = some (.slice B4 t1.length D4) from rfl); have hfX6_0 := HX6.out.frozen 0; have hxX6_1 := (HX6.out.cell 1).trans (show _ = some (.slice B5 t2.length D5) from rfl); have hfX6_1 := HX6.out.frozen 1))
              go_roundg k1
              case measure => have := HK1.out; omega
              case rel => exact ⟨y3, wrap64 (i + 1), t1, t2, _, _, PF7, Q4, Q5, rfl, H', ⟨by have := HK1.out; omega⟩, HF7, HX4, HX1, H4, H5, ⟨D_X1_X4.out⟩, ⟨D_X4_F7.out⟩, ⟨D_X4_4.out⟩, ⟨D_X4_5.out⟩, ⟨D_X1_F7.out⟩, ⟨D_X1_4.out⟩, ⟨D_X1_5.out⟩, ⟨(apart_symm D_4_F7.out)⟩, ⟨(apart_symm D_5_F7.out)⟩, ⟨D_4_5.out⟩, HN2, HB⟩
            · refine box_step ?hg_13 (N := 8) ?hd_13 (cs := #[.slice none 0 0, .slice none 0 0]) (t := 29) ?hr_13 ?_
              (case hd_13 => rfl)
              (case hg_13 => exact (by rfl))
              (case hr_13 => first | (go_simp; done) | (go_simp; rfl))
              intro gX8 hg w2 hbox hb
              have hk := kept_below hb
              obtain ⟨PX8, hPX8, HLX8⟩ := LB.fresh hg hbox
              have HX8 := Aside0.mk HLX8
              clear HLX8
              have GEX8 := Aside0.mk (show w.heap.size ≤ gX8 from (by rw [hg]; exact HB.out.size))
              have D_X1_X8 := Aside0.mk (new_apart HX1.out.lt hPX8)
              have D_X4_X8 := Aside0.mk (new_apart HX4.out.lt hPX8)
              have D_6_X8 := Aside0.mk (new_apart H6.out.lt hPX8)
              have D_s_X8 := Aside0.mk (new_apart Hs.out.lt hPX8)
              have D_q_X8 := Aside0.mk (new_apart Hq.out.lt hPX8)
              replace HX1 := Aside0.mk (HX1.out.step hk no_S)
              replace HX4 := Aside0.mk (HX4.out.step hk no_S)
              replace H6 := Aside0.mk (H6.out.step hk no_S)
              replace Hs := Aside0.mk (Hs.out.step hk no_S)
              replace Hq := Aside0.mk (Hq.out.step hk no_S)
              replace HB := Aside0.mk (below_step HB.out hb)
              clear hb hk hbox hg hPX8
              (try clear hxX1_0 hfX1_0 hxX1_1 hfX1_1)
              have hxX1_0 := (HX1.out.cell 0).trans (show _ = some (.slice none 0 0) from rfl)
              have hfX1_0 := HX1.out.frozen 0
              have hxX1_1 := (HX1.out.cell 1).trans (show _ = some (.slice none 0 0) from rfl)
              have hfX1_1 := HX1.out.frozen 1
              (try clear hxX4_0 hfX4_0 hxX4_1 hfX4_1)
              have hxX4_0 := (HX4.out.cell 0).trans (show _ = some (.slice Bs s.length Ds) from rfl)
              have hfX4_0 := HX4.out.frozen 0
              have hxX4_1 := (HX4.out.cell 1).trans (show _ = some (.slice Bq q.length Dq) from rfl)
              have hfX4_1 := HX4.out.frozen 1
              (try clear hxX8_0 hfX8_0 hxX8_1 hfX8_1)
              have hxX8_0 := (HX8.out.cell 0).trans (show _ = some (.slice none 0 0) from rfl)
              have hfX8_0 := HX8.out.frozen 0
              have hxX8_1 := (HX8.out.cell 1).trans (show _ = some (.slice none 0 0) from rfl)
              have hfX8_1 := HX8.out.frozen 1
              refine hK.out _ _ ⟨hxX4_0, hxX4_1, ((HB.out.cell (World.block_lt_of_cell? w _ HE0.out)).trans HE0.out), ((HB.out.cell (World.block_lt_of_cell? w _ HE1.out)).trans HE1.out), ((HB.out.cell (World.block_lt_of_cell? w _ HE2.out)).trans HE2.out), ((HB.out.cell (World.block_lt_of_cell? w _ HE3.out)).trans HE3.out)⟩ (fun hHeld => ?_)
              clear hK K
              refine norm_ (a' := ?_) ?_ ?_
              rotate_left
              · show Act.put _ (some 8) _ = _
                simp only [Act.put, List.setIfInBounds_toArray, List.set_cons_zero, List.set_cons_succ, i64_w, i32_w]
                rfl
              refine one_ (i := 5) (N := some 34) #[true, true, true, true, true, true, false, false, false, true, false, false] rfl rfl (one_of HT_.out (by kernel_rfl)) (by decide) (fun K hK => ?_)
              refine goes_ Try.func75 (by kernel_rfl) rfl #[.agg #[.slice Bs s.length Ds, .slice Bq q.length Dq], .agg #[.int .i64 z.f0, .int .i64 z.f1, .int .i64 z.f2, .slice A3 z.f3.length c3]] (by rfl) rfl rfl (by (try simp only [List.map_toArray, List.map_cons, List.map_nil]); first | done | rfl) ?_
              (with_reducible refine (spec_l02Act.calls k1 Ps Pq _ _ s q z.f0 z.f1 z.f2 A3 c3 z.f3 t1 t2 t3 w _ Hs.out Hq.out D_s_q.out (Kd.C_below HIX.out HB.out) HLX.out E1.out).mono ?_)
              rintro e w2 ⟨v4, v5, Q4, Q5, rfl, h4, h5, rr4, rr5, d45, hb⟩
              refine ⟨_, rfl, ?_⟩
              have hk := kept_below hb
              have D_X1_4 := Aside0.mk (apart_app rr4 HX1.out.lt (apart_or D_X1_s.out D_X1_q.out))
              have D_X1_5 := Aside0.mk (apart_app rr5 HX1.out.lt (apart_or D_X1_s.out D_X1_q.out))
              have D_X4_4 := Aside0.mk (apart_app rr4 HX4.out.lt (apart_or D_X4_s.out D_X4_q.out))
              have D_X4_5 := Aside0.mk (apart_app rr5 HX4.out.lt (apart_or D_X4_s.out D_X4_q.out))
              have D_6_4 := Aside0.mk (apart_app rr4 H6.out.lt (apart_or D_6_s.out D_6_q.out))
              have D_6_5 := Aside0.mk (apart_app rr5 H6.out.lt (apart_or D_6_s.out D_6_q.out))
              have D_X8_4 := Aside0.mk (apart_app rr4 HX8.out.lt (apart_or (apart_symm D_s_X8.out) (apart_symm D_q_X8.out)))
              have D_X8_5 := Aside0.mk (apart_app rr5 HX8.out.lt (apart_or (apart_symm D_s_X8.out) (apart_symm D_q_X8.out)))
              have HN2 := Aside0.mk (show ∀ k_, Q4 k_ ∨ Q5 k_ → w.heap.size ≤ k_ from fun k_ h_ => (h_.elim (rr4 k_) (rr5 k_)).elim (HN.out k_) (fun z_ => Nat.le_trans HB.out.size z_))
              replace HX1 := Aside0.mk (HX1.out.step hk no_S)
              replace HX4 := Aside0.mk (HX4.out.step hk no_S)
              replace H6 := Aside0.mk (H6.out.step hk no_S)
              replace HX8 := Aside0.mk (HX8.out.step hk no_S)
              have H4 := Aside0.mk h4
              have H5 := Aside0.mk h5
              have D_4_5 := Aside0.mk d45
              replace HB := Aside0.mk (below_step HB.out hb)
              clear h4 h5 rr4 rr5 d45 hb hk Hs Hq
              obtain ⟨B4, D4, e_4⟩ := H4.out.val
              subst e_4
              obtain ⟨B5, D5, e_5⟩ := H5.out.val
              subst e_5
              (try clear hxX1_0 hfX1_0 hxX1_1 hfX1_1)
              have hxX1_0 := (HX1.out.cell 0).trans (show _ = some (.slice none 0 0) from rfl)
              have hfX1_0 := HX1.out.frozen 0
              have hxX1_1 := (HX1.out.cell 1).trans (show _ = some (.slice none 0 0) from rfl)
              have hfX1_1 := HX1.out.frozen 1
              (try clear hxX4_0 hfX4_0 hxX4_1 hfX4_1)
              have hxX4_0 := (HX4.out.cell 0).trans (show _ = some (.slice Bs s.length Ds) from rfl)
              have hfX4_0 := HX4.out.frozen 0
              have hxX4_1 := (HX4.out.cell 1).trans (show _ = some (.slice Bq q.length Dq) from rfl)
              have hfX4_1 := HX4.out.frozen 1
              (try clear hxX8_0 hfX8_0 hxX8_1 hfX8_1)
              have hxX8_0 := (HX8.out.cell 0).trans (show _ = some (.slice none 0 0) from rfl)
              have hfX8_0 := HX8.out.frozen 0
              have hxX8_1 := (HX8.out.cell 1).trans (show _ = some (.slice none 0 0) from rfl)
              have hfX8_1 := HX8.out.frozen 1
              refine hK.out _ _ ⟨hxX4_0, hxX4_1, ((HB.out.cell (World.block_lt_of_cell? w _ HE0.out)).trans HE0.out), ((HB.out.cell (World.block_lt_of_cell? w _ HE1.out)).trans HE1.out), ((HB.out.cell (World.block_lt_of_cell? w _ HE2.out)).trans HE2.out), ((HB.out.cell (World.block_lt_of_cell? w _ HE3.out)).trans HE3.out)⟩ (fun hHeld => ?_)
              clear hK K
              refine norm_ (a' := ?_) ?_ ?_
              rotate_left
              · show Act.put _ (some 34) _ = _
                simp only [Act.put, List.setIfInBounds_toArray, List.set_cons_zero, List.set_cons_succ, i64_w, i32_w]
                rfl
              refine pure_ (i := 6) (N := some 28) (v := ?_) (a' := ?_) #[true, true, true, true, true, true, true, false, false, true, false, false] rfl rfl (any_of HT_.out (by kernel_rfl)) (fun _ _ _ h => h) (Or.inl ⟨by rfl, ?_⟩) ?_ ?_
              rotate_left
              · intro w'
                go_simp
                with_reducible rfl
              rotate_left
              · simp only [Act.put, List.setIfInBounds_toArray, List.set_cons_zero, List.set_cons_succ, i64_w, i32_w]
                rfl
              refine pure_ (i := 7) (N := some 35) (v := ?_) (a' := ?_) #[true, true, true, true, true, true, true, true, false, true, false, false] rfl rfl (any_of HT_.out (by kernel_rfl)) (fun _ _ _ h => h) (Or.inl ⟨by rfl, ?_⟩) ?_ ?_
              rotate_left
              · intro w'
                go_simp
                with_reducible rfl
              rotate_left
              · simp only [Act.put, List.setIfInBounds_toArray, List.set_cons_zero, List.set_cons_succ, i64_w, i32_w]
                rfl
              refine pure_ (i := 8) (N := some 36) (v := ?_) (a' := ?_) #[true, true, true, true, true, true, true, true, true, true, false, false] rfl rfl (any_of HT_.out (by kernel_rfl)) (fun _ _ _ h => h) (Or.inl ⟨by rfl, ?_⟩) ?_ ?_
              rotate_left
              · intro w'
                go_simp
                with_reducible rfl
              rotate_left
              · simp only [Act.put, List.setIfInBounds_toArray, List.set_cons_zero, List.set_cons_succ, i64_w, i32_w]
                rfl
              refine one_ (i := 10) (N := none) #[true, true, true, true, true, true, true, true, true, true, true, false] rfl rfl (one_of HT_.out (by kernel_rfl)) (by decide) (fun K hK => ?_)
              refine LB.stored_step HX8.out HB.out GEX8.out 0 [.slice B4 t1.length D4, .slice B5 t2.length D5] (by rfl) rfl ?hr_14 ?_
              (case hr_14 => first | (go_simp; done) | (go_simp; rfl))
              intro w2 hx hk hb
              replace HX1 := Aside0.mk (HX1.out.step hk D_X1_X8.out)
              replace HX4 := Aside0.mk (HX4.out.step hk D_X4_X8.out)
              replace H6 := Aside0.mk (H6.out.step hk D_6_X8.out)
              replace H4 := Aside0.mk (H4.out.step hk (apart_symm D_X8_4.out))
              replace H5 := Aside0.mk (H5.out.step hk (apart_symm D_X8_5.out))
              replace HB := Aside0.mk hb
              replace HX8 := Aside0.mk (show LB w2 PX8 gX8 29 #[.slice B4 t1.length D4, .slice B5 t2.length D5] from hx)
              clear hk hx hb
              (try clear hxX1_0 hfX1_0 hxX1_1 hfX1_1)
              have hxX1_0 := (HX1.out.cell 0).trans (show _ = some (.slice none 0 0) from rfl)
              have hfX1_0 := HX1.out.frozen 0
              have hxX1_1 := (HX1.out.cell 1).trans (show _ = some (.slice none 0 0) from rfl)
              have hfX1_1 := HX1.out.frozen 1
              (try clear hxX4_0 hfX4_0 hxX4_1 hfX4_1)
              have hxX4_0 := (HX4.out.cell 0).trans (show _ = some (.slice Bs s.length Ds) from rfl)
              have hfX4_0 := HX4.out.frozen 0
              have hxX4_1 := (HX4.out.cell 1).trans (show _ = some (.slice Bq q.length Dq) from rfl)
              have hfX4_1 := HX4.out.frozen 1
              (try clear hxX8_0 hfX8_0 hxX8_1 hfX8_1)
              have hxX8_0 := (HX8.out.cell 0).trans (show _ = some (.slice B4 t1.length D4) from rfl)
              have hfX8_0 := HX8.out.frozen 0
              have hxX8_1 := (HX8.out.cell 1).trans (show _ = some (.slice B5 t2.length D5) from rfl)
              have hfX8_1 := HX8.out.frozen 1
              refine hK.out _ _ ⟨hxX4_0, hxX4_1, ((HB.out.cell (World.block_lt_of_cell? w _ HE0.out)).trans HE0.out), ((HB.out.cell (World.block_lt_of_cell? w _ HE1.out)).trans HE1.out), ((HB.out.cell (World.block_lt_of_cell? w _ HE2.out)).trans HE2.out), ((HB.out.cell (World.block_lt_of_cell? w _ HE3.out)).trans HE3.out)⟩ (fun hHeld => ?_)
              clear hK K
              refine pure_ (i := 11) (N := some 9) (v := ?_) (a' := ?_) #[true, true, true, true, true, true, true, true, true, true, true, true] rfl rfl (any_of HT_.out (by kernel_rfl)) (fun _ _ _ h => h) (Or.inl ⟨by rfl, ?_⟩) ?_ ?_
              rotate_left
              · intro w'
                go_simp
                with_reducible rfl
              rotate_left
              · simp only [Act.put, List.setIfInBounds_toArray, List.set_cons_zero, List.set_cons_succ, i64_w, i32_w]
                rfl
              refine done_ (done_of HT_.out (by kernel_rfl)) ?_
              go_wp2_with (first | ((with_reducible refine gate_store (t := 29) (p := 5) rfl ?_); refine LB.stored HX4.out HB.out GEX4.out 0 [.slice B4 t1.length D4, .slice B5 t2.length D5] rfl (t := 29) (p := 5) rfl rfl ?hr_15 ?_; (case hr_15 => first | (go_simp; done) | (go_simp; rfl)); intro w2 hx hk hb; replace HX1 := Aside0.mk (HX1.out.step hk D_X1_X4.out); replace H6 := Aside0.mk (H6.out.step hk (apart_symm D_X4_6.out)); replace HX8 := Aside0.mk (HX8.out.step hk (apart_symm D_X4_X8.out)); replace H4 := Aside0.mk (H4.out.step hk (apart_symm D_X4_4.out)); replace H5 := Aside0.mk (H5.out.step hk (apart_symm D_X4_5.out)); replace HB := Aside0.mk hb; replace HX4 := Aside0.mk (show LB w2 PX4 gX4 29 #[.slice B4 t1.length D4, .slice B5 t2.length D5] from hx); clear hk hx hb; (try clear hxX1_0 hfX1_0 hxX1_1 hfX1_1); have hxX1_0 := (HX1.out.cell 0).trans (show _ = some (.slice none 0 0) from rfl); have hfX1_0 := HX1.out.frozen 0; have hxX1_1 := (HX1.out.cell 1).trans (show _ = some (.slice none 0 0) from rfl); have hfX1_1 := HX1.out.frozen 1; (try clear hxX4_0 hfX4_0 hxX4_1 hfX4_1); have hxX4_0 := (HX4.out.cell 0).trans (show _ = some (.slice B4 t1.length D4) from rfl); have hfX4_0 := HX4.out.frozen 0; have hxX4_1 := (HX4.out.cell 1).trans (show _ = some (.slice B5 t2.length D5) from rfl); have hfX4_1 := HX4.out.frozen 1; (try clear hxX8_0 hfX8_0 hxX8_1 hfX8_1); have hxX8_0 := (HX8.out.cell 0).trans (show _ = some (.slice B4 t1.length D4) from rfl); have hfX8_0 := HX8.out.frozen 0; have hxX8_1 := (HX8.out.cell 1).trans (show _ = some (.slice B5 t2.length D5) from rfl); have hfX8_1 := HX8.out.frozen 1) | ((with_reducible refine gate_builtin (b := .append) (xs := #[.tmp 38, .tmp 40]) rfl ?_); at_builtin; refine LR.append1 (Kd.int .i64) (w0 := w) rfl (.tmp 38) (.tmp 40) 52 3 (.int .i64 0) 8 rfl Try.underlying52 info3 rfl (by decide) (by omega) (.slice B6 x6.length D6) x6 t3 [.int .i64 t3] rfl rfl (by simp) H6.out rfl (fun _ _ h_ => h_) HB.out ?aL_16 ?_; (case aL_16 => have := LM4.out; omega); intro PF9 v_ w2 HL hb hk hR; have D_X1_F9 := Aside0.mk (apart_app hR HX1.out.lt D_X1_6.out); have D_X4_F9 := Aside0.mk (apart_app hR HX4.out.lt D_X4_6.out); have D_X8_F9 := Aside0.mk (apart_app hR HX8.out.lt (apart_symm D_6_X8.out)); have D_4_F9 := Aside0.mk (apart_app hR H4.out.lt (apart_symm D_6_4.out)); have D_5_F9 := Aside0.mk (apart_app hR H5.out.lt (apart_symm D_6_5.out)); replace HX1 := Aside0.mk (HX1.out.step hk D_X1_6.out); replace HX4 := Aside0.mk (HX4.out.step hk D_X4_6.out); replace HX8 := Aside0.mk (HX8.out.step hk (apart_symm D_6_X8.out)); replace H4 := Aside0.mk (H4.out.step hk (apart_symm D_6_4.out)); replace H5 := Aside0.mk (H5.out.step hk (apart_symm D_6_5.out)); rw [← Ny3.out] at HL; have HF9 := Aside0.mk HL; replace HB := Aside0.mk hb; clear hR HL hb hk; clear H6; obtain ⟨BF9, DF9, e_F9⟩ := HF9.out.val; subst e_F9; (try clear hxX1_0 hfX1_0 hxX1_1 hfX1_1); have hxX1_0 := (HX1.out.cell 0).trans (show _ = some (.slice none 0 0) from rfl); have hfX1_0 := HX1.out.frozen 0; have hxX1_1 := (HX1.out.cell 1).trans (show _ = some (.slice none 0 0) from rfl); have hfX1_1 := HX1.out.frozen 1; (try clear hxX4_0 hfX4_0 hxX4_1 hfX4_1); have hxX4_0 := (HX4.out.cell 0).trans (show _ = some (.slice B4 t1.length D4) from rfl); have hfX4_0 := HX4.out.frozen 0; have hxX4_1 := (HX4.out.cell 1).trans (show _ = some (.slice B5 t2.length D5) from rfl); have hfX4_1 := HX4.out.frozen 1; (try clear hxX8_0 hfX8_0 hxX8_1 hfX8_1); have hxX8_0 := (HX8.out.cell 0).trans (show _ = some (.slice B4 t1.length D4) from rfl); have hfX8_0 := HX8.out.frozen 0; have hxX8_1 := (HX8.out.cell 1).trans (show _ = some (.slice B5 t2.length D5) from rfl); have hfX8_1 := HX8.out.frozen 1))
              go_roundg k1
              case measure => have := HK1.out; omega
              case rel => exact ⟨y3, wrap64 (i + 1), t1, t2, _, _, PF9, Q4, Q5, rfl, H', ⟨by have := HK1.out; omega⟩, HF9, HX4, HX1, H4, H5, ⟨D_X1_X4.out⟩, ⟨D_X4_F9.out⟩, ⟨D_X4_4.out⟩, ⟨D_X4_5.out⟩, ⟨D_X1_F9.out⟩, ⟨D_X1_4.out⟩, ⟨D_X1_5.out⟩, ⟨(apart_symm D_4_F9.out)⟩, ⟨(apart_symm D_5_F9.out)⟩, ⟨D_4_5.out⟩, HN2, HB⟩
          · rw [if_neg c4] at H
            exact absurd H (by simp)
        · rw [if_neg c2] at H
          exact absurd H (by simp)
      · rw [if_neg c1] at H
        have cb1 : decide (i < (l0.length : Int)) = false := decide_eq_false c1
        clear c1
        simp only [Option.some.injEq, Prod.mk.injEq] at H
        obtain ⟨rfl, rfl, rfl, rfl⟩ := H
        go_upto_region 13 with (fail)
        refine start_ (n := 5) (S := fun w' => w'.cell? ⟨gX4, 0, none⟩ = some (.slice Bs s.length Ds) ∧ w'.cell? ⟨gX4, 1, none⟩ = some (.slice Bq q.length Dq)) (ds := []) #[false, false, false, false, false] (by kernel_rfl) rfl rfl ⟨hxX4_0, hxX4_1⟩ (fun hHeld => ?_)
        refine with_tabW spec_DiskRun.tab13 spec_DiskRun.bits13 (fun HT_ HW_ => ?_)
        generalize hwd_ : World.drew wr = wd_ at hHeld ⊢
        have hk := kept_drew hwd_
        replace HX1 := Aside0.mk (HX1.out.step hk no_S)
        replace HX4 := Aside0.mk (HX4.out.step hk no_S)
        replace H6 := Aside0.mk (H6.out.step hk no_S)
        replace Hs := Aside0.mk (Hs.out.step hk no_S)
        replace Hq := Aside0.mk (Hq.out.step hk no_S)
        replace HB := Aside0.mk (below_drewd HB.out hwd_)
        clear hk hwd_
        (try clear hxX1_0 hfX1_0 hxX1_1 hfX1_1)
        have hxX1_0 := (HX1.out.cell 0).trans (show _ = some (.slice none 0 0) from rfl)
        have hfX1_0 := HX1.out.frozen 0
        have hxX1_1 := (HX1.out.cell 1).trans (show _ = some (.slice none 0 0) from rfl)
        have hfX1_1 := HX1.out.frozen 1
        (try clear hxX4_0 hfX4_0 hxX4_1 hfX4_1)
        have hxX4_0 := (HX4.out.cell 0).trans (show _ = some (.slice Bs s.length Ds) from rfl)
        have hfX4_0 := HX4.out.frozen 0
        have hxX4_1 := (HX4.out.cell 1).trans (show _ = some (.slice Bq q.length Dq) from rfl)
        have hfX4_1 := HX4.out.frozen 1
        refine pure_ (i := 0) (N := some 42) (v := ?_) (a' := ?_) #[true, false, false, false, false] rfl rfl (any_of HT_.out (by kernel_rfl)) (fun _ _ _ h => h) (Or.inl ⟨by rfl, ?_⟩) ?_ ?_
        rotate_left
        · intro w'
          go_simp
          with_reducible rfl
        rotate_left
        · simp only [Act.put, List.setIfInBounds_toArray, List.set_cons_zero, List.set_cons_succ, i64_w, i32_w]
          rfl
        refine take_ (i := 1) (N := some 43) (v := ?_) (a' := ?_) #[true, true, false, false, false] rfl rfl (take_ofW HT_.out HW_.out (by kernel_rfl)) (fun _ _ _ h => h) (Or.inl ⟨by rfl, ?_⟩) hHeld ?_ ?_
        rotate_left
        · rintro w' ⟨s0, s1⟩
          go_simp
          with_reducible rfl
        rotate_left
        · simp only [Act.put, List.setIfInBounds_toArray, List.set_cons_zero, List.set_cons_succ, i64_w, i32_w]
          rfl
        refine pure_ (i := 2) (N := some 2) (v := ?_) (a' := ?_) #[true, true, true, false, false] rfl rfl (any_of HT_.out (by kernel_rfl)) (fun _ _ _ h => h) (Or.inl ⟨by rfl, ?_⟩) ?_ ?_
        rotate_left
        · intro w'
          go_simp
          with_reducible rfl
        rotate_left
        · simp only [Act.put, List.setIfInBounds_toArray, List.set_cons_zero, List.set_cons_succ, i64_w, i32_w]
          rfl
        refine one_ (i := 3) (N := none) #[true, true, true, true, false] rfl rfl (one_of HT_.out (by kernel_rfl)) (by decide) (fun K hK => ?_)
        refine LB.stored_step HX1.out HB.out GEX1.out 0 [.slice Bs s.length Ds, .slice Bq q.length Dq] (by rfl) rfl ?hr_17 ?_
        (case hr_17 => first | (go_simp; done) | (go_simp; rfl))
        intro w2 hx hk hb
        replace HX4 := Aside0.mk (HX4.out.step hk (apart_symm D_X1_X4.out))
        replace H6 := Aside0.mk (H6.out.step hk (apart_symm D_X1_6.out))
        replace Hs := Aside0.mk (Hs.out.step hk (apart_symm D_X1_s.out))
        replace Hq := Aside0.mk (Hq.out.step hk (apart_symm D_X1_q.out))
        replace HB := Aside0.mk hb
        replace HX1 := Aside0.mk (show LB w2 PX1 gX1 29 #[.slice Bs s.length Ds, .slice Bq q.length Dq] from hx)
        clear hk hx hb
        (try clear hxX1_0 hfX1_0 hxX1_1 hfX1_1)
        have hxX1_0 := (HX1.out.cell 0).trans (show _ = some (.slice Bs s.length Ds) from rfl)
        have hfX1_0 := HX1.out.frozen 0
        have hxX1_1 := (HX1.out.cell 1).trans (show _ = some (.slice Bq q.length Dq) from rfl)
        have hfX1_1 := HX1.out.frozen 1
        (try clear hxX4_0 hfX4_0 hxX4_1 hfX4_1)
        have hxX4_0 := (HX4.out.cell 0).trans (show _ = some (.slice Bs s.length Ds) from rfl)
        have hfX4_0 := HX4.out.frozen 0
        have hxX4_1 := (HX4.out.cell 1).trans (show _ = some (.slice Bq q.length Dq) from rfl)
        have hfX4_1 := HX4.out.frozen 1
        refine hK.out _ _ ⟨hxX4_0, hxX4_1⟩ (fun hHeld => ?_)
        clear hK K
        refine pure_ (i := 4) (N := some 4) (v := ?_) (a' := ?_) #[true, true, true, true, true] rfl rfl (any_of HT_.out (by kernel_rfl)) (fun _ _ _ h => h) (Or.inl ⟨by rfl, ?_⟩) ?_ ?_
        rotate_left
        · intro w'
          go_simp
          with_reducible rfl
        rotate_left
        · simp only [Act.put, List.setIfInBounds_toArray, List.set_cons_zero, List.set_cons_succ, i64_w, i32_w]
          rfl
        refine done_ (done_of HT_.out (by kernel_rfl)) ?_
        go_wp2
        refine bodyPost_ret (results_list (rs := [.tmp 2, .cell 3 29, .tmp 4]) rfl (by simp) (.tmp (.cell gX1 29 #[.slice Bs s.length Ds, .slice Bq q.length Dq] (0, 0) _ rfl HX1.out.2.1 Try.underlying29 rfl (by kernel_rfl) (.tmp .nil)))) rfl ?_
        exact ⟨_, _, _, rfl, LR.out H6.out, Kd.V_mono Hs.out.1 (fun k_ h_ => HN.out k_ (.inl h_)), Kd.V_mono Hq.out.1 (fun k_ h_ => HN.out k_ (.inr h_)), HB.out⟩
end Go.Proofs.Ytfclobfoghbblaa.PFnDisk
