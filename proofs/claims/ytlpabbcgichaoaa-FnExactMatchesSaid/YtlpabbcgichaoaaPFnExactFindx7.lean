-- written by a program of this session (a copy of the print, widened: wip/patchprint.py)
import Derived.Test.YtlpabbcgichaoaaPFnExactFindx0
namespace Go.Proofs.Ytlpabbcgichaoaa.PFnExactFind
open Go.RowKit Go.Proofs.YtlpabbcgichaoaaW.PrintWords Go.Proofs.YtlpabbcgichaoaaW.PrintLast Go.Proofs.YtlpabbcgichaoaaW.PrintMore
attribute [local go_sem] max2_int min2_int max_two min_two max_three min_three max_four min_four   -- for this text's walks alone
set_option linter.unusedVariables false
set_option linter.unusedSimpArgs false

def laws_eqRxS.T6 : Bool × List (List Nat × List Nat) := (true, [([], []), ([], []), ([0, 1], [0, 1]), ([2], [2]), ([], []), ([], []), ([4, 5], [4, 5]), ([6], [6]), ([3, 7], [3, 7]), ([8], [8])])
def laws_eqRxS.B6 : List Nat := [0, 0, 3, 7, 0, 0, 48, 112, 255, 511]
theorem laws_eqRxS.tab6 : rtab .any (opsOf Try.f32 6) = laws_eqRxS.T6 := by kernel_rfl
theorem laws_eqRxS.bits6 : waitsOk laws_eqRxS.T6.2 laws_eqRxS.B6 = true := by kernel_rfl
mutual
def laws_eqRx.g : S31 → S31 → Bool
 | ⟨a0, a1, a2, a3, a4⟩, ⟨b0, b1, b2, b3, b4⟩ => (a0 == b0) && ((a1 == b1) && ((a2 == b2) && ((a3.toList == b3.toList) && (decide (a4.length = b4.length) && laws_eqRx.go a4 b4))))
def laws_eqRx.go : List S31 → List S31 → Bool
 | [], _ => true
 | _ :: _, [] => false
 | x :: l, y :: m => laws_eqRx.g x y && laws_eqRx.go l m
end
def laws_eqRxS.g (l m : List S31) : Bool := decide (l.length = m.length) && laws_eqRx.go l m
theorem eq_at (l : List S31) (i : Nat) (hi : i < l.length) {n : Nat} (hn : SizeOf.sizeOf l ≤ n + 1) : SizeOf.sizeOf (rd_T31 l (i : Int)) ≤ n := by
 have hr : rd_T31 l (i : Int) = l[i] := by
  unfold rd_T31
  simp [List.getD_eq_getElem?_getD, List.getElem?_eq_getElem hi]
 rw [hr]
 have := List.sizeOf_lt_of_mem (List.getElem_mem hi)
 omega
theorem laws_eqRx.go_step (l m : List S31) (i : Nat) (h : i < l.length) (h2 : i < m.length) : laws_eqRx.go (l.drop i) (m.drop i) = (laws_eqRx.g (rd_T31 l (i : Int)) (rd_T31 m (i : Int)) && laws_eqRx.go (l.drop (i + 1)) (m.drop (i + 1))) := by
 rw [List.drop_eq_getElem_cons h, List.drop_eq_getElem_cons h2, laws_eqRx.go]
 have e1 : rd_T31 l (i : Int) = l[i] := by
  unfold rd_T31
  simp [List.getD_eq_getElem?_getD, List.getElem?_eq_getElem h]
 have e2 : rd_T31 m (i : Int) = m[i] := by
  unfold rd_T31
  simp [List.getD_eq_getElem?_getD, List.getElem?_eq_getElem h2]
 rw [e1, e2]
set_option maxHeartbeats 8000000 in
set_option maxRecDepth 100000 in
theorem laws_eqRxS.step (n : Nat) (ih : ∀ x y : S31, SizeOf.sizeOf x ≤ n → ∀ (A4 : Option Addr) (c4 : Nat) (B4 : Option Addr) (d4 : Nat) (w : World), k31.C w A4 x.f4.length x.f4 → x.f4.length ≤ c4 → k31.C w B4 y.f4.length y.f4 → y.f4.length ≤ d4 → Calls Try.prog 11 #[.agg #[.int .i64 x.f0, .int .i64 x.f1, .int .i64 x.f2, .string x.f3, .slice A4 x.f4.length c4], .agg #[.int .i64 y.f0, .int .i64 y.f1, .int .i64 y.f2, .string y.f3, .slice B4 y.f4.length d4]] w fun e w' => e = .returned (.bool (laws_eqRx.g x y)) ∧ Below w.heap.size w w')
  (l m : List S31) (hn : SizeOf.sizeOf l ≤ n + 1) (A0 : Option Addr) (c0 : Nat) (B0 : Option Addr) (d0 : Nat) (w : World) (hr : k31.C w A0 l.length l) (hc : l.length ≤ c0) (hr2 : k31.C w B0 m.length m) (hc2 : m.length ≤ d0) :
  Calls Try.prog 32 #[.slice A0 l.length c0, .slice B0 m.length d0] w fun e w' => e = .returned (.bool (laws_eqRxS.g l m)) ∧ Below w.heap.size w w' := by
 have HB := Aside0.mk (Below.refl w.heap.size w)
 have HR := Aside0.mk hr
 have HR2 := Aside0.mk hr2
 have HL := Aside0.mk hr.2.1
 have IH := Aside0.mk ih
 have HN := Aside0.mk hn
 clear hr ih hn hc hr2 hc2
 by_cases c : l.length = m.length
 ·
  have HE0 := Aside0.mk (show laws_eqRxS.g l m = laws_eqRx.go l m by unfold laws_eqRxS.g; rw [decide_eq_true c, Bool.true_and])
  have c1 : ((l.length : Int) == (m.length : Int)) = true := beq_iff_eq.mpr (by omega)
  have c2 : ((l.length : Int) != (m.length : Int)) = false := bne_eq_false_iff_eq.mpr (by omega)
  have c3 : (l.length == m.length) = true := beq_iff_eq.mpr c
  have c4 : (l.length != m.length) = false := bne_eq_false_iff_eq.mpr c
  have LE := Aside0.mk c
  clear c
  go_enter Try.func32, Try.ntmps32
  go_wp2
  go_loopg [5] (l.length + 1) (fun kq v5 w' => ∃ i : Nat, v5 = .int .i64 (i : Int) ∧ Aside0 (i + kq = l.length + 1) ∧ Aside0 (laws_eqRxS.g l m = laws_eqRx.go (l.drop i) (m.drop i)) ∧ Aside0 (Below w.heap.size w w'))
  case atStart => exact ⟨0, rfl, ⟨by omega⟩, HE0, HB⟩
  case round =>
   clear HB HE0 c1 c2 c3 c4
   obtain ⟨i, rfl, HK, HI, HB⟩ := hrel
   have FIN := Aside0.mk (show l.length ≤ i → laws_eqRxS.g l m = true from fun h => by rw [HI.out, List.drop_eq_nil_of_le h, laws_eqRx.go])
   cases gk with
   | zero =>
    have hlt : decide ((i : Int) < (l.length : Int)) = false := decide_eq_false (by have := HK.out; omega)
    have hltn : decide (i < l.length) = false := decide_eq_false (by have := HK.out; omega)
    have HE := Aside0.mk (FIN.out (by have := HK.out; omega))
    go_wp2
    go_ret
    exact ⟨by rw [HE.out]; rfl, HB.out⟩
   | succ k1 =>
    rcases Nat.lt_or_ge i l.length with hi | hi
    ·
     have hi2 : i < m.length := by have := LE.out; omega
     have hlt : decide ((i : Int) < (l.length : Int)) = true := decide_eq_true (by omega)
     have hltn : decide (i < l.length) = true := decide_eq_true (by omega)
     have hw : wrap64 ((i : Int) + 1) = ((i + 1 : Nat) : Int) := by have := HL.out; unfold wrap64; omega
     have hww : IntKind.i64.wrap ((i : Int) + 1) = ((i + 1 : Nat) : Int) := (i64_w _).trans hw
     have HS := Aside0.mk (laws_eqRx.go_step l m i hi hi2)
     have SZ := Aside0.mk (eq_at l i hi HN.out)
     obtain ⟨ad, A4, c4, ea, ha0, ha1, ha2, ha3, ha4, hl4, hC4⟩ := at_T31 HR.out (i : Int) (by omega) (by omega)
     cases ea
     obtain ⟨bd, B4, d4, eb, hb0, hb1, hb2, hb3, hb4, hm4, hD4⟩ := at_T31 HR2.out (i : Int) (by omega) (by omega)
     cases eb
     simp only [Int.toNat_natCast] at ha0 ha1 ha2 ha3 ha4 hb0 hb1 hb2 hb3 hb4
     have HX := Aside0.mk hC4
     have HL4 := Aside0.mk hl4
     have HY := Aside0.mk hD4
     have HM4 := Aside0.mk hm4
     clear hC4 hl4 hD4 hm4
     have p1 := eq_true (show (0 : Int) ≤ (i : Int) by omega)
     have q1 := eq_true (show (i : Int) < (l.length : Int) by omega)
     have q2 := eq_true (show (i : Int) < (m.length : Int) by omega)
     obtain ⟨z, hz⟩ : ∃ z_, z_ = laws_eqRx.g (rd_T31 l (i : Int)) (rd_T31 m (i : Int)) := ⟨_, rfl⟩
     have EV := Aside0.mk hz.symm
     rw [← hz] at HS
     clear hz
     have n0_ := Aside0.mk (below_drew1 HB.out)
     try go_wp2
     replace HB := n0_
     clear n0_
     refine start_ (n := 10) (S := fun w' => w'.cell? (ad.add (i * 5)) = some (.int .i64 (rd_T31 l (i : Int)).f0) ∧ w'.cell? ⟨(ad.add (i * 5)).block, (ad.add (i * 5)).off + 1, none⟩ = some (.int .i64 (rd_T31 l (i : Int)).f1) ∧ w'.cell? ⟨(ad.add (i * 5)).block, (ad.add (i * 5)).off + 2, none⟩ = some (.int .i64 (rd_T31 l (i : Int)).f2) ∧ w'.cell? ⟨(ad.add (i * 5)).block, (ad.add (i * 5)).off + 3, none⟩ = some (.string (rd_T31 l (i : Int)).f3) ∧ w'.cell? ⟨(ad.add (i * 5)).block, (ad.add (i * 5)).off + 4, none⟩ = some (.slice A4 (rd_T31 l (i : Int)).f4.length c4) ∧ w'.cell? (bd.add (i * 5)) = some (.int .i64 (rd_T31 m (i : Int)).f0) ∧ w'.cell? ⟨(bd.add (i * 5)).block, (bd.add (i * 5)).off + 1, none⟩ = some (.int .i64 (rd_T31 m (i : Int)).f1) ∧ w'.cell? ⟨(bd.add (i * 5)).block, (bd.add (i * 5)).off + 2, none⟩ = some (.int .i64 (rd_T31 m (i : Int)).f2) ∧ w'.cell? ⟨(bd.add (i * 5)).block, (bd.add (i * 5)).off + 3, none⟩ = some (.string (rd_T31 m (i : Int)).f3) ∧ w'.cell? ⟨(bd.add (i * 5)).block, (bd.add (i * 5)).off + 4, none⟩ = some (.slice B4 (rd_T31 m (i : Int)).f4.length d4)) (ds := []) #[false, false, false, false, false, false, false, false, false, false] (by kernel_rfl) rfl rfl ⟨((HB.out.cell (World.block_lt_of_cell? w _ ha0)).trans ha0), ((HB.out.cell (World.block_lt_of_cell? w _ ha1)).trans ha1), ((HB.out.cell (World.block_lt_of_cell? w _ ha2)).trans ha2), ((HB.out.cell (World.block_lt_of_cell? w _ ha3)).trans ha3), ((HB.out.cell (World.block_lt_of_cell? w _ ha4)).trans ha4), ((HB.out.cell (World.block_lt_of_cell? w _ hb0)).trans hb0), ((HB.out.cell (World.block_lt_of_cell? w _ hb1)).trans hb1), ((HB.out.cell (World.block_lt_of_cell? w _ hb2)).trans hb2), ((HB.out.cell (World.block_lt_of_cell? w _ hb3)).trans hb3), ((HB.out.cell (World.block_lt_of_cell? w _ hb4)).trans hb4)⟩ (fun hHeld => ?_)
     refine with_tabW laws_eqRxS.tab6 laws_eqRxS.bits6 (fun HT_ HW_ => ?_)
     generalize wr.drew = w9 at HB hHeld ⊢
     refine pure_ (i := 0) (N := some 17) (v := ?_) (a' := ?_) #[true, false, false, false, false, false, false, false, false, false] rfl rfl (any_of HT_.out (by kernel_rfl)) (fun _ _ _ h => h) (Or.inl ⟨by rfl, ?_⟩) ?_ ?_
     rotate_left
     ·
      intro w'
      go_simp
      with_reducible rfl
     rotate_left
     ·
      simp only [Act.put, List.setIfInBounds_toArray, List.set_cons_zero, List.set_cons_succ, i64_w, i32_w]
      rfl
     refine pure_ (i := 1) (N := some 18) (v := ?_) (a' := ?_) #[true, true, false, false, false, false, false, false, false, false] rfl rfl (any_of HT_.out (by kernel_rfl)) (fun _ _ _ h => h) (Or.inl ⟨by rfl, ?_⟩) ?_ ?_
     rotate_left
     ·
      intro w'
      go_simp
      with_reducible rfl
     rotate_left
     ·
      simp only [Act.put, List.setIfInBounds_toArray, List.set_cons_zero, List.set_cons_succ, i64_w, i32_w]
      rfl
     refine pure_ (i := 2) (N := some 19) (v := ?_) (a' := ?_) #[true, true, true, false, false, false, false, false, false, false] rfl rfl (any_of HT_.out (by kernel_rfl)) (fun _ _ _ h => h) (Or.inl ⟨by rfl, ?_⟩) ?_ ?_
     rotate_left
     ·
      intro w'
      go_simp
      with_reducible rfl
     rotate_left
     ·
      simp only [Act.put, List.setIfInBounds_toArray, List.set_cons_zero, List.set_cons_succ, i64_w, i32_w]
      rfl
     refine pure_ (i := 4) (N := some 21) (v := ?_) (a' := ?_) #[true, true, true, false, true, false, false, false, false, false] rfl rfl (any_of HT_.out (by kernel_rfl)) (fun _ _ _ h => h) (Or.inl ⟨by rfl, ?_⟩) ?_ ?_
     rotate_left
     ·
      intro w'
      go_simp
      with_reducible rfl
     rotate_left
     ·
      simp only [Act.put, List.setIfInBounds_toArray, List.set_cons_zero, List.set_cons_succ, i64_w, i32_w]
      rfl
     refine pure_ (i := 5) (N := some 22) (v := ?_) (a' := ?_) #[true, true, true, false, true, true, false, false, false, false] rfl rfl (any_of HT_.out (by kernel_rfl)) (fun _ _ _ h => h) (Or.inl ⟨by rfl, ?_⟩) ?_ ?_
     rotate_left
     ·
      intro w'
      go_simp
      with_reducible rfl
     rotate_left
     ·
      simp only [Act.put, List.setIfInBounds_toArray, List.set_cons_zero, List.set_cons_succ, i64_w, i32_w]
      rfl
     refine pure_ (i := 6) (N := some 23) (v := ?_) (a' := ?_) #[true, true, true, false, true, true, true, false, false, false] rfl rfl (any_of HT_.out (by kernel_rfl)) (fun _ _ _ h => h) (Or.inl ⟨by rfl, ?_⟩) ?_ ?_
     rotate_left
     ·
      intro w'
      go_simp
      with_reducible rfl
     rotate_left
     ·
      simp only [Act.put, List.setIfInBounds_toArray, List.set_cons_zero, List.set_cons_succ, i64_w, i32_w]
      rfl
     refine take_ (i := 3) (N := some 20) (v := ?_) (a' := ?_) #[true, true, true, true, true, true, true, false, false, false] rfl rfl (take_ofW HT_.out HW_.out (by kernel_rfl)) (fun _ _ _ h => h) (Or.inl ⟨by rfl, ?_⟩) hHeld ?_ ?_
     rotate_left
     ·
      rintro w' ⟨s0, s1, s2, s3, s4, s5, s6, s7, s8, s9⟩
      go_simp
      with_reducible rfl
     rotate_left
     ·
      simp only [Act.put, List.setIfInBounds_toArray, List.set_cons_zero, List.set_cons_succ, i64_w, i32_w]
      rfl
     refine take_ (i := 7) (N := some 24) (v := ?_) (a' := ?_) #[true, true, true, true, true, true, true, true, false, false] rfl rfl (take_ofW HT_.out HW_.out (by kernel_rfl)) (fun _ _ _ h => h) (Or.inl ⟨by rfl, ?_⟩) hHeld ?_ ?_
     rotate_left
     ·
      rintro w' ⟨s0, s1, s2, s3, s4, s5, s6, s7, s8, s9⟩
      go_simp
      with_reducible rfl
     rotate_left
     ·
      simp only [Act.put, List.setIfInBounds_toArray, List.set_cons_zero, List.set_cons_succ, i64_w, i32_w]
      rfl
     refine one_ (i := 8) (N := some 25) #[true, true, true, true, true, true, true, true, true, false] rfl rfl (one_of HT_.out (by kernel_rfl)) (by decide) (fun K hK => ?_)
     refine goes_ Try.func11 (by kernel_rfl) rfl #[.agg #[.int .i64 (rd_T31 l (i : Int)).f0, .int .i64 (rd_T31 l (i : Int)).f1, .int .i64 (rd_T31 l (i : Int)).f2, .string (rd_T31 l (i : Int)).f3, .slice A4 (rd_T31 l (i : Int)).f4.length c4], .agg #[.int .i64 (rd_T31 m (i : Int)).f0, .int .i64 (rd_T31 m (i : Int)).f1, .int .i64 (rd_T31 m (i : Int)).f2, .string (rd_T31 m (i : Int)).f3, .slice B4 (rd_T31 m (i : Int)).f4.length d4]] (by rfl) rfl rfl (by (try simp only [List.map_toArray, List.map_cons, List.map_nil]); first | done | rfl) ?_
     (with_reducible refine (IH.out (rd_T31 l (i : Int)) (rd_T31 m (i : Int)) SZ.out A4 c4 B4 d4 _ (Kd.C_below HX.out HB.out) HL4.out (Kd.C_below HY.out HB.out) HM4.out).mono ?_)
     rintro e w2 ⟨he, hb⟩
     rw [EV.out] at he
     subst he
     refine ⟨_, rfl, ?_⟩
     replace HB := Aside0.mk (below_step HB.out hb)
     clear hb
     refine hK.out _ _ ⟨((HB.out.cell (World.block_lt_of_cell? w _ ha0)).trans ha0), ((HB.out.cell (World.block_lt_of_cell? w _ ha1)).trans ha1), ((HB.out.cell (World.block_lt_of_cell? w _ ha2)).trans ha2), ((HB.out.cell (World.block_lt_of_cell? w _ ha3)).trans ha3), ((HB.out.cell (World.block_lt_of_cell? w _ ha4)).trans ha4), ((HB.out.cell (World.block_lt_of_cell? w _ hb0)).trans hb0), ((HB.out.cell (World.block_lt_of_cell? w _ hb1)).trans hb1), ((HB.out.cell (World.block_lt_of_cell? w _ hb2)).trans hb2), ((HB.out.cell (World.block_lt_of_cell? w _ hb3)).trans hb3), ((HB.out.cell (World.block_lt_of_cell? w _ hb4)).trans hb4)⟩ (fun hHeld => ?_)
     clear hK K
     refine norm_ (a' := ?_) ?_ ?_
     rotate_left
     ·
      show Act.put _ (some 25) _ = _
      simp only [Act.put, List.setIfInBounds_toArray, List.set_cons_zero, List.set_cons_succ, i64_w, i32_w]
      rfl
     refine pure_ (i := 9) (N := some 26) (v := ?_) (a' := ?_) #[true, true, true, true, true, true, true, true, true, true] rfl rfl (any_of HT_.out (by kernel_rfl)) (fun _ _ _ h => h) (Or.inl ⟨by rfl, ?_⟩) ?_ ?_
     rotate_left
     ·
      intro w'
      go_simp
      with_reducible rfl
     rotate_left
     ·
      simp only [Act.put, List.setIfInBounds_toArray, List.set_cons_zero, List.set_cons_succ, i64_w, i32_w]
      rfl
     refine done_ (done_of HT_.out (by kernel_rfl)) ?_
     cases z with
     | true =>
      have HE := Aside0.mk (show laws_eqRxS.g l m = laws_eqRx.go (l.drop (i + 1)) (m.drop (i + 1)) by rw [HI.out, HS.out, Bool.true_and])
      go_wp2
      go_roundg k1
      case measure => have := HK.out; omega
      case rel => exact ⟨i + 1, by first | rfl | (simp only [hw]) | simp, ⟨by have := HK.out; omega⟩, HE, HB⟩
     | false =>
      have HE := Aside0.mk (show laws_eqRxS.g l m = false by rw [HI.out, HS.out, Bool.false_and])
      go_wp2
      go_ret
      exact ⟨by rw [HE.out]; rfl, HB.out⟩
    have hlt : decide ((i : Int) < (l.length : Int)) = false := decide_eq_false (by omega)
    have hltn : decide (i < l.length) = false := decide_eq_false (by omega)
    have HE := Aside0.mk (FIN.out hi)
    go_wp2
    go_ret
    exact ⟨by rw [HE.out]; rfl, HB.out⟩
 have HE := Aside0.mk (show laws_eqRxS.g l m = false by unfold laws_eqRxS.g; rw [decide_eq_false c, Bool.false_and])
 have c1 : ((l.length : Int) == (m.length : Int)) = false := beq_eq_false_iff_ne.mpr (by omega)
 have c2 : ((l.length : Int) != (m.length : Int)) = true := bne_iff_ne.mpr (by omega)
 have c3 : (l.length == m.length) = false := beq_eq_false_iff_ne.mpr c
 have c4 : (l.length != m.length) = true := bne_iff_ne.mpr c
 clear c
 go_enter Try.func32, Try.ntmps32
 go_wp2
 go_ret
 exact ⟨by rw [HE.out]; rfl, HB.out⟩
set_option maxHeartbeats 8000000 in
set_option maxRecDepth 100000 in
theorem laws_eqRx.step (n : Nat) (hS : ∀ l m : List S31, SizeOf.sizeOf l ≤ n → ∀ (A0 : Option Addr) (c0 : Nat) (B0 : Option Addr) (d0 : Nat) (w : World), k31.C w A0 l.length l → l.length ≤ c0 → k31.C w B0 m.length m → m.length ≤ d0 → Calls Try.prog 32 #[.slice A0 l.length c0, .slice B0 m.length d0] w fun e w' => e = .returned (.bool (laws_eqRxS.g l m)) ∧ Below w.heap.size w w')
  (a0 a1 a2 : Int) (a3 : ByteArray) (a4 : List S31) (b0 b1 b2 : Int) (b3 : ByteArray) (b4 : List S31) (hn : SizeOf.sizeOf a4 ≤ n) (A4 : Option Addr) (c4 : Nat) (B4 : Option Addr) (d4 : Nat) (w : World) (hr : k31.C w A4 a4.length a4) (hc : a4.length ≤ c4) (hr2 : k31.C w B4 b4.length b4) (hc2 : b4.length ≤ d4) :
  Calls Try.prog 11 #[.agg #[.int .i64 a0, .int .i64 a1, .int .i64 a2, .string a3, .slice A4 a4.length c4], .agg #[.int .i64 b0, .int .i64 b1, .int .i64 b2, .string b3, .slice B4 b4.length d4]] w fun e w' => e = .returned (.bool (laws_eqRx.g ⟨a0, a1, a2, a3, a4⟩ ⟨b0, b1, b2, b3, b4⟩)) ∧ Below w.heap.size w w' := by
 have hu := Try.underlying31
 have HB := Aside0.mk (Below.refl w.heap.size w)
 have HR := Aside0.mk hr
 have HC := Aside0.mk hc
 have HR2 := Aside0.mk hr2
 have HC2 := Aside0.mk hc2
 have HSS := Aside0.mk hS
 have HNN := Aside0.mk hn
 clear hr hc hr2 hc2 hS hn
 have GE := Aside0.mk (show laws_eqRx.g ⟨a0, a1, a2, a3, a4⟩ ⟨b0, b1, b2, b3, b4⟩ = ((a0 == b0) && ((a1 == b1) && ((a2 == b2) && ((a3.toList == b3.toList) && laws_eqRxS.g a4 b4)))) by rw [laws_eqRx.g, laws_eqRxS.g])
 generalize laws_eqRx.g ⟨a0, a1, a2, a3, a4⟩ ⟨b0, b1, b2, b3, b4⟩ = G at GE ⊢
 obtain ⟨z, hz⟩ : ∃ z_, z_ = laws_eqRxS.g a4 b4 := ⟨_, rfl⟩
 have EV := Aside0.mk hz.symm
 rw [← hz] at GE
 clear hz
 cases h0 : (a0 == b0) with
 | false =>
  have g0 : (a0 != b0) = true := by simp only [bne, h0, Bool.not_false]
  have HG := GE.out
  simp only [h0, Bool.false_and] at HG
  subst HG
  clear GE
  go_enter Try.func11, Try.ntmps11
  go_wp2_with (first | ((with_reducible refine gate_dst (N := 2) rfl ?_); refine box_event ?hg2 (N := 2) ?hd2 (cs := #[.int .i64 a0, .int .i64 a1, .int .i64 a2, .string a3, .slice A4 a4.length c4]) (t := 31) ?hr2 ?_; (case hd2 => rfl); (case hg2 => rfl); (case hr2 => first | (go_simp; done) | (go_simp; rfl)); intro g2 hg w2 hbox hb; replace HB := Aside0.mk (below_step HB.out hb); have H2 := Aside0.mk hbox; clear hb hg) | ((with_reducible refine gate_dst (N := 3) rfl ?_); refine box_event ?hg3 (N := 3) ?hd3 (cs := #[.int .i64 b0, .int .i64 b1, .int .i64 b2, .string b3, .slice B4 b4.length d4]) (t := 31) ?hr3 ?_; (case hd3 => rfl); (case hg3 => rfl); (case hr3 => first | (go_simp; done) | (go_simp; rfl)); intro g3 hg w3 hbox hb; replace HB := Aside0.mk (below_step HB.out hb); have x2_0 := (blk_cell H2.out 0).trans (show _ = some (.int .i64 a0) from rfl); replace x2_0 := (hb.cell (World.block_lt_of_cell? _ _ x2_0)).trans x2_0; have x3_0 := (blk_cell hbox 0).trans (show _ = some (.int .i64 b0) from rfl); have x2_1 := (blk_cell H2.out 1).trans (show _ = some (.int .i64 a1) from rfl); replace x2_1 := (hb.cell (World.block_lt_of_cell? _ _ x2_1)).trans x2_1; have x3_1 := (blk_cell hbox 1).trans (show _ = some (.int .i64 b1) from rfl); have x2_2 := (blk_cell H2.out 2).trans (show _ = some (.int .i64 a2) from rfl); replace x2_2 := (hb.cell (World.block_lt_of_cell? _ _ x2_2)).trans x2_2; have x3_2 := (blk_cell hbox 2).trans (show _ = some (.int .i64 b2) from rfl); have x2_3 := (blk_cell H2.out 3).trans (show _ = some (.string a3) from rfl); replace x2_3 := (hb.cell (World.block_lt_of_cell? _ _ x2_3)).trans x2_3; have x3_3 := (blk_cell hbox 3).trans (show _ = some (.string b3) from rfl); have x2_4 := (blk_cell H2.out 4).trans (show _ = some (.slice A4 a4.length c4) from rfl); replace x2_4 := (hb.cell (World.block_lt_of_cell? _ _ x2_4)).trans x2_4; have x3_4 := (blk_cell hbox 4).trans (show _ = some (.slice B4 b4.length d4) from rfl); clear hb hg) | ((with_reducible refine gate_dst (N := 29) rfl ?_); refine goesL_ (some 29) rfl rfl Try.func32 (by kernel_rfl) rfl #[.slice A4 a4.length c4, .slice B4 b4.length d4] rfl (by (try simp only [List.map_toArray, List.map_cons, List.map_nil]); first | done | rfl) ?_; (with_reducible refine (HSS.out a4 b4 HNN.out A4 c4 B4 d4 _ (Kd.C_below HR.out HB.out) HC.out (Kd.C_below HR2.out HB.out) HC2.out).mono ?_); rintro e w2 ⟨he, hb⟩; rw [EV.out] at he; subst he; refine ⟨_, rfl, ?_⟩; replace HB := Aside0.mk (below_step HB.out hb); clear hb))
  go_ret
  exact ⟨rfl, HB.out⟩
 | true =>
  have g0 : (a0 != b0) = false := by simp only [bne, h0, Bool.not_true]
  have e0 := GE.out
  rw [h0, Bool.true_and] at e0
  clear GE
  have GE := Aside0.mk e0
  clear e0
  cases h1 : (a1 == b1) with
  | false =>
   have g1 : (a1 != b1) = true := by simp only [bne, h1, Bool.not_false]
   have HG := GE.out
   simp only [h1, Bool.false_and] at HG
   subst HG
   clear GE
   go_enter Try.func11, Try.ntmps11
   go_wp2_with (first | ((with_reducible refine gate_dst (N := 2) rfl ?_); refine box_event ?hg2 (N := 2) ?hd2 (cs := #[.int .i64 a0, .int .i64 a1, .int .i64 a2, .string a3, .slice A4 a4.length c4]) (t := 31) ?hr2 ?_; (case hd2 => rfl); (case hg2 => rfl); (case hr2 => first | (go_simp; done) | (go_simp; rfl)); intro g2 hg w2 hbox hb; replace HB := Aside0.mk (below_step HB.out hb); have H2 := Aside0.mk hbox; clear hb hg) | ((with_reducible refine gate_dst (N := 3) rfl ?_); refine box_event ?hg3 (N := 3) ?hd3 (cs := #[.int .i64 b0, .int .i64 b1, .int .i64 b2, .string b3, .slice B4 b4.length d4]) (t := 31) ?hr3 ?_; (case hd3 => rfl); (case hg3 => rfl); (case hr3 => first | (go_simp; done) | (go_simp; rfl)); intro g3 hg w3 hbox hb; replace HB := Aside0.mk (below_step HB.out hb); have x2_0 := (blk_cell H2.out 0).trans (show _ = some (.int .i64 a0) from rfl); replace x2_0 := (hb.cell (World.block_lt_of_cell? _ _ x2_0)).trans x2_0; have x3_0 := (blk_cell hbox 0).trans (show _ = some (.int .i64 b0) from rfl); have x2_1 := (blk_cell H2.out 1).trans (show _ = some (.int .i64 a1) from rfl); replace x2_1 := (hb.cell (World.block_lt_of_cell? _ _ x2_1)).trans x2_1; have x3_1 := (blk_cell hbox 1).trans (show _ = some (.int .i64 b1) from rfl); have x2_2 := (blk_cell H2.out 2).trans (show _ = some (.int .i64 a2) from rfl); replace x2_2 := (hb.cell (World.block_lt_of_cell? _ _ x2_2)).trans x2_2; have x3_2 := (blk_cell hbox 2).trans (show _ = some (.int .i64 b2) from rfl); have x2_3 := (blk_cell H2.out 3).trans (show _ = some (.string a3) from rfl); replace x2_3 := (hb.cell (World.block_lt_of_cell? _ _ x2_3)).trans x2_3; have x3_3 := (blk_cell hbox 3).trans (show _ = some (.string b3) from rfl); have x2_4 := (blk_cell H2.out 4).trans (show _ = some (.slice A4 a4.length c4) from rfl); replace x2_4 := (hb.cell (World.block_lt_of_cell? _ _ x2_4)).trans x2_4; have x3_4 := (blk_cell hbox 4).trans (show _ = some (.slice B4 b4.length d4) from rfl); clear hb hg) | ((with_reducible refine gate_dst (N := 29) rfl ?_); refine goesL_ (some 29) rfl rfl Try.func32 (by kernel_rfl) rfl #[.slice A4 a4.length c4, .slice B4 b4.length d4] rfl (by (try simp only [List.map_toArray, List.map_cons, List.map_nil]); first | done | rfl) ?_; (with_reducible refine (HSS.out a4 b4 HNN.out A4 c4 B4 d4 _ (Kd.C_below HR.out HB.out) HC.out (Kd.C_below HR2.out HB.out) HC2.out).mono ?_); rintro e w2 ⟨he, hb⟩; rw [EV.out] at he; subst he; refine ⟨_, rfl, ?_⟩; replace HB := Aside0.mk (below_step HB.out hb); clear hb))
   go_ret
   exact ⟨rfl, HB.out⟩
  | true =>
   have g1 : (a1 != b1) = false := by simp only [bne, h1, Bool.not_true]
   have e0 := GE.out
   rw [h1, Bool.true_and] at e0
   clear GE
   have GE := Aside0.mk e0
   clear e0
   cases h2 : (a2 == b2) with
   | false =>
    have g2 : (a2 != b2) = true := by simp only [bne, h2, Bool.not_false]
    have HG := GE.out
    simp only [h2, Bool.false_and] at HG
    subst HG
    clear GE
    go_enter Try.func11, Try.ntmps11
    go_wp2_with (first | ((with_reducible refine gate_dst (N := 2) rfl ?_); refine box_event ?hg2 (N := 2) ?hd2 (cs := #[.int .i64 a0, .int .i64 a1, .int .i64 a2, .string a3, .slice A4 a4.length c4]) (t := 31) ?hr2 ?_; (case hd2 => rfl); (case hg2 => rfl); (case hr2 => first | (go_simp; done) | (go_simp; rfl)); intro g2 hg w2 hbox hb; replace HB := Aside0.mk (below_step HB.out hb); have H2 := Aside0.mk hbox; clear hb hg) | ((with_reducible refine gate_dst (N := 3) rfl ?_); refine box_event ?hg3 (N := 3) ?hd3 (cs := #[.int .i64 b0, .int .i64 b1, .int .i64 b2, .string b3, .slice B4 b4.length d4]) (t := 31) ?hr3 ?_; (case hd3 => rfl); (case hg3 => rfl); (case hr3 => first | (go_simp; done) | (go_simp; rfl)); intro g3 hg w3 hbox hb; replace HB := Aside0.mk (below_step HB.out hb); have x2_0 := (blk_cell H2.out 0).trans (show _ = some (.int .i64 a0) from rfl); replace x2_0 := (hb.cell (World.block_lt_of_cell? _ _ x2_0)).trans x2_0; have x3_0 := (blk_cell hbox 0).trans (show _ = some (.int .i64 b0) from rfl); have x2_1 := (blk_cell H2.out 1).trans (show _ = some (.int .i64 a1) from rfl); replace x2_1 := (hb.cell (World.block_lt_of_cell? _ _ x2_1)).trans x2_1; have x3_1 := (blk_cell hbox 1).trans (show _ = some (.int .i64 b1) from rfl); have x2_2 := (blk_cell H2.out 2).trans (show _ = some (.int .i64 a2) from rfl); replace x2_2 := (hb.cell (World.block_lt_of_cell? _ _ x2_2)).trans x2_2; have x3_2 := (blk_cell hbox 2).trans (show _ = some (.int .i64 b2) from rfl); have x2_3 := (blk_cell H2.out 3).trans (show _ = some (.string a3) from rfl); replace x2_3 := (hb.cell (World.block_lt_of_cell? _ _ x2_3)).trans x2_3; have x3_3 := (blk_cell hbox 3).trans (show _ = some (.string b3) from rfl); have x2_4 := (blk_cell H2.out 4).trans (show _ = some (.slice A4 a4.length c4) from rfl); replace x2_4 := (hb.cell (World.block_lt_of_cell? _ _ x2_4)).trans x2_4; have x3_4 := (blk_cell hbox 4).trans (show _ = some (.slice B4 b4.length d4) from rfl); clear hb hg) | ((with_reducible refine gate_dst (N := 29) rfl ?_); refine goesL_ (some 29) rfl rfl Try.func32 (by kernel_rfl) rfl #[.slice A4 a4.length c4, .slice B4 b4.length d4] rfl (by (try simp only [List.map_toArray, List.map_cons, List.map_nil]); first | done | rfl) ?_; (with_reducible refine (HSS.out a4 b4 HNN.out A4 c4 B4 d4 _ (Kd.C_below HR.out HB.out) HC.out (Kd.C_below HR2.out HB.out) HC2.out).mono ?_); rintro e w2 ⟨he, hb⟩; rw [EV.out] at he; subst he; refine ⟨_, rfl, ?_⟩; replace HB := Aside0.mk (below_step HB.out hb); clear hb))
    go_ret
    exact ⟨rfl, HB.out⟩
   | true =>
    have g2 : (a2 != b2) = false := by simp only [bne, h2, Bool.not_true]
    have e0 := GE.out
    rw [h2, Bool.true_and] at e0
    clear GE
    have GE := Aside0.mk e0
    clear e0
    cases h3 : (a3.toList == b3.toList) with
    | false =>
     have g3 : (a3.toList != b3.toList) = true := by simp only [bne, h3, Bool.not_false]
     have HG := GE.out
     simp only [h3, Bool.false_and] at HG
     subst HG
     clear GE
     go_enter Try.func11, Try.ntmps11
     go_wp2_with (first | ((with_reducible refine gate_dst (N := 2) rfl ?_); refine box_event ?hg2 (N := 2) ?hd2 (cs := #[.int .i64 a0, .int .i64 a1, .int .i64 a2, .string a3, .slice A4 a4.length c4]) (t := 31) ?hr2 ?_; (case hd2 => rfl); (case hg2 => rfl); (case hr2 => first | (go_simp; done) | (go_simp; rfl)); intro g2 hg w2 hbox hb; replace HB := Aside0.mk (below_step HB.out hb); have H2 := Aside0.mk hbox; clear hb hg) | ((with_reducible refine gate_dst (N := 3) rfl ?_); refine box_event ?hg3 (N := 3) ?hd3 (cs := #[.int .i64 b0, .int .i64 b1, .int .i64 b2, .string b3, .slice B4 b4.length d4]) (t := 31) ?hr3 ?_; (case hd3 => rfl); (case hg3 => rfl); (case hr3 => first | (go_simp; done) | (go_simp; rfl)); intro g3 hg w3 hbox hb; replace HB := Aside0.mk (below_step HB.out hb); have x2_0 := (blk_cell H2.out 0).trans (show _ = some (.int .i64 a0) from rfl); replace x2_0 := (hb.cell (World.block_lt_of_cell? _ _ x2_0)).trans x2_0; have x3_0 := (blk_cell hbox 0).trans (show _ = some (.int .i64 b0) from rfl); have x2_1 := (blk_cell H2.out 1).trans (show _ = some (.int .i64 a1) from rfl); replace x2_1 := (hb.cell (World.block_lt_of_cell? _ _ x2_1)).trans x2_1; have x3_1 := (blk_cell hbox 1).trans (show _ = some (.int .i64 b1) from rfl); have x2_2 := (blk_cell H2.out 2).trans (show _ = some (.int .i64 a2) from rfl); replace x2_2 := (hb.cell (World.block_lt_of_cell? _ _ x2_2)).trans x2_2; have x3_2 := (blk_cell hbox 2).trans (show _ = some (.int .i64 b2) from rfl); have x2_3 := (blk_cell H2.out 3).trans (show _ = some (.string a3) from rfl); replace x2_3 := (hb.cell (World.block_lt_of_cell? _ _ x2_3)).trans x2_3; have x3_3 := (blk_cell hbox 3).trans (show _ = some (.string b3) from rfl); have x2_4 := (blk_cell H2.out 4).trans (show _ = some (.slice A4 a4.length c4) from rfl); replace x2_4 := (hb.cell (World.block_lt_of_cell? _ _ x2_4)).trans x2_4; have x3_4 := (blk_cell hbox 4).trans (show _ = some (.slice B4 b4.length d4) from rfl); clear hb hg) | ((with_reducible refine gate_dst (N := 29) rfl ?_); refine goesL_ (some 29) rfl rfl Try.func32 (by kernel_rfl) rfl #[.slice A4 a4.length c4, .slice B4 b4.length d4] rfl (by (try simp only [List.map_toArray, List.map_cons, List.map_nil]); first | done | rfl) ?_; (with_reducible refine (HSS.out a4 b4 HNN.out A4 c4 B4 d4 _ (Kd.C_below HR.out HB.out) HC.out (Kd.C_below HR2.out HB.out) HC2.out).mono ?_); rintro e w2 ⟨he, hb⟩; rw [EV.out] at he; subst he; refine ⟨_, rfl, ?_⟩; replace HB := Aside0.mk (below_step HB.out hb); clear hb))
     go_ret
     exact ⟨rfl, HB.out⟩
    | true =>
     have g3 : (a3.toList != b3.toList) = false := by simp only [bne, h3, Bool.not_true]
     have e0 := GE.out
     rw [h3, Bool.true_and] at e0
     clear GE
     have GE := Aside0.mk e0
     clear e0
     have HG := GE.out
     subst HG
     cases G with
     | true =>
      go_enter Try.func11, Try.ntmps11
      go_wp2_with (first | ((with_reducible refine gate_dst (N := 2) rfl ?_); refine box_event ?hg2 (N := 2) ?hd2 (cs := #[.int .i64 a0, .int .i64 a1, .int .i64 a2, .string a3, .slice A4 a4.length c4]) (t := 31) ?hr2 ?_; (case hd2 => rfl); (case hg2 => rfl); (case hr2 => first | (go_simp; done) | (go_simp; rfl)); intro g2 hg w2 hbox hb; replace HB := Aside0.mk (below_step HB.out hb); have H2 := Aside0.mk hbox; clear hb hg) | ((with_reducible refine gate_dst (N := 3) rfl ?_); refine box_event ?hg3 (N := 3) ?hd3 (cs := #[.int .i64 b0, .int .i64 b1, .int .i64 b2, .string b3, .slice B4 b4.length d4]) (t := 31) ?hr3 ?_; (case hd3 => rfl); (case hg3 => rfl); (case hr3 => first | (go_simp; done) | (go_simp; rfl)); intro g3 hg w3 hbox hb; replace HB := Aside0.mk (below_step HB.out hb); have x2_0 := (blk_cell H2.out 0).trans (show _ = some (.int .i64 a0) from rfl); replace x2_0 := (hb.cell (World.block_lt_of_cell? _ _ x2_0)).trans x2_0; have x3_0 := (blk_cell hbox 0).trans (show _ = some (.int .i64 b0) from rfl); have x2_1 := (blk_cell H2.out 1).trans (show _ = some (.int .i64 a1) from rfl); replace x2_1 := (hb.cell (World.block_lt_of_cell? _ _ x2_1)).trans x2_1; have x3_1 := (blk_cell hbox 1).trans (show _ = some (.int .i64 b1) from rfl); have x2_2 := (blk_cell H2.out 2).trans (show _ = some (.int .i64 a2) from rfl); replace x2_2 := (hb.cell (World.block_lt_of_cell? _ _ x2_2)).trans x2_2; have x3_2 := (blk_cell hbox 2).trans (show _ = some (.int .i64 b2) from rfl); have x2_3 := (blk_cell H2.out 3).trans (show _ = some (.string a3) from rfl); replace x2_3 := (hb.cell (World.block_lt_of_cell? _ _ x2_3)).trans x2_3; have x3_3 := (blk_cell hbox 3).trans (show _ = some (.string b3) from rfl); have x2_4 := (blk_cell H2.out 4).trans (show _ = some (.slice A4 a4.length c4) from rfl); replace x2_4 := (hb.cell (World.block_lt_of_cell? _ _ x2_4)).trans x2_4; have x3_4 := (blk_cell hbox 4).trans (show _ = some (.slice B4 b4.length d4) from rfl); clear hb hg) | ((with_reducible refine gate_dst (N := 29) rfl ?_); refine goesL_ (some 29) rfl rfl Try.func32 (by kernel_rfl) rfl #[.slice A4 a4.length c4, .slice B4 b4.length d4] rfl (by (try simp only [List.map_toArray, List.map_cons, List.map_nil]); first | done | rfl) ?_; (with_reducible refine (HSS.out a4 b4 HNN.out A4 c4 B4 d4 _ (Kd.C_below HR.out HB.out) HC.out (Kd.C_below HR2.out HB.out) HC2.out).mono ?_); rintro e w2 ⟨he, hb⟩; rw [EV.out] at he; subst he; refine ⟨_, rfl, ?_⟩; replace HB := Aside0.mk (below_step HB.out hb); clear hb))
      go_ret
      exact ⟨rfl, HB.out⟩
     | false =>
      go_enter Try.func11, Try.ntmps11
      go_wp2_with (first | ((with_reducible refine gate_dst (N := 2) rfl ?_); refine box_event ?hg2 (N := 2) ?hd2 (cs := #[.int .i64 a0, .int .i64 a1, .int .i64 a2, .string a3, .slice A4 a4.length c4]) (t := 31) ?hr2 ?_; (case hd2 => rfl); (case hg2 => rfl); (case hr2 => first | (go_simp; done) | (go_simp; rfl)); intro g2 hg w2 hbox hb; replace HB := Aside0.mk (below_step HB.out hb); have H2 := Aside0.mk hbox; clear hb hg) | ((with_reducible refine gate_dst (N := 3) rfl ?_); refine box_event ?hg3 (N := 3) ?hd3 (cs := #[.int .i64 b0, .int .i64 b1, .int .i64 b2, .string b3, .slice B4 b4.length d4]) (t := 31) ?hr3 ?_; (case hd3 => rfl); (case hg3 => rfl); (case hr3 => first | (go_simp; done) | (go_simp; rfl)); intro g3 hg w3 hbox hb; replace HB := Aside0.mk (below_step HB.out hb); have x2_0 := (blk_cell H2.out 0).trans (show _ = some (.int .i64 a0) from rfl); replace x2_0 := (hb.cell (World.block_lt_of_cell? _ _ x2_0)).trans x2_0; have x3_0 := (blk_cell hbox 0).trans (show _ = some (.int .i64 b0) from rfl); have x2_1 := (blk_cell H2.out 1).trans (show _ = some (.int .i64 a1) from rfl); replace x2_1 := (hb.cell (World.block_lt_of_cell? _ _ x2_1)).trans x2_1; have x3_1 := (blk_cell hbox 1).trans (show _ = some (.int .i64 b1) from rfl); have x2_2 := (blk_cell H2.out 2).trans (show _ = some (.int .i64 a2) from rfl); replace x2_2 := (hb.cell (World.block_lt_of_cell? _ _ x2_2)).trans x2_2; have x3_2 := (blk_cell hbox 2).trans (show _ = some (.int .i64 b2) from rfl); have x2_3 := (blk_cell H2.out 3).trans (show _ = some (.string a3) from rfl); replace x2_3 := (hb.cell (World.block_lt_of_cell? _ _ x2_3)).trans x2_3; have x3_3 := (blk_cell hbox 3).trans (show _ = some (.string b3) from rfl); have x2_4 := (blk_cell H2.out 4).trans (show _ = some (.slice A4 a4.length c4) from rfl); replace x2_4 := (hb.cell (World.block_lt_of_cell? _ _ x2_4)).trans x2_4; have x3_4 := (blk_cell hbox 4).trans (show _ = some (.slice B4 b4.length d4) from rfl); clear hb hg) | ((with_reducible refine gate_dst (N := 29) rfl ?_); refine goesL_ (some 29) rfl rfl Try.func32 (by kernel_rfl) rfl #[.slice A4 a4.length c4, .slice B4 b4.length d4] rfl (by (try simp only [List.map_toArray, List.map_cons, List.map_nil]); first | done | rfl) ?_; (with_reducible refine (HSS.out a4 b4 HNN.out A4 c4 B4 d4 _ (Kd.C_below HR.out HB.out) HC.out (Kd.C_below HR2.out HB.out) HC2.out).mono ?_); rintro e w2 ⟨he, hb⟩; rw [EV.out] at he; subst he; refine ⟨_, rfl, ?_⟩; replace HB := Aside0.mk (below_step HB.out hb); clear hb))
      go_ret
      exact ⟨rfl, HB.out⟩
theorem laws_eqRx.any : ∀ n : Nat, (∀ l m : List S31, SizeOf.sizeOf l ≤ n → ∀ (A0 : Option Addr) (c0 : Nat) (B0 : Option Addr) (d0 : Nat) (w : World), k31.C w A0 l.length l → l.length ≤ c0 → k31.C w B0 m.length m → m.length ≤ d0 → Calls Try.prog 32 #[.slice A0 l.length c0, .slice B0 m.length d0] w fun e w' => e = .returned (.bool (laws_eqRxS.g l m)) ∧ Below w.heap.size w w') ∧ (∀ x y : S31, SizeOf.sizeOf x ≤ n → ∀ (A4 : Option Addr) (c4 : Nat) (B4 : Option Addr) (d4 : Nat) (w : World), k31.C w A4 x.f4.length x.f4 → x.f4.length ≤ c4 → k31.C w B4 y.f4.length y.f4 → y.f4.length ≤ d4 → Calls Try.prog 11 #[.agg #[.int .i64 x.f0, .int .i64 x.f1, .int .i64 x.f2, .string x.f3, .slice A4 x.f4.length c4], .agg #[.int .i64 y.f0, .int .i64 y.f1, .int .i64 y.f2, .string y.f3, .slice B4 y.f4.length d4]] w fun e w' => e = .returned (.bool (laws_eqRx.g x y)) ∧ Below w.heap.size w w')
 | 0 => ⟨fun l m h => by cases l <;> simp at h, fun x y h => by cases x; simp at h⟩
 | n + 1 => by
  obtain ⟨i1, i2⟩ := laws_eqRx.any n
  refine ⟨fun l m h A0 c0 B0 d0 w hr hc hr2 hc2 => laws_eqRxS.step n i2 l m h A0 c0 B0 d0 w hr hc hr2 hc2, fun x y h A4 c4 B4 d4 w hr hc hr2 hc2 => ?_⟩
  obtain ⟨a0, a1, a2, a3, a4⟩ := x
  obtain ⟨b0, b1, b2, b3, b4⟩ := y
  exact laws_eqRx.step n i1 a0 a1 a2 a3 a4 b0 b1 b2 b3 b4 (by simp at h; omega) A4 c4 B4 d4 w hr hc hr2 hc2
def laws_eqRxS.f (l0 : List (S31)) (l1 : List (S31)) : Option (Bool) := some (laws_eqRxS.g l0 l1)
def laws_eqRx.f (a0_0 : Int) (a0_1 : Int) (a0_2 : Int) (a0_3 : ByteArray) (l0_4 : List (S31)) (a1_0 : Int) (a1_1 : Int) (a1_2 : Int) (a1_3 : ByteArray) (l1_4 : List (S31)) : Option (Bool) := some (laws_eqRx.g ⟨a0_0, a0_1, a0_2, a0_3, l0_4⟩ ⟨a1_0, a1_1, a1_2, a1_3, l1_4⟩)
theorem laws_eqRx.calls (a0_0 : Int) (a0_1 : Int) (a0_2 : Int) (a0_3 : ByteArray) (A0_4 : Option Addr) (c0_4 : Nat) (l0_4 : List (S31)) (a1_0 : Int) (a1_1 : Int) (a1_2 : Int) (a1_3 : ByteArray) (A1_4 : Option Addr) (c1_4 : Nat) (l1_4 : List (S31)) (r : Bool) (w : World) (hr0_4 : Kd.C k31 w A0_4 l0_4.length l0_4) (hc0_4 : l0_4.length ≤ c0_4) (hr1_4 : Kd.C k31 w A1_4 l1_4.length l1_4) (hc1_4 : l1_4.length ≤ c1_4) (h : laws_eqRx.f a0_0 a0_1 a0_2 a0_3 l0_4 a1_0 a1_1 a1_2 a1_3 l1_4 = some r) :
  Calls Try.prog 11 #[.agg #[.int .i64 a0_0, .int .i64 a0_1, .int .i64 a0_2, .string a0_3, .slice A0_4 l0_4.length c0_4], .agg #[.int .i64 a1_0, .int .i64 a1_1, .int .i64 a1_2, .string a1_3, .slice A1_4 l1_4.length c1_4]] w fun e w' => e = .returned (.bool r) ∧ Below w.heap.size w w' := by
 obtain rfl := Option.some.inj h
 exact (laws_eqRx.any _).2 ⟨a0_0, a0_1, a0_2, a0_3, l0_4⟩ ⟨a1_0, a1_1, a1_2, a1_3, l1_4⟩ (Nat.le_refl _) A0_4 c0_4 A1_4 c1_4 w hr0_4 hc0_4 hr1_4 hc1_4


def laws_markText.l0 : Nat → Int → ByteArray → Option (ByteArray)
 | 0, _, _ => none
 | k + 1, x0, x3 => if x0 > 0 then ((some (([(wrap64 (48 + (Int.tmod x0 10))) % 256] : List Int) : List Int)).bind fun y171 => (if (strOfNums y171).size + x3.size ≤ 9223372036854775807 then (laws_markText.l0 k (wrap64 (Int.tdiv x0 10)) ((strOfNums y171) ++ x3)) else (none))) else (if 1 + x3.size ≤ 9223372036854775807 then (some ((⟨#[109]⟩ : ByteArray) ++ x3)) else (none))
def laws_markText.f (k : Nat) (a0 : Int) : Option (ByteArray) := if a0 ≤ 0 then (some (⟨#[109, 48]⟩ : ByteArray)) else (laws_markText.l0 k a0 (⟨#[]⟩ : ByteArray))
-- NOT PRINTED: function 33 (laws_markRxS)

-- NOT PRINTED: function 12 (laws_markRx)

def laws_markIntS.l0 : Nat → List Int → Int → Int → Option (Int × List Int)
 | 0, _, _, _ => none
 | k + 1, x0, x1, x5 => if x5 < (x0.length : Int) then (if 0 ≤ x5 then (laws_markIntS.l0 k (x0.set (x5 : Int).toNat x1) (wrap64 (x1 + 1)) (wrap64 (x5 + 1))) else (none)) else (some (x1, x0))
def laws_markIntS.f (k : Nat) (l0 : List Int) (a1 : Int) : Option (Int × List Int) := laws_markIntS.l0 k l0 a1 0
def laws_heldIntS.l0 : Nat → List Int → Int → Int → Option (Int)
 | 0, _, _, _ => none
 | k + 1, x0, x1, x5 => if x5 < (x0.length : Int) then (if 0 ≤ x5 then (if (rd x0 x5) = x1 then (laws_heldIntS.l0 k x0 (wrap64 (x1 + 1)) (wrap64 (x5 + 1))) else (some (-1))) else (none)) else (some x1)
def laws_heldIntS.f (k : Nat) (l0 : List Int) (a1 : Int) : Option (Int) := laws_heldIntS.l0 k l0 a1 0
-- NOT PRINTED: function 3 (laws_FnExactFind)

end Go.Proofs.Ytlpabbcgichaoaa.PFnExactFind
