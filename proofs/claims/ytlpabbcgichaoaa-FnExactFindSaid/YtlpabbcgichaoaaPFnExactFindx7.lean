import Derived.Test.YtlpabbcgichaoaaPFnExactFindx0
import Derived.Test.YtlpabbcgichaoaaWWords
namespace Go.Proofs.Ytlpabbcgichaoaa.PFnExactFind
open Go.RowKit Go.Proofs.YtlpabbcgichaoaaW.PrintWords Go.Proofs.YtlpabbcgichaoaaW.PrintLast Go.Proofs.YtlpabbcgichaoaaW.PrintMore
attribute [local go_sem] max2_int min2_int max_two min_two max_three min_three max_four min_four
set_option maxHeartbeats 8000000
set_option maxRecDepth 100000
set_option linter.unusedVariables false
set_option linter.unusedSimpArgs false

def laws_eqRxS.T6 : Bool × List (List Nat × List Nat) := (true, [([], []), ([], []), ([0, 1], [0, 1]), ([2], [2]), ([], []), ([], []), ([4, 5], [4, 5]), ([6], [6]), ([3, 7], [3, 7]), ([8], [8])])
def laws_eqRxS.B6 : List Nat := [0, 0, 3, 7, 0, 0, 48, 112, 255, 511]
theorem laws_eqRxS.tab6 : rtab .any (opsOf Try.f32 6) = laws_eqRxS.T6 := by kernel_rfl
theorem laws_eqRxS.bits6 : waitsOk laws_eqRxS.T6.2 laws_eqRxS.B6 = true := by kernel_rfl
mutual
def laws_eqRx.g : S31 → S31 → Bool
 | ⟨a0, a1, a2, a3, a4⟩, ⟨b0, b1, b2, b3, b4⟩ => (a0 == b0) && ((a1 == b1) && ((a2 == b2) && ((a3.toList == b3.toList) && (decide (a4.length = b4.length) && laws_eqRx.go a4 b4))))
def laws_eqRx.go : List S31 → List S31 → Bool
 | [], _ => true
 | _ :: _, [] => false
 | x :: l, y :: m => laws_eqRx.g x y && laws_eqRx.go l m
end
def laws_eqRxS.g (l m : List S31) : Bool := decide (l.length = m.length) && laws_eqRx.go l m
theorem eq_at (l : List S31) (i : Nat) (hi : i < l.length) {n : Nat} (hn : SizeOf.sizeOf l ≤ n + 1) : SizeOf.sizeOf (rd_T31 l (i : Int)) ≤ n := by
 have hr : rd_T31 l (i : Int) = l[i] := by
  unfold rd_T31
  simp [List.getD_eq_getElem?_getD, List.getElem?_eq_getElem hi]
 rw [hr]
 have := List.sizeOf_lt_of_mem (List.getElem_mem hi)
 omega
theorem laws_eqRx.go_step (l m : List S31) (i : Nat) (h : i < l.length) (h2 : i < m.length) : laws_eqRx.go (l.drop i) (m.drop i) = (laws_eqRx.g (rd_T31 l (i : Int)) (rd_T31 m (i : Int)) && laws_eqRx.go (l.drop (i + 1)) (m.drop (i + 1))) := by
 rw [List.drop_eq_getElem_cons h, List.drop_eq_getElem_cons h2, laws_eqRx.go]
 have e1 : rd_T31 l (i : Int) = l[i] := by
  unfold rd_T31
  simp [List.getD_eq_getElem?_getD, List.getElem?_eq_getElem h]
 have e2 : rd_T31 m (i : Int) = m[i] := by
  unfold rd_T31
  simp [List.getD_eq_getElem?_getD, List.getElem?_eq_getElem h2]
 rw [e1, e2]
theorem laws_eqRxS.step (n : Nat) (ih : ∀ x y : S31, SizeOf.sizeOf x ≤ n → ∀ (A4 : Option Addr) (c4 : Nat) (B4 : Option Addr) (d4 : Nat) (w : World), k31.C w A4 x.f4.length x.f4 → x.f4.length ≤ c4 → k31.C w B4 y.f4.length y.f4 → y.f4.length ≤ d4 → Calls Try.prog 11 #[.agg #[.int .i64 x.f0, .int .i64 x.f1, .int .i64 x.f2, .string x.f3, .slice A4 x.f4.length c4], .agg #[.int .i64 y.f0, .int .i64 y.f1, .int .i64 y.f2, .string y.f3, .slice B4 y.f4.length d4]] w fun e w' => e = .returned (.bool (laws_eqRx.g x y)) ∧ Below w.heap.size w w')
  (l m : List S31) (hn : SizeOf.sizeOf l ≤ n + 1) (A0 : Option Addr) (c0 : Nat) (B0 : Option Addr) (d0 : Nat) (w : World) (hr : k31.C w A0 l.length l) (hc : l.length ≤ c0) (hr2 : k31.C w B0 m.length m) (hc2 : m.length ≤ d0) :
  Calls Try.prog 32 #[.slice A0 l.length c0, .slice B0 m.length d0] w fun e w' => e = .returned (.bool (laws_eqRxS.g l m)) ∧ Below w.heap.size w w' := by
 have HB := am (Below.refl w.heap.size w)
 have HR := am hr
 have HR2 := am hr2
 have HL := am hr.2.1
 have IH := am ih
 have HN := am hn
 clear hr ih hn hc hr2 hc2
 by_cases c : l.length = m.length
 ·
  have HE0 := am (show laws_eqRxS.g l m = laws_eqRx.go l m by unfold laws_eqRxS.g; rw [decide_eq_true c, Bool.true_and])
  have c1 : ((l.length : Int) == (m.length : Int)) = true := beq_iff_eq.mpr (by omega)
  have c2 : ((l.length : Int) != (m.length : Int)) = false := bne_eq_false_iff_eq.mpr (by omega)
  have c3 : (l.length == m.length) = true := beq_iff_eq.mpr c
  have c4 : (l.length != m.length) = false := bne_eq_false_iff_eq.mpr c
  have LE := am c
  clear c
  go_enter Try.func32, Try.ntmps32
  go_wp2
  go_loopg [5] (l.length + 1) (fun kq v5 w' => ∃ i : Nat, v5 = .int .i64 (i : Int) ∧ Aside0 (i + kq = l.length + 1) ∧ Aside0 (laws_eqRxS.g l m = laws_eqRx.go (l.drop i) (m.drop i)) ∧ Aside0 (Below w.heap.size w w'))
  case atStart => exact ⟨0, rfl, ⟨by omega⟩, HE0, HB⟩
  case round =>
   clear HB HE0 c1 c2 c3 c4
   obtain ⟨i, rfl, HK, HI, HB⟩ := hrel
   have FIN := am (show l.length ≤ i → laws_eqRxS.g l m = true from fun h => by rw [HI.out, List.drop_eq_nil_of_le h, laws_eqRx.go])
   cases gk with
   | zero =>
    have hlt : decide ((i : Int) < (l.length : Int)) = false := decide_eq_false (by have := HK.out; omega)
    have hltn : decide (i < l.length) = false := decide_eq_false (by have := HK.out; omega)
    have HE := am (FIN.out (by have := HK.out; omega))
    go_wp2
    go_ret
    exact ⟨by rw [HE.out]; rfl, HB.out⟩
   | succ k1 =>
    rcases Nat.lt_or_ge i l.length with hi | hi
    ·
     have hi2 : i < m.length := by have := LE.out; omega
     have hlt : decide ((i : Int) < (l.length : Int)) = true := decide_eq_true (by omega)
     have hltn : decide (i < l.length) = true := decide_eq_true (by omega)
     have hw : wrap64 ((i : Int) + 1) = ((i + 1 : Nat) : Int) := by have := HL.out; unfold wrap64; omega
     have hww : IntKind.i64.wrap ((i : Int) + 1) = ((i + 1 : Nat) : Int) := (i64_w _).trans hw
     have HS := am (laws_eqRx.go_step l m i hi hi2)
     have SZ := am (eq_at l i hi HN.out)
     obtain ⟨ad, A4, c4, ea, ha0, ha1, ha2, ha3, ha4, hl4, hC4⟩ := at_T31 HR.out (i : Int) (by omega) (by omega)
     cases ea
     obtain ⟨bd, B4, d4, eb, hb0, hb1, hb2, hb3, hb4, hm4, hD4⟩ := at_T31 HR2.out (i : Int) (by omega) (by omega)
     cases eb
     simp only [Int.toNat_natCast] at ha0 ha1 ha2 ha3 ha4 hb0 hb1 hb2 hb3 hb4
     have HX := am hC4
     have HL4 := am hl4
     have HY := am hD4
     have HM4 := am hm4
     clear hC4 hl4 hD4 hm4
     have p1 := eq_true (show (0 : Int) ≤ (i : Int) by omega)
     have q1 := eq_true (show (i : Int) < (l.length : Int) by omega)
     have q2 := eq_true (show (i : Int) < (m.length : Int) by omega)
     obtain ⟨z, hz⟩ : ∃ z_, z_ = laws_eqRx.g (rd_T31 l (i : Int)) (rd_T31 m (i : Int)) := ⟨_, rfl⟩
     have EV := am hz.symm
     rw [← hz] at HS
     clear hz
     have n0_ := am (below_drew1 HB.out)
     try go_wp2
     replace HB := n0_
     clear n0_
     refine sr (n := 10) (S := fun w' => w'.cell? (ad.add (i * 5)) = some (.int .i64 (rd_T31 l (i : Int)).f0) ∧ w'.cell? ⟨(ad.add (i * 5)).block, (ad.add (i * 5)).off + 1, none⟩ = some (.int .i64 (rd_T31 l (i : Int)).f1) ∧ w'.cell? ⟨(ad.add (i * 5)).block, (ad.add (i * 5)).off + 2, none⟩ = some (.int .i64 (rd_T31 l (i : Int)).f2) ∧ w'.cell? ⟨(ad.add (i * 5)).block, (ad.add (i * 5)).off + 3, none⟩ = some (.string (rd_T31 l (i : Int)).f3) ∧ w'.cell? ⟨(ad.add (i * 5)).block, (ad.add (i * 5)).off + 4, none⟩ = some (.slice A4 (rd_T31 l (i : Int)).f4.length c4) ∧ w'.cell? (bd.add (i * 5)) = some (.int .i64 (rd_T31 m (i : Int)).f0) ∧ w'.cell? ⟨(bd.add (i * 5)).block, (bd.add (i * 5)).off + 1, none⟩ = some (.int .i64 (rd_T31 m (i : Int)).f1) ∧ w'.cell? ⟨(bd.add (i * 5)).block, (bd.add (i * 5)).off + 2, none⟩ = some (.int .i64 (rd_T31 m (i : Int)).f2) ∧ w'.cell? ⟨(bd.add (i * 5)).block, (bd.add (i * 5)).off + 3, none⟩ = some (.string (rd_T31 m (i : Int)).f3) ∧ w'.cell? ⟨(bd.add (i * 5)).block, (bd.add (i * 5)).off + 4, none⟩ = some (.slice B4 (rd_T31 m (i : Int)).f4.length d4)) (ds := []) ⟨((HB.out.cell (World.block_lt_of_cell? w _ ha0)).trans ha0), ((HB.out.cell (World.block_lt_of_cell? w _ ha1)).trans ha1), ((HB.out.cell (World.block_lt_of_cell? w _ ha2)).trans ha2), ((HB.out.cell (World.block_lt_of_cell? w _ ha3)).trans ha3), ((HB.out.cell (World.block_lt_of_cell? w _ ha4)).trans ha4), ((HB.out.cell (World.block_lt_of_cell? w _ hb0)).trans hb0), ((HB.out.cell (World.block_lt_of_cell? w _ hb1)).trans hb1), ((HB.out.cell (World.block_lt_of_cell? w _ hb2)).trans hb2), ((HB.out.cell (World.block_lt_of_cell? w _ hb3)).trans hb3), ((HB.out.cell (World.block_lt_of_cell? w _ hb4)).trans hb4)⟩ (fun hHeld => ?_)
     refine with_tabW laws_eqRxS.tab6 laws_eqRxS.bits6 (fun HT_ HW_ => ?_)
     generalize wr.drew = w9 at HB hHeld ⊢
     refine pure_ (i := 0) (N := some 17) (v := ?_) (a' := ?_) #[true, false, false, false, false, false, false, false, false, false] rfl rfl (any_of HT_.out (by kernel_rfl)) (fun _ _ _ h => h) (Or.inl ⟨by rfl, ?_⟩) ?_ ?_
     rotate_left
     ·
      intro w'
      go_simp
      with_reducible rfl
     rotate_left
     ·
      simp only [Act.put, List.setIfInBounds_toArray, List.set_cons_zero, List.set_cons_succ, i64_w, i32_w]
      rfl
     refine pure_ (i := 1) (N := some 18) (v := ?_) (a' := ?_) #[true, true, false, false, false, false, false, false, false, false] rfl rfl (any_of HT_.out (by kernel_rfl)) (fun _ _ _ h => h) (Or.inl ⟨by rfl, ?_⟩) ?_ ?_
     rotate_left
     ·
      intro w'
      go_simp
      with_reducible rfl
     rotate_left
     ·
      simp only [Act.put, List.setIfInBounds_toArray, List.set_cons_zero, List.set_cons_succ, i64_w, i32_w]
      rfl
     refine pure_ (i := 2) (N := some 19) (v := ?_) (a' := ?_) #[true, true, true, false, false, false, false, false, false, false] rfl rfl (any_of HT_.out (by kernel_rfl)) (fun _ _ _ h => h) (Or.inl ⟨by rfl, ?_⟩) ?_ ?_
     rotate_left
     ·
      intro w'
      go_simp
      with_reducible rfl
     rotate_left
     ·
      simp only [Act.put, List.setIfInBounds_toArray, List.set_cons_zero, List.set_cons_succ, i64_w, i32_w]
      rfl
     refine pure_ (i := 4) (N := some 21) (v := ?_) (a' := ?_) #[true, true, true, false, true, false, false, false, false, false] rfl rfl (any_of HT_.out (by kernel_rfl)) (fun _ _ _ h => h) (Or.inl ⟨by rfl, ?_⟩) ?_ ?_
     rotate_left
     ·
      intro w'
      go_simp
      with_reducible rfl
     rotate_left
     ·
      simp only [Act.put, List.setIfInBounds_toArray, List.set_cons_zero, List.set_cons_succ, i64_w, i32_w]
      rfl
     refine pure_ (i := 5) (N := some 22) (v := ?_) (a' := ?_) #[true, true, true, false, true, true, false, false, false, false] rfl rfl (any_of HT_.out (by kernel_rfl)) (fun _ _ _ h => h) (Or.inl ⟨by rfl, ?_⟩) ?_ ?_
     rotate_left
     ·
      intro w'
      go_simp
      with_reducible rfl
     rotate_left
     ·
      simp only [Act.put, List.setIfInBounds_toArray, List.set_cons_zero, List.set_cons_succ, i64_w, i32_w]
      rfl
     refine pure_ (i := 6) (N := some 23) (v := ?_) (a' := ?_) #[true, true, true, false, true, true, true, false, false, false] rfl rfl (any_of HT_.out (by kernel_rfl)) (fun _ _ _ h => h) (Or.inl ⟨by rfl, ?_⟩) ?_ ?_
     rotate_left
     ·
      intro w'
      go_simp
      with_reducible rfl
     rotate_left
     ·
      simp only [Act.put, List.setIfInBounds_toArray, List.set_cons_zero, List.set_cons_succ, i64_w, i32_w]
      rfl
     refine take_ (i := 3) (N := some 20) (v := ?_) (a' := ?_) #[true, true, true, true, true, true, true, false, false, false] rfl rfl (take_ofW HT_.out HW_.out (by kernel_rfl)) (fun _ _ _ h => h) (Or.inl ⟨by rfl, ?_⟩) hHeld ?_ ?_
     rotate_left
     ·
      rintro w' ⟨s0, s1, s2, s3, s4, s5, s6, s7, s8, s9⟩
      go_simp
      with_reducible rfl
     rotate_left
     ·
      simp only [Act.put, List.setIfInBounds_toArray, List.set_cons_zero, List.set_cons_succ, i64_w, i32_w]
      rfl
     refine take_ (i := 7) (N := some 24) (v := ?_) (a' := ?_) #[true, true, true, true, true, true, true, true, false, false] rfl rfl (take_ofW HT_.out HW_.out (by kernel_rfl)) (fun _ _ _ h => h) (Or.inl ⟨by rfl, ?_⟩) hHeld ?_ ?_
     rotate_left
     ·
      rintro w' ⟨s0, s1, s2, s3, s4, s5, s6, s7, s8, s9⟩
      go_simp
      with_reducible rfl
     rotate_left
     ·
      simp only [Act.put, List.setIfInBounds_toArray, List.set_cons_zero, List.set_cons_succ, i64_w, i32_w]
      rfl
     refine one_ (i := 8) (N := some 25) #[true, true, true, true, true, true, true, true, true, false] rfl rfl (one_of HT_.out (by kernel_rfl)) (by decide) (fun K hK => ?_)
     refine goes_ Try.func11 (by kernel_rfl) rfl #[.agg #[.int .i64 (rd_T31 l (i : Int)).f0, .int .i64 (rd_T31 l (i : Int)).f1, .int .i64 (rd_T31 l (i : Int)).f2, .string (rd_T31 l (i : Int)).f3, .slice A4 (rd_T31 l (i : Int)).f4.length c4], .agg #[.int .i64 (rd_T31 m (i : Int)).f0, .int .i64 (rd_T31 m (i : Int)).f1, .int .i64 (rd_T31 m (i : Int)).f2, .string (rd_T31 m (i : Int)).f3, .slice B4 (rd_T31 m (i : Int)).f4.length d4]] (by rfl) rfl rfl (by (try simp only [List.map_toArray, List.map_cons, List.map_nil]); first | done | rfl) ?_
     (with_reducible refine (IH.out (rd_T31 l (i : Int)) (rd_T31 m (i : Int)) SZ.out A4 c4 B4 d4 _ (Kd.C_below HX.out HB.out) HL4.out (Kd.C_below HY.out HB.out) HM4.out).mono ?_)
     rintro e w2 ⟨he, hb⟩
     rw [EV.out] at he
     subst he
     refine ⟨_, rfl, ?_⟩
     replace HB := am (below_step HB.out hb)
     clear hb
     refine hK.out _ _ ⟨((HB.out.cell (World.block_lt_of_cell? w _ ha0)).trans ha0), ((HB.out.cell (World.block_lt_of_cell? w _ ha1)).trans ha1), ((HB.out.cell (World.block_lt_of_cell? w _ ha2)).trans ha2), ((HB.out.cell (World.block_lt_of_cell? w _ ha3)).trans ha3), ((HB.out.cell (World.block_lt_of_cell? w _ ha4)).trans ha4), ((HB.out.cell (World.block_lt_of_cell? w _ hb0)).trans hb0), ((HB.out.cell (World.block_lt_of_cell? w _ hb1)).trans hb1), ((HB.out.cell (World.block_lt_of_cell? w _ hb2)).trans hb2), ((HB.out.cell (World.block_lt_of_cell? w _ hb3)).trans hb3), ((HB.out.cell (World.block_lt_of_cell? w _ hb4)).trans hb4)⟩ (fun hHeld => ?_)
     clear hK K
     refine nm ?_
     refine pure_ (i := 9) (N := some 26) (v := ?_) (a' := ?_) #[true, true, true, true, true, true, true, true, true, true] rfl rfl (any_of HT_.out (by kernel_rfl)) (fun _ _ _ h => h) (Or.inl ⟨by rfl, ?_⟩) ?_ ?_
     rotate_left
     ·
      intro w'
      go_simp
      with_reducible rfl
     rotate_left
     ·
      simp only [Act.put, List.setIfInBounds_toArray, List.set_cons_zero, List.set_cons_succ, i64_w, i32_w]
      rfl
     refine dn HT_ ?_
     cases z with
     | true =>
      have HE := am (show laws_eqRxS.g l m = laws_eqRx.go (l.drop (i + 1)) (m.drop (i + 1)) by rw [HI.out, HS.out, Bool.true_and])
      go_wp2
      go_roundg k1
      case measure => have := HK.out; omega
      case rel => exact ⟨i + 1, by first | rfl | (simp only [hw]) | simp, ⟨by have := HK.out; omega⟩, HE, HB⟩
     | false =>
      have HE := am (show laws_eqRxS.g l m = false by rw [HI.out, HS.out, Bool.false_and])
      go_wp2
      go_ret
      exact ⟨by rw [HE.out]; rfl, HB.out⟩
    have hlt : decide ((i : Int) < (l.length : Int)) = false := decide_eq_false (by omega)
    have hltn : decide (i < l.length) = false := decide_eq_false (by omega)
    have HE := am (FIN.out hi)
    go_wp2
    go_ret
    exact ⟨by rw [HE.out]; rfl, HB.out⟩
 have HE := am (show laws_eqRxS.g l m = false by unfold laws_eqRxS.g; rw [decide_eq_false c, Bool.false_and])
 have c1 : ((l.length : Int) == (m.length : Int)) = false := bo
 have c2 : ((l.length : Int) != (m.length : Int)) = true := bne_iff_ne.mpr (by omega)
 have c3 : (l.length == m.length) = false := beq_eq_false_iff_ne.mpr c
 have c4 : (l.length != m.length) = true := bne_iff_ne.mpr c
 clear c
 go_enter Try.func32, Try.ntmps32
 go_wp2
 go_ret
 exact ⟨by rw [HE.out]; rfl, HB.out⟩
theorem laws_eqRx.step (n : Nat) (hS : ∀ l m : List S31, SizeOf.sizeOf l ≤ n → ∀ (A0 : Option Addr) (c0 : Nat) (B0 : Option Addr) (d0 : Nat) (w : World), k31.C w A0 l.length l → l.length ≤ c0 → k31.C w B0 m.length m → m.length ≤ d0 → Calls Try.prog 32 #[.slice A0 l.length c0, .slice B0 m.length d0] w fun e w' => e = .returned (.bool (laws_eqRxS.g l m)) ∧ Below w.heap.size w w')
  (a0 a1 a2 : Int) (a3 : ByteArray) (a4 : List S31) (b0 b1 b2 : Int) (b3 : ByteArray) (b4 : List S31) (hn : SizeOf.sizeOf a4 ≤ n) (A4 : Option Addr) (c4 : Nat) (B4 : Option Addr) (d4 : Nat) (w : World) (hr : k31.C w A4 a4.length a4) (hc : a4.length ≤ c4) (hr2 : k31.C w B4 b4.length b4) (hc2 : b4.length ≤ d4) :
  Calls Try.prog 11 #[.agg #[.int .i64 a0, .int .i64 a1, .int .i64 a2, .string a3, .slice A4 a4.length c4], .agg #[.int .i64 b0, .int .i64 b1, .int .i64 b2, .string b3, .slice B4 b4.length d4]] w fun e w' => e = .returned (.bool (laws_eqRx.g ⟨a0, a1, a2, a3, a4⟩ ⟨b0, b1, b2, b3, b4⟩)) ∧ Below w.heap.size w w' := by
 have hu := Try.underlying31
 have HB := am (Below.refl w.heap.size w)
 have HR := am hr
 have HC := am hc
 have HR2 := am hr2
 have HC2 := am hc2
 have HSS := am hS
 have HNN := am hn
 clear hr hc hr2 hc2 hS hn
 have GE := am (show laws_eqRx.g ⟨a0, a1, a2, a3, a4⟩ ⟨b0, b1, b2, b3, b4⟩ = ((a0 == b0) && ((a1 == b1) && ((a2 == b2) && ((a3.toList == b3.toList) && laws_eqRxS.g a4 b4)))) by rw [laws_eqRx.g, laws_eqRxS.g])
 generalize laws_eqRx.g ⟨a0, a1, a2, a3, a4⟩ ⟨b0, b1, b2, b3, b4⟩ = G at GE ⊢
 obtain ⟨z, hz⟩ : ∃ z_, z_ = laws_eqRxS.g a4 b4 := ⟨_, rfl⟩
 have EV := am hz.symm
 rw [← hz] at GE
 clear hz
 cases h0 : (a0 == b0) with
 | false =>
  have g0 : (a0 != b0) = true := by simp only [bne, h0, Bool.not_false]
  have HG := GE.out
  simp only [h0, Bool.false_and] at HG
  subst HG
  clear GE
  go_enter Try.func11, Try.ntmps11
  go_wp2_with (first | ((with_reducible refine gate_dst (N := 2) rfl ?_); refine box_event ?hg2 (N := 2) ?hd2 (cs := #[.int .i64 a0, .int .i64 a1, .int .i64 a2, .string a3, .slice A4 a4.length c4]) (t := 31) ?hr2 ?_; (case hd2 => rfl); (case hg2 => rfl); (case hr2 => first | (go_simp; done) | (go_simp; rfl)); intro g2 hg w2 hbox hb; replace HB := am (below_step HB.out hb); have H2 := am hbox; clear hb hg) | ((with_reducible refine gate_dst (N := 3) rfl ?_); refine box_event ?hg3 (N := 3) ?hd3 (cs := #[.int .i64 b0, .int .i64 b1, .int .i64 b2, .string b3, .slice B4 b4.length d4]) (t := 31) ?hr3 ?_; (case hd3 => rfl); (case hg3 => rfl); (case hr3 => first | (go_simp; done) | (go_simp; rfl)); intro g3 hg w3 hbox hb; replace HB := am (below_step HB.out hb); have x2_0 := (blk_cell H2.out 0).trans (show _ = some (.int .i64 a0) from rfl); replace x2_0 := (hb.cell (World.block_lt_of_cell? _ _ x2_0)).trans x2_0; have x3_0 := (blk_cell hbox 0).trans (show _ = some (.int .i64 b0) from rfl); have x2_1 := (blk_cell H2.out 1).trans (show _ = some (.int .i64 a1) from rfl); replace x2_1 := (hb.cell (World.block_lt_of_cell? _ _ x2_1)).trans x2_1; have x3_1 := (blk_cell hbox 1).trans (show _ = some (.int .i64 b1) from rfl); have x2_2 := (blk_cell H2.out 2).trans (show _ = some (.int .i64 a2) from rfl); replace x2_2 := (hb.cell (World.block_lt_of_cell? _ _ x2_2)).trans x2_2; have x3_2 := (blk_cell hbox 2).trans (show _ = some (.int .i64 b2) from rfl); have x2_3 := (blk_cell H2.out 3).trans (show _ = some (.string a3) from rfl); replace x2_3 := (hb.cell (World.block_lt_of_cell? _ _ x2_3)).trans x2_3; have x3_3 := (blk_cell hbox 3).trans (show _ = some (.string b3) from rfl); have x2_4 := (blk_cell H2.out 4).trans (show _ = some (.slice A4 a4.length c4) from rfl); replace x2_4 := (hb.cell (World.block_lt_of_cell? _ _ x2_4)).trans x2_4; have x3_4 := (blk_cell hbox 4).trans (show _ = some (.slice B4 b4.length d4) from rfl); clear hb hg) | ((with_reducible refine gate_dst (N := 29) rfl ?_); refine goesL_ (some 29) rfl rfl Try.func32 (by kernel_rfl) rfl #[.slice A4 a4.length c4, .slice B4 b4.length d4] rfl (by (try simp only [List.map_toArray, List.map_cons, List.map_nil]); first | done | rfl) ?_; (with_reducible refine (HSS.out a4 b4 HNN.out A4 c4 B4 d4 _ (Kd.C_below HR.out HB.out) HC.out (Kd.C_below HR2.out HB.out) HC2.out).mono ?_); rintro e w2 ⟨he, hb⟩; rw [EV.out] at he; subst he; refine ⟨_, rfl, ?_⟩; replace HB := am (below_step HB.out hb); clear hb))
  go_ret
  exact ⟨rfl, HB.out⟩
 | true =>
  have g0 : (a0 != b0) = false := by simp only [bne, h0, Bool.not_true]
  have e0 := GE.out
  rw [h0, Bool.true_and] at e0
  clear GE
  have GE := am e0
  clear e0
  cases h1 : (a1 == b1) with
  | false =>
   have g1 : (a1 != b1) = true := by simp only [bne, h1, Bool.not_false]
   have HG := GE.out
   simp only [h1, Bool.false_and] at HG
   subst HG
   clear GE
   go_enter Try.func11, Try.ntmps11
   go_wp2_with (first | ((with_reducible refine gate_dst (N := 2) rfl ?_); refine box_event ?hg2 (N := 2) ?hd2 (cs := #[.int .i64 a0, .int .i64 a1, .int .i64 a2, .string a3, .slice A4 a4.length c4]) (t := 31) ?hr2 ?_; (case hd2 => rfl); (case hg2 => rfl); (case hr2 => first | (go_simp; done) | (go_simp; rfl)); intro g2 hg w2 hbox hb; replace HB := am (below_step HB.out hb); have H2 := am hbox; clear hb hg) | ((with_reducible refine gate_dst (N := 3) rfl ?_); refine box_event ?hg3 (N := 3) ?hd3 (cs := #[.int .i64 b0, .int .i64 b1, .int .i64 b2, .string b3, .slice B4 b4.length d4]) (t := 31) ?hr3 ?_; (case hd3 => rfl); (case hg3 => rfl); (case hr3 => first | (go_simp; done) | (go_simp; rfl)); intro g3 hg w3 hbox hb; replace HB := am (below_step HB.out hb); have x2_0 := (blk_cell H2.out 0).trans (show _ = some (.int .i64 a0) from rfl); replace x2_0 := (hb.cell (World.block_lt_of_cell? _ _ x2_0)).trans x2_0; have x3_0 := (blk_cell hbox 0).trans (show _ = some (.int .i64 b0) from rfl); have x2_1 := (blk_cell H2.out 1).trans (show _ = some (.int .i64 a1) from rfl); replace x2_1 := (hb.cell (World.block_lt_of_cell? _ _ x2_1)).trans x2_1; have x3_1 := (blk_cell hbox 1).trans (show _ = some (.int .i64 b1) from rfl); have x2_2 := (blk_cell H2.out 2).trans (show _ = some (.int .i64 a2) from rfl); replace x2_2 := (hb.cell (World.block_lt_of_cell? _ _ x2_2)).trans x2_2; have x3_2 := (blk_cell hbox 2).trans (show _ = some (.int .i64 b2) from rfl); have x2_3 := (blk_cell H2.out 3).trans (show _ = some (.string a3) from rfl); replace x2_3 := (hb.cell (World.block_lt_of_cell? _ _ x2_3)).trans x2_3; have x3_3 := (blk_cell hbox 3).trans (show _ = some (.string b3) from rfl); have x2_4 := (blk_cell H2.out 4).trans (show _ = some (.slice A4 a4.length c4) from rfl); replace x2_4 := (hb.cell (World.block_lt_of_cell? _ _ x2_4)).trans x2_4; have x3_4 := (blk_cell hbox 4).trans (show _ = some (.slice B4 b4.length d4) from rfl); clear hb hg) | ((with_reducible refine gate_dst (N := 29) rfl ?_); refine goesL_ (some 29) rfl rfl Try.func32 (by kernel_rfl) rfl #[.slice A4 a4.length c4, .slice B4 b4.length d4] rfl (by (try simp only [List.map_toArray, List.map_cons, List.map_nil]); first | done | rfl) ?_; (with_reducible refine (HSS.out a4 b4 HNN.out A4 c4 B4 d4 _ (Kd.C_below HR.out HB.out) HC.out (Kd.C_below HR2.out HB.out) HC2.out).mono ?_); rintro e w2 ⟨he, hb⟩; rw [EV.out] at he; subst he; refine ⟨_, rfl, ?_⟩; replace HB := am (below_step HB.out hb); clear hb))
   go_ret
   exact ⟨rfl, HB.out⟩
  | true =>
   have g1 : (a1 != b1) = false := by simp only [bne, h1, Bool.not_true]
   have e0 := GE.out
   rw [h1, Bool.true_and] at e0
   clear GE
   have GE := am e0
   clear e0
   cases h2 : (a2 == b2) with
   | false =>
    have g2 : (a2 != b2) = true := by simp only [bne, h2, Bool.not_false]
    have HG := GE.out
    simp only [h2, Bool.false_and] at HG
    subst HG
    clear GE
    go_enter Try.func11, Try.ntmps11
    go_wp2_with (first | ((with_reducible refine gate_dst (N := 2) rfl ?_); refine box_event ?hg2 (N := 2) ?hd2 (cs := #[.int .i64 a0, .int .i64 a1, .int .i64 a2, .string a3, .slice A4 a4.length c4]) (t := 31) ?hr2 ?_; (case hd2 => rfl); (case hg2 => rfl); (case hr2 => first | (go_simp; done) | (go_simp; rfl)); intro g2 hg w2 hbox hb; replace HB := am (below_step HB.out hb); have H2 := am hbox; clear hb hg) | ((with_reducible refine gate_dst (N := 3) rfl ?_); refine box_event ?hg3 (N := 3) ?hd3 (cs := #[.int .i64 b0, .int .i64 b1, .int .i64 b2, .string b3, .slice B4 b4.length d4]) (t := 31) ?hr3 ?_; (case hd3 => rfl); (case hg3 => rfl); (case hr3 => first | (go_simp; done) | (go_simp; rfl)); intro g3 hg w3 hbox hb; replace HB := am (below_step HB.out hb); have x2_0 := (blk_cell H2.out 0).trans (show _ = some (.int .i64 a0) from rfl); replace x2_0 := (hb.cell (World.block_lt_of_cell? _ _ x2_0)).trans x2_0; have x3_0 := (blk_cell hbox 0).trans (show _ = some (.int .i64 b0) from rfl); have x2_1 := (blk_cell H2.out 1).trans (show _ = some (.int .i64 a1) from rfl); replace x2_1 := (hb.cell (World.block_lt_of_cell? _ _ x2_1)).trans x2_1; have x3_1 := (blk_cell hbox 1).trans (show _ = some (.int .i64 b1) from rfl); have x2_2 := (blk_cell H2.out 2).trans (show _ = some (.int .i64 a2) from rfl); replace x2_2 := (hb.cell (World.block_lt_of_cell? _ _ x2_2)).trans x2_2; have x3_2 := (blk_cell hbox 2).trans (show _ = some (.int .i64 b2) from rfl); have x2_3 := (blk_cell H2.out 3).trans (show _ = some (.string a3) from rfl); replace x2_3 := (hb.cell (World.block_lt_of_cell? _ _ x2_3)).trans x2_3; have x3_3 := (blk_cell hbox 3).trans (show _ = some (.string b3) from rfl); have x2_4 := (blk_cell H2.out 4).trans (show _ = some (.slice A4 a4.length c4) from rfl); replace x2_4 := (hb.cell (World.block_lt_of_cell? _ _ x2_4)).trans x2_4; have x3_4 := (blk_cell hbox 4).trans (show _ = some (.slice B4 b4.length d4) from rfl); clear hb hg) | ((with_reducible refine gate_dst (N := 29) rfl ?_); refine goesL_ (some 29) rfl rfl Try.func32 (by kernel_rfl) rfl #[.slice A4 a4.length c4, .slice B4 b4.length d4] rfl (by (try simp only [List.map_toArray, List.map_cons, List.map_nil]); first | done | rfl) ?_; (with_reducible refine (HSS.out a4 b4 HNN.out A4 c4 B4 d4 _ (Kd.C_below HR.out HB.out) HC.out (Kd.C_below HR2.out HB.out) HC2.out).mono ?_); rintro e w2 ⟨he, hb⟩; rw [EV.out] at he; subst he; refine ⟨_, rfl, ?_⟩; replace HB := am (below_step HB.out hb); clear hb))
    go_ret
    exact ⟨rfl, HB.out⟩
   | true =>
    have g2 : (a2 != b2) = false := by simp only [bne, h2, Bool.not_true]
    have e0 := GE.out
    rw [h2, Bool.true_and] at e0
    clear GE
    have GE := am e0
    clear e0
    cases h3 : (a3.toList == b3.toList) with
    | false =>
     have g3 : (a3.toList != b3.toList) = true := by simp only [bne, h3, Bool.not_false]
     have HG := GE.out
     simp only [h3, Bool.false_and] at HG
     subst HG
     clear GE
     go_enter Try.func11, Try.ntmps11
     go_wp2_with (first | ((with_reducible refine gate_dst (N := 2) rfl ?_); refine box_event ?hg2 (N := 2) ?hd2 (cs := #[.int .i64 a0, .int .i64 a1, .int .i64 a2, .string a3, .slice A4 a4.length c4]) (t := 31) ?hr2 ?_; (case hd2 => rfl); (case hg2 => rfl); (case hr2 => first | (go_simp; done) | (go_simp; rfl)); intro g2 hg w2 hbox hb; replace HB := am (below_step HB.out hb); have H2 := am hbox; clear hb hg) | ((with_reducible refine gate_dst (N := 3) rfl ?_); refine box_event ?hg3 (N := 3) ?hd3 (cs := #[.int .i64 b0, .int .i64 b1, .int .i64 b2, .string b3, .slice B4 b4.length d4]) (t := 31) ?hr3 ?_; (case hd3 => rfl); (case hg3 => rfl); (case hr3 => first | (go_simp; done) | (go_simp; rfl)); intro g3 hg w3 hbox hb; replace HB := am (below_step HB.out hb); have x2_0 := (blk_cell H2.out 0).trans (show _ = some (.int .i64 a0) from rfl); replace x2_0 := (hb.cell (World.block_lt_of_cell? _ _ x2_0)).trans x2_0; have x3_0 := (blk_cell hbox 0).trans (show _ = some (.int .i64 b0) from rfl); have x2_1 := (blk_cell H2.out 1).trans (show _ = some (.int .i64 a1) from rfl); replace x2_1 := (hb.cell (World.block_lt_of_cell? _ _ x2_1)).trans x2_1; have x3_1 := (blk_cell hbox 1).trans (show _ = some (.int .i64 b1) from rfl); have x2_2 := (blk_cell H2.out 2).trans (show _ = some (.int .i64 a2) from rfl); replace x2_2 := (hb.cell (World.block_lt_of_cell? _ _ x2_2)).trans x2_2; have x3_2 := (blk_cell hbox 2).trans (show _ = some (.int .i64 b2) from rfl); have x2_3 := (blk_cell H2.out 3).trans (show _ = some (.string a3) from rfl); replace x2_3 := (hb.cell (World.block_lt_of_cell? _ _ x2_3)).trans x2_3; have x3_3 := (blk_cell hbox 3).trans (show _ = some (.string b3) from rfl); have x2_4 := (blk_cell H2.out 4).trans (show _ = some (.slice A4 a4.length c4) from rfl); replace x2_4 := (hb.cell (World.block_lt_of_cell? _ _ x2_4)).trans x2_4; have x3_4 := (blk_cell hbox 4).trans (show _ = some (.slice B4 b4.length d4) from rfl); clear hb hg) | ((with_reducible refine gate_dst (N := 29) rfl ?_); refine goesL_ (some 29) rfl rfl Try.func32 (by kernel_rfl) rfl #[.slice A4 a4.length c4, .slice B4 b4.length d4] rfl (by (try simp only [List.map_toArray, List.map_cons, List.map_nil]); first | done | rfl) ?_; (with_reducible refine (HSS.out a4 b4 HNN.out A4 c4 B4 d4 _ (Kd.C_below HR.out HB.out) HC.out (Kd.C_below HR2.out HB.out) HC2.out).mono ?_); rintro e w2 ⟨he, hb⟩; rw [EV.out] at he; subst he; refine ⟨_, rfl, ?_⟩; replace HB := am (below_step HB.out hb); clear hb))
     go_ret
     exact ⟨rfl, HB.out⟩
    | true =>
     have g3 : (a3.toList != b3.toList) = false := by simp only [bne, h3, Bool.not_true]
     have e0 := GE.out
     rw [h3, Bool.true_and] at e0
     clear GE
     have GE := am e0
     clear e0
     have HG := GE.out
     subst HG
     cases G with
     | true =>
      go_enter Try.func11, Try.ntmps11
      go_wp2_with (first | ((with_reducible refine gate_dst (N := 2) rfl ?_); refine box_event ?hg2 (N := 2) ?hd2 (cs := #[.int .i64 a0, .int .i64 a1, .int .i64 a2, .string a3, .slice A4 a4.length c4]) (t := 31) ?hr2 ?_; (case hd2 => rfl); (case hg2 => rfl); (case hr2 => first | (go_simp; done) | (go_simp; rfl)); intro g2 hg w2 hbox hb; replace HB := am (below_step HB.out hb); have H2 := am hbox; clear hb hg) | ((with_reducible refine gate_dst (N := 3) rfl ?_); refine box_event ?hg3 (N := 3) ?hd3 (cs := #[.int .i64 b0, .int .i64 b1, .int .i64 b2, .string b3, .slice B4 b4.length d4]) (t := 31) ?hr3 ?_; (case hd3 => rfl); (case hg3 => rfl); (case hr3 => first | (go_simp; done) | (go_simp; rfl)); intro g3 hg w3 hbox hb; replace HB := am (below_step HB.out hb); have x2_0 := (blk_cell H2.out 0).trans (show _ = some (.int .i64 a0) from rfl); replace x2_0 := (hb.cell (World.block_lt_of_cell? _ _ x2_0)).trans x2_0; have x3_0 := (blk_cell hbox 0).trans (show _ = some (.int .i64 b0) from rfl); have x2_1 := (blk_cell H2.out 1).trans (show _ = some (.int .i64 a1) from rfl); replace x2_1 := (hb.cell (World.block_lt_of_cell? _ _ x2_1)).trans x2_1; have x3_1 := (blk_cell hbox 1).trans (show _ = some (.int .i64 b1) from rfl); have x2_2 := (blk_cell H2.out 2).trans (show _ = some (.int .i64 a2) from rfl); replace x2_2 := (hb.cell (World.block_lt_of_cell? _ _ x2_2)).trans x2_2; have x3_2 := (blk_cell hbox 2).trans (show _ = some (.int .i64 b2) from rfl); have x2_3 := (blk_cell H2.out 3).trans (show _ = some (.string a3) from rfl); replace x2_3 := (hb.cell (World.block_lt_of_cell? _ _ x2_3)).trans x2_3; have x3_3 := (blk_cell hbox 3).trans (show _ = some (.string b3) from rfl); have x2_4 := (blk_cell H2.out 4).trans (show _ = some (.slice A4 a4.length c4) from rfl); replace x2_4 := (hb.cell (World.block_lt_of_cell? _ _ x2_4)).trans x2_4; have x3_4 := (blk_cell hbox 4).trans (show _ = some (.slice B4 b4.length d4) from rfl); clear hb hg) | ((with_reducible refine gate_dst (N := 29) rfl ?_); refine goesL_ (some 29) rfl rfl Try.func32 (by kernel_rfl) rfl #[.slice A4 a4.length c4, .slice B4 b4.length d4] rfl (by (try simp only [List.map_toArray, List.map_cons, List.map_nil]); first | done | rfl) ?_; (with_reducible refine (HSS.out a4 b4 HNN.out A4 c4 B4 d4 _ (Kd.C_below HR.out HB.out) HC.out (Kd.C_below HR2.out HB.out) HC2.out).mono ?_); rintro e w2 ⟨he, hb⟩; rw [EV.out] at he; subst he; refine ⟨_, rfl, ?_⟩; replace HB := am (below_step HB.out hb); clear hb))
      go_ret
      exact ⟨rfl, HB.out⟩
     | false =>
      go_enter Try.func11, Try.ntmps11
      go_wp2_with (first | ((with_reducible refine gate_dst (N := 2) rfl ?_); refine box_event ?hg2 (N := 2) ?hd2 (cs := #[.int .i64 a0, .int .i64 a1, .int .i64 a2, .string a3, .slice A4 a4.length c4]) (t := 31) ?hr2 ?_; (case hd2 => rfl); (case hg2 => rfl); (case hr2 => first | (go_simp; done) | (go_simp; rfl)); intro g2 hg w2 hbox hb; replace HB := am (below_step HB.out hb); have H2 := am hbox; clear hb hg) | ((with_reducible refine gate_dst (N := 3) rfl ?_); refine box_event ?hg3 (N := 3) ?hd3 (cs := #[.int .i64 b0, .int .i64 b1, .int .i64 b2, .string b3, .slice B4 b4.length d4]) (t := 31) ?hr3 ?_; (case hd3 => rfl); (case hg3 => rfl); (case hr3 => first | (go_simp; done) | (go_simp; rfl)); intro g3 hg w3 hbox hb; replace HB := am (below_step HB.out hb); have x2_0 := (blk_cell H2.out 0).trans (show _ = some (.int .i64 a0) from rfl); replace x2_0 := (hb.cell (World.block_lt_of_cell? _ _ x2_0)).trans x2_0; have x3_0 := (blk_cell hbox 0).trans (show _ = some (.int .i64 b0) from rfl); have x2_1 := (blk_cell H2.out 1).trans (show _ = some (.int .i64 a1) from rfl); replace x2_1 := (hb.cell (World.block_lt_of_cell? _ _ x2_1)).trans x2_1; have x3_1 := (blk_cell hbox 1).trans (show _ = some (.int .i64 b1) from rfl); have x2_2 := (blk_cell H2.out 2).trans (show _ = some (.int .i64 a2) from rfl); replace x2_2 := (hb.cell (World.block_lt_of_cell? _ _ x2_2)).trans x2_2; have x3_2 := (blk_cell hbox 2).trans (show _ = some (.int .i64 b2) from rfl); have x2_3 := (blk_cell H2.out 3).trans (show _ = some (.string a3) from rfl); replace x2_3 := (hb.cell (World.block_lt_of_cell? _ _ x2_3)).trans x2_3; have x3_3 := (blk_cell hbox 3).trans (show _ = some (.string b3) from rfl); have x2_4 := (blk_cell H2.out 4).trans (show _ = some (.slice A4 a4.length c4) from rfl); replace x2_4 := (hb.cell (World.block_lt_of_cell? _ _ x2_4)).trans x2_4; have x3_4 := (blk_cell hbox 4).trans (show _ = some (.slice B4 b4.length d4) from rfl); clear hb hg) | ((with_reducible refine gate_dst (N := 29) rfl ?_); refine goesL_ (some 29) rfl rfl Try.func32 (by kernel_rfl) rfl #[.slice A4 a4.length c4, .slice B4 b4.length d4] rfl (by (try simp only [List.map_toArray, List.map_cons, List.map_nil]); first | done | rfl) ?_; (with_reducible refine (HSS.out a4 b4 HNN.out A4 c4 B4 d4 _ (Kd.C_below HR.out HB.out) HC.out (Kd.C_below HR2.out HB.out) HC2.out).mono ?_); rintro e w2 ⟨he, hb⟩; rw [EV.out] at he; subst he; refine ⟨_, rfl, ?_⟩; replace HB := am (below_step HB.out hb); clear hb))
      go_ret
      exact ⟨rfl, HB.out⟩
theorem laws_eqRx.any : ∀ n : Nat, (∀ l m : List S31, SizeOf.sizeOf l ≤ n → ∀ (A0 : Option Addr) (c0 : Nat) (B0 : Option Addr) (d0 : Nat) (w : World), k31.C w A0 l.length l → l.length ≤ c0 → k31.C w B0 m.length m → m.length ≤ d0 → Calls Try.prog 32 #[.slice A0 l.length c0, .slice B0 m.length d0] w fun e w' => e = .returned (.bool (laws_eqRxS.g l m)) ∧ Below w.heap.size w w') ∧ (∀ x y : S31, SizeOf.sizeOf x ≤ n → ∀ (A4 : Option Addr) (c4 : Nat) (B4 : Option Addr) (d4 : Nat) (w : World), k31.C w A4 x.f4.length x.f4 → x.f4.length ≤ c4 → k31.C w B4 y.f4.length y.f4 → y.f4.length ≤ d4 → Calls Try.prog 11 #[.agg #[.int .i64 x.f0, .int .i64 x.f1, .int .i64 x.f2, .string x.f3, .slice A4 x.f4.length c4], .agg #[.int .i64 y.f0, .int .i64 y.f1, .int .i64 y.f2, .string y.f3, .slice B4 y.f4.length d4]] w fun e w' => e = .returned (.bool (laws_eqRx.g x y)) ∧ Below w.heap.size w w')
 | 0 => ⟨fun l m h => by cases l <;> simp at h, fun x y h => by cases x; simp at h⟩
 | n + 1 => by
  obtain ⟨i1, i2⟩ := laws_eqRx.any n
  refine ⟨fun l m h A0 c0 B0 d0 w hr hc hr2 hc2 => laws_eqRxS.step n i2 l m h A0 c0 B0 d0 w hr hc hr2 hc2, fun x y h A4 c4 B4 d4 w hr hc hr2 hc2 => ?_⟩
  obtain ⟨a0, a1, a2, a3, a4⟩ := x
  obtain ⟨b0, b1, b2, b3, b4⟩ := y
  exact laws_eqRx.step n i1 a0 a1 a2 a3 a4 b0 b1 b2 b3 b4 (by simp at h; omega) A4 c4 B4 d4 w hr hc hr2 hc2
def laws_eqRxS.f (l0 : List (S31)) (l1 : List (S31)) : Option (Bool) := some (laws_eqRxS.g l0 l1)
def laws_eqRx.f (a0_0 : Int) (a0_1 : Int) (a0_2 : Int) (a0_3 : ByteArray) (l0_4 : List (S31)) (a1_0 : Int) (a1_1 : Int) (a1_2 : Int) (a1_3 : ByteArray) (l1_4 : List (S31)) : Option (Bool) := some (laws_eqRx.g ⟨a0_0, a0_1, a0_2, a0_3, l0_4⟩ ⟨a1_0, a1_1, a1_2, a1_3, l1_4⟩)
theorem laws_eqRx.calls (a0_0 : Int) (a0_1 : Int) (a0_2 : Int) (a0_3 : ByteArray) (A0_4 : Option Addr) (c0_4 : Nat) (l0_4 : List (S31)) (a1_0 : Int) (a1_1 : Int) (a1_2 : Int) (a1_3 : ByteArray) (A1_4 : Option Addr) (c1_4 : Nat) (l1_4 : List (S31)) (r : Bool) (w : World) (hr0_4 : Kd.C k31 w A0_4 l0_4.length l0_4) (hc0_4 : l0_4.length ≤ c0_4) (hr1_4 : Kd.C k31 w A1_4 l1_4.length l1_4) (hc1_4 : l1_4.length ≤ c1_4) (h : laws_eqRx.f a0_0 a0_1 a0_2 a0_3 l0_4 a1_0 a1_1 a1_2 a1_3 l1_4 = some r) :
  Calls Try.prog 11 #[.agg #[.int .i64 a0_0, .int .i64 a0_1, .int .i64 a0_2, .string a0_3, .slice A0_4 l0_4.length c0_4], .agg #[.int .i64 a1_0, .int .i64 a1_1, .int .i64 a1_2, .string a1_3, .slice A1_4 l1_4.length c1_4]] w fun e w' => e = .returned (.bool r) ∧ Below w.heap.size w w' := by
 obtain rfl := Option.some.inj h
 exact (laws_eqRx.any _).2 ⟨a0_0, a0_1, a0_2, a0_3, l0_4⟩ ⟨a1_0, a1_1, a1_2, a1_3, l1_4⟩ (Nat.le_refl _) A0_4 c0_4 A1_4 c1_4 w hr0_4 hc0_4 hr1_4 hc1_4


def laws_markText.l0 : Nat → Int → ByteArray → Option (ByteArray)
 | 0, _, _ => none
 | k + 1, x0, x3 => if x0 > 0 then ((some (([(wrap64 (48 + (Int.tmod x0 10))) % 256] : List Int) : List Int)).bind fun y171 => (if (strOfNums y171).size + x3.size ≤ 9223372036854775807 then (laws_markText.l0 k (wrap64 (Int.tdiv x0 10)) ((strOfNums y171) ++ x3)) else (none))) else (if 1 + x3.size ≤ 9223372036854775807 then (some ((⟨#[109]⟩ : ByteArray) ++ x3)) else (none))
def laws_markText.f (k : Nat) (a0 : Int) : Option (ByteArray) := if a0 ≤ 0 then (some (⟨#[109, 48]⟩ : ByteArray)) else (laws_markText.l0 k a0 (⟨#[]⟩ : ByteArray))
theorem laws_markText.calls (k : Nat) (a0 : Int) (r : ByteArray) (w : World) (h : laws_markText.f k a0 = some r) :
  Calls Try.prog 47 #[.int .i64 a0] w fun e w' => e = .returned (.string r) ∧ Below w.heap.size w w' := by
 have HB := am (Below.refl w.heap.size w)
 have H : (if a0 ≤ 0 then (some (⟨#[109, 48]⟩ : ByteArray)) else (laws_markText.l0 k a0 (⟨#[]⟩ : ByteArray))) = some r := h
 clear h
 by_cases c2 : a0 ≤ 0
 ·
  rw [if_pos c2] at H
  have c2b0 : decide (a0 ≤ 0) = true := decide_eq_true c2
  clear c2
  as_aux_lemma =>
   obtain rfl := Option.some.inj H
   go_enter Try.func47, Try.ntmps47
   go_wp2
   go_ret
   exact ⟨by first | rfl | (simp [errW_none, errW_some] <;> rfl) | (simp [*, errW_none, errW_some] <;> rfl), by repeat (first | (with_reducible first | exact HB.out | apply below_alloc | apply pw_below_drewN | apply below_drew1) | exact HB.out)⟩
 rw [if_neg c2] at H
 have c2b0 : decide (a0 ≤ 0) = false := decide_eq_false c2
 clear c2
 have H' := am H
 clear H
 go_enter Try.func47, Try.ntmps47
 go_wp2
 go_loopg [0, 3] k (fun kq v0 v3 w' => ∃ (x0_1 : Int) (x3_1 : ByteArray), v0 = .int .i64 x0_1 ∧ v3 = .string x3_1 ∧ Aside0 (laws_markText.l0 kq x0_1 x3_1 = some r) ∧ Aside0 (kq ≤ k) ∧ Aside0 (Below w.heap.size w w'))
 case atStart => exact ⟨(a0), ((⟨#[]⟩ : ByteArray)), fs, fs, H', ⟨Nat.le_refl _⟩, ⟨by repeat (first | (with_reducible first | exact HB.out | apply below_alloc | apply pw_below_drewN | apply below_drew1) | exact HB.out)⟩⟩
 case round =>
  clear H'
  try clear c2
  try clear c2b0
  obtain ⟨x0_1, x3_1, rfl, rfl, HA, HK1, HB⟩ := hrel
  cases gk with
  | zero => exact absurd HA.out (by simp [laws_markText.l0])
  | succ k1 =>
   have H := HA.out
   clear HA
   simp only [laws_markText.l0] at H
   by_cases c3 : x0_1 > 0
   ·
    rw [if_pos c3] at H
    have c3b0 : decide (0 < x0_1) = true := decide_eq_true c3
    clear c3
    obtain ⟨y171, hy171⟩ : ∃ y_ : List Int, y_ = (([(wrap64 (48 + (Int.tmod x0_1 10))) % 256] : List Int)) := ⟨_, rfl⟩
    replace H : (if (strOfNums y171).size + x3_1.size ≤ 9223372036854775807 then (laws_markText.l0 k1 (wrap64 (Int.tdiv x0_1 10)) ((strOfNums y171) ++ x3_1)) else (none)) = some r := by first | (rw [hy171]; with_reducible exact H) | (have H2_ := (Option.bind_some _ _).symm.trans H; rw [hy171]; with_reducible exact H2_) | (have H2_ := (Option.bind_some _ _).symm.trans H; with_reducible exact H2_) | with_reducible exact H | (rw [hy171]; exact H) | exact H
    have Ny171 := am hy171
    clear hy171
    by_cases c4 : (strOfNums y171).size + x3_1.size ≤ 9223372036854775807
    ·
     rw [if_pos c4] at H
     have c4b0 := eq_true c4
     have c4b1 : decide ((strOfNums y171).size + x3_1.size ≤ 9223372036854775807) = true := decide_eq_true c4
     try have c4b2 : (9223372036854775807 < (strOfNums y171).size + x3_1.size) = False := eq_false (Nat.not_lt.2 c4)
     as_aux_lemma =>
      have H' := am H
      clear H
      go_wp2_with (first | ((with_reducible refine gate_dst (N := 12) rfl ?_); refine Kd.R_lit (Kd.int .u8) _ 5 ?hg (N := 12) ?hd (xs := ([(wrap64 (48 + (Int.tmod x0_1 10))) % 256] : List Int)) (inner := [.int .u8 ((wrap64 (48 + (Int.tmod x0_1 10))) % 256)]) (ok := fun _ => True) (okp := fun _ => True) ?hr ?hp (fun _ hk => hk) trivial (Below.refl _ _) (Nat.le_refl _) (by simp) ?_; (case hd => rfl); (case hg => rfl); (case hr => first | (go_simp; done) | (go_simp; rfl)); (case hp => exact (Reps.one (show Kd.M (Kd.int .u8) _ _ _ ((wrap64 (48 + (Int.tmod x0_1 10))) % 256) [.int .u8 ((wrap64 (48 + (Int.tmod x0_1 10))) % 256)] from rfl) (Reps.none _ _))); intro v172 w5 ho6 hb hg_ hnew_; clear hg_ hnew_; (first | rw [← Ny171.out] at ho6 | (simp only [Int.reduceToNat] at ho6; rw [← Ny171.out] at ho6)); have n0_ := am (Kd.R_lower ho6 (below_size (by repeat (first | (with_reducible first | exact HB.out | apply below_alloc | apply pw_below_drewN | apply below_drew1) | exact HB.out)))); have n1_ := am (below_step (by repeat (first | (with_reducible first | exact HB.out | apply below_alloc | apply pw_below_drewN | apply below_drew1) | exact HB.out)) hb); clear HB; have HO173 := n0_; have HB := n1_; clear n0_ n1_; clear hb ho6; have hcv7 := own_string (P := Try.prog) Try.underlying80 Try.underlying5 Try.underlying9 (Kd.own_of_R HO173.out)))
      go_roundg k1
      case measure => have := HK1.out; omega
      case rel => exact ⟨(wrap64 (Int.tdiv x0_1 10)), ((strOfNums y171) ++ x3_1), fs, fs, H', ⟨by have := HK1.out; omega⟩, ⟨by repeat (first | (with_reducible first | exact HB.out | apply below_alloc | apply pw_below_drewN | apply below_drew1) | exact HB.out)⟩⟩
    rw [if_neg c4] at H
    exact absurd H (by simp)
   rw [if_neg c3] at H
   have c3b0 : decide (0 < x0_1) = false := decide_eq_false c3
   clear c3
   by_cases c8 : 1 + x3_1.size ≤ 9223372036854775807
   ·
    rw [if_pos c8] at H
    have c8b0 := eq_true c8
    have c8b1 : decide (1 + x3_1.size ≤ 9223372036854775807) = true := decide_eq_true c8
    try have c8b2 : (9223372036854775807 < 1 + x3_1.size) = False := eq_false (Nat.not_lt.2 c8)
    as_aux_lemma =>
     obtain rfl := Option.some.inj H
     go_wp2
     go_ret
     exact ⟨by first | rfl | (simp [errW_none, errW_some] <;> rfl) | (simp [*, errW_none, errW_some] <;> rfl), by repeat (first | (with_reducible first | exact HB.out | apply below_alloc | apply pw_below_drewN | apply below_drew1) | exact HB.out)⟩
   rw [if_neg c8] at H
   exact absurd H (by simp)

-- NOT PRINTED: function 33 (laws_markRxS)

-- NOT PRINTED: function 12 (laws_markRx)

def laws_markIntS.l0 : Nat → List Int → Int → Int → Option (Int × List Int)
 | 0, _, _, _ => none
 | k + 1, x0, x1, x5 => if x5 < (x0.length : Int) then (if 0 ≤ x5 then (laws_markIntS.l0 k (x0.set (x5 : Int).toNat x1) (wrap64 (x1 + 1)) (wrap64 (x5 + 1))) else (none)) else (some (x1, x0))
def laws_markIntS.f (k : Nat) (l0 : List Int) (a1 : Int) : Option (Int × List Int) := laws_markIntS.l0 k l0 a1 0
theorem laws_markIntS.calls (k : Nat) (P0_ : Nat → Prop) (u9000_ : Value) (l0 : List Int) (a1 : Int) (r1 : Int) (r2 : List Int) (w0 w : World) (hB : Below w0.heap.size w0 w) (ho0 : Kd.R (Kd.int .i64) 3 w w0.heap.size P0_ u9000_ l0) (h : laws_markIntS.f k l0 a1 = some (r1, r2)) :
  Calls Try.prog 13 #[u9000_, .int .i64 a1] w fun e w' => e = .returned (.int .i64 r1) ∧ Kd.R (Kd.int .i64) 3 w' w0.heap.size (fun k_ => (P0_ k_ ∨ w.heap.size ≤ k_)) u9000_ r2 ∧ Below w0.heap.size w0 w' ∧ Kept w w' (fun k_ => P0_ k_) := by
 have HO0 := am (show Kd.R (Kd.int .i64) 3 w w0.heap.size (fun k_ => (P0_ k_ ∨ w.heap.size ≤ k_)) u9000_ l0 from Kd.R_mono ho0 (fun k_ hk => (.inl hk)))
 have HK := am (Kept.refl w (fun k_ => P0_ k_))
 have HW0 := am hB.size
 have HB := am hB
 clear hB
 have H : (laws_markIntS.l0 k l0 a1 0) = some (r1, r2) := h
 clear h
 have H' := am H
 clear H
 go_enter Try.func13, Try.ntmps13
 go_wp2
 go_loopg [1, 5] k (fun kq v1 v5 w' => ∃ (x0_1 : List Int) (x1_1 : Int) (x5_1 : Int), v1 = .int .i64 x1_1 ∧ v5 = .int .i64 x5_1 ∧ Aside0 (laws_markIntS.l0 kq x0_1 x1_1 x5_1 = some (r1, r2)) ∧ Aside0 (kq ≤ k) ∧ Aside0 (Kd.R (Kd.int .i64) 3 w' w0.heap.size (fun k_ => (P0_ k_ ∨ w.heap.size ≤ k_)) u9000_ x0_1) ∧ Aside0 (Kept w w' (fun k_ => P0_ k_)) ∧ Aside0 (Below w0.heap.size w0 w'))
 case atStart => exact ⟨(l0), (a1), (0), fs, fs, H', ⟨Nat.le_refl _⟩, ⟨by (with_reducible repeat (first | apply Kd.R_alloc | apply Kd.R_drewN | apply Kd.R_drew)); exact HO0.out⟩, ⟨by repeat (first | (with_reducible first | exact HK.out | apply Kept.alloc | apply Kept.drewN | apply Kept.drew) | exact HK.out)⟩, ⟨by repeat (first | (with_reducible first | exact HB.out | apply below_alloc | apply pw_below_drewN | apply below_drew1) | exact HB.out)⟩⟩
 case round =>
  clear H'
  try clear c1
  obtain ⟨x0_1, x1_1, x5_1, rfl, rfl, HA, HK1, HO_0, HK, HB⟩ := hrel
  cases gk with
  | zero => exact absurd HA.out (by simp [laws_markIntS.l0])
  | succ k1 =>
   have H := HA.out
   clear HA
   simp only [laws_markIntS.l0] at H
   by_cases c3 : x5_1 < (x0_1.length : Int)
   ·
    rw [if_pos c3] at H
    have c3b0 : decide (x5_1 < (x0_1.length : Int)) = true := decide_eq_true c3
    clear c3
    by_cases c4 : 0 ≤ x5_1
    ·
     rw [if_pos c4] at H
     have c4b0 : decide (0 ≤ x5_1) = true := decide_eq_true c4
     clear c4
     obtain ⟨y175, hy175⟩ : ∃ y_ : List Int, y_ = (x0_1.set (x5_1 : Int).toNat x1_1) := ⟨_, rfl⟩
     replace H : (laws_markIntS.l0 k1 y175 (wrap64 (x1_1 + 1)) (wrap64 (x5_1 + 1))) = some (r1, r2) := by first | (rw [hy175]; with_reducible exact H) | (have H2_ := (Option.bind_some _ _).symm.trans H; rw [hy175]; with_reducible exact H2_) | (have H2_ := (Option.bind_some _ _).symm.trans H; with_reducible exact H2_) | with_reducible exact H | (rw [hy175]; exact H) | exact H
     have Ny175 := am hy175
     clear hy175
     as_aux_lemma =>
      have H' := am H
      clear H
      obtain ⟨Ao6, co6, eo6⟩ := Kd.R_slice HO_0.out
      subst eo6
      have p5 : 0 ≤ (x5_1 : Int) := od
      have q5 : (x5_1 : Int) < ((x0_1.length : Int) : Int) := od
      obtain ⟨go5, co5, eo5, gb5, gl5, cl5, HG5⟩ := Kd.R_form HO_0.out (by omega)
      (first | cases eo5 | (injection eo5 with ea_ en_ ec_; (first | subst ea_ | (injection ea_ with ea_; subst ea_)); subst ec_; clear en_))
      have GB5 := am gb5
      have GG5 := am HG5
      clear gb5 gl5 HG5
      have HMgo5 := am (show (P0_ go5 ∨ w.heap.size ≤ go5) from (HO_0.out.1 _ rfl))
      obtain ⟨hx5_0, hf5_0⟩ := Kd.R_celln 0 HO_0.out (x5_1 : Int) p5 q5
      replace p5 := eq_true p5
      replace q5 := eq_true q5
      have HP7 := Kd.R_putg HO_0.out (x5_1 : Int) x1_1
      go_wp2_with (first | ((with_reducible refine gate_store (t := 3) (p := 15) rfl ?_); refine store_event (t := 3) (p := 15) (v := ?vo_w8) (w1 := (wr.setCell ⟨go5, (x5_1 : Int).toNat, none⟩ (.int .i64 x1_1))) ?hg ?ho ?hn ?hr ?_; (case ho => rfl); (case hg => rfl); (case hn => rfl); (case hr => first | (go_simp; done) | (go_simp; rfl)); intro w8 hw; have hg : wr.grownBy w8 (some go5) := (by rw [hw]; exact HP7.2); have hp_ : Kd.R (Kd.int .i64) 3 w8 w0.heap.size (fun k_ => (P0_ k_ ∨ w.heap.size ≤ k_)) (.slice (some ⟨go5, 0, none⟩) x0_1.length co6) y175 := (by rw [hw, Ny175.out]; exact HP7.1); clear HP7; have n0_ := am (hp_); have n1_ := am ((by rw [hw]; exact below_set (HB.out) GB5.out : Below w0.heap.size w0 w8)); have n2_ := am (Kept.of_grown (S := (fun k_ => P0_ k_)) hg (by repeat (first | (with_reducible first | exact HK.out | apply Kept.alloc | apply Kept.drewN | apply Kept.drew) | exact HK.out)) (fun k_ e_ => (HO_0.out.1 k_ e_))); clear HO_0; clear HB; clear HK; have HO_0 := n0_; have HB := n1_; have HK := n2_; clear n0_ n1_ n2_; clear hg hw hp_))
      go_roundg k1
      case measure => have := HK1.out; omega
      case rel => exact ⟨(y175), (wrap64 (x1_1 + 1)), (wrap64 (x5_1 + 1)), fs, fs, H', ⟨by have := HK1.out; omega⟩, ⟨by (with_reducible repeat (first | apply Kd.R_alloc | apply Kd.R_drewN | apply Kd.R_drew)); exact HO_0.out⟩, ⟨by repeat (first | (with_reducible first | exact HK.out | apply Kept.alloc | apply Kept.drewN | apply Kept.drew) | exact HK.out)⟩, ⟨by repeat (first | (with_reducible first | exact HB.out | apply below_alloc | apply pw_below_drewN | apply below_drew1) | exact HB.out)⟩⟩
    rw [if_neg c4] at H
    exact absurd H (by simp)
   rw [if_neg c3] at H
   have c3b0 : decide (x5_1 < (x0_1.length : Int)) = false := decide_eq_false c3
   clear c3
   as_aux_lemma =>
    simp only [Option.some.injEq, Prod.mk.injEq] at H
    obtain ⟨rfl, rfl⟩ := H
    obtain ⟨Ao9, co9, eo9⟩ := Kd.R_slice HO_0.out
    subst eo9
    go_wp2
    go_ret
    exact ⟨by first | rfl | (simp [errW_none, errW_some] <;> rfl) | (simp [*, errW_none, errW_some] <;> rfl), by (with_reducible repeat (first | apply Kd.R_alloc | apply Kd.R_drewN | apply Kd.R_drew)); exact HO_0.out, by repeat (first | (with_reducible first | exact HB.out | apply below_alloc | apply pw_below_drewN | apply below_drew1) | exact HB.out), by repeat (first | (with_reducible first | exact HK.out | apply Kept.alloc | apply Kept.drewN | apply Kept.drew) | exact HK.out)⟩

def laws_heldIntS.l0 : Nat → List Int → Int → Int → Option (Int)
 | 0, _, _, _ => none
 | k + 1, x0, x1, x5 => if x5 < (x0.length : Int) then (if 0 ≤ x5 then (if (rd x0 x5) = x1 then (laws_heldIntS.l0 k x0 (wrap64 (x1 + 1)) (wrap64 (x5 + 1))) else (some (-1))) else (none)) else (some x1)
def laws_heldIntS.f (k : Nat) (l0 : List Int) (a1 : Int) : Option (Int) := laws_heldIntS.l0 k l0 a1 0
theorem laws_heldIntS.calls (k : Nat) (A0 : Option Addr) (c0 : Nat) (l0 : List Int) (a1 : Int) (r : Int) (w : World) (hr0 : Kd.C (Kd.int .i64) w A0 l0.length l0) (hc0 : l0.length ≤ c0) (h : laws_heldIntS.f k l0 a1 = some r) :
  Calls Try.prog 14 #[.slice A0 l0.length c0, .int .i64 a1] w fun e w' => e = .returned (.int .i64 r) ∧ Drawn0 w w' := by
 have HR0 := am hr0
 have HC0 := am hc0
 clear hr0 hc0
 have H : (laws_heldIntS.l0 k l0 a1 0) = some r := h
 clear h
 have H' := am H
 clear H
 go_enter Try.func14, Try.ntmps14
 go_wp2
 go_loopg [1, 5] k (fun kq v1 v5 w' => ∃ (x1_1 : Int) (x5_1 : Int), v1 = .int .i64 x1_1 ∧ v5 = .int .i64 x5_1 ∧ Aside0 (laws_heldIntS.l0 kq l0 x1_1 x5_1 = some r) ∧ Aside0 (kq ≤ k) ∧ Drawn0 w w')
 case atStart => exact ⟨(a1), (0), fs, fs, H', ⟨Nat.le_refl _⟩, dr⟩
 case round =>
  clear H'
  try clear c1
  obtain ⟨x1_1, x5_1, rfl, rfl, HA, HK1, ⟨m1, rfl⟩⟩ := hrel
  cases gk with
  | zero => exact absurd HA.out (by simp [laws_heldIntS.l0])
  | succ k1 =>
   have H := HA.out
   clear HA
   simp only [laws_heldIntS.l0] at H
   by_cases c3 : x5_1 < (l0.length : Int)
   ·
    rw [if_pos c3] at H
    have c3b0 : decide (x5_1 < (l0.length : Int)) = true := decide_eq_true c3
    clear c3
    by_cases c4 : 0 ≤ x5_1
    ·
     rw [if_pos c4] at H
     have c4b0 : decide (0 ≤ x5_1) = true := decide_eq_true c4
     clear c4
     by_cases c5 : (rd l0 x5_1) = x1_1
     ·
      rw [if_pos c5] at H
      have c5b0 : ((rd l0 x5_1) == x1_1) = true := beq_iff_eq.mpr c5
      have c5b1 : ((rd l0 x5_1) != x1_1) = false := bne_eq_false_iff_eq.mpr c5
      clear c5
      as_aux_lemma =>
       have H' := am H
       clear H
       have p176 : 0 ≤ (x5_1 : Int) := od
       have q176 : x5_1 < (l0.length : Int) := od
       obtain ⟨ad176, e176, hx176_0⟩ := Kd.at_int HR0.out x5_1 p176 q176
       cases e176
       replace p176 := eq_true p176
       replace q176 := eq_true q176
       go_wp2
       go_roundg k1
       case measure => have := HK1.out; omega
       case rel => exact ⟨(wrap64 (x1_1 + 1)), (wrap64 (x5_1 + 1)), fs, fs, H', ⟨by have := HK1.out; omega⟩, dr⟩
     rw [if_neg c5] at H
     have c5b0 : ((rd l0 x5_1) == x1_1) = false := beq_eq_false_iff_ne.mpr c5
     have c5b1 : ((rd l0 x5_1) != x1_1) = true := bne_iff_ne.mpr c5
     as_aux_lemma =>
      obtain rfl := Option.some.inj H
      have p176 : 0 ≤ (x5_1 : Int) := od
      have q176 : x5_1 < (l0.length : Int) := od
      obtain ⟨ad176, e176, hx176_0⟩ := Kd.at_int HR0.out x5_1 p176 q176
      cases e176
      replace p176 := eq_true p176
      replace q176 := eq_true q176
      go_wp2
      go_ret
      exact ⟨by first | rfl | (simp; done) | (simp [*]; done), dr⟩
    rw [if_neg c4] at H
    exact absurd H (by simp)
   rw [if_neg c3] at H
   have c3b0 : decide (x5_1 < (l0.length : Int)) = false := decide_eq_false c3
   clear c3
   as_aux_lemma =>
    obtain rfl := Option.some.inj H
    go_wp2
    go_ret
    exact ⟨by first | rfl | (simp; done) | (simp [*]; done), dr⟩

-- NOT PRINTED: function 3 (laws_FnExactFind)

end Go.Proofs.Ytlpabbcgichaoaa.PFnExactFind
