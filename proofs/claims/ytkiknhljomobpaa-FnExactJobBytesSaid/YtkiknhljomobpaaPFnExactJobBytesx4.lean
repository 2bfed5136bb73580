-- written by a program of this session (a copy of the print, widened: wip/patchprint.py)
import Derived.Test.YtkiknhljomobpaaPFnExactJobBytesx0
import Derived.Test.YtkiknhljomobpaaPFnExactJobBytesx3
namespace Go.Proofs.Ytkiknhljomobpaa.PFnExactJobBytes
open Go.RowKit Go.Proofs.YtkiknhljomobpaaW.PrintWords Go.Proofs.YtkiknhljomobpaaW.PrintLast Go.Proofs.YtkiknhljomobpaaW.PrintMore
attribute [local go_sem] max2_int min2_int max_two min_two max_three min_three max_four min_four   -- for this text's walks alone
set_option linter.unusedVariables false
set_option linter.unusedSimpArgs false

/-! ### impl_Job_bytes: function 64 -/
mutual
def impl_Job_bytes.j0 : Nat → Int → Int → Int → ByteArray → Int → ByteArray → ByteArray → Bool → Bool → Option (List Int)
  | 0, _, _, _, _, _, _, _, _, _ => none
  | k + 1, x3, x205000, x205001, x205002, x205003, x205004, x205005, x205006, x205007 => if x205007 = true then (impl_Job_bytes.j1 k ((x3 + 2) % 256) x205000 x205001 x205002 x205003 x205004 x205005 x205006 x205007) else (impl_Job_bytes.j1 k x3 x205000 x205001 x205002 x205003 x205004 x205005 x205006 x205007)
def impl_Job_bytes.j1 : Nat → Int → Int → Int → ByteArray → Int → ByteArray → ByteArray → Bool → Bool → Option (List Int)
  | 0, _, _, _, _, _, _, _, _, _ => none
  | k + 1, x3, x205000, x205001, x205002, x205003, x205004, x205005, x205006, x205007 => (impl_number.f k x205000).bind fun t205 => ((impl_number.f k x205001).bind fun t208 => ((impl_textBytes.f k x205002).bind fun t211 => ((impl_number.f k x205003).bind fun t214 => ((impl_textBytes.f k x205004).bind fun t217 => ((impl_textBytes.f k x205005).bind fun t220 => ((slices_Concat_byte_byte.f k (([t205, t208, t211, t214, t217, t220, (([x3] : List Int))] : List (List Int)))).bind fun t229 => (some t229)))))))
end
def impl_Job_bytes.f (k : Nat) (a0_0 : Int) (a0_1 : Int) (a0_2 : ByteArray) (a0_3 : Int) (a0_4 : ByteArray) (a0_5 : ByteArray) (a0_6 : Bool) (a0_7 : Bool) : Option (List Int) := if a0_6 = true then (impl_Job_bytes.j0 k (0 + 1) a0_0 a0_1 a0_2 a0_3 a0_4 a0_5 a0_6 a0_7) else (impl_Job_bytes.j0 k 0 a0_0 a0_1 a0_2 a0_3 a0_4 a0_5 a0_6 a0_7)
theorem impl_Job_bytes.mono_l : ∀ k, (∀ y0 y1 y2 y3 y4 y5 y6 y7 y8, LeO (impl_Job_bytes.j0 k y0 y1 y2 y3 y4 y5 y6 y7 y8) (impl_Job_bytes.j0 (k + 1) y0 y1 y2 y3 y4 y5 y6 y7 y8)) ∧ (∀ y0 y1 y2 y3 y4 y5 y6 y7 y8, LeO (impl_Job_bytes.j1 k y0 y1 y2 y3 y4 y5 y6 y7 y8) (impl_Job_bytes.j1 (k + 1) y0 y1 y2 y3 y4 y5 y6 y7 y8))
  | 0 => ⟨fun _ _ _ _ _ _ _ _ _ r h => by simp [impl_Job_bytes.j0] at h, fun _ _ _ _ _ _ _ _ _ r h => by simp [impl_Job_bytes.j1] at h⟩
  | k + 1 => by
    obtain ⟨ih0, ih1⟩ := impl_Job_bytes.mono_l k
    refine ⟨?_, ?_⟩
    · intro y0 y1 y2 y3 y4 y5 y6 y7 y8
      unfold impl_Job_bytes.j0
      repeat' first
      | (with_reducible exact ih0 _ _ _ _ _ _ _ _ _)
      | (with_reducible exact ih1 _ _ _ _ _ _ _ _ _)
      | (with_reducible exact impl_number.mono _ _)
      | (with_reducible exact impl_textBytes.mono _ _)
      | (with_reducible exact slices_Concat_byte_byte.mono _ _)
      | (with_reducible exact LeO.refl _)
      | (with_reducible exact LeO.none _)
      | (with_reducible refine LeO.ite ?_ ?_)
      | (with_reducible refine LeO.bind ?_ (fun _ => ?_))
      | exact ih0 _ _ _ _ _ _ _ _ _
      | exact ih1 _ _ _ _ _ _ _ _ _
      | exact impl_number.mono _ _
      | exact impl_textBytes.mono _ _
      | exact slices_Concat_byte_byte.mono _ _
      | exact LeO.none _
      | refine LeO.ite ?_ ?_
      | refine LeO.bind ?_ (fun _ => ?_)
    · intro y0 y1 y2 y3 y4 y5 y6 y7 y8
      unfold impl_Job_bytes.j1
      repeat' first
      | (with_reducible exact ih0 _ _ _ _ _ _ _ _ _)
      | (with_reducible exact ih1 _ _ _ _ _ _ _ _ _)
      | (with_reducible exact impl_number.mono _ _)
      | (with_reducible exact impl_textBytes.mono _ _)
      | (with_reducible exact slices_Concat_byte_byte.mono _ _)
      | (with_reducible exact LeO.refl _)
      | (with_reducible exact LeO.none _)
      | (with_reducible refine LeO.ite ?_ ?_)
      | (with_reducible refine LeO.bind ?_ (fun _ => ?_))
      | exact ih0 _ _ _ _ _ _ _ _ _
      | exact ih1 _ _ _ _ _ _ _ _ _
      | exact impl_number.mono _ _
      | exact impl_textBytes.mono _ _
      | exact slices_Concat_byte_byte.mono _ _
      | exact LeO.none _
      | refine LeO.ite ?_ ?_
      | refine LeO.bind ?_ (fun _ => ?_)
theorem impl_Job_bytes.mono : ∀ a0 a1 a2 a3 a4 a5 a6 a7 k, LeO (impl_Job_bytes.f k a0 a1 a2 a3 a4 a5 a6 a7) (impl_Job_bytes.f (k + 1) a0 a1 a2 a3 a4 a5 a6 a7) := by
  intro a0 a1 a2 a3 a4 a5 a6 a7 k
  obtain ⟨ih0, ih1⟩ := impl_Job_bytes.mono_l k
  unfold impl_Job_bytes.f
  repeat' first
      | (with_reducible exact ih0 _ _ _ _ _ _ _ _ _)
      | (with_reducible exact ih1 _ _ _ _ _ _ _ _ _)
      | (with_reducible exact impl_number.mono _ _)
      | (with_reducible exact impl_textBytes.mono _ _)
      | (with_reducible exact slices_Concat_byte_byte.mono _ _)
      | (with_reducible exact LeO.refl _)
      | (with_reducible exact LeO.none _)
      | (with_reducible refine LeO.ite ?_ ?_)
      | (with_reducible refine LeO.bind ?_ (fun _ => ?_))
      | exact ih0 _ _ _ _ _ _ _ _ _
      | exact ih1 _ _ _ _ _ _ _ _ _
      | exact impl_number.mono _ _
      | exact impl_textBytes.mono _ _
      | exact slices_Concat_byte_byte.mono _ _
      | exact LeO.none _
      | refine LeO.ite ?_ ?_
      | refine LeO.bind ?_ (fun _ => ?_)
def impl_Job_bytes.T6 : Bool × List (List Nat × List Nat) := (true, [([], []), ([0], [0]), ([1], [1]), ([], []), ([3], [3]), ([4, 2], [4]), ([], []), ([6], [6]), ([7, 5], [7]), ([], []), ([9], [9]), ([10, 8], [10]), ([], []), ([12], [12]), ([13, 11], [13]), ([], []), ([15], [15]), ([16, 14], [16]), ([], []), ([18], [18]), ([2, 5, 8, 11, 14, 17, 19], [2, 5, 8, 11, 14, 17, 19]), ([20, 17], [20]), ([21, 21, 0, 1, 2, 3, 4, 5, 6, 7, 8, 9, 10, 11, 12, 13, 14, 15, 16, 17, 18, 19, 20, 21], [21])])
def impl_Job_bytes.B6 : List Nat := [0, 1, 3, 0, 8, 31, 0, 64, 255, 0, 512, 2047, 0, 4096, 16383, 0, 32768, 131071, 0, 262144, 1048575, 2097151, 4194303]
theorem impl_Job_bytes.tab6 : rtab .any (opsOf Try.f64 6) = impl_Job_bytes.T6 := by kernel_rfl
theorem impl_Job_bytes.bits6 : waitsOk impl_Job_bytes.T6.2 impl_Job_bytes.B6 = true := by kernel_rfl
set_option maxHeartbeats 8000000 in
set_option maxRecDepth 100000 in
theorem impl_Job_bytes.calls (k : Nat) (a0_0 : Int) (a0_1 : Int) (a0_2 : ByteArray) (a0_3 : Int) (a0_4 : ByteArray) (a0_5 : ByteArray) (a0_6 : Bool) (a0_7 : Bool) (r : List Int) (w : World) (h : impl_Job_bytes.f k a0_0 a0_1 a0_2 a0_3 a0_4 a0_5 a0_6 a0_7 = some r) :
    Calls Try.prog 64 #[.agg #[.int .i64 a0_0, .int .i64 a0_1, .string a0_2, .int .i64 a0_3, .string a0_4, .string a0_5, .bool a0_6, .bool a0_7]] w fun e w' => ∃ v0_ : Value, e = .returned (v0_) ∧ Kd.R (Kd.int .u8) 5 w' w.heap.size (fun _ => True) v0_ r ∧ Below w.heap.size w w' := by
  have hu32 := Try.underlying32
  have HB := Aside0.mk (Below.refl w.heap.size w)
  have H : (if a0_6 = true then (impl_Job_bytes.j0 k (0 + 1) a0_0 a0_1 a0_2 a0_3 a0_4 a0_5 a0_6 a0_7) else (impl_Job_bytes.j0 k 0 a0_0 a0_1 a0_2 a0_3 a0_4 a0_5 a0_6 a0_7)) = some r := h
  clear h
  have HC2 := Aside0.mk H
  clear H
  go_enter Try.func64, Try.ntmps64
  go_upto_if 5 with (first | ((with_reducible refine gate_dst (N := 1) rfl ?_); refine box_event ?hg (N := 1) ?hd (cs := #[.int .i64 a0_0, .int .i64 a0_1, .string a0_2, .int .i64 a0_3, .string a0_4, .string a0_5, .bool a0_6, .bool a0_7]) (t := 32) ?hr ?_; (case hd => rfl); (case hg => rfl); (case hr => first | (go_simp; done) | (go_simp; rfl)); intro gb204 hg w3 hbox hb; have n0_ := Aside0.mk (below_step (by repeat (first | (with_reducible first | exact HB.out | apply below_alloc | apply pw_below_drewN | apply below_drew1) | exact HB.out)) hb); have n1_ := Aside0.mk (hbox); have n2_ := Aside0.mk ((by rw [hg]; exact (below_size (by repeat (first | (with_reducible first | exact HB.out | apply below_alloc | apply pw_below_drewN | apply below_drew1) | exact HB.out))) : w.heap.size ≤ gb204)); have n3_ := Aside0.mk ((by rw [hg]; exact (below_size (by repeat (first | (with_reducible first | exact HB.out | apply below_alloc | apply pw_below_drewN | apply below_drew1) | exact HB.out))) : w.heap.size ≤ gb204)); clear HB; have HB := n0_; have BK204 := n1_; have GW204 := n2_; have GE204 := n3_; clear n0_ n1_ n2_ n3_; clear hb hbox hg; have hcz4_0 : w3.cell? ⟨gb204, 0, none⟩ = some (.int .i64 a0_0) := (blk_cell BK204.out 0).trans rfl; have hcz4_1 : w3.cell? ⟨gb204, 1, none⟩ = some (.int .i64 a0_1) := (blk_cell BK204.out 1).trans rfl; have hcz4_2 : w3.cell? ⟨gb204, 2, none⟩ = some (.string a0_2) := (blk_cell BK204.out 2).trans rfl; have hcz4_3 : w3.cell? ⟨gb204, 3, none⟩ = some (.int .i64 a0_3) := (blk_cell BK204.out 3).trans rfl; have hcz4_4 : w3.cell? ⟨gb204, 4, none⟩ = some (.string a0_4) := (blk_cell BK204.out 4).trans rfl; have hcz4_5 : w3.cell? ⟨gb204, 5, none⟩ = some (.string a0_5) := (blk_cell BK204.out 5).trans rfl; have hcz4_6 : w3.cell? ⟨gb204, 6, none⟩ = some (.bool a0_6) := (blk_cell BK204.out 6).trans rfl; have hcz4_7 : w3.cell? ⟨gb204, 7, none⟩ = some (.bool a0_7) := (blk_cell BK204.out 7).trans rfl; have hfz4_0 := blk_frozen BK204.out 0; have hfz4_1 := blk_frozen BK204.out 1; have hfz4_2 := blk_frozen BK204.out 2; have hfz4_3 := blk_frozen BK204.out 3; have hfz4_4 := blk_frozen BK204.out 4; have hfz4_5 := blk_frozen BK204.out 5; have hfz4_6 := blk_frozen BK204.out 6; have hfz4_7 := blk_frozen BK204.out 7))
  (try simp only [Act.put, List.setIfInBounds_toArray, List.set_cons_zero, List.set_cons_succ])
  go_cut [3] (fun v3 wc => ∃ (kq : Nat) (x3_1 : Int), v3 = .int .u8 x3_1 ∧ Aside0 (impl_Job_bytes.j0 kq x3_1 a0_0 a0_1 a0_2 a0_3 a0_4 a0_5 a0_6 a0_7 = some r) ∧ Aside0 (kq ≤ k) ∧ Aside0 (wc.heap[gb204]? = some (.cells #[.int .i64 a0_0, .int .i64 a0_1, .string a0_2, .int .i64 a0_3, .string a0_4, .string a0_5, .bool a0_6, .bool a0_7] 32 (0, 0))) ∧ Aside0 (Below w.heap.size w wc))
  case first =>
    have H := HC2.out
    clear HC2
    by_cases c5 : a0_6 = true
    · subst c5
      have H1 : (impl_Job_bytes.j0 k (0 + 1) a0_0 a0_1 a0_2 a0_3 a0_4 a0_5 true a0_7) = some r := by rw [if_pos rfl] at H; exact H
      clear H
      have H := H1
      clear H1
      have H' := Aside0.mk H
      clear H
      go_wp2
      go_meet
      case rel => exact ⟨_, (0 + 1), (by first | rfl | (simp; done) | (simp [*]; done)), H', ⟨by first | omega | exact Nat.le_refl _⟩, ⟨by (with_reducible repeat (first | refine blk_drewN ?_ _ | refine blk_drew ?_ | refine blk_alloc ?_ _)); exact BK204.out⟩, ⟨by repeat (first | (with_reducible first | exact HB.out | apply below_alloc | apply pw_below_drewN | apply below_drew1 | refine below_set ?_ GE204.out) | exact HB.out)⟩⟩
    · replace c5 := Bool.eq_false_iff.mpr c5
      subst c5
      have H1 : (impl_Job_bytes.j0 k 0 a0_0 a0_1 a0_2 a0_3 a0_4 a0_5 false a0_7) = some r := by rw [if_neg (show ¬ (false = true) by decide)] at H; exact H
      clear H
      have H := H1
      clear H1
      have H' := Aside0.mk H
      clear H
      go_wp2
      go_meet
      case rel => exact ⟨_, (0), (by first | rfl | (simp; done) | (simp [*]; done)), H', ⟨by first | omega | exact Nat.le_refl _⟩, ⟨by (with_reducible repeat (first | refine blk_drewN ?_ _ | refine blk_drew ?_ | refine blk_alloc ?_ _)); exact BK204.out⟩, ⟨by repeat (first | (with_reducible first | exact HB.out | apply below_alloc | apply pw_below_drewN | apply below_drew1 | refine below_set ?_ GE204.out) | exact HB.out)⟩⟩
  case rest =>
    clear HC2
    try clear p2
    try clear c5
    try clear hcz4_0
    try clear hcz4_1
    try clear hcz4_2
    try clear hcz4_3
    try clear hcz4_4
    try clear hcz4_5
    try clear hcz4_6
    try clear hcz4_7
    try clear hfz4_0
    try clear hfz4_1
    try clear hfz4_2
    try clear hfz4_3
    try clear hfz4_4
    try clear hfz4_5
    try clear hfz4_6
    try clear hfz4_7
    obtain ⟨kq, x3_1, rfl, HA, HJ1, BK204, HB⟩ := hcut
    cases kq with
    | zero => exact absurd HA.out (by simp [impl_Job_bytes.j0])
    | succ kj1 =>
      have H := HA.out
      clear HA
      simp only [impl_Job_bytes.j0] at H
      have HC6 := Aside0.mk H
      clear H
      have hcz7_0 : wc.cell? ⟨gb204, 0, none⟩ = some (.int .i64 a0_0) := (blk_cell BK204.out 0).trans rfl
      have hcz7_1 : wc.cell? ⟨gb204, 1, none⟩ = some (.int .i64 a0_1) := (blk_cell BK204.out 1).trans rfl
      have hcz7_2 : wc.cell? ⟨gb204, 2, none⟩ = some (.string a0_2) := (blk_cell BK204.out 2).trans rfl
      have hcz7_3 : wc.cell? ⟨gb204, 3, none⟩ = some (.int .i64 a0_3) := (blk_cell BK204.out 3).trans rfl
      have hcz7_4 : wc.cell? ⟨gb204, 4, none⟩ = some (.string a0_4) := (blk_cell BK204.out 4).trans rfl
      have hcz7_5 : wc.cell? ⟨gb204, 5, none⟩ = some (.string a0_5) := (blk_cell BK204.out 5).trans rfl
      have hcz7_6 : wc.cell? ⟨gb204, 6, none⟩ = some (.bool a0_6) := (blk_cell BK204.out 6).trans rfl
      have hcz7_7 : wc.cell? ⟨gb204, 7, none⟩ = some (.bool a0_7) := (blk_cell BK204.out 7).trans rfl
      have hfz7_0 := blk_frozen BK204.out 0
      have hfz7_1 := blk_frozen BK204.out 1
      have hfz7_2 := blk_frozen BK204.out 2
      have hfz7_3 := blk_frozen BK204.out 3
      have hfz7_4 := blk_frozen BK204.out 4
      have hfz7_5 := blk_frozen BK204.out 5
      have hfz7_6 := blk_frozen BK204.out 6
      have hfz7_7 := blk_frozen BK204.out 7
      go_upto_if 9 with (fail)
      go_cut [3] (fun v3 wc => ∃ (kq : Nat) (x3_5 : Int), v3 = .int .u8 x3_5 ∧ Aside0 (impl_Job_bytes.j1 kq x3_5 a0_0 a0_1 a0_2 a0_3 a0_4 a0_5 a0_6 a0_7 = some r) ∧ Aside0 (kq ≤ kj1) ∧ Aside0 (wc.heap[gb204]? = some (.cells #[.int .i64 a0_0, .int .i64 a0_1, .string a0_2, .int .i64 a0_3, .string a0_4, .string a0_5, .bool a0_6, .bool a0_7] 32 (0, 0))) ∧ Aside0 (Below w.heap.size w wc))
      case first =>
        have H := HC6.out
        clear HC6
        by_cases c8 : a0_7 = true
        · subst c8
          have H1 : (impl_Job_bytes.j1 kj1 ((x3_1 + 2) % 256) a0_0 a0_1 a0_2 a0_3 a0_4 a0_5 a0_6 true) = some r := by rw [if_pos rfl] at H; exact H
          clear H
          have H := H1
          clear H1
          have H' := Aside0.mk H
          clear H
          go_wp2
          go_meet
          case rel => exact ⟨_, ((x3_1 + 2) % 256), (by first | rfl | (simp; done) | (simp [*]; done)), H', ⟨by have := HJ1.out; first | omega | exact Nat.le_refl _⟩, ⟨by (with_reducible repeat (first | refine blk_drewN ?_ _ | refine blk_drew ?_ | refine blk_alloc ?_ _)); exact BK204.out⟩, ⟨by repeat (first | (with_reducible first | exact HB.out | apply below_alloc | apply pw_below_drewN | apply below_drew1 | refine below_set ?_ GE204.out) | exact HB.out)⟩⟩
        · replace c8 := Bool.eq_false_iff.mpr c8
          subst c8
          have H1 : (impl_Job_bytes.j1 kj1 x3_1 a0_0 a0_1 a0_2 a0_3 a0_4 a0_5 a0_6 false) = some r := by rw [if_neg (show ¬ (false = true) by decide)] at H; exact H
          clear H
          have H := H1
          clear H1
          have H' := Aside0.mk H
          clear H
          go_wp2
          go_meet
          case rel => exact ⟨_, (x3_1), (by first | rfl | (simp; done) | (simp [*]; done)), H', ⟨by have := HJ1.out; first | omega | exact Nat.le_refl _⟩, ⟨by (with_reducible repeat (first | refine blk_drewN ?_ _ | refine blk_drew ?_ | refine blk_alloc ?_ _)); exact BK204.out⟩, ⟨by repeat (first | (with_reducible first | exact HB.out | apply below_alloc | apply pw_below_drewN | apply below_drew1 | refine below_set ?_ GE204.out) | exact HB.out)⟩⟩
      case rest =>
        clear HC6
        try clear p2
        try clear c5
        try clear c6
        try clear c8
        try clear hcz4_0
        try clear hcz4_1
        try clear hcz4_2
        try clear hcz4_3
        try clear hcz4_4
        try clear hcz4_5
        try clear hcz4_6
        try clear hcz4_7
        try clear hcz7_0
        try clear hcz7_1
        try clear hcz7_2
        try clear hcz7_3
        try clear hcz7_4
        try clear hcz7_5
        try clear hcz7_6
        try clear hcz7_7
        try clear hfz4_0
        try clear hfz4_1
        try clear hfz4_2
        try clear hfz4_3
        try clear hfz4_4
        try clear hfz4_5
        try clear hfz4_6
        try clear hfz4_7
        try clear hfz7_0
        try clear hfz7_1
        try clear hfz7_2
        try clear hfz7_3
        try clear hfz7_4
        try clear hfz7_5
        try clear hfz7_6
        try clear hfz7_7
        try clear p2
        obtain ⟨kq, x3_5, rfl, HA, HJ5, BK204, HB⟩ := hcut
        cases kq with
        | zero => exact absurd HA.out (by simp [impl_Job_bytes.j1])
        | succ kj5 =>
          have H := HA.out
          clear HA
          simp only [impl_Job_bytes.j1] at H
          replace H := Option.bind_eq_some_iff.mp H
          obtain ⟨t205, A90, H⟩ := H
          replace H : ((impl_number.f kj5 a0_1).bind fun t208 => ((impl_textBytes.f kj5 a0_2).bind fun t211 => ((impl_number.f kj5 a0_3).bind fun t214 => ((impl_textBytes.f kj5 a0_4).bind fun t217 => ((impl_textBytes.f kj5 a0_5).bind fun t220 => ((slices_Concat_byte_byte.f kj5 (([t205, t208, t211, t214, t217, t220, (([x3_5] : List Int))] : List (List Int)))).bind fun t229 => (some t229))))))) = some r := H
          have A9 := Aside0.mk A90
          clear A90
          replace H := Option.bind_eq_some_iff.mp H
          obtain ⟨t208, A100, H⟩ := H
          replace H : ((impl_textBytes.f kj5 a0_2).bind fun t211 => ((impl_number.f kj5 a0_3).bind fun t214 => ((impl_textBytes.f kj5 a0_4).bind fun t217 => ((impl_textBytes.f kj5 a0_5).bind fun t220 => ((slices_Concat_byte_byte.f kj5 (([t205, t208, t211, t214, t217, t220, (([x3_5] : List Int))] : List (List Int)))).bind fun t229 => (some t229)))))) = some r := H
          have A10 := Aside0.mk A100
          clear A100
          replace H := Option.bind_eq_some_iff.mp H
          obtain ⟨t211, A110, H⟩ := H
          replace H : ((impl_number.f kj5 a0_3).bind fun t214 => ((impl_textBytes.f kj5 a0_4).bind fun t217 => ((impl_textBytes.f kj5 a0_5).bind fun t220 => ((slices_Concat_byte_byte.f kj5 (([t205, t208, t211, t214, t217, t220, (([x3_5] : List Int))] : List (List Int)))).bind fun t229 => (some t229))))) = some r := H
          have A11 := Aside0.mk A110
          clear A110
          replace H := Option.bind_eq_some_iff.mp H
          obtain ⟨t214, A120, H⟩ := H
          replace H : ((impl_textBytes.f kj5 a0_4).bind fun t217 => ((impl_textBytes.f kj5 a0_5).bind fun t220 => ((slices_Concat_byte_byte.f kj5 (([t205, t208, t211, t214, t217, t220, (([x3_5] : List Int))] : List (List Int)))).bind fun t229 => (some t229)))) = some r := H
          have A12 := Aside0.mk A120
          clear A120
          replace H := Option.bind_eq_some_iff.mp H
          obtain ⟨t217, A130, H⟩ := H
          replace H : ((impl_textBytes.f kj5 a0_5).bind fun t220 => ((slices_Concat_byte_byte.f kj5 (([t205, t208, t211, t214, t217, t220, (([x3_5] : List Int))] : List (List Int)))).bind fun t229 => (some t229))) = some r := H
          have A13 := Aside0.mk A130
          clear A130
          replace H := Option.bind_eq_some_iff.mp H
          obtain ⟨t220, A140, H⟩ := H
          replace H : ((slices_Concat_byte_byte.f kj5 (([t205, t208, t211, t214, t217, t220, (([x3_5] : List Int))] : List (List Int)))).bind fun t229 => (some t229)) = some r := H
          have A14 := Aside0.mk A140
          clear A140
          obtain ⟨y223, hy223⟩ : ∃ y_ : List Int, y_ = (([x3_5] : List Int)) := ⟨_, rfl⟩
          replace H : ((slices_Concat_byte_byte.f kj5 (([t205, t208, t211, t214, t217, t220, y223] : List (List Int)))).bind fun t229 => (some t229)) = some r := by first | (rw [hy223]; with_reducible exact H) | (have H2_ := (Option.bind_some _ _).symm.trans H; rw [hy223]; with_reducible exact H2_) | (have H2_ := (Option.bind_some _ _).symm.trans H; with_reducible exact H2_) | with_reducible exact H | (rw [hy223]; exact H) | exact H
          have Ny223 := Aside0.mk hy223
          clear hy223
          obtain ⟨y226, hy226⟩ : ∃ y_ : List (List Int), y_ = (([t205, t208, t211, t214, t217, t220, y223] : List (List Int))) := ⟨_, rfl⟩
          replace H : ((slices_Concat_byte_byte.f kj5 y226).bind fun t229 => (some t229)) = some r := by first | (rw [hy226]; with_reducible exact H) | (have H2_ := (Option.bind_some _ _).symm.trans H; rw [hy226]; with_reducible exact H2_) | (have H2_ := (Option.bind_some _ _).symm.trans H; with_reducible exact H2_) | with_reducible exact H | (rw [hy226]; exact H) | exact H
          have Ny226 := Aside0.mk hy226
          clear hy226
          replace H := Option.bind_eq_some_iff.mp H
          obtain ⟨t229, A150, H⟩ := H
          replace H : (some t229) = some r := H
          have A15 := Aside0.mk A150
          clear A150
          obtain rfl := Option.some.inj H
          try go_wp2
          have n0_ := Aside0.mk (blk_drew BK204.out)
          have n1_ := Aside0.mk (below_drew1 HB.out)
          clear BK204
          clear HB
          have BK204 := n0_
          have HB := n1_
          clear n0_ n1_
          refine start_ (n := 23) (S := fun w' => True) (ds := []) #[false, false, false, false, false, false, false, false, false, false, false, false, false, false, false, false, false, false, false, false, false, false, false] (by kernel_rfl) rfl rfl trivial (fun hHeld => ?_); refine with_tabW impl_Job_bytes.tab6 impl_Job_bytes.bits6 (fun HT_ HW_ => ?_)
          generalize wc.drew = w16 at BK204 HB hHeld ⊢
          refine pure_ (i := 0) (N := some 12) (v := ?_) (a' := ?_) #[true, false, false, false, false, false, false, false, false, false, false, false, false, false, false, false, false, false, false, false, false, false, false] rfl rfl (any_of HT_.out (by kernel_rfl)) (fun _ _ _ h => h) (Or.inl ⟨by rfl, ?_⟩) ?_ ?_
          rotate_left
          · intro w'
            go_simp
            with_reducible rfl
          rotate_left
          · simp only [Act.put, List.setIfInBounds_toArray, List.set_cons_zero, List.set_cons_succ, i64_w, i32_w]
            rfl
          refine pure_ (i := 3) (N := some 15) (v := ?_) (a' := ?_) #[true, false, false, true, false, false, false, false, false, false, false, false, false, false, false, false, false, false, false, false, false, false, false] rfl rfl (any_of HT_.out (by kernel_rfl)) (fun _ _ _ h => h) (Or.inl ⟨by rfl, ?_⟩) ?_ ?_
          rotate_left
          · intro w'
            go_simp
            with_reducible rfl
          rotate_left
          · simp only [Act.put, List.setIfInBounds_toArray, List.set_cons_zero, List.set_cons_succ, i64_w, i32_w]
            rfl
          refine pure_ (i := 6) (N := some 18) (v := ?_) (a' := ?_) #[true, false, false, true, false, false, true, false, false, false, false, false, false, false, false, false, false, false, false, false, false, false, false] rfl rfl (any_of HT_.out (by kernel_rfl)) (fun _ _ _ h => h) (Or.inl ⟨by rfl, ?_⟩) ?_ ?_
          rotate_left
          · intro w'
            go_simp
            with_reducible rfl
          rotate_left
          · simp only [Act.put, List.setIfInBounds_toArray, List.set_cons_zero, List.set_cons_succ, i64_w, i32_w]
            rfl
          refine pure_ (i := 9) (N := some 21) (v := ?_) (a' := ?_) #[true, false, false, true, false, false, true, false, false, true, false, false, false, false, false, false, false, false, false, false, false, false, false] rfl rfl (any_of HT_.out (by kernel_rfl)) (fun _ _ _ h => h) (Or.inl ⟨by rfl, ?_⟩) ?_ ?_
          rotate_left
          · intro w'
            go_simp
            with_reducible rfl
          rotate_left
          · simp only [Act.put, List.setIfInBounds_toArray, List.set_cons_zero, List.set_cons_succ, i64_w, i32_w]
            rfl
          refine pure_ (i := 12) (N := some 24) (v := ?_) (a' := ?_) #[true, false, false, true, false, false, true, false, false, true, false, false, true, false, false, false, false, false, false, false, false, false, false] rfl rfl (any_of HT_.out (by kernel_rfl)) (fun _ _ _ h => h) (Or.inl ⟨by rfl, ?_⟩) ?_ ?_
          rotate_left
          · intro w'
            go_simp
            with_reducible rfl
          rotate_left
          · simp only [Act.put, List.setIfInBounds_toArray, List.set_cons_zero, List.set_cons_succ, i64_w, i32_w]
            rfl
          refine pure_ (i := 15) (N := some 27) (v := ?_) (a' := ?_) #[true, false, false, true, false, false, true, false, false, true, false, false, true, false, false, true, false, false, false, false, false, false, false] rfl rfl (any_of HT_.out (by kernel_rfl)) (fun _ _ _ h => h) (Or.inl ⟨by rfl, ?_⟩) ?_ ?_
          rotate_left
          · intro w'
            go_simp
            with_reducible rfl
          rotate_left
          · simp only [Act.put, List.setIfInBounds_toArray, List.set_cons_zero, List.set_cons_succ, i64_w, i32_w]
            rfl
          refine pure_ (i := 18) (N := some 30) (v := ?_) (a' := ?_) #[true, false, false, true, false, false, true, false, false, true, false, false, true, false, false, true, false, false, true, false, false, false, false] rfl rfl (any_of HT_.out (by kernel_rfl)) (fun _ _ _ h => h) (Or.inl ⟨by rfl, ?_⟩) ?_ ?_
          rotate_left
          · intro w'
            go_simp
            with_reducible rfl
          rotate_left
          · simp only [Act.put, List.setIfInBounds_toArray, List.set_cons_zero, List.set_cons_succ, i64_w, i32_w]
            rfl
          refine inv_at [1, 2, 4, 5, 7, 8, 10, 11, 13, 14, 16, 17, 19, 20, 21, 22] (fun a0_ b a w' => ∃ (v206 : Value) (v209 : Value) (v212 : Value) (v215 : Value) (v218 : Value) (v221 : Value) (v224 : Value) (v227 : Value) (v230 : Value) (m22_ : Value), a = putSel a0_ b [(1, 13, .int .i64 a0_0), (2, 14, v206), (4, 16, .int .i64 a0_1), (5, 17, v209), (7, 19, .string a0_2), (8, 20, v212), (10, 22, .int .i64 a0_3), (11, 23, v215), (13, 25, .string a0_4), (14, 26, v218), (16, 28, .string a0_5), (17, 29, v221), (19, 31, v224), (20, 32, v227), (21, 33, v230), (22, 2, m22_)] ∧ (w'.heap[gb204]? = some (.cells #[.int .i64 a0_0, .int .i64 a0_1, .string a0_2, .int .i64 a0_3, .string a0_4, .string a0_5, .bool a0_6, .bool a0_7] 32 (0, 0))) ∧ (Below w.heap.size w w') ∧ (b 2 = true → b 20 = false → Kd.R (Kd.int .u8) 5 w' w.heap.size (fun _ => True) v206 t205) ∧ (b 5 = true → b 20 = false → Kd.R (Kd.int .u8) 5 w' w.heap.size (fun _ => True) v209 t208) ∧ (b 8 = true → b 20 = false → Kd.R (Kd.int .u8) 5 w' w.heap.size (fun _ => True) v212 t211) ∧ (b 11 = true → b 20 = false → Kd.R (Kd.int .u8) 5 w' w.heap.size (fun _ => True) v215 t214) ∧ (b 14 = true → b 20 = false → Kd.R (Kd.int .u8) 5 w' w.heap.size (fun _ => True) v218 t217) ∧ (b 17 = true → b 20 = false → Kd.R (Kd.int .u8) 5 w' w.heap.size (fun _ => True) v221 t220) ∧ (b 19 = true → b 20 = false → Kd.R (Kd.int .u8) 5 w' w.heap.size (fun _ => True) v224 y223) ∧ (b 20 = true → Kd.N (Kd.slice 5 (Kd.int .u8)) 22 w' w.heap.size (fun k_ => k_ ≠ gb204) v227 y226) ∧ (b 21 = true → Kd.R (Kd.int .u8) 5 w' w.heap.size (fun _ => True) v230 t229) ∧ (b 22 = true → (m22_ : Value) = v230)) HT_.out HW_.out (by kernel_rfl) (by kernel_rfl) ?_ ?_ ?_
          · exact ⟨.bool false, .bool false, .bool false, .bool false, .bool false, .bool false, .bool false, .bool false, .bool false, .bool false, by simp only [putSel, Bool.false_eq_true, if_false], BK204.out, HB.out, fun h_ => absurd h_ (by decide), fun h_ => absurd h_ (by decide), fun h_ => absurd h_ (by decide), fun h_ => absurd h_ (by decide), fun h_ => absurd h_ (by decide), fun h_ => absurd h_ (by decide), fun h_ => absurd h_ (by decide), fun h_ => absurd h_ (by decide), fun h_ => absurd h_ (by decide), fun h_ => absurd h_ (by decide)⟩
          · skip
            clear BK204 HB
            refine steps_cons ?_ ?_
            · rintro b a w' ⟨v206, v209, v212, v215, v218, v221, v224, v227, v230, m22_, ha, Q_BK204, Q_HB, Q_HO207, Q_HO210, Q_HO213, Q_HO216, Q_HO219, Q_HO222, Q_HO225, Q_HO228, Q_HO231, Q_X22_⟩ hb_ hon hoff
              refine ⟨_, rfl, fun K hK => ?_⟩
              have e12 : a.tmps[12]? = some (.pointer (some ⟨gb204, 0, none⟩)) := by rw [ha]; exact (putSel_off rfl).trans rfl
              replace ha := Aside0.mk ha
              have BK204 := Aside0.mk Q_BK204
              have HB := Aside0.mk Q_HB
              have hc0_ : w'.cell? ⟨gb204, 0, none⟩ = some (.int .i64 a0_0) := (blk_cell BK204.out 0).trans rfl
              have hc1_ : w'.cell? ⟨gb204, 1, none⟩ = some (.int .i64 a0_1) := (blk_cell BK204.out 1).trans rfl
              have hc2_ : w'.cell? ⟨gb204, 2, none⟩ = some (.string a0_2) := (blk_cell BK204.out 2).trans rfl
              have hc3_ : w'.cell? ⟨gb204, 3, none⟩ = some (.int .i64 a0_3) := (blk_cell BK204.out 3).trans rfl
              have hc4_ : w'.cell? ⟨gb204, 4, none⟩ = some (.string a0_4) := (blk_cell BK204.out 4).trans rfl
              have hc5_ : w'.cell? ⟨gb204, 5, none⟩ = some (.string a0_5) := (blk_cell BK204.out 5).trans rfl
              have hc6_ : w'.cell? ⟨gb204, 6, none⟩ = some (.bool a0_6) := (blk_cell BK204.out 6).trans rfl
              have hc7_ : w'.cell? ⟨gb204, 7, none⟩ = some (.bool a0_7) := (blk_cell BK204.out 7).trans rfl
              refine value_ (w1 := w') (v := .int .i64 a0_0) (by rfl) rfl ?_ ?_
              · go_simp
                (try simp only [i64_w])
                try rfl
              refine hK.out _ _ ⟨v206, v209, v212, v215, v218, v221, v224, v227, v230, m22_, (by rw [ha.out]; exact putSel_upk 0 hb_ rfl rfl rfl), Q_BK204, Q_HB, fun h0_ _ => absurd ((hoff 2 (by kernel_rfl)).symm.trans h0_) (by decide), fun h0_ _ => absurd ((hoff 5 (by kernel_rfl)).symm.trans h0_) (by decide), fun h0_ _ => absurd ((hoff 8 (by kernel_rfl)).symm.trans h0_) (by decide), fun h0_ _ => absurd ((hoff 11 (by kernel_rfl)).symm.trans h0_) (by decide), fun h0_ _ => absurd ((hoff 14 (by kernel_rfl)).symm.trans h0_) (by decide), fun h0_ _ => absurd ((hoff 17 (by kernel_rfl)).symm.trans h0_) (by decide), Q_HO225, fun h0_ => absurd ((hoff 20 (by kernel_rfl)).symm.trans h0_) (by decide), fun h0_ => absurd ((hoff 21 (by kernel_rfl)).symm.trans h0_) (by decide), fun h0_ => absurd ((hoff 22 (by kernel_rfl)).symm.trans h0_) (by decide)⟩
            refine steps_cons ?_ ?_
            · rintro b a w' ⟨v206, v209, v212, v215, v218, v221, v224, v227, v230, m22_, ha, Q_BK204, Q_HB, Q_HO207, Q_HO210, Q_HO213, Q_HO216, Q_HO219, Q_HO222, Q_HO225, Q_HO228, Q_HO231, Q_X22_⟩ hb_ hon hoff
              refine ⟨_, rfl, fun K hK => ?_⟩
              have e13 : a.tmps[13]? = some (.int .i64 a0_0) := by rw [ha]; exact putSel_on (e := (1, 13, .int .i64 a0_0)) 0 rfl rfl (hon 1 (by kernel_rfl)) rfl
              replace ha := Aside0.mk ha
              have BK204 := Aside0.mk Q_BK204
              have HB := Aside0.mk Q_HB
              refine goes_ Try.func94 (by kernel_rfl) rfl #[.int .i64 a0_0] (by rfl) rfl rfl (by first | (simp only [List.map_toArray, List.map_cons, List.map_nil, Act.eval, Array.getD_eq_getD_getElem?, Option.getD_some, e13]; done) | (simp only [List.map_toArray, List.map_cons, List.map_nil, Act.eval, Array.getD_eq_getD_getElem?, Option.getD_some, e13]; rfl)) ?_
              with_reducible refine (impl_number.calls kj5 a0_0 t205 _ A9.out).mono ?_
              rintro e w17 ⟨v206, rfl, ho0, hb⟩
              refine ⟨_, rfl, ?_⟩
              have n0_ := Aside0.mk (Kd.R_lower ho0 (below_size (by repeat (first | (with_reducible first | exact HB.out | apply below_alloc | apply pw_below_drewN | apply below_drew1 | refine below_set ?_ GE204.out) | exact HB.out))))
              have n1_ := Aside0.mk (blk_below (g := gb204) (o := .cells #[.int .i64 a0_0, .int .i64 a0_1, .string a0_2, .int .i64 a0_3, .string a0_4, .string a0_5, .bool a0_6, .bool a0_7] 32 (0, 0)) (by (with_reducible repeat (first | refine blk_drewN ?_ _ | refine blk_drew ?_ | refine blk_alloc ?_ _)); exact BK204.out) hb)
              have n2_ := Aside0.mk (below_step (by repeat (first | (with_reducible first | exact HB.out | apply below_alloc | apply pw_below_drewN | apply below_drew1 | refine below_set ?_ GE204.out) | exact HB.out)) hb)
              have z_HO225 := fun (h0_ : b 19 = true) (h1_ : b 20 = false) => (show Kd.R (Kd.int .u8) 5 w17 w.heap.size (fun _ => True) v224 y223 from by first | exact (Kd.R_elder' (by (with_reducible repeat (first | apply Kd.R_alloc | apply Kd.R_drewN | apply Kd.R_drew)); exact (Q_HO225 h0_ h1_)) (Kd.R_base ho0) hb) | exact Kd.R_mono (Kd.R_elder' (by (with_reducible repeat (first | apply Kd.R_alloc | apply Kd.R_drewN | apply Kd.R_drew)); exact (Q_HO225 h0_ h1_)) (Kd.R_base ho0) hb) (fun _ h_ => by first | trivial | exact h_ | exact h_.1))
              clear BK204
              clear HB
              have HO207 := n0_
              have BK204 := n1_
              have HB := n2_
              clear n0_ n1_ n2_
              (try clear hb)
              (try clear hb2)
              (try clear hk)
              (try clear hi)
              (try clear ho0)
              refine hK.out _ _ ⟨v206, v209, v212, v215, v218, v221, v224, v227, v230, m22_, (by rw [ha.out]; exact putSel_upk 1 hb_ rfl rfl rfl), (by (with_reducible repeat (first | refine blk_drewN ?_ _ | refine blk_drew ?_ | refine blk_alloc ?_ _)); exact BK204.out), (by repeat (first | (with_reducible first | exact HB.out | apply below_alloc | apply pw_below_drewN | apply below_drew1 | refine below_set ?_ GE204.out) | exact HB.out)), fun _ _ => (by (with_reducible repeat (first | apply Kd.R_alloc | apply Kd.R_drewN | apply Kd.R_drew)); first | exact HO207.out | exact Kd.R_mono HO207.out (fun _ hk => by first | trivial | exact hk | exact hk.1 | exact hk.2 | exact ⟨hk.1.2, hk.2⟩ | simp_all)), fun h0_ _ => absurd ((hoff 5 (by kernel_rfl)).symm.trans h0_) (by decide), fun h0_ _ => absurd ((hoff 8 (by kernel_rfl)).symm.trans h0_) (by decide), fun h0_ _ => absurd ((hoff 11 (by kernel_rfl)).symm.trans h0_) (by decide), fun h0_ _ => absurd ((hoff 14 (by kernel_rfl)).symm.trans h0_) (by decide), fun h0_ _ => absurd ((hoff 17 (by kernel_rfl)).symm.trans h0_) (by decide), z_HO225, fun h0_ => absurd ((hoff 20 (by kernel_rfl)).symm.trans h0_) (by decide), fun h0_ => absurd ((hoff 21 (by kernel_rfl)).symm.trans h0_) (by decide), fun h0_ => absurd ((hoff 22 (by kernel_rfl)).symm.trans h0_) (by decide)⟩
            refine steps_cons ?_ ?_
            · rintro b a w' ⟨v206, v209, v212, v215, v218, v221, v224, v227, v230, m22_, ha, Q_BK204, Q_HB, Q_HO207, Q_HO210, Q_HO213, Q_HO216, Q_HO219, Q_HO222, Q_HO225, Q_HO228, Q_HO231, Q_X22_⟩ hb_ hon hoff
              refine ⟨_, rfl, fun K hK => ?_⟩
              have e15 : a.tmps[15]? = some (.pointer (some ⟨gb204, 1, none⟩)) := by rw [ha]; exact (putSel_off rfl).trans rfl
              replace ha := Aside0.mk ha
              have BK204 := Aside0.mk Q_BK204
              have HB := Aside0.mk Q_HB
              have hc0_ : w'.cell? ⟨gb204, 0, none⟩ = some (.int .i64 a0_0) := (blk_cell BK204.out 0).trans rfl
              have hc1_ : w'.cell? ⟨gb204, 1, none⟩ = some (.int .i64 a0_1) := (blk_cell BK204.out 1).trans rfl
              have hc2_ : w'.cell? ⟨gb204, 2, none⟩ = some (.string a0_2) := (blk_cell BK204.out 2).trans rfl
              have hc3_ : w'.cell? ⟨gb204, 3, none⟩ = some (.int .i64 a0_3) := (blk_cell BK204.out 3).trans rfl
              have hc4_ : w'.cell? ⟨gb204, 4, none⟩ = some (.string a0_4) := (blk_cell BK204.out 4).trans rfl
              have hc5_ : w'.cell? ⟨gb204, 5, none⟩ = some (.string a0_5) := (blk_cell BK204.out 5).trans rfl
              have hc6_ : w'.cell? ⟨gb204, 6, none⟩ = some (.bool a0_6) := (blk_cell BK204.out 6).trans rfl
              have hc7_ : w'.cell? ⟨gb204, 7, none⟩ = some (.bool a0_7) := (blk_cell BK204.out 7).trans rfl
              refine value_ (w1 := w') (v := .int .i64 a0_1) (by rfl) rfl ?_ ?_
              · go_simp
                (try simp only [i64_w])
                try rfl
              refine hK.out _ _ ⟨v206, v209, v212, v215, v218, v221, v224, v227, v230, m22_, (by rw [ha.out]; exact putSel_upk 2 hb_ rfl rfl rfl), Q_BK204, Q_HB, Q_HO207, fun h0_ _ => absurd ((hoff 5 (by kernel_rfl)).symm.trans h0_) (by decide), fun h0_ _ => absurd ((hoff 8 (by kernel_rfl)).symm.trans h0_) (by decide), fun h0_ _ => absurd ((hoff 11 (by kernel_rfl)).symm.trans h0_) (by decide), fun h0_ _ => absurd ((hoff 14 (by kernel_rfl)).symm.trans h0_) (by decide), fun h0_ _ => absurd ((hoff 17 (by kernel_rfl)).symm.trans h0_) (by decide), Q_HO225, fun h0_ => absurd ((hoff 20 (by kernel_rfl)).symm.trans h0_) (by decide), fun h0_ => absurd ((hoff 21 (by kernel_rfl)).symm.trans h0_) (by decide), fun h0_ => absurd ((hoff 22 (by kernel_rfl)).symm.trans h0_) (by decide)⟩
            refine steps_cons ?_ ?_
            · rintro b a w' ⟨v206, v209, v212, v215, v218, v221, v224, v227, v230, m22_, ha, Q_BK204, Q_HB, Q_HO207, Q_HO210, Q_HO213, Q_HO216, Q_HO219, Q_HO222, Q_HO225, Q_HO228, Q_HO231, Q_X22_⟩ hb_ hon hoff
              refine ⟨_, rfl, fun K hK => ?_⟩
              have e16 : a.tmps[16]? = some (.int .i64 a0_1) := by rw [ha]; exact putSel_on (e := (4, 16, .int .i64 a0_1)) 2 rfl rfl (hon 4 (by kernel_rfl)) rfl
              replace ha := Aside0.mk ha
              have BK204 := Aside0.mk Q_BK204
              have HB := Aside0.mk Q_HB
              have HO207 := Aside0.mk (Q_HO207 (hon 2 (by kernel_rfl)) (hoff 20 (by kernel_rfl)))
              refine goes_ Try.func94 (by kernel_rfl) rfl #[.int .i64 a0_1] (by rfl) rfl rfl (by first | (simp only [List.map_toArray, List.map_cons, List.map_nil, Act.eval, Array.getD_eq_getD_getElem?, Option.getD_some, e16]; done) | (simp only [List.map_toArray, List.map_cons, List.map_nil, Act.eval, Array.getD_eq_getD_getElem?, Option.getD_some, e16]; rfl)) ?_
              with_reducible refine (impl_number.calls kj5 a0_1 t208 _ A10.out).mono ?_
              rintro e w19 ⟨v209, rfl, ho0, hb⟩
              refine ⟨_, rfl, ?_⟩
              have n0_ := Aside0.mk (Kd.R_elder' (by (with_reducible repeat (first | apply Kd.R_alloc | apply Kd.R_drewN | apply Kd.R_drew)); exact HO207.out) (Kd.R_base ho0) hb)
              have n1_ := Aside0.mk (Kd.R_lower (Kd.R_new' ho0 (Kd.R_lt (by (with_reducible repeat (first | apply Kd.R_alloc | apply Kd.R_drewN | apply Kd.R_drew)); exact HO207.out))) (below_size (by repeat (first | (with_reducible first | exact HB.out | apply below_alloc | apply pw_below_drewN | apply below_drew1 | refine below_set ?_ GE204.out) | exact HB.out))))
              have n2_ := Aside0.mk (blk_below (g := gb204) (o := .cells #[.int .i64 a0_0, .int .i64 a0_1, .string a0_2, .int .i64 a0_3, .string a0_4, .string a0_5, .bool a0_6, .bool a0_7] 32 (0, 0)) (by (with_reducible repeat (first | refine blk_drewN ?_ _ | refine blk_drew ?_ | refine blk_alloc ?_ _)); exact BK204.out) hb)
              have n3_ := Aside0.mk (below_step (by repeat (first | (with_reducible first | exact HB.out | apply below_alloc | apply pw_below_drewN | apply below_drew1 | refine below_set ?_ GE204.out) | exact HB.out)) hb)
              have z_HO225 := fun (h0_ : b 19 = true) (h1_ : b 20 = false) => (show Kd.R (Kd.int .u8) 5 w19 w.heap.size (fun _ => True) v224 y223 from by first | exact (Kd.R_elder' (by (with_reducible repeat (first | apply Kd.R_alloc | apply Kd.R_drewN | apply Kd.R_drew)); exact (Q_HO225 h0_ h1_)) (Kd.R_base ho0) hb) | exact Kd.R_mono (Kd.R_elder' (by (with_reducible repeat (first | apply Kd.R_alloc | apply Kd.R_drewN | apply Kd.R_drew)); exact (Q_HO225 h0_ h1_)) (Kd.R_base ho0) hb) (fun _ h_ => by first | trivial | exact h_ | exact h_.1))
              clear HO207
              clear BK204
              clear HB
              have HO207 := n0_
              have HO210 := n1_
              have BK204 := n2_
              have HB := n3_
              clear n0_ n1_ n2_ n3_
              (try clear hb)
              (try clear hb2)
              (try clear hk)
              (try clear hi)
              (try clear ho0)
              refine hK.out _ _ ⟨v206, v209, v212, v215, v218, v221, v224, v227, v230, m22_, (by rw [ha.out]; exact putSel_upk 3 hb_ rfl rfl rfl), (by (with_reducible repeat (first | refine blk_drewN ?_ _ | refine blk_drew ?_ | refine blk_alloc ?_ _)); exact BK204.out), (by repeat (first | (with_reducible first | exact HB.out | apply below_alloc | apply pw_below_drewN | apply below_drew1 | refine below_set ?_ GE204.out) | exact HB.out)), fun _ _ => (by (with_reducible repeat (first | apply Kd.R_alloc | apply Kd.R_drewN | apply Kd.R_drew)); first | exact HO207.out | exact Kd.R_mono HO207.out (fun _ hk => by first | trivial | exact hk | exact hk.1 | exact hk.2 | exact ⟨hk.1.2, hk.2⟩ | simp_all)), fun _ _ => (by (with_reducible repeat (first | apply Kd.R_alloc | apply Kd.R_drewN | apply Kd.R_drew)); first | exact HO210.out | exact Kd.R_mono HO210.out (fun _ hk => by first | trivial | exact hk | exact hk.1 | exact hk.2 | exact ⟨hk.1.2, hk.2⟩ | simp_all)), fun h0_ _ => absurd ((hoff 8 (by kernel_rfl)).symm.trans h0_) (by decide), fun h0_ _ => absurd ((hoff 11 (by kernel_rfl)).symm.trans h0_) (by decide), fun h0_ _ => absurd ((hoff 14 (by kernel_rfl)).symm.trans h0_) (by decide), fun h0_ _ => absurd ((hoff 17 (by kernel_rfl)).symm.trans h0_) (by decide), z_HO225, fun h0_ => absurd ((hoff 20 (by kernel_rfl)).symm.trans h0_) (by decide), fun h0_ => absurd ((hoff 21 (by kernel_rfl)).symm.trans h0_) (by decide), fun h0_ => absurd ((hoff 22 (by kernel_rfl)).symm.trans h0_) (by decide)⟩
            refine steps_cons ?_ ?_
            · rintro b a w' ⟨v206, v209, v212, v215, v218, v221, v224, v227, v230, m22_, ha, Q_BK204, Q_HB, Q_HO207, Q_HO210, Q_HO213, Q_HO216, Q_HO219, Q_HO222, Q_HO225, Q_HO228, Q_HO231, Q_X22_⟩ hb_ hon hoff
              refine ⟨_, rfl, fun K hK => ?_⟩
              have e18 : a.tmps[18]? = some (.pointer (some ⟨gb204, 2, none⟩)) := by rw [ha]; exact (putSel_off rfl).trans rfl
              replace ha := Aside0.mk ha
              have BK204 := Aside0.mk Q_BK204
              have HB := Aside0.mk Q_HB
              have hc0_ : w'.cell? ⟨gb204, 0, none⟩ = some (.int .i64 a0_0) := (blk_cell BK204.out 0).trans rfl
              have hc1_ : w'.cell? ⟨gb204, 1, none⟩ = some (.int .i64 a0_1) := (blk_cell BK204.out 1).trans rfl
              have hc2_ : w'.cell? ⟨gb204, 2, none⟩ = some (.string a0_2) := (blk_cell BK204.out 2).trans rfl
              have hc3_ : w'.cell? ⟨gb204, 3, none⟩ = some (.int .i64 a0_3) := (blk_cell BK204.out 3).trans rfl
              have hc4_ : w'.cell? ⟨gb204, 4, none⟩ = some (.string a0_4) := (blk_cell BK204.out 4).trans rfl
              have hc5_ : w'.cell? ⟨gb204, 5, none⟩ = some (.string a0_5) := (blk_cell BK204.out 5).trans rfl
              have hc6_ : w'.cell? ⟨gb204, 6, none⟩ = some (.bool a0_6) := (blk_cell BK204.out 6).trans rfl
              have hc7_ : w'.cell? ⟨gb204, 7, none⟩ = some (.bool a0_7) := (blk_cell BK204.out 7).trans rfl
              refine value_ (w1 := w') (v := .string a0_2) (by rfl) rfl ?_ ?_
              · go_simp
                (try simp only [i64_w])
                try rfl
              refine hK.out _ _ ⟨v206, v209, v212, v215, v218, v221, v224, v227, v230, m22_, (by rw [ha.out]; exact putSel_upk 4 hb_ rfl rfl rfl), Q_BK204, Q_HB, Q_HO207, Q_HO210, fun h0_ _ => absurd ((hoff 8 (by kernel_rfl)).symm.trans h0_) (by decide), fun h0_ _ => absurd ((hoff 11 (by kernel_rfl)).symm.trans h0_) (by decide), fun h0_ _ => absurd ((hoff 14 (by kernel_rfl)).symm.trans h0_) (by decide), fun h0_ _ => absurd ((hoff 17 (by kernel_rfl)).symm.trans h0_) (by decide), Q_HO225, fun h0_ => absurd ((hoff 20 (by kernel_rfl)).symm.trans h0_) (by decide), fun h0_ => absurd ((hoff 21 (by kernel_rfl)).symm.trans h0_) (by decide), fun h0_ => absurd ((hoff 22 (by kernel_rfl)).symm.trans h0_) (by decide)⟩
            refine steps_cons ?_ ?_
            · rintro b a w' ⟨v206, v209, v212, v215, v218, v221, v224, v227, v230, m22_, ha, Q_BK204, Q_HB, Q_HO207, Q_HO210, Q_HO213, Q_HO216, Q_HO219, Q_HO222, Q_HO225, Q_HO228, Q_HO231, Q_X22_⟩ hb_ hon hoff
              refine ⟨_, rfl, fun K hK => ?_⟩
              have e19 : a.tmps[19]? = some (.string a0_2) := by rw [ha]; exact putSel_on (e := (7, 19, .string a0_2)) 4 rfl rfl (hon 7 (by kernel_rfl)) rfl
              replace ha := Aside0.mk ha
              have BK204 := Aside0.mk Q_BK204
              have HB := Aside0.mk Q_HB
              have HO207 := Aside0.mk (Q_HO207 (hon 2 (by kernel_rfl)) (hoff 20 (by kernel_rfl)))
              have HO210 := Aside0.mk (Q_HO210 (hon 5 (by kernel_rfl)) (hoff 20 (by kernel_rfl)))
              refine goes_ Try.func98 (by kernel_rfl) rfl #[.string a0_2] (by rfl) rfl rfl (by first | (simp only [List.map_toArray, List.map_cons, List.map_nil, Act.eval, Array.getD_eq_getD_getElem?, Option.getD_some, e19]; done) | (simp only [List.map_toArray, List.map_cons, List.map_nil, Act.eval, Array.getD_eq_getD_getElem?, Option.getD_some, e19]; rfl)) ?_
              with_reducible refine (impl_textBytes.calls kj5 a0_2 t211 _ A11.out).mono ?_
              rintro e w20 ⟨v212, rfl, ho0, hb⟩
              refine ⟨_, rfl, ?_⟩
              have n0_ := Aside0.mk (Kd.R_elder' (by (with_reducible repeat (first | apply Kd.R_alloc | apply Kd.R_drewN | apply Kd.R_drew)); exact HO207.out) (Kd.R_base ho0) hb)
              have n1_ := Aside0.mk (Kd.R_elder' (by (with_reducible repeat (first | apply Kd.R_alloc | apply Kd.R_drewN | apply Kd.R_drew)); exact HO210.out) (Kd.R_base ho0) hb)
              have n2_ := Aside0.mk (Kd.R_lower (Kd.R_new' (Kd.R_new' ho0 (Kd.R_lt (by (with_reducible repeat (first | apply Kd.R_alloc | apply Kd.R_drewN | apply Kd.R_drew)); exact HO207.out))) (Kd.R_lt (by (with_reducible repeat (first | apply Kd.R_alloc | apply Kd.R_drewN | apply Kd.R_drew)); exact HO210.out))) (below_size (by repeat (first | (with_reducible first | exact HB.out | apply below_alloc | apply pw_below_drewN | apply below_drew1 | refine below_set ?_ GE204.out) | exact HB.out))))
              have n3_ := Aside0.mk (blk_below (g := gb204) (o := .cells #[.int .i64 a0_0, .int .i64 a0_1, .string a0_2, .int .i64 a0_3, .string a0_4, .string a0_5, .bool a0_6, .bool a0_7] 32 (0, 0)) (by (with_reducible repeat (first | refine blk_drewN ?_ _ | refine blk_drew ?_ | refine blk_alloc ?_ _)); exact BK204.out) hb)
              have n4_ := Aside0.mk (below_step (by repeat (first | (with_reducible first | exact HB.out | apply below_alloc | apply pw_below_drewN | apply below_drew1 | refine below_set ?_ GE204.out) | exact HB.out)) hb)
              have z_HO225 := fun (h0_ : b 19 = true) (h1_ : b 20 = false) => (show Kd.R (Kd.int .u8) 5 w20 w.heap.size (fun _ => True) v224 y223 from by first | exact (Kd.R_elder' (by (with_reducible repeat (first | apply Kd.R_alloc | apply Kd.R_drewN | apply Kd.R_drew)); exact (Q_HO225 h0_ h1_)) (Kd.R_base ho0) hb) | exact Kd.R_mono (Kd.R_elder' (by (with_reducible repeat (first | apply Kd.R_alloc | apply Kd.R_drewN | apply Kd.R_drew)); exact (Q_HO225 h0_ h1_)) (Kd.R_base ho0) hb) (fun _ h_ => by first | trivial | exact h_ | exact h_.1))
              clear HO207
              clear HO210
              clear BK204
              clear HB
              have HO207 := n0_
              have HO210 := n1_
              have HO213 := n2_
              have BK204 := n3_
              have HB := n4_
              clear n0_ n1_ n2_ n3_ n4_
              (try clear hb)
              (try clear hb2)
              (try clear hk)
              (try clear hi)
              (try clear ho0)
              refine hK.out _ _ ⟨v206, v209, v212, v215, v218, v221, v224, v227, v230, m22_, (by rw [ha.out]; exact putSel_upk 5 hb_ rfl rfl rfl), (by (with_reducible repeat (first | refine blk_drewN ?_ _ | refine blk_drew ?_ | refine blk_alloc ?_ _)); exact BK204.out), (by repeat (first | (with_reducible first | exact HB.out | apply below_alloc | apply pw_below_drewN | apply below_drew1 | refine below_set ?_ GE204.out) | exact HB.out)), fun _ _ => (by (with_reducible repeat (first | apply Kd.R_alloc | apply Kd.R_drewN | apply Kd.R_drew)); first | exact HO207.out | exact Kd.R_mono HO207.out (fun _ hk => by first | trivial | exact hk | exact hk.1 | exact hk.2 | exact ⟨hk.1.2, hk.2⟩ | simp_all)), fun _ _ => (by (with_reducible repeat (first | apply Kd.R_alloc | apply Kd.R_drewN | apply Kd.R_drew)); first | exact HO210.out | exact Kd.R_mono HO210.out (fun _ hk => by first | trivial | exact hk | exact hk.1 | exact hk.2 | exact ⟨hk.1.2, hk.2⟩ | simp_all)), fun _ _ => (by (with_reducible repeat (first | apply Kd.R_alloc | apply Kd.R_drewN | apply Kd.R_drew)); first | exact HO213.out | exact Kd.R_mono HO213.out (fun _ hk => by first | trivial | exact hk | exact hk.1 | exact hk.2 | exact ⟨hk.1.2, hk.2⟩ | simp_all)), fun h0_ _ => absurd ((hoff 11 (by kernel_rfl)).symm.trans h0_) (by decide), fun h0_ _ => absurd ((hoff 14 (by kernel_rfl)).symm.trans h0_) (by decide), fun h0_ _ => absurd ((hoff 17 (by kernel_rfl)).symm.trans h0_) (by decide), z_HO225, fun h0_ => absurd ((hoff 20 (by kernel_rfl)).symm.trans h0_) (by decide), fun h0_ => absurd ((hoff 21 (by kernel_rfl)).symm.trans h0_) (by decide), fun h0_ => absurd ((hoff 22 (by kernel_rfl)).symm.trans h0_) (by decide)⟩
            refine steps_cons ?_ ?_
            · rintro b a w' ⟨v206, v209, v212, v215, v218, v221, v224, v227, v230, m22_, ha, Q_BK204, Q_HB, Q_HO207, Q_HO210, Q_HO213, Q_HO216, Q_HO219, Q_HO222, Q_HO225, Q_HO228, Q_HO231, Q_X22_⟩ hb_ hon hoff
              refine ⟨_, rfl, fun K hK => ?_⟩
              have e21 : a.tmps[21]? = some (.pointer (some ⟨gb204, 3, none⟩)) := by rw [ha]; exact (putSel_off rfl).trans rfl
              replace ha := Aside0.mk ha
              have BK204 := Aside0.mk Q_BK204
              have HB := Aside0.mk Q_HB
              have hc0_ : w'.cell? ⟨gb204, 0, none⟩ = some (.int .i64 a0_0) := (blk_cell BK204.out 0).trans rfl
              have hc1_ : w'.cell? ⟨gb204, 1, none⟩ = some (.int .i64 a0_1) := (blk_cell BK204.out 1).trans rfl
              have hc2_ : w'.cell? ⟨gb204, 2, none⟩ = some (.string a0_2) := (blk_cell BK204.out 2).trans rfl
              have hc3_ : w'.cell? ⟨gb204, 3, none⟩ = some (.int .i64 a0_3) := (blk_cell BK204.out 3).trans rfl
              have hc4_ : w'.cell? ⟨gb204, 4, none⟩ = some (.string a0_4) := (blk_cell BK204.out 4).trans rfl
              have hc5_ : w'.cell? ⟨gb204, 5, none⟩ = some (.string a0_5) := (blk_cell BK204.out 5).trans rfl
              have hc6_ : w'.cell? ⟨gb204, 6, none⟩ = some (.bool a0_6) := (blk_cell BK204.out 6).trans rfl
              have hc7_ : w'.cell? ⟨gb204, 7, none⟩ = some (.bool a0_7) := (blk_cell BK204.out 7).trans rfl
              refine value_ (w1 := w') (v := .int .i64 a0_3) (by rfl) rfl ?_ ?_
              · go_simp
                (try simp only [i64_w])
                try rfl
              refine hK.out _ _ ⟨v206, v209, v212, v215, v218, v221, v224, v227, v230, m22_, (by rw [ha.out]; exact putSel_upk 6 hb_ rfl rfl rfl), Q_BK204, Q_HB, Q_HO207, Q_HO210, Q_HO213, fun h0_ _ => absurd ((hoff 11 (by kernel_rfl)).symm.trans h0_) (by decide), fun h0_ _ => absurd ((hoff 14 (by kernel_rfl)).symm.trans h0_) (by decide), fun h0_ _ => absurd ((hoff 17 (by kernel_rfl)).symm.trans h0_) (by decide), Q_HO225, fun h0_ => absurd ((hoff 20 (by kernel_rfl)).symm.trans h0_) (by decide), fun h0_ => absurd ((hoff 21 (by kernel_rfl)).symm.trans h0_) (by decide), fun h0_ => absurd ((hoff 22 (by kernel_rfl)).symm.trans h0_) (by decide)⟩
            refine steps_cons ?_ ?_
            · rintro b a w' ⟨v206, v209, v212, v215, v218, v221, v224, v227, v230, m22_, ha, Q_BK204, Q_HB, Q_HO207, Q_HO210, Q_HO213, Q_HO216, Q_HO219, Q_HO222, Q_HO225, Q_HO228, Q_HO231, Q_X22_⟩ hb_ hon hoff
              refine ⟨_, rfl, fun K hK => ?_⟩
              have e22 : a.tmps[22]? = some (.int .i64 a0_3) := by rw [ha]; exact putSel_on (e := (10, 22, .int .i64 a0_3)) 6 rfl rfl (hon 10 (by kernel_rfl)) rfl
              replace ha := Aside0.mk ha
              have BK204 := Aside0.mk Q_BK204
              have HB := Aside0.mk Q_HB
              have HO207 := Aside0.mk (Q_HO207 (hon 2 (by kernel_rfl)) (hoff 20 (by kernel_rfl)))
              have HO210 := Aside0.mk (Q_HO210 (hon 5 (by kernel_rfl)) (hoff 20 (by kernel_rfl)))
              have HO213 := Aside0.mk (Q_HO213 (hon 8 (by kernel_rfl)) (hoff 20 (by kernel_rfl)))
              refine goes_ Try.func94 (by kernel_rfl) rfl #[.int .i64 a0_3] (by rfl) rfl rfl (by first | (simp only [List.map_toArray, List.map_cons, List.map_nil, Act.eval, Array.getD_eq_getD_getElem?, Option.getD_some, e22]; done) | (simp only [List.map_toArray, List.map_cons, List.map_nil, Act.eval, Array.getD_eq_getD_getElem?, Option.getD_some, e22]; rfl)) ?_
              with_reducible refine (impl_number.calls kj5 a0_3 t214 _ A12.out).mono ?_
              rintro e w21 ⟨v215, rfl, ho0, hb⟩
              refine ⟨_, rfl, ?_⟩
              have n0_ := Aside0.mk (Kd.R_elder' (by (with_reducible repeat (first | apply Kd.R_alloc | apply Kd.R_drewN | apply Kd.R_drew)); exact HO207.out) (Kd.R_base ho0) hb)
              have n1_ := Aside0.mk (Kd.R_elder' (by (with_reducible repeat (first | apply Kd.R_alloc | apply Kd.R_drewN | apply Kd.R_drew)); exact HO210.out) (Kd.R_base ho0) hb)
              have n2_ := Aside0.mk (Kd.R_elder' (by (with_reducible repeat (first | apply Kd.R_alloc | apply Kd.R_drewN | apply Kd.R_drew)); exact HO213.out) (Kd.R_base ho0) hb)
              have n3_ := Aside0.mk (Kd.R_lower (Kd.R_new' (Kd.R_new' (Kd.R_new' ho0 (Kd.R_lt (by (with_reducible repeat (first | apply Kd.R_alloc | apply Kd.R_drewN | apply Kd.R_drew)); exact HO207.out))) (Kd.R_lt (by (with_reducible repeat (first | apply Kd.R_alloc | apply Kd.R_drewN | apply Kd.R_drew)); exact HO210.out))) (Kd.R_lt (by (with_reducible repeat (first | apply Kd.R_alloc | apply Kd.R_drewN | apply Kd.R_drew)); exact HO213.out))) (below_size (by repeat (first | (with_reducible first | exact HB.out | apply below_alloc | apply pw_below_drewN | apply below_drew1 | refine below_set ?_ GE204.out) | exact HB.out))))
              have n4_ := Aside0.mk (blk_below (g := gb204) (o := .cells #[.int .i64 a0_0, .int .i64 a0_1, .string a0_2, .int .i64 a0_3, .string a0_4, .string a0_5, .bool a0_6, .bool a0_7] 32 (0, 0)) (by (with_reducible repeat (first | refine blk_drewN ?_ _ | refine blk_drew ?_ | refine blk_alloc ?_ _)); exact BK204.out) hb)
              have n5_ := Aside0.mk (below_step (by repeat (first | (with_reducible first | exact HB.out | apply below_alloc | apply pw_below_drewN | apply below_drew1 | refine below_set ?_ GE204.out) | exact HB.out)) hb)
              have z_HO225 := fun (h0_ : b 19 = true) (h1_ : b 20 = false) => (show Kd.R (Kd.int .u8) 5 w21 w.heap.size (fun _ => True) v224 y223 from by first | exact (Kd.R_elder' (by (with_reducible repeat (first | apply Kd.R_alloc | apply Kd.R_drewN | apply Kd.R_drew)); exact (Q_HO225 h0_ h1_)) (Kd.R_base ho0) hb) | exact Kd.R_mono (Kd.R_elder' (by (with_reducible repeat (first | apply Kd.R_alloc | apply Kd.R_drewN | apply Kd.R_drew)); exact (Q_HO225 h0_ h1_)) (Kd.R_base ho0) hb) (fun _ h_ => by first | trivial | exact h_ | exact h_.1))
              clear HO207
              clear HO210
              clear HO213
              clear BK204
              clear HB
              have HO207 := n0_
              have HO210 := n1_
              have HO213 := n2_
              have HO216 := n3_
              have BK204 := n4_
              have HB := n5_
              clear n0_ n1_ n2_ n3_ n4_ n5_
              (try clear hb)
              (try clear hb2)
              (try clear hk)
              (try clear hi)
              (try clear ho0)
              refine hK.out _ _ ⟨v206, v209, v212, v215, v218, v221, v224, v227, v230, m22_, (by rw [ha.out]; exact putSel_upk 7 hb_ rfl rfl rfl), (by (with_reducible repeat (first | refine blk_drewN ?_ _ | refine blk_drew ?_ | refine blk_alloc ?_ _)); exact BK204.out), (by repeat (first | (with_reducible first | exact HB.out | apply below_alloc | apply pw_below_drewN | apply below_drew1 | refine below_set ?_ GE204.out) | exact HB.out)), fun _ _ => (by (with_reducible repeat (first | apply Kd.R_alloc | apply Kd.R_drewN | apply Kd.R_drew)); first | exact HO207.out | exact Kd.R_mono HO207.out (fun _ hk => by first | trivial | exact hk | exact hk.1 | exact hk.2 | exact ⟨hk.1.2, hk.2⟩ | simp_all)), fun _ _ => (by (with_reducible repeat (first | apply Kd.R_alloc | apply Kd.R_drewN | apply Kd.R_drew)); first | exact HO210.out | exact Kd.R_mono HO210.out (fun _ hk => by first | trivial | exact hk | exact hk.1 | exact hk.2 | exact ⟨hk.1.2, hk.2⟩ | simp_all)), fun _ _ => (by (with_reducible repeat (first | apply Kd.R_alloc | apply Kd.R_drewN | apply Kd.R_drew)); first | exact HO213.out | exact Kd.R_mono HO213.out (fun _ hk => by first | trivial | exact hk | exact hk.1 | exact hk.2 | exact ⟨hk.1.2, hk.2⟩ | simp_all)), fun _ _ => (by (with_reducible repeat (first | apply Kd.R_alloc | apply Kd.R_drewN | apply Kd.R_drew)); first | exact HO216.out | exact Kd.R_mono HO216.out (fun _ hk => by first | trivial | exact hk | exact hk.1 | exact hk.2 | exact ⟨hk.1.2, hk.2⟩ | simp_all)), fun h0_ _ => absurd ((hoff 14 (by kernel_rfl)).symm.trans h0_) (by decide), fun h0_ _ => absurd ((hoff 17 (by kernel_rfl)).symm.trans h0_) (by decide), z_HO225, fun h0_ => absurd ((hoff 20 (by kernel_rfl)).symm.trans h0_) (by decide), fun h0_ => absurd ((hoff 21 (by kernel_rfl)).symm.trans h0_) (by decide), fun h0_ => absurd ((hoff 22 (by kernel_rfl)).symm.trans h0_) (by decide)⟩
            refine steps_cons ?_ ?_
            · rintro b a w' ⟨v206, v209, v212, v215, v218, v221, v224, v227, v230, m22_, ha, Q_BK204, Q_HB, Q_HO207, Q_HO210, Q_HO213, Q_HO216, Q_HO219, Q_HO222, Q_HO225, Q_HO228, Q_HO231, Q_X22_⟩ hb_ hon hoff
              refine ⟨_, rfl, fun K hK => ?_⟩
              have e24 : a.tmps[24]? = some (.pointer (some ⟨gb204, 4, none⟩)) := by rw [ha]; exact (putSel_off rfl).trans rfl
              replace ha := Aside0.mk ha
              have BK204 := Aside0.mk Q_BK204
              have HB := Aside0.mk Q_HB
              have hc0_ : w'.cell? ⟨gb204, 0, none⟩ = some (.int .i64 a0_0) := (blk_cell BK204.out 0).trans rfl
              have hc1_ : w'.cell? ⟨gb204, 1, none⟩ = some (.int .i64 a0_1) := (blk_cell BK204.out 1).trans rfl
              have hc2_ : w'.cell? ⟨gb204, 2, none⟩ = some (.string a0_2) := (blk_cell BK204.out 2).trans rfl
              have hc3_ : w'.cell? ⟨gb204, 3, none⟩ = some (.int .i64 a0_3) := (blk_cell BK204.out 3).trans rfl
              have hc4_ : w'.cell? ⟨gb204, 4, none⟩ = some (.string a0_4) := (blk_cell BK204.out 4).trans rfl
              have hc5_ : w'.cell? ⟨gb204, 5, none⟩ = some (.string a0_5) := (blk_cell BK204.out 5).trans rfl
              have hc6_ : w'.cell? ⟨gb204, 6, none⟩ = some (.bool a0_6) := (blk_cell BK204.out 6).trans rfl
              have hc7_ : w'.cell? ⟨gb204, 7, none⟩ = some (.bool a0_7) := (blk_cell BK204.out 7).trans rfl
              refine value_ (w1 := w') (v := .string a0_4) (by rfl) rfl ?_ ?_
              · go_simp
                (try simp only [i64_w])
                try rfl
              refine hK.out _ _ ⟨v206, v209, v212, v215, v218, v221, v224, v227, v230, m22_, (by rw [ha.out]; exact putSel_upk 8 hb_ rfl rfl rfl), Q_BK204, Q_HB, Q_HO207, Q_HO210, Q_HO213, Q_HO216, fun h0_ _ => absurd ((hoff 14 (by kernel_rfl)).symm.trans h0_) (by decide), fun h0_ _ => absurd ((hoff 17 (by kernel_rfl)).symm.trans h0_) (by decide), Q_HO225, fun h0_ => absurd ((hoff 20 (by kernel_rfl)).symm.trans h0_) (by decide), fun h0_ => absurd ((hoff 21 (by kernel_rfl)).symm.trans h0_) (by decide), fun h0_ => absurd ((hoff 22 (by kernel_rfl)).symm.trans h0_) (by decide)⟩
            refine steps_cons ?_ ?_
            · rintro b a w' ⟨v206, v209, v212, v215, v218, v221, v224, v227, v230, m22_, ha, Q_BK204, Q_HB, Q_HO207, Q_HO210, Q_HO213, Q_HO216, Q_HO219, Q_HO222, Q_HO225, Q_HO228, Q_HO231, Q_X22_⟩ hb_ hon hoff
              refine ⟨_, rfl, fun K hK => ?_⟩
              have e25 : a.tmps[25]? = some (.string a0_4) := by rw [ha]; exact putSel_on (e := (13, 25, .string a0_4)) 8 rfl rfl (hon 13 (by kernel_rfl)) rfl
              replace ha := Aside0.mk ha
              have BK204 := Aside0.mk Q_BK204
              have HB := Aside0.mk Q_HB
              have HO207 := Aside0.mk (Q_HO207 (hon 2 (by kernel_rfl)) (hoff 20 (by kernel_rfl)))
              have HO210 := Aside0.mk (Q_HO210 (hon 5 (by kernel_rfl)) (hoff 20 (by kernel_rfl)))
              have HO213 := Aside0.mk (Q_HO213 (hon 8 (by kernel_rfl)) (hoff 20 (by kernel_rfl)))
              have HO216 := Aside0.mk (Q_HO216 (hon 11 (by kernel_rfl)) (hoff 20 (by kernel_rfl)))
              refine goes_ Try.func98 (by kernel_rfl) rfl #[.string a0_4] (by rfl) rfl rfl (by first | (simp only [List.map_toArray, List.map_cons, List.map_nil, Act.eval, Array.getD_eq_getD_getElem?, Option.getD_some, e25]; done) | (simp only [List.map_toArray, List.map_cons, List.map_nil, Act.eval, Array.getD_eq_getD_getElem?, Option.getD_some, e25]; rfl)) ?_
              with_reducible refine (impl_textBytes.calls kj5 a0_4 t217 _ A13.out).mono ?_
              rintro e w22 ⟨v218, rfl, ho0, hb⟩
              refine ⟨_, rfl, ?_⟩
              have n0_ := Aside0.mk (Kd.R_elder' (by (with_reducible repeat (first | apply Kd.R_alloc | apply Kd.R_drewN | apply Kd.R_drew)); exact HO207.out) (Kd.R_base ho0) hb)
              have n1_ := Aside0.mk (Kd.R_elder' (by (with_reducible repeat (first | apply Kd.R_alloc | apply Kd.R_drewN | apply Kd.R_drew)); exact HO210.out) (Kd.R_base ho0) hb)
              have n2_ := Aside0.mk (Kd.R_elder' (by (with_reducible repeat (first | apply Kd.R_alloc | apply Kd.R_drewN | apply Kd.R_drew)); exact HO213.out) (Kd.R_base ho0) hb)
              have n3_ := Aside0.mk (Kd.R_elder' (by (with_reducible repeat (first | apply Kd.R_alloc | apply Kd.R_drewN | apply Kd.R_drew)); exact HO216.out) (Kd.R_base ho0) hb)
              have n4_ := Aside0.mk (Kd.R_lower (Kd.R_new' (Kd.R_new' (Kd.R_new' (Kd.R_new' ho0 (Kd.R_lt (by (with_reducible repeat (first | apply Kd.R_alloc | apply Kd.R_drewN | apply Kd.R_drew)); exact HO207.out))) (Kd.R_lt (by (with_reducible repeat (first | apply Kd.R_alloc | apply Kd.R_drewN | apply Kd.R_drew)); exact HO210.out))) (Kd.R_lt (by (with_reducible repeat (first | apply Kd.R_alloc | apply Kd.R_drewN | apply Kd.R_drew)); exact HO213.out))) (Kd.R_lt (by (with_reducible repeat (first | apply Kd.R_alloc | apply Kd.R_drewN | apply Kd.R_drew)); exact HO216.out))) (below_size (by repeat (first | (with_reducible first | exact HB.out | apply below_alloc | apply pw_below_drewN | apply below_drew1 | refine below_set ?_ GE204.out) | exact HB.out))))
              have n5_ := Aside0.mk (blk_below (g := gb204) (o := .cells #[.int .i64 a0_0, .int .i64 a0_1, .string a0_2, .int .i64 a0_3, .string a0_4, .string a0_5, .bool a0_6, .bool a0_7] 32 (0, 0)) (by (with_reducible repeat (first | refine blk_drewN ?_ _ | refine blk_drew ?_ | refine blk_alloc ?_ _)); exact BK204.out) hb)
              have n6_ := Aside0.mk (below_step (by repeat (first | (with_reducible first | exact HB.out | apply below_alloc | apply pw_below_drewN | apply below_drew1 | refine below_set ?_ GE204.out) | exact HB.out)) hb)
              have z_HO225 := fun (h0_ : b 19 = true) (h1_ : b 20 = false) => (show Kd.R (Kd.int .u8) 5 w22 w.heap.size (fun _ => True) v224 y223 from by first | exact (Kd.R_elder' (by (with_reducible repeat (first | apply Kd.R_alloc | apply Kd.R_drewN | apply Kd.R_drew)); exact (Q_HO225 h0_ h1_)) (Kd.R_base ho0) hb) | exact Kd.R_mono (Kd.R_elder' (by (with_reducible repeat (first | apply Kd.R_alloc | apply Kd.R_drewN | apply Kd.R_drew)); exact (Q_HO225 h0_ h1_)) (Kd.R_base ho0) hb) (fun _ h_ => by first | trivial | exact h_ | exact h_.1))
              clear HO207
              clear HO210
              clear HO213
              clear HO216
              clear BK204
              clear HB
              have HO207 := n0_
              have HO210 := n1_
              have HO213 := n2_
              have HO216 := n3_
              have HO219 := n4_
              have BK204 := n5_
              have HB := n6_
              clear n0_ n1_ n2_ n3_ n4_ n5_ n6_
              (try clear hb)
              (try clear hb2)
              (try clear hk)
              (try clear hi)
              (try clear ho0)
              refine hK.out _ _ ⟨v206, v209, v212, v215, v218, v221, v224, v227, v230, m22_, (by rw [ha.out]; exact putSel_upk 9 hb_ rfl rfl rfl), (by (with_reducible repeat (first | refine blk_drewN ?_ _ | refine blk_drew ?_ | refine blk_alloc ?_ _)); exact BK204.out), (by repeat (first | (with_reducible first | exact HB.out | apply below_alloc | apply pw_below_drewN | apply below_drew1 | refine below_set ?_ GE204.out) | exact HB.out)), fun _ _ => (by (with_reducible repeat (first | apply Kd.R_alloc | apply Kd.R_drewN | apply Kd.R_drew)); first | exact HO207.out | exact Kd.R_mono HO207.out (fun _ hk => by first | trivial | exact hk | exact hk.1 | exact hk.2 | exact ⟨hk.1.2, hk.2⟩ | simp_all)), fun _ _ => (by (with_reducible repeat (first | apply Kd.R_alloc | apply Kd.R_drewN | apply Kd.R_drew)); first | exact HO210.out | exact Kd.R_mono HO210.out (fun _ hk => by first | trivial | exact hk | exact hk.1 | exact hk.2 | exact ⟨hk.1.2, hk.2⟩ | simp_all)), fun _ _ => (by (with_reducible repeat (first | apply Kd.R_alloc | apply Kd.R_drewN | apply Kd.R_drew)); first | exact HO213.out | exact Kd.R_mono HO213.out (fun _ hk => by first | trivial | exact hk | exact hk.1 | exact hk.2 | exact ⟨hk.1.2, hk.2⟩ | simp_all)), fun _ _ => (by (with_reducible repeat (first | apply Kd.R_alloc | apply Kd.R_drewN | apply Kd.R_drew)); first | exact HO216.out | exact Kd.R_mono HO216.out (fun _ hk => by first | trivial | exact hk | exact hk.1 | exact hk.2 | exact ⟨hk.1.2, hk.2⟩ | simp_all)), fun _ _ => (by (with_reducible repeat (first | apply Kd.R_alloc | apply Kd.R_drewN | apply Kd.R_drew)); first | exact HO219.out | exact Kd.R_mono HO219.out (fun _ hk => by first | trivial | exact hk | exact hk.1 | exact hk.2 | exact ⟨hk.1.2, hk.2⟩ | simp_all)), fun h0_ _ => absurd ((hoff 17 (by kernel_rfl)).symm.trans h0_) (by decide), z_HO225, fun h0_ => absurd ((hoff 20 (by kernel_rfl)).symm.trans h0_) (by decide), fun h0_ => absurd ((hoff 21 (by kernel_rfl)).symm.trans h0_) (by decide), fun h0_ => absurd ((hoff 22 (by kernel_rfl)).symm.trans h0_) (by decide)⟩
            refine steps_cons ?_ ?_
            · rintro b a w' ⟨v206, v209, v212, v215, v218, v221, v224, v227, v230, m22_, ha, Q_BK204, Q_HB, Q_HO207, Q_HO210, Q_HO213, Q_HO216, Q_HO219, Q_HO222, Q_HO225, Q_HO228, Q_HO231, Q_X22_⟩ hb_ hon hoff
              refine ⟨_, rfl, fun K hK => ?_⟩
              have e27 : a.tmps[27]? = some (.pointer (some ⟨gb204, 5, none⟩)) := by rw [ha]; exact (putSel_off rfl).trans rfl
              replace ha := Aside0.mk ha
              have BK204 := Aside0.mk Q_BK204
              have HB := Aside0.mk Q_HB
              have hc0_ : w'.cell? ⟨gb204, 0, none⟩ = some (.int .i64 a0_0) := (blk_cell BK204.out 0).trans rfl
              have hc1_ : w'.cell? ⟨gb204, 1, none⟩ = some (.int .i64 a0_1) := (blk_cell BK204.out 1).trans rfl
              have hc2_ : w'.cell? ⟨gb204, 2, none⟩ = some (.string a0_2) := (blk_cell BK204.out 2).trans rfl
              have hc3_ : w'.cell? ⟨gb204, 3, none⟩ = some (.int .i64 a0_3) := (blk_cell BK204.out 3).trans rfl
              have hc4_ : w'.cell? ⟨gb204, 4, none⟩ = some (.string a0_4) := (blk_cell BK204.out 4).trans rfl
              have hc5_ : w'.cell? ⟨gb204, 5, none⟩ = some (.string a0_5) := (blk_cell BK204.out 5).trans rfl
              have hc6_ : w'.cell? ⟨gb204, 6, none⟩ = some (.bool a0_6) := (blk_cell BK204.out 6).trans rfl
              have hc7_ : w'.cell? ⟨gb204, 7, none⟩ = some (.bool a0_7) := (blk_cell BK204.out 7).trans rfl
              refine value_ (w1 := w') (v := .string a0_5) (by rfl) rfl ?_ ?_
              · go_simp
                (try simp only [i64_w])
                try rfl
              refine hK.out _ _ ⟨v206, v209, v212, v215, v218, v221, v224, v227, v230, m22_, (by rw [ha.out]; exact putSel_upk 10 hb_ rfl rfl rfl), Q_BK204, Q_HB, Q_HO207, Q_HO210, Q_HO213, Q_HO216, Q_HO219, fun h0_ _ => absurd ((hoff 17 (by kernel_rfl)).symm.trans h0_) (by decide), Q_HO225, fun h0_ => absurd ((hoff 20 (by kernel_rfl)).symm.trans h0_) (by decide), fun h0_ => absurd ((hoff 21 (by kernel_rfl)).symm.trans h0_) (by decide), fun h0_ => absurd ((hoff 22 (by kernel_rfl)).symm.trans h0_) (by decide)⟩
            refine steps_cons ?_ ?_
            · rintro b a w' ⟨v206, v209, v212, v215, v218, v221, v224, v227, v230, m22_, ha, Q_BK204, Q_HB, Q_HO207, Q_HO210, Q_HO213, Q_HO216, Q_HO219, Q_HO222, Q_HO225, Q_HO228, Q_HO231, Q_X22_⟩ hb_ hon hoff
              refine ⟨_, rfl, fun K hK => ?_⟩
              have e28 : a.tmps[28]? = some (.string a0_5) := by rw [ha]; exact putSel_on (e := (16, 28, .string a0_5)) 10 rfl rfl (hon 16 (by kernel_rfl)) rfl
              replace ha := Aside0.mk ha
              have BK204 := Aside0.mk Q_BK204
              have HB := Aside0.mk Q_HB
              have HO207 := Aside0.mk (Q_HO207 (hon 2 (by kernel_rfl)) (hoff 20 (by kernel_rfl)))
              have HO210 := Aside0.mk (Q_HO210 (hon 5 (by kernel_rfl)) (hoff 20 (by kernel_rfl)))
              have HO213 := Aside0.mk (Q_HO213 (hon 8 (by kernel_rfl)) (hoff 20 (by kernel_rfl)))
              have HO216 := Aside0.mk (Q_HO216 (hon 11 (by kernel_rfl)) (hoff 20 (by kernel_rfl)))
              have HO219 := Aside0.mk (Q_HO219 (hon 14 (by kernel_rfl)) (hoff 20 (by kernel_rfl)))
              refine goes_ Try.func98 (by kernel_rfl) rfl #[.string a0_5] (by rfl) rfl rfl (by first | (simp only [List.map_toArray, List.map_cons, List.map_nil, Act.eval, Array.getD_eq_getD_getElem?, Option.getD_some, e28]; done) | (simp only [List.map_toArray, List.map_cons, List.map_nil, Act.eval, Array.getD_eq_getD_getElem?, Option.getD_some, e28]; rfl)) ?_
              with_reducible refine (impl_textBytes.calls kj5 a0_5 t220 _ A14.out).mono ?_
              rintro e w23 ⟨v221, rfl, ho0, hb⟩
              refine ⟨_, rfl, ?_⟩
              have n0_ := Aside0.mk (Kd.R_elder' (by (with_reducible repeat (first | apply Kd.R_alloc | apply Kd.R_drewN | apply Kd.R_drew)); exact HO207.out) (Kd.R_base ho0) hb)
              have n1_ := Aside0.mk (Kd.R_elder' (by (with_reducible repeat (first | apply Kd.R_alloc | apply Kd.R_drewN | apply Kd.R_drew)); exact HO210.out) (Kd.R_base ho0) hb)
              have n2_ := Aside0.mk (Kd.R_elder' (by (with_reducible repeat (first | apply Kd.R_alloc | apply Kd.R_drewN | apply Kd.R_drew)); exact HO213.out) (Kd.R_base ho0) hb)
              have n3_ := Aside0.mk (Kd.R_elder' (by (with_reducible repeat (first | apply Kd.R_alloc | apply Kd.R_drewN | apply Kd.R_drew)); exact HO216.out) (Kd.R_base ho0) hb)
              have n4_ := Aside0.mk (Kd.R_elder' (by (with_reducible repeat (first | apply Kd.R_alloc | apply Kd.R_drewN | apply Kd.R_drew)); exact HO219.out) (Kd.R_base ho0) hb)
              have n5_ := Aside0.mk (Kd.R_lower (Kd.R_new' (Kd.R_new' (Kd.R_new' (Kd.R_new' (Kd.R_new' ho0 (Kd.R_lt (by (with_reducible repeat (first | apply Kd.R_alloc | apply Kd.R_drewN | apply Kd.R_drew)); exact HO207.out))) (Kd.R_lt (by (with_reducible repeat (first | apply Kd.R_alloc | apply Kd.R_drewN | apply Kd.R_drew)); exact HO210.out))) (Kd.R_lt (by (with_reducible repeat (first | apply Kd.R_alloc | apply Kd.R_drewN | apply Kd.R_drew)); exact HO213.out))) (Kd.R_lt (by (with_reducible repeat (first | apply Kd.R_alloc | apply Kd.R_drewN | apply Kd.R_drew)); exact HO216.out))) (Kd.R_lt (by (with_reducible repeat (first | apply Kd.R_alloc | apply Kd.R_drewN | apply Kd.R_drew)); exact HO219.out))) (below_size (by repeat (first | (with_reducible first | exact HB.out | apply below_alloc | apply pw_below_drewN | apply below_drew1 | refine below_set ?_ GE204.out) | exact HB.out))))
              have n6_ := Aside0.mk (blk_below (g := gb204) (o := .cells #[.int .i64 a0_0, .int .i64 a0_1, .string a0_2, .int .i64 a0_3, .string a0_4, .string a0_5, .bool a0_6, .bool a0_7] 32 (0, 0)) (by (with_reducible repeat (first | refine blk_drewN ?_ _ | refine blk_drew ?_ | refine blk_alloc ?_ _)); exact BK204.out) hb)
              have n7_ := Aside0.mk (below_step (by repeat (first | (with_reducible first | exact HB.out | apply below_alloc | apply pw_below_drewN | apply below_drew1 | refine below_set ?_ GE204.out) | exact HB.out)) hb)
              have z_HO225 := fun (h0_ : b 19 = true) (h1_ : b 20 = false) => (show Kd.R (Kd.int .u8) 5 w23 w.heap.size (fun _ => True) v224 y223 from by first | exact (Kd.R_elder' (by (with_reducible repeat (first | apply Kd.R_alloc | apply Kd.R_drewN | apply Kd.R_drew)); exact (Q_HO225 h0_ h1_)) (Kd.R_base ho0) hb) | exact Kd.R_mono (Kd.R_elder' (by (with_reducible repeat (first | apply Kd.R_alloc | apply Kd.R_drewN | apply Kd.R_drew)); exact (Q_HO225 h0_ h1_)) (Kd.R_base ho0) hb) (fun _ h_ => by first | trivial | exact h_ | exact h_.1))
              clear HO207
              clear HO210
              clear HO213
              clear HO216
              clear HO219
              clear BK204
              clear HB
              have HO207 := n0_
              have HO210 := n1_
              have HO213 := n2_
              have HO216 := n3_
              have HO219 := n4_
              have HO222 := n5_
              have BK204 := n6_
              have HB := n7_
              clear n0_ n1_ n2_ n3_ n4_ n5_ n6_ n7_
              (try clear hb)
              (try clear hb2)
              (try clear hk)
              (try clear hi)
              (try clear ho0)
              refine hK.out _ _ ⟨v206, v209, v212, v215, v218, v221, v224, v227, v230, m22_, (by rw [ha.out]; exact putSel_upk 11 hb_ rfl rfl rfl), (by (with_reducible repeat (first | refine blk_drewN ?_ _ | refine blk_drew ?_ | refine blk_alloc ?_ _)); exact BK204.out), (by repeat (first | (with_reducible first | exact HB.out | apply below_alloc | apply pw_below_drewN | apply below_drew1 | refine below_set ?_ GE204.out) | exact HB.out)), fun _ _ => (by (with_reducible repeat (first | apply Kd.R_alloc | apply Kd.R_drewN | apply Kd.R_drew)); first | exact HO207.out | exact Kd.R_mono HO207.out (fun _ hk => by first | trivial | exact hk | exact hk.1 | exact hk.2 | exact ⟨hk.1.2, hk.2⟩ | simp_all)), fun _ _ => (by (with_reducible repeat (first | apply Kd.R_alloc | apply Kd.R_drewN | apply Kd.R_drew)); first | exact HO210.out | exact Kd.R_mono HO210.out (fun _ hk => by first | trivial | exact hk | exact hk.1 | exact hk.2 | exact ⟨hk.1.2, hk.2⟩ | simp_all)), fun _ _ => (by (with_reducible repeat (first | apply Kd.R_alloc | apply Kd.R_drewN | apply Kd.R_drew)); first | exact HO213.out | exact Kd.R_mono HO213.out (fun _ hk => by first | trivial | exact hk | exact hk.1 | exact hk.2 | exact ⟨hk.1.2, hk.2⟩ | simp_all)), fun _ _ => (by (with_reducible repeat (first | apply Kd.R_alloc | apply Kd.R_drewN | apply Kd.R_drew)); first | exact HO216.out | exact Kd.R_mono HO216.out (fun _ hk => by first | trivial | exact hk | exact hk.1 | exact hk.2 | exact ⟨hk.1.2, hk.2⟩ | simp_all)), fun _ _ => (by (with_reducible repeat (first | apply Kd.R_alloc | apply Kd.R_drewN | apply Kd.R_drew)); first | exact HO219.out | exact Kd.R_mono HO219.out (fun _ hk => by first | trivial | exact hk | exact hk.1 | exact hk.2 | exact ⟨hk.1.2, hk.2⟩ | simp_all)), fun _ _ => (by (with_reducible repeat (first | apply Kd.R_alloc | apply Kd.R_drewN | apply Kd.R_drew)); first | exact HO222.out | exact Kd.R_mono HO222.out (fun _ hk => by first | trivial | exact hk | exact hk.1 | exact hk.2 | exact ⟨hk.1.2, hk.2⟩ | simp_all)), z_HO225, fun h0_ => absurd ((hoff 20 (by kernel_rfl)).symm.trans h0_) (by decide), fun h0_ => absurd ((hoff 21 (by kernel_rfl)).symm.trans h0_) (by decide), fun h0_ => absurd ((hoff 22 (by kernel_rfl)).symm.trans h0_) (by decide)⟩
            refine steps_cons ?_ ?_
            · rintro b a w' ⟨v206, v209, v212, v215, v218, v221, v224, v227, v230, m22_, ha, Q_BK204, Q_HB, Q_HO207, Q_HO210, Q_HO213, Q_HO216, Q_HO219, Q_HO222, Q_HO225, Q_HO228, Q_HO231, Q_X22_⟩ hb_ hon hoff
              refine ⟨_, rfl, fun K hK => ?_⟩
              have e30 : a.tmps[30]? = some (.int .u8 x3_5) := by rw [ha]; exact (putSel_off rfl).trans rfl
              replace ha := Aside0.mk ha
              have BK204 := Aside0.mk Q_BK204
              have HB := Aside0.mk Q_HB
              refine Kd.R_lit_step (Kd.int .u8) _ 5 ?hg (N := 31) ?hd (xs := ([x3_5] : List Int)) (inner := [.int .u8 x3_5]) (ok := fun _ => True) (okp := fun _ => True) ?hr ?hp (fun _ hk => hk) trivial (Below.refl _ _) (Nat.le_refl _) (by simp) ?_; (case hd => rfl); (case hg => rfl); (case hr => first | (go_simp; done) | (go_simp; rfl)); (case hp => exact (Reps.one (show Kd.M (Kd.int .u8) _ _ _ x3_5 [.int .u8 x3_5] from rfl) (Reps.none _ _)))
              intro v224 w17 ho18 hb hg_ hnew_
              clear hg_ hnew_
              (first | rw [← Ny223.out] at ho18 | (simp only [Int.reduceToNat] at ho18; rw [← Ny223.out] at ho18))
              have n0_ := Aside0.mk (Kd.R_lower ho18 (below_size (by repeat (first | (with_reducible first | exact HB.out | apply below_alloc | apply pw_below_drewN | apply below_drew1 | refine below_set ?_ GE204.out) | exact HB.out))))
              have n1_ := Aside0.mk (blk_below (g := gb204) (o := .cells #[.int .i64 a0_0, .int .i64 a0_1, .string a0_2, .int .i64 a0_3, .string a0_4, .string a0_5, .bool a0_6, .bool a0_7] 32 (0, 0)) (by (with_reducible repeat (first | refine blk_drewN ?_ _ | refine blk_drew ?_ | refine blk_alloc ?_ _)); exact BK204.out) hb)
              have n2_ := Aside0.mk (below_step (by repeat (first | (with_reducible first | exact HB.out | apply below_alloc | apply pw_below_drewN | apply below_drew1 | refine below_set ?_ GE204.out) | exact HB.out)) hb)
              have z_HO207 := fun (h0_ : b 2 = true) (h1_ : b 20 = false) => (show Kd.R (Kd.int .u8) 5 w17 w.heap.size (fun _ => True) v206 t205 from by first | exact (Kd.R_elder' (by (with_reducible repeat (first | apply Kd.R_alloc | apply Kd.R_drewN | apply Kd.R_drew)); exact (Q_HO207 h0_ h1_)) (Kd.R_base ho18) hb) | exact Kd.R_mono (Kd.R_elder' (by (with_reducible repeat (first | apply Kd.R_alloc | apply Kd.R_drewN | apply Kd.R_drew)); exact (Q_HO207 h0_ h1_)) (Kd.R_base ho18) hb) (fun _ h_ => by first | trivial | exact h_ | exact h_.1))
              have z_HO210 := fun (h0_ : b 5 = true) (h1_ : b 20 = false) => (show Kd.R (Kd.int .u8) 5 w17 w.heap.size (fun _ => True) v209 t208 from by first | exact (Kd.R_elder' (by (with_reducible repeat (first | apply Kd.R_alloc | apply Kd.R_drewN | apply Kd.R_drew)); exact (Q_HO210 h0_ h1_)) (Kd.R_base ho18) hb) | exact Kd.R_mono (Kd.R_elder' (by (with_reducible repeat (first | apply Kd.R_alloc | apply Kd.R_drewN | apply Kd.R_drew)); exact (Q_HO210 h0_ h1_)) (Kd.R_base ho18) hb) (fun _ h_ => by first | trivial | exact h_ | exact h_.1))
              have z_HO213 := fun (h0_ : b 8 = true) (h1_ : b 20 = false) => (show Kd.R (Kd.int .u8) 5 w17 w.heap.size (fun _ => True) v212 t211 from by first | exact (Kd.R_elder' (by (with_reducible repeat (first | apply Kd.R_alloc | apply Kd.R_drewN | apply Kd.R_drew)); exact (Q_HO213 h0_ h1_)) (Kd.R_base ho18) hb) | exact Kd.R_mono (Kd.R_elder' (by (with_reducible repeat (first | apply Kd.R_alloc | apply Kd.R_drewN | apply Kd.R_drew)); exact (Q_HO213 h0_ h1_)) (Kd.R_base ho18) hb) (fun _ h_ => by first | trivial | exact h_ | exact h_.1))
              have z_HO216 := fun (h0_ : b 11 = true) (h1_ : b 20 = false) => (show Kd.R (Kd.int .u8) 5 w17 w.heap.size (fun _ => True) v215 t214 from by first | exact (Kd.R_elder' (by (with_reducible repeat (first | apply Kd.R_alloc | apply Kd.R_drewN | apply Kd.R_drew)); exact (Q_HO216 h0_ h1_)) (Kd.R_base ho18) hb) | exact Kd.R_mono (Kd.R_elder' (by (with_reducible repeat (first | apply Kd.R_alloc | apply Kd.R_drewN | apply Kd.R_drew)); exact (Q_HO216 h0_ h1_)) (Kd.R_base ho18) hb) (fun _ h_ => by first | trivial | exact h_ | exact h_.1))
              have z_HO219 := fun (h0_ : b 14 = true) (h1_ : b 20 = false) => (show Kd.R (Kd.int .u8) 5 w17 w.heap.size (fun _ => True) v218 t217 from by first | exact (Kd.R_elder' (by (with_reducible repeat (first | apply Kd.R_alloc | apply Kd.R_drewN | apply Kd.R_drew)); exact (Q_HO219 h0_ h1_)) (Kd.R_base ho18) hb) | exact Kd.R_mono (Kd.R_elder' (by (with_reducible repeat (first | apply Kd.R_alloc | apply Kd.R_drewN | apply Kd.R_drew)); exact (Q_HO219 h0_ h1_)) (Kd.R_base ho18) hb) (fun _ h_ => by first | trivial | exact h_ | exact h_.1))
              have z_HO222 := fun (h0_ : b 17 = true) (h1_ : b 20 = false) => (show Kd.R (Kd.int .u8) 5 w17 w.heap.size (fun _ => True) v221 t220 from by first | exact (Kd.R_elder' (by (with_reducible repeat (first | apply Kd.R_alloc | apply Kd.R_drewN | apply Kd.R_drew)); exact (Q_HO222 h0_ h1_)) (Kd.R_base ho18) hb) | exact Kd.R_mono (Kd.R_elder' (by (with_reducible repeat (first | apply Kd.R_alloc | apply Kd.R_drewN | apply Kd.R_drew)); exact (Q_HO222 h0_ h1_)) (Kd.R_base ho18) hb) (fun _ h_ => by first | trivial | exact h_ | exact h_.1))
              clear BK204
              clear HB
              have HO225 := n0_
              have BK204 := n1_
              have HB := n2_
              clear n0_ n1_ n2_
              clear hb ho18
              refine hK.out _ _ ⟨v206, v209, v212, v215, v218, v221, v224, v227, v230, m22_, (by rw [ha.out]; exact putSel_upk 12 hb_ rfl rfl rfl), (by (with_reducible repeat (first | refine blk_drewN ?_ _ | refine blk_drew ?_ | refine blk_alloc ?_ _)); exact BK204.out), (by repeat (first | (with_reducible first | exact HB.out | apply below_alloc | apply pw_below_drewN | apply below_drew1 | refine below_set ?_ GE204.out) | exact HB.out)), z_HO207, z_HO210, z_HO213, z_HO216, z_HO219, z_HO222, fun _ _ => (by (with_reducible repeat (first | apply Kd.R_alloc | apply Kd.R_drewN | apply Kd.R_drew)); first | exact HO225.out | exact Kd.R_mono HO225.out (fun _ hk => by first | trivial | exact hk | exact hk.1 | exact hk.2 | exact ⟨hk.1.2, hk.2⟩ | simp_all)), fun h0_ => absurd ((hoff 20 (by kernel_rfl)).symm.trans h0_) (by decide), fun h0_ => absurd ((hoff 21 (by kernel_rfl)).symm.trans h0_) (by decide), fun h0_ => absurd ((hoff 22 (by kernel_rfl)).symm.trans h0_) (by decide)⟩
            refine steps_cons ?_ ?_
            · rintro b a w' ⟨v206, v209, v212, v215, v218, v221, v224, v227, v230, m22_, ha, Q_BK204, Q_HB, Q_HO207, Q_HO210, Q_HO213, Q_HO216, Q_HO219, Q_HO222, Q_HO225, Q_HO228, Q_HO231, Q_X22_⟩ hb_ hon hoff
              refine ⟨_, rfl, fun K hK => ?_⟩
              have e14 : a.tmps[14]? = some (v206) := by rw [ha]; exact putSel_on (e := (2, 14, v206)) 1 rfl rfl (hon 2 (by kernel_rfl)) rfl
              have e17 : a.tmps[17]? = some (v209) := by rw [ha]; exact putSel_on (e := (5, 17, v209)) 3 rfl rfl (hon 5 (by kernel_rfl)) rfl
              have e20 : a.tmps[20]? = some (v212) := by rw [ha]; exact putSel_on (e := (8, 20, v212)) 5 rfl rfl (hon 8 (by kernel_rfl)) rfl
              have e23 : a.tmps[23]? = some (v215) := by rw [ha]; exact putSel_on (e := (11, 23, v215)) 7 rfl rfl (hon 11 (by kernel_rfl)) rfl
              have e26 : a.tmps[26]? = some (v218) := by rw [ha]; exact putSel_on (e := (14, 26, v218)) 9 rfl rfl (hon 14 (by kernel_rfl)) rfl
              have e29 : a.tmps[29]? = some (v221) := by rw [ha]; exact putSel_on (e := (17, 29, v221)) 11 rfl rfl (hon 17 (by kernel_rfl)) rfl
              have e31 : a.tmps[31]? = some (v224) := by rw [ha]; exact putSel_on (e := (19, 31, v224)) 12 rfl rfl (hon 19 (by kernel_rfl)) rfl
              replace ha := Aside0.mk ha
              have BK204 := Aside0.mk Q_BK204
              have HB := Aside0.mk Q_HB
              have HO207 := Aside0.mk (Q_HO207 (hon 2 (by kernel_rfl)) hb_)
              have HO210 := Aside0.mk (Q_HO210 (hon 5 (by kernel_rfl)) hb_)
              have HO213 := Aside0.mk (Q_HO213 (hon 8 (by kernel_rfl)) hb_)
              have HO216 := Aside0.mk (Q_HO216 (hon 11 (by kernel_rfl)) hb_)
              have HO219 := Aside0.mk (Q_HO219 (hon 14 (by kernel_rfl)) hb_)
              have HO222 := Aside0.mk (Q_HO222 (hon 17 (by kernel_rfl)) hb_)
              have HO225 := Aside0.mk (Q_HO225 (hon 19 (by kernel_rfl)) hb_)
              obtain ⟨Ao26, co26, eo26⟩ := Kd.R_slice HO207.out
              (first | subst eo26 | (injection eo26 with f1_ f2_ f3_; have f4_ := f1_.symm; have f5_ := f3_.symm; clear f1_ f2_ f3_; subst f4_; subst f5_))
              obtain ⟨Ao27, co27, eo27⟩ := Kd.R_slice HO210.out
              (first | subst eo27 | (injection eo27 with f1_ f2_ f3_; have f4_ := f1_.symm; have f5_ := f3_.symm; clear f1_ f2_ f3_; subst f4_; subst f5_))
              obtain ⟨Ao28, co28, eo28⟩ := Kd.R_slice HO213.out
              (first | subst eo28 | (injection eo28 with f1_ f2_ f3_; have f4_ := f1_.symm; have f5_ := f3_.symm; clear f1_ f2_ f3_; subst f4_; subst f5_))
              obtain ⟨Ao29, co29, eo29⟩ := Kd.R_slice HO216.out
              (first | subst eo29 | (injection eo29 with f1_ f2_ f3_; have f4_ := f1_.symm; have f5_ := f3_.symm; clear f1_ f2_ f3_; subst f4_; subst f5_))
              obtain ⟨Ao30, co30, eo30⟩ := Kd.R_slice HO219.out
              (first | subst eo30 | (injection eo30 with f1_ f2_ f3_; have f4_ := f1_.symm; have f5_ := f3_.symm; clear f1_ f2_ f3_; subst f4_; subst f5_))
              obtain ⟨Ao31, co31, eo31⟩ := Kd.R_slice HO222.out
              (first | subst eo31 | (injection eo31 with f1_ f2_ f3_; have f4_ := f1_.symm; have f5_ := f3_.symm; clear f1_ f2_ f3_; subst f4_; subst f5_))
              obtain ⟨Ao32, co32, eo32⟩ := Kd.R_slice HO225.out
              (first | subst eo32 | (injection eo32 with f1_ f2_ f3_; have f4_ := f1_.symm; have f5_ := f3_.symm; clear f1_ f2_ f3_; subst f4_; subst f5_))
              refine Kd.N_lit_step (Kd.slice 5 (Kd.int .u8)) _ 22 ?hg (N' := 32) ?hd (xs := ([t205, t208, t211, t214, t217, t220, y223] : List (List Int))) (inner := [.slice Ao26 t205.length co26, .slice Ao27 t208.length co27, .slice Ao28 t211.length co28, .slice Ao29 t214.length co29, .slice Ao30 t217.length co30, .slice Ao31 t220.length co31, .slice Ao32 y223.length co32]) (ok := (fun k_ => k_ ≠ gb204)) (okp := (fun k_ => k_ ≠ gb204)) ?hr ?hp (fun _ hk => hk) ((show ∀ k_, w'.heap.size ≤ k_ → (fun k_ => k_ ≠ gb204) k_ from fun k_ hk => Kd.freshB (g := gb204) (o := .cells #[.int .i64 a0_0, .int .i64 a0_1, .string a0_2, .int .i64 a0_3, .string a0_4, .string a0_5, .bool a0_6, .bool a0_7] 32 (0, 0)) (by (with_reducible repeat (first | refine blk_drewN ?_ _ | refine blk_drew ?_ | refine blk_alloc ?_ _)); exact BK204.out) k_ hk) _ (Nat.le_refl _)) (Below.refl _ _) (Nat.le_refl _) (by simp) ?_; (case hd => rfl); (case hg => rfl); (case hr => first | (go_simp; done) | (go_simp; rfl)); (case hp => exact (Reps.one (show Kd.FK (Kd.slice 5 (Kd.int .u8)) _ _ t205 [.slice Ao26 t205.length co26] from (Kd.FK_slice_mk (Kd.R_reads' (Kd.R_mono (ok' := (fun k_ => k_ ≠ gb204)) (Kd.R_types (HO207.out) BK204.out (by decide)) (fun k_ hk => hk.2))).2.1 (Kd.R_F (Kd.R_mono (ok' := (fun k_ => k_ ≠ gb204)) (Kd.R_types (HO207.out) BK204.out (by decide)) (fun k_ hk => hk.2))))) (Reps.one (show Kd.FK (Kd.slice 5 (Kd.int .u8)) _ _ t208 [.slice Ao27 t208.length co27] from (Kd.FK_slice_mk (Kd.R_reads' (Kd.R_mono (ok' := (fun k_ => k_ ≠ gb204)) (Kd.R_types (HO210.out) BK204.out (by decide)) (fun k_ hk => hk.2))).2.1 (Kd.R_F (Kd.R_mono (ok' := (fun k_ => k_ ≠ gb204)) (Kd.R_types (HO210.out) BK204.out (by decide)) (fun k_ hk => hk.2))))) (Reps.one (show Kd.FK (Kd.slice 5 (Kd.int .u8)) _ _ t211 [.slice Ao28 t211.length co28] from (Kd.FK_slice_mk (Kd.R_reads' (Kd.R_mono (ok' := (fun k_ => k_ ≠ gb204)) (Kd.R_types (HO213.out) BK204.out (by decide)) (fun k_ hk => hk.2))).2.1 (Kd.R_F (Kd.R_mono (ok' := (fun k_ => k_ ≠ gb204)) (Kd.R_types (HO213.out) BK204.out (by decide)) (fun k_ hk => hk.2))))) (Reps.one (show Kd.FK (Kd.slice 5 (Kd.int .u8)) _ _ t214 [.slice Ao29 t214.length co29] from (Kd.FK_slice_mk (Kd.R_reads' (Kd.R_mono (ok' := (fun k_ => k_ ≠ gb204)) (Kd.R_types (HO216.out) BK204.out (by decide)) (fun k_ hk => hk.2))).2.1 (Kd.R_F (Kd.R_mono (ok' := (fun k_ => k_ ≠ gb204)) (Kd.R_types (HO216.out) BK204.out (by decide)) (fun k_ hk => hk.2))))) (Reps.one (show Kd.FK (Kd.slice 5 (Kd.int .u8)) _ _ t217 [.slice Ao30 t217.length co30] from (Kd.FK_slice_mk (Kd.R_reads' (Kd.R_mono (ok' := (fun k_ => k_ ≠ gb204)) (Kd.R_types (HO219.out) BK204.out (by decide)) (fun k_ hk => hk.2))).2.1 (Kd.R_F (Kd.R_mono (ok' := (fun k_ => k_ ≠ gb204)) (Kd.R_types (HO219.out) BK204.out (by decide)) (fun k_ hk => hk.2))))) (Reps.one (show Kd.FK (Kd.slice 5 (Kd.int .u8)) _ _ t220 [.slice Ao31 t220.length co31] from (Kd.FK_slice_mk (Kd.R_reads' (Kd.R_mono (ok' := (fun k_ => k_ ≠ gb204)) (Kd.R_types (HO222.out) BK204.out (by decide)) (fun k_ hk => hk.2))).2.1 (Kd.R_F (Kd.R_mono (ok' := (fun k_ => k_ ≠ gb204)) (Kd.R_types (HO222.out) BK204.out (by decide)) (fun k_ hk => hk.2))))) (Reps.one (show Kd.FK (Kd.slice 5 (Kd.int .u8)) _ _ y223 [.slice Ao32 y223.length co32] from (Kd.FK_slice_mk (Kd.R_reads' (Kd.R_mono (ok' := (fun k_ => k_ ≠ gb204)) (Kd.R_types (HO225.out) BK204.out (by decide)) (fun k_ hk => hk.2))).2.1 (Kd.R_F (Kd.R_mono (ok' := (fun k_ => k_ ≠ gb204)) (Kd.R_types (HO225.out) BK204.out (by decide)) (fun k_ hk => hk.2))))) (Reps.none _ _)))))))))
              intro v227 w33 ho34 hb hg_ hnew_
              clear hg_ hnew_
              (first | rw [← Ny226.out] at ho34 | (simp only [Int.reduceToNat] at ho34; rw [← Ny226.out] at ho34))
              have n0_ := Aside0.mk (Kd.N_lower ho34 (below_size (by repeat (first | (with_reducible first | exact HB.out | apply below_alloc | apply pw_below_drewN | apply below_drew1 | refine below_set ?_ GE204.out) | exact HB.out))))
              have n1_ := Aside0.mk (blk_below (g := gb204) (o := .cells #[.int .i64 a0_0, .int .i64 a0_1, .string a0_2, .int .i64 a0_3, .string a0_4, .string a0_5, .bool a0_6, .bool a0_7] 32 (0, 0)) (by (with_reducible repeat (first | refine blk_drewN ?_ _ | refine blk_drew ?_ | refine blk_alloc ?_ _)); exact BK204.out) hb)
              have n2_ := Aside0.mk (below_step (by repeat (first | (with_reducible first | exact HB.out | apply below_alloc | apply pw_below_drewN | apply below_drew1 | refine below_set ?_ GE204.out) | exact HB.out)) hb)
              clear BK204
              clear HB
              clear HO207
              clear HO210
              clear HO213
              clear HO216
              clear HO219
              clear HO222
              clear HO225
              have HO228 := n0_
              have BK204 := n1_
              have HB := n2_
              clear n0_ n1_ n2_
              clear hb ho34
              refine hK.out _ _ ⟨.slice Ao26 t205.length co26, .slice Ao27 t208.length co27, .slice Ao28 t211.length co28, .slice Ao29 t214.length co29, .slice Ao30 t217.length co30, .slice Ao31 t220.length co31, .slice Ao32 y223.length co32, v227, v230, m22_, (by rw [ha.out]; exact putSel_upk 13 hb_ rfl rfl rfl), (by (with_reducible repeat (first | refine blk_drewN ?_ _ | refine blk_drew ?_ | refine blk_alloc ?_ _)); exact BK204.out), (by repeat (first | (with_reducible first | exact HB.out | apply below_alloc | apply pw_below_drewN | apply below_drew1 | refine below_set ?_ GE204.out) | exact HB.out)), fun _ h1_ => absurd ((up_self b 20).symm.trans h1_) (by decide), fun _ h1_ => absurd ((up_self b 20).symm.trans h1_) (by decide), fun _ h1_ => absurd ((up_self b 20).symm.trans h1_) (by decide), fun _ h1_ => absurd ((up_self b 20).symm.trans h1_) (by decide), fun _ h1_ => absurd ((up_self b 20).symm.trans h1_) (by decide), fun _ h1_ => absurd ((up_self b 20).symm.trans h1_) (by decide), fun _ h1_ => absurd ((up_self b 20).symm.trans h1_) (by decide), fun _ => (by (with_reducible repeat (first | apply Kd.N_alloc | apply Kd.N_drewN | apply Kd.N_drew)); first | exact HO228.out | exact Kd.N_mono HO228.out (fun _ hk => by first | trivial | exact hk | exact hk.1 | exact hk.2 | exact ⟨hk.1.2, hk.2⟩ | simp_all)), fun h0_ => absurd ((hoff 21 (by kernel_rfl)).symm.trans h0_) (by decide), fun h0_ => absurd ((hoff 22 (by kernel_rfl)).symm.trans h0_) (by decide)⟩
            refine steps_cons ?_ ?_
            · rintro b a w' ⟨v206, v209, v212, v215, v218, v221, v224, v227, v230, m22_, ha, Q_BK204, Q_HB, Q_HO207, Q_HO210, Q_HO213, Q_HO216, Q_HO219, Q_HO222, Q_HO225, Q_HO228, Q_HO231, Q_X22_⟩ hb_ hon hoff
              refine ⟨_, rfl, fun K hK => ?_⟩
              have e32 : a.tmps[32]? = some (v227) := by rw [ha]; exact putSel_on (e := (20, 32, v227)) 13 rfl rfl (hon 20 (by kernel_rfl)) rfl
              replace ha := Aside0.mk ha
              have BK204 := Aside0.mk Q_BK204
              have HB := Aside0.mk Q_HB
              have HO228 := Aside0.mk (Q_HO228 (hon 20 (by kernel_rfl)))
              obtain ⟨Ao35, co35, eo35⟩ := Kd.N_slice HO228.out
              (first | subst eo35 | (injection eo35 with f1_ f2_ f3_; have f4_ := f1_.symm; have f5_ := f3_.symm; clear f1_ f2_ f3_; subst f4_; subst f5_))
              refine goes_ Try.func93 (by kernel_rfl) rfl #[.slice Ao35 y226.length co35] (by rfl) rfl rfl (by first | (simp only [List.map_toArray, List.map_cons, List.map_nil, Act.eval, Array.getD_eq_getD_getElem?, Option.getD_some, e32]; done) | (simp only [List.map_toArray, List.map_cons, List.map_nil, Act.eval, Array.getD_eq_getD_getElem?, Option.getD_some, e32]; rfl)) ?_
              with_reducible refine (slices_Concat_byte_byte.calls kj5 _ _ y226 t229 _ ?side1 ?side2 A15.out).mono ?_
              (case side1 => repeat (first | exact (Kd.N_reads' HO228.out).2.2 | (with_reducible refine Kd.C_alloc ?_ _) | (with_reducible refine Kd.C_drewN ?_ _) | (with_reducible refine Kd.C_drew ?_)))
              (case side2 => exact (Kd.N_reads' HO228.out).2.1)
              rintro e w36 ⟨v230, rfl, ho0, hb⟩
              refine ⟨_, rfl, ?_⟩
              have n0_ := Aside0.mk (Kd.N_elder' (by (with_reducible repeat (first | apply Kd.N_alloc | apply Kd.N_drewN | apply Kd.N_drew)); exact HO228.out) (Kd.R_base ho0) hb)
              have n1_ := Aside0.mk (Kd.R_lower ho0 (below_size (by repeat (first | (with_reducible first | exact HB.out | apply below_alloc | apply pw_below_drewN | apply below_drew1 | refine below_set ?_ GE204.out) | exact HB.out))))
              have n2_ := Aside0.mk (blk_below (g := gb204) (o := .cells #[.int .i64 a0_0, .int .i64 a0_1, .string a0_2, .int .i64 a0_3, .string a0_4, .string a0_5, .bool a0_6, .bool a0_7] 32 (0, 0)) (by (with_reducible repeat (first | refine blk_drewN ?_ _ | refine blk_drew ?_ | refine blk_alloc ?_ _)); exact BK204.out) hb)
              have n3_ := Aside0.mk (below_step (by repeat (first | (with_reducible first | exact HB.out | apply below_alloc | apply pw_below_drewN | apply below_drew1 | refine below_set ?_ GE204.out) | exact HB.out)) hb)
              clear HO228
              clear BK204
              clear HB
              have HO228 := n0_
              have HO231 := n1_
              have BK204 := n2_
              have HB := n3_
              clear n0_ n1_ n2_ n3_
              (try clear hb)
              (try clear hb2)
              (try clear hk)
              (try clear hi)
              (try clear ho0)
              refine hK.out _ _ ⟨v206, v209, v212, v215, v218, v221, v224, .slice Ao35 y226.length co35, v230, m22_, (by rw [ha.out]; exact putSel_upk 14 hb_ rfl rfl rfl), (by (with_reducible repeat (first | refine blk_drewN ?_ _ | refine blk_drew ?_ | refine blk_alloc ?_ _)); exact BK204.out), (by repeat (first | (with_reducible first | exact HB.out | apply below_alloc | apply pw_below_drewN | apply below_drew1 | refine below_set ?_ GE204.out) | exact HB.out)), fun _ h1_ => absurd ((hon 20 (by kernel_rfl)).symm.trans h1_) (by decide), fun _ h1_ => absurd ((hon 20 (by kernel_rfl)).symm.trans h1_) (by decide), fun _ h1_ => absurd ((hon 20 (by kernel_rfl)).symm.trans h1_) (by decide), fun _ h1_ => absurd ((hon 20 (by kernel_rfl)).symm.trans h1_) (by decide), fun _ h1_ => absurd ((hon 20 (by kernel_rfl)).symm.trans h1_) (by decide), fun _ h1_ => absurd ((hon 20 (by kernel_rfl)).symm.trans h1_) (by decide), fun _ h1_ => absurd ((hon 20 (by kernel_rfl)).symm.trans h1_) (by decide), fun _ => (by (with_reducible repeat (first | apply Kd.N_alloc | apply Kd.N_drewN | apply Kd.N_drew)); first | exact HO228.out | exact Kd.N_mono HO228.out (fun _ hk => by first | trivial | exact hk | exact hk.1 | exact hk.2 | exact ⟨hk.1.2, hk.2⟩ | simp_all)), fun _ => (by (with_reducible repeat (first | apply Kd.R_alloc | apply Kd.R_drewN | apply Kd.R_drew)); first | exact HO231.out | exact Kd.R_mono HO231.out (fun _ hk => by first | trivial | exact hk | exact hk.1 | exact hk.2 | exact ⟨hk.1.2, hk.2⟩ | simp_all)), fun h0_ => absurd ((hoff 22 (by kernel_rfl)).symm.trans h0_) (by decide)⟩
            refine steps_cons ?_ ?_
            · rintro b a w' ⟨v206, v209, v212, v215, v218, v221, v224, v227, v230, m22_, ha, Q_BK204, Q_HB, Q_HO207, Q_HO210, Q_HO213, Q_HO216, Q_HO219, Q_HO222, Q_HO225, Q_HO228, Q_HO231, Q_X22_⟩ hb_ hon hoff
              refine ⟨_, rfl, fun K hK => ?_⟩
              have e33 : a.tmps[33]? = some (v230) := by rw [ha]; exact putSel_on (e := (21, 33, v230)) 14 rfl rfl (hon 21 (by kernel_rfl)) rfl
              replace ha := Aside0.mk ha
              have BK204 := Aside0.mk Q_BK204
              have HB := Aside0.mk Q_HB
              have HO228 := Aside0.mk (Q_HO228 (hon 20 (by kernel_rfl)))
              have HO231 := Aside0.mk (Q_HO231 (hon 21 (by kernel_rfl)))
              refine value_ (w1 := w') (v := v230) (by rfl) rfl ?_ ?_
              · go_simp
                (try simp only [i64_w])
                try rfl
              refine hK.out _ _ ⟨v206, v209, v212, v215, v218, v221, v224, v227, v230, (v230), (by rw [ha.out]; exact putSel_upk 15 hb_ rfl rfl rfl), Q_BK204, Q_HB, fun _ h1_ => absurd ((hon 20 (by kernel_rfl)).symm.trans h1_) (by decide), fun _ h1_ => absurd ((hon 20 (by kernel_rfl)).symm.trans h1_) (by decide), fun _ h1_ => absurd ((hon 20 (by kernel_rfl)).symm.trans h1_) (by decide), fun _ h1_ => absurd ((hon 20 (by kernel_rfl)).symm.trans h1_) (by decide), fun _ h1_ => absurd ((hon 20 (by kernel_rfl)).symm.trans h1_) (by decide), fun _ h1_ => absurd ((hon 20 (by kernel_rfl)).symm.trans h1_) (by decide), fun _ h1_ => absurd ((hon 20 (by kernel_rfl)).symm.trans h1_) (by decide), Q_HO228, Q_HO231, fun _ => rfl⟩
            exact steps_nil
          rintro b a w36 hall ⟨v206, v209, v212, v215, v218, v221, v224, v227, v230, m22_, ha, Q_BK204, Q_HB, Q_HO207, Q_HO210, Q_HO213, Q_HO216, Q_HO219, Q_HO222, Q_HO225, Q_HO228, Q_HO231, Q_X22_⟩
          clear BK204 HB
          have hb1_ := hall 1 (by kernel_rfl)
          have hb2_ := hall 2 (by kernel_rfl)
          have hb4_ := hall 4 (by kernel_rfl)
          have hb5_ := hall 5 (by kernel_rfl)
          have hb7_ := hall 7 (by kernel_rfl)
          have hb8_ := hall 8 (by kernel_rfl)
          have hb10_ := hall 10 (by kernel_rfl)
          have hb11_ := hall 11 (by kernel_rfl)
          have hb13_ := hall 13 (by kernel_rfl)
          have hb14_ := hall 14 (by kernel_rfl)
          have hb16_ := hall 16 (by kernel_rfl)
          have hb17_ := hall 17 (by kernel_rfl)
          have hb19_ := hall 19 (by kernel_rfl)
          have hb20_ := hall 20 (by kernel_rfl)
          have hb21_ := hall 21 (by kernel_rfl)
          have hb22_ := hall 22 (by kernel_rfl)
          subst ha
          obtain rfl := Q_X22_ hb22_
          simp only [putSel, hb1_, hb2_, hb4_, hb5_, hb7_, hb8_, hb10_, hb11_, hb13_, hb14_, hb16_, hb17_, hb19_, hb20_, hb21_, hb22_, if_true, Act.put, List.setIfInBounds_toArray, List.set_cons_zero, List.set_cons_succ]
          have BK204 := Aside0.mk Q_BK204
          clear Q_BK204
          have HB := Aside0.mk Q_HB
          clear Q_HB
          clear Q_HO207
          clear Q_HO210
          clear Q_HO213
          clear Q_HO216
          clear Q_HO219
          clear Q_HO222
          clear Q_HO225
          have HO228 := Aside0.mk (Q_HO228 hb20_)
          clear Q_HO228
          have HO231 := Aside0.mk (Q_HO231 hb21_)
          clear Q_HO231
          clear hall hb1_ hb2_ hb4_ hb5_ hb7_ hb8_ hb10_ hb11_ hb13_ hb14_ hb16_ hb17_ hb19_ hb20_ hb21_ hb22_
          try go_wp2
          go_ret
          exact ⟨_, by first | rfl | (simp [errW_none, errW_some] <;> rfl) | (simp [*, errW_none, errW_some] <;> rfl), by (with_reducible repeat (first | apply Kd.R_alloc | apply Kd.R_drewN | apply Kd.R_drew)); exact HO231.out, by repeat (first | (with_reducible first | exact HB.out | apply below_alloc | apply pw_below_drewN | apply below_drew1 | refine below_set ?_ GE204.out) | exact HB.out)⟩

end Go.Proofs.Ytkiknhljomobpaa.PFnExactJobBytes
