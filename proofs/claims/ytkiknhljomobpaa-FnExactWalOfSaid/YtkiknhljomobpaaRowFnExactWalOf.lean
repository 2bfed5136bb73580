/- FnExactWalOf: the program's log's bytes are the reference's, told again, and the answer owns its memory. No conditions. -/
import Derived.Test.YtkiknhljomobpaaRows
import Derived.Test.YtkiknhljomobpaaTotalFnExactWalOf
import Derived.Test.YtkiknhljomobpaaOpn
import Derived.WalkKit
import Derived.ProofKit
import Derived.OpenShut
import Derived.ShutString
import Derived.ChangeOld
import Derived.Below
import Derived.SizedLaws
namespace Go.Proofs.Ytkiknhljomobpaa.fnExactWalOf
open Go.ChangeShapes Go.WideShapes Go.ChangeAt Go.RowKit Go.Proofs.Ytkiknhljomobpaa.Opn Go.Proofs.YtkiknhljomobpaaW.PrintWords
open Go.ChangeMaps (open_string shut_string)
open Go.Proofs.Ytkiknhljomobpaa.PFnExactWalOf
set_option linter.unusedVariables false
theorem own : ownKnob Try.prog.godebug = none := by kernel_rfl
theorem laidOut : laidOutB Try.prog = true := by kernel_rfl
theorem opn42 {H : Type} {enc : TypeId × Value → H} {w : World} {base : Nat} {spare : Nat → Bool} {held : Bool} : Opn enc Try.prog w base spare held 42 k42 (fun r => (Lit.int .i64 r.f0).wf = true ∧ (Lit.int .i64 r.f1).wf = true ∧ ∀ y ∈ r.f2, (Lit.int .u8 y).wf = true) := by
  intro fuel cs x h
  obtain ⟨hl, hf⟩ := struct_fields Try.underlying42 (by kernel_rfl) (by kernel_rfl) h
  obtain ⟨c0, c1, c2, rfl⟩ := list3 (hl.trans rfl)
  obtain ⟨u0, n0, y0, f0, t0⟩ := hf 0 _ rfl
  obtain rfl : c0 = u0 := by simpa using f0
  obtain ⟨a0, e0, g0⟩ := (Opn_int Try.underlying3) _ _ _ t0
  obtain rfl : c0 = .int .i64 a0 := (List.cons.inj (show [c0] = [.int .i64 a0] from e0)).1
  obtain ⟨u1, n1, y1, f1, t1⟩ := hf 1 _ rfl
  obtain rfl : c1 = u1 := by simpa using f1
  obtain ⟨a1, e1, g1⟩ := (Opn_int Try.underlying3) _ _ _ t1
  obtain rfl : c1 = .int .i64 a1 := (List.cons.inj (show [c1] = [.int .i64 a1] from e1)).1
  obtain ⟨u2, n2, y2, f2, t2⟩ := hf 2 _ rfl
  obtain rfl : c2 = u2 := by simpa using f2
  obtain ⟨l2, hK2, g2⟩ := (Opn_slice (0 : Int) Try.underlying22 (by kernel_rfl) (Opn_int Try.underlying5)) _ _ _ t2
  obtain ⟨A2, kp2, e2, hc2, hr2⟩ := hK2
  obtain rfl : c2 = .slice A2 l2.length kp2 := (List.cons.inj (show [c2] = [.slice A2 l2.length kp2] from e2)).1
  exact ⟨⟨a0, a1, l2⟩, k42_mk w ⟨a0, a1, l2⟩ hc2 hr2, g0, g1, g2⟩
set_option maxRecDepth 100000 in
set_option maxHeartbeats 1000000 in
theorem lifted (os : Os) (started : os.Started) (H : Type) (enc : TypeId × Value → H) :
    ReturnsInHanded {} Try.checked os 12 .any (Rows.fnExactWalOfSpec.pre6 enc Try.prog Try.f12 Rows.fnExactWalOfRow.domain false) (Rows.fnExactWalOfSpec.post enc Try.prog Try.f12 false true false false) := by
  refine returnsInHanded_of_change_sized (C := Try.checked) own started (by kernel_rfl) Try.func12
    (ChangeSpec.witness6 (enc := enc) (C := Try.checked) false ⟨#[], #[.agg #[.int .i64 0, .int .i64 0, .int .i64 0, .int .i64 0, .slice none 0 0, .int .i64 0]], []⟩ 8 (by kernel_rfl) (by kernel_rfl) (by kernel_rfl) (by kernel_rfl)) ?_
  intro W base args ds gs before hval0 hW hcnd hsz0 _
  have hval : ∀ (j : Nat) t v, Try.f12.params[j]? = some t → args[j]? = some v → Value.okWide Try.prog W .any base t v := hval0
  have hW' := hW
  obtain ⟨p, q, hA0, hV, rfl, hfz, hnd⟩ := hW
  have hA : DataW.TrodAll enc Try.prog W 0 (fun _ => true) true Try.f12.params.toList args.toList ds p := hA0
  rw [Try.params12] at hA hval
  obtain ⟨v0, vs0, d0, ds0, p0, q0, hargs, rfl, rfl, h0, r0⟩ := trodAll_cons hA
  obtain ⟨rfl, rfl, rfl⟩ := trodAll_nil r0
  obtain rfl : args = #[v0] := by cases args; simp_all
  obtain ⟨rfl, rfl⟩ := trodVars_none hV
  have k0 := h0
  have lt0 : ∀ x ∈ p0, x.block < W.heap.size := by obtain ⟨m, hm⟩ := k0; exact DataW.trod_lt m _ _ _ hm
  obtain ⟨cs0, rfl, hl0, hf0⟩ := agg_fields Try.underlying62 (by kernel_rfl) (by kernel_rfl) (hval 0 62 v0 rfl rfl) h0
  obtain ⟨c0_0, c0_1, c0_2, c0_3, c0_4, c0_5, rfl⟩ := list6 (hl0.trans rfl)
  obtain ⟨u0_0, n0_0, y0_0, f0_0, t0_0⟩ := hf0 0 _ rfl
  obtain rfl : c0_0 = u0_0 := by simpa using f0_0
  obtain ⟨a0_0, e0_0, g0_0⟩ := (Opn_int Try.underlying3) _ _ _ t0_0
  obtain rfl : c0_0 = .int .i64 a0_0 := (List.cons.inj (show [c0_0] = [.int .i64 a0_0] from e0_0)).1
  obtain ⟨u0_1, n0_1, y0_1, f0_1, t0_1⟩ := hf0 1 _ rfl
  obtain rfl : c0_1 = u0_1 := by simpa using f0_1
  obtain ⟨a0_1, e0_1, g0_1⟩ := (Opn_int Try.underlying3) _ _ _ t0_1
  obtain rfl : c0_1 = .int .i64 a0_1 := (List.cons.inj (show [c0_1] = [.int .i64 a0_1] from e0_1)).1
  obtain ⟨u0_2, n0_2, y0_2, f0_2, t0_2⟩ := hf0 2 _ rfl
  obtain rfl : c0_2 = u0_2 := by simpa using f0_2
  obtain ⟨a0_2, e0_2, g0_2⟩ := (Opn_int Try.underlying3) _ _ _ t0_2
  obtain rfl : c0_2 = .int .i64 a0_2 := (List.cons.inj (show [c0_2] = [.int .i64 a0_2] from e0_2)).1
  obtain ⟨u0_3, n0_3, y0_3, f0_3, t0_3⟩ := hf0 3 _ rfl
  obtain rfl : c0_3 = u0_3 := by simpa using f0_3
  obtain ⟨a0_3, e0_3, g0_3⟩ := (Opn_int Try.underlying3) _ _ _ t0_3
  obtain rfl : c0_3 = .int .i64 a0_3 := (List.cons.inj (show [c0_3] = [.int .i64 a0_3] from e0_3)).1
  obtain ⟨u0_4, n0_4, y0_4, f0_4, t0_4⟩ := hf0 4 _ rfl
  obtain rfl : c0_4 = u0_4 := by simpa using f0_4
  obtain ⟨l0_4, hK0_4, g0_4⟩ := (Opn_slice z42 Try.underlying60 (by kernel_rfl) opn42) _ _ _ t0_4
  obtain ⟨A0_4, kp0_4, e0_4, hc0_4, hr0_4⟩ := hK0_4
  obtain rfl : c0_4 = .slice A0_4 l0_4.length kp0_4 := (List.cons.inj (show [c0_4] = [.slice A0_4 l0_4.length kp0_4] from e0_4)).1
  obtain ⟨u0_5, n0_5, y0_5, f0_5, t0_5⟩ := hf0 5 _ rfl
  obtain rfl : c0_5 = u0_5 := by simpa using f0_5
  obtain ⟨a0_5, e0_5, g0_5⟩ := (Opn_int Try.underlying3) _ _ _ t0_5
  obtain rfl : c0_5 = .int .i64 a0_5 := (List.cons.inj (show [c0_5] = [.int .i64 a0_5] from e0_5)).1
  clear hA0 hval0 hsz0
  refine (Total.FnExactWalOf a0_0 g0_0 a0_1 g0_1 a0_2 g0_2 a0_3 g0_3 A0_4 kp0_4 l0_4 g0_4 a0_5 g0_5 W hr0_4 hc0_4).mono fun e W' ⟨he, bel⟩ => ?_
  subst he
  exact ⟨_, rfl, _, _, _, [], _, [], hW', trodAll_mk1 (shut_bool Try.underlying4 _), (trodAll_cons_mk (Below.trod laidOut (by kernel_rfl) (of_decide_eq_true (by kernel_rfl)) k0 bel lt0) trodAll_mk0), rfl, bel.frame _, fun h => by cases h⟩
theorem over : Rows.fnExactWalOfRow.holds Try.pinned (OpenSpec.ofChange Rows.fnExactWalOfSpec) :=
  OpenClaim.holds_of_wide 12 Try.f12 rfl rfl rfl rfl rfl rfl rfl ⟨rfl, rfl, rfl, rfl, rfl⟩ rfl rfl rfl rfl rfl (by kernel_rfl) Try.func12 (by kernel_rfl)
    (of_decide_eq_true (by kernel_rfl)) (by unfold Func.isWrapper; first | (rw [if_pos (by decide +kernel)]; kernel_rfl) | (rw [if_neg (by decide +kernel)]; exact ⟨rfl, rfl⟩))
    (fun os started H enc _ => lifted os started H enc)
theorem proved : Rows.FnExactWalOfSaid := over
#print axioms proved
end Go.Proofs.Ytkiknhljomobpaa.fnExactWalOf
namespace Go.Proofs.Ytkiknhljomobpaa
/-- The row, under a short name, for the claim. -/
theorem fnExactWalOf_holds : Rows.FnExactWalOfSaid := fnExactWalOf.proved
end Go.Proofs.Ytkiknhljomobpaa
