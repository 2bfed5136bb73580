/- The program's StateOK answers as the reference's: in plain numbers and lists, no conditions. -/
import Derived.Test.YtfclobfoghbblaaRows
import Derived.Test.YtfclobfoghbblaaPFnExactStateOKx10
import Derived.Test.YtfclobfoghbblaaPureFnExactStateOK
import Derived.Test.YtfclobfoghbblaaOpn
import Derived.WalkKit
import Derived.ProofKit
import Derived.OpenShut
import Derived.ShutString
import Derived.ChangeOld
import Derived.Below
import Derived.SizedLaws
namespace Go.Proofs.Ytfclobfoghbblaa.fnExactStateOK
open Go.ChangeShapes Go.WideShapes Go.ChangeAt Go.RowKit Go.Proofs.Ytfclobfoghbblaa.Opn Go.Proofs.YtfclobfoghbblaaW.PrintWords
open Go.ChangeMaps (open_string shut_string)
open Go.Proofs.Ytfclobfoghbblaa.PFnExactStateOK
set_option linter.unusedVariables false
theorem own : ownKnob Try.prog.godebug = none := by kernel_rfl
theorem laidOut : laidOutB Try.prog = true := by kernel_rfl
theorem opn137 {H : Type} {enc : TypeId × Value → H} {w : World} {base : Nat} {spare : Nat → Bool} {held : Bool} : Opn enc Try.prog w base spare held 137 k137 (fun r => r.f0.size ≤ Go.maxLen ∧ (Lit.int .i64 r.f1).wf = true ∧ r.f2.size ≤ Go.maxLen) := by
  intro fuel cs x h
  obtain ⟨hl, hf⟩ := struct_fields Try.underlying137 (by kernel_rfl) (by kernel_rfl) h
  obtain ⟨c0, c1, c2, rfl⟩ := list3 (hl.trans rfl)
  obtain ⟨u0, n0, y0, f0, t0⟩ := hf 0 _ rfl
  obtain rfl : c0 = u0 := by simpa using f0
  obtain ⟨a0, e0, g0⟩ := (Opn_string Try.underlying9) _ _ _ t0
  obtain rfl : c0 = .string a0 := (List.cons.inj (show [c0] = [.string a0] from e0)).1
  obtain ⟨u1, n1, y1, f1, t1⟩ := hf 1 _ rfl
  obtain rfl : c1 = u1 := by simpa using f1
  obtain ⟨a1, e1, g1⟩ := (Opn_int Try.underlying3) _ _ _ t1
  obtain rfl : c1 = .int .i64 a1 := (List.cons.inj (show [c1] = [.int .i64 a1] from e1)).1
  obtain ⟨u2, n2, y2, f2, t2⟩ := hf 2 _ rfl
  obtain rfl : c2 = u2 := by simpa using f2
  obtain ⟨a2, e2, g2⟩ := (Opn_string Try.underlying9) _ _ _ t2
  obtain rfl : c2 = .string a2 := (List.cons.inj (show [c2] = [.string a2] from e2)).1
  exact ⟨⟨a0, a1, a2⟩, k137_mk w ⟨a0, a1, a2⟩ , g0, g1, g2⟩
theorem opn139 {H : Type} {enc : TypeId × Value → H} {w : World} {base : Nat} {spare : Nat → Bool} {held : Bool} : Opn enc Try.prog w base spare held 139 k139 (fun r => (Lit.int .i64 r.f0).wf = true ∧ (Lit.int .i64 r.f1).wf = true ∧ r.f2.size ≤ Go.maxLen) := by
  intro fuel cs x h
  obtain ⟨hl, hf⟩ := struct_fields Try.underlying139 (by kernel_rfl) (by kernel_rfl) h
  obtain ⟨c0, c1, c2, rfl⟩ := list3 (hl.trans rfl)
  obtain ⟨u0, n0, y0, f0, t0⟩ := hf 0 _ rfl
  obtain rfl : c0 = u0 := by simpa using f0
  obtain ⟨a0, e0, g0⟩ := (Opn_int Try.underlying3) _ _ _ t0
  obtain rfl : c0 = .int .i64 a0 := (List.cons.inj (show [c0] = [.int .i64 a0] from e0)).1
  obtain ⟨u1, n1, y1, f1, t1⟩ := hf 1 _ rfl
  obtain rfl : c1 = u1 := by simpa using f1
  obtain ⟨a1, e1, g1⟩ := (Opn_int Try.underlying3) _ _ _ t1
  obtain rfl : c1 = .int .i64 a1 := (List.cons.inj (show [c1] = [.int .i64 a1] from e1)).1
  obtain ⟨u2, n2, y2, f2, t2⟩ := hf 2 _ rfl
  obtain rfl : c2 = u2 := by simpa using f2
  obtain ⟨a2, e2, g2⟩ := (Opn_string Try.underlying9) _ _ _ t2
  obtain rfl : c2 = .string a2 := (List.cons.inj (show [c2] = [.string a2] from e2)).1
  exact ⟨⟨a0, a1, a2⟩, k139_mk w ⟨a0, a1, a2⟩ , g0, g1, g2⟩
theorem opn141 {H : Type} {enc : TypeId × Value → H} {w : World} {base : Nat} {spare : Nat → Bool} {held : Bool} : Opn enc Try.prog w base spare held 141 k141 (fun r => ((Lit.int .i64 r.f0).wf = true) ∧ ((Lit.int .i64 r.f1).wf = true) ∧ (((Lit.int .i64 r.f2.f0).wf = true) ∧ ((Lit.int .i64 r.f2.f1).wf = true) ∧ (r.f2.f2.size ≤ Go.maxLen))) := by
  intro fuel cs x h
  obtain ⟨hl, hf⟩ := struct_parts Try.underlying141 h
  obtain ⟨c0, c1, c2, c3, c4, rfl⟩ := list5 (hl.trans (by kernel_rfl))
  obtain ⟨n0, y0, t0⟩ := hf 0 _ rfl
  have t0' := trod_cells (k := 1) (by kernel_rfl) _ t0
  obtain ⟨a0, e0, g0⟩ := (Opn_int Try.underlying3) _ [c0] _ t0'
  obtain rfl : c0 = .int .i64 a0 := (List.cons.inj (show [c0] = [.int .i64 a0] from e0)).1
  obtain ⟨n1, y1, t1⟩ := hf 1 _ rfl
  have t1' := trod_cells (k := 1) (by kernel_rfl) _ t1
  obtain ⟨a1, e1, g1⟩ := (Opn_int Try.underlying3) _ [c1] _ t1'
  obtain rfl : c1 = .int .i64 a1 := (List.cons.inj (show [c1] = [.int .i64 a1] from e1)).1
  obtain ⟨n2, y2, t2⟩ := hf 2 _ rfl
  have t2' := trod_cells (k := 3) (by kernel_rfl) _ t2
  obtain ⟨a2, hK2, g2⟩ := opn139 _ [c2, c3, c4] _ t2'
  have e2 := k139_open hK2
  simp only [List.cons.injEq, and_true] at e2
  obtain ⟨rfl, rfl, rfl⟩ := e2
  exact ⟨⟨a0, a1, a2⟩, k141_mk w ⟨a0, a1, a2⟩ , g0, g1, g2⟩
set_option maxRecDepth 100000 in
set_option maxHeartbeats 1000000 in
theorem lifted (os : Os) (started : os.Started) (H : Type) (enc : TypeId × Value → H) :
    ReturnsInHanded {} Try.checked os 8 .any (Rows.fnExactStateOKSpec.pre6 enc Try.prog Try.f8 Rows.fnExactStateOKRow.domain false) (Rows.fnExactStateOKSpec.post enc Try.prog Try.f8 false true false false) := by
  refine returnsInHanded_of_change_sized (C := Try.checked) own started (by kernel_rfl) Try.func8
    (ChangeSpec.witness6 (enc := enc) (C := Try.checked) false ⟨#[], #[.agg #[.slice none 0 0, .slice none 0 0]], []⟩ 8 (by kernel_rfl) (by kernel_rfl) (by kernel_rfl) (by kernel_rfl)) ?_
  intro W base args ds gs before hval0 hW hcnd hsz0 _
  have hval : ∀ (j : Nat) t v, Try.f8.params[j]? = some t → args[j]? = some v → Value.okWide Try.prog W .any base t v := hval0
  have hW' := hW
  obtain ⟨p, q, hA0, hV, rfl, hfz, hnd⟩ := hW
  have hA : DataW.TrodAll enc Try.prog W 0 (fun _ => true) true Try.f8.params.toList args.toList ds p := hA0
  rw [Try.params8] at hA hval
  obtain ⟨v0, vs0, d0, ds0, p0, q0, hargs, rfl, rfl, h0, r0⟩ := trodAll_cons hA
  obtain ⟨rfl, rfl, rfl⟩ := trodAll_nil r0
  obtain rfl : args = #[v0] := by cases args; simp_all
  obtain ⟨rfl, rfl⟩ := trodVars_none hV
  have k0 := h0
  have lt0 : ∀ x ∈ p0, x.block < W.heap.size := by obtain ⟨m, hm⟩ := k0; exact DataW.trod_lt m _ _ _ hm
  obtain ⟨cs0, rfl, hl0, hf0⟩ := agg_fields Try.underlying63 (by kernel_rfl) (by kernel_rfl) (hval 0 63 v0 rfl rfl) h0
  obtain ⟨c0_0, c0_1, rfl⟩ := list2 (hl0.trans rfl)
  obtain ⟨u0_0, n0_0, y0_0, f0_0, t0_0⟩ := hf0 0 _ rfl
  obtain rfl : c0_0 = u0_0 := by simpa using f0_0
  obtain ⟨l0_0, hK0_0, g0_0⟩ := (Opn_slice z137 Try.underlying60 (by kernel_rfl) opn137) _ _ _ t0_0
  obtain ⟨A0_0, kp0_0, e0_0, hc0_0, hr0_0⟩ := hK0_0
  obtain rfl : c0_0 = .slice A0_0 l0_0.length kp0_0 := (List.cons.inj (show [c0_0] = [.slice A0_0 l0_0.length kp0_0] from e0_0)).1
  obtain ⟨u0_1, n0_1, y0_1, f0_1, t0_1⟩ := hf0 1 _ rfl
  obtain rfl : c0_1 = u0_1 := by simpa using f0_1
  obtain ⟨l0_1, hK0_1, g0_1⟩ := (Opn_slice z141 Try.underlying61 (by kernel_rfl) opn141) _ _ _ t0_1
  obtain ⟨A0_1, kp0_1, e0_1, hc0_1, hr0_1⟩ := hK0_1
  obtain rfl : c0_1 = .slice A0_1 l0_1.length kp0_1 := (List.cons.inj (show [c0_1] = [.slice A0_1 l0_1.length kp0_1] from e0_1)).1
  clear hA0 hval0 hsz0
  obtain ⟨kk, hk⟩ := Pure.FnExactStateOK l0_0 g0_0 hr0_0.2.1 l0_1 g0_1 hr0_1.2.1
  refine (PFnExactStateOK.laws_FnExactStateOK.calls kk A0_0 kp0_0 l0_0 A0_1 kp0_1 l0_1 true W hr0_0 hc0_0 hr0_1 hc0_1 hk).mono fun e W' ⟨he, bel⟩ => ?_
  subst he
  exact ⟨_, rfl, _, _, _, [], _, [], hW', trodAll_mk1 (shut_bool Try.underlying4 _), (trodAll_cons_mk (Below.trod laidOut (by kernel_rfl) (of_decide_eq_true (by kernel_rfl)) k0 bel lt0) trodAll_mk0), rfl, bel.frame _, fun h => by cases h⟩
theorem over : Rows.fnExactStateOKRow.holds Try.pinned (OpenSpec.ofChange Rows.fnExactStateOKSpec) :=
  OpenClaim.holds_of_wide 8 Try.f8 rfl rfl rfl rfl rfl rfl rfl ⟨rfl, rfl, rfl, rfl, rfl⟩ rfl rfl rfl rfl rfl (by kernel_rfl) Try.func8 (by kernel_rfl)
    (of_decide_eq_true (by kernel_rfl)) (by unfold Func.isWrapper; first | (rw [if_pos (by decide +kernel)]; kernel_rfl) | (rw [if_neg (by decide +kernel)]; exact ⟨rfl, rfl⟩))
    (fun os started H enc _ => lifted os started H enc)
theorem proved : Rows.FnExactStateOKSaid := over
#print axioms proved
end Go.Proofs.Ytfclobfoghbblaa.fnExactStateOK
namespace Go.Proofs.Ytfclobfoghbblaa
/-- The row, under a short name, for the claim. -/
theorem fnExactStateOK_holds : Rows.FnExactStateOKSaid := fnExactStateOK.proved
end Go.Proofs.Ytfclobfoghbblaa
