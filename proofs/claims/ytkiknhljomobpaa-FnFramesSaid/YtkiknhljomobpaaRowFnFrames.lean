/- FnFrames: frames are read back, in one piece and in any three; a beginning of them gives a beginning of the payloads. No conditions. -/
import Derived.Test.YtkiknhljomobpaaRows
import Derived.Test.YtkiknhljomobpaaTotalFnFrames
import Derived.Test.YtkiknhljomobpaaOpn
import Derived.WalkKit
import Derived.ProofKit
import Derived.OpenShut
import Derived.ShutString
import Derived.ChangeOld
import Derived.Below
import Derived.SizedLaws
namespace Go.Proofs.Ytkiknhljomobpaa.fnFrames
open Go.ChangeShapes Go.WideShapes Go.ChangeAt Go.RowKit Go.Proofs.Ytkiknhljomobpaa.Opn Go.Proofs.YtkiknhljomobpaaW.PrintWords
open Go.ChangeMaps (open_string shut_string)
open Go.Proofs.Ytkiknhljomobpaa.PFnFrames
set_option linter.unusedVariables false
theorem own : ownKnob Try.prog.godebug = none := by kernel_rfl
theorem laidOut : laidOutB Try.prog = true := by kernel_rfl
set_option maxRecDepth 100000 in
set_option maxHeartbeats 1000000 in
theorem lifted (os : Os) (started : os.Started) (H : Type) (enc : TypeId × Value → H) :
    ReturnsInHanded {} Try.checked os 10 .any (Rows.fnFramesSpec.pre6 enc Try.prog Try.f10 Rows.fnFramesRow.domain false) (Rows.fnFramesSpec.post enc Try.prog Try.f10 false true false false) := by
  refine returnsInHanded_of_change_sized (C := Try.checked) own started (by kernel_rfl) Try.func10
    (ChangeSpec.witness6 (enc := enc) (C := Try.checked) false ⟨#[], #[.slice none 0 0, .slice none 0 0], []⟩ 8 (by kernel_rfl) (by kernel_rfl) (by kernel_rfl) (by kernel_rfl)) ?_
  intro W base args ds gs before hval0 hW hcnd hsz0 _
  have hval : ∀ (j : Nat) t v, Try.f10.params[j]? = some t → args[j]? = some v → Value.okWide Try.prog W .any base t v := hval0
  have hW' := hW
  obtain ⟨p, q, hA0, hV, rfl, hfz, hnd⟩ := hW
  have hA : DataW.TrodAll enc Try.prog W 0 (fun _ => true) true Try.f10.params.toList args.toList ds p := hA0
  rw [Try.params10] at hA hval
  obtain ⟨v0, vs0, d0, ds0, p0, q0, hargs, rfl, rfl, h0, r0⟩ := trodAll_cons hA
  obtain ⟨v1, vs1, d1, ds1, p1, q1, rfl, rfl, rfl, h1, r1⟩ := trodAll_cons r0
  obtain ⟨rfl, rfl, rfl⟩ := trodAll_nil r1
  obtain rfl : args = #[v0, v1] := by cases args; simp_all
  obtain ⟨rfl, rfl⟩ := trodVars_none hV
  have k0 := h0
  have lt0 : ∀ x ∈ p0, x.block < W.heap.size := by obtain ⟨m, hm⟩ := k0; exact DataW.trod_lt m _ _ _ hm
  obtain ⟨fu0, hfu0⟩ := h0
  obtain ⟨aa0, ln0, cp0, rfl⟩ := okWide_slice Try.underlying22 (hval 0 22 v0 rfl rfl)
  obtain ⟨l0, hK0, g0⟩ := (Opn_slice (0 : Int) Try.underlying22 (by kernel_rfl) (Opn_int Try.underlying5)) _ _ _ (show DataW.trod enc Try.prog W 0 (fun _ => true) true fu0 22 [.slice aa0 ln0 cp0] = some (_, _) from by simpa [Value.cells] using hfu0)
  obtain ⟨A0, kp0, e0, hc0, hr0⟩ := hK0
  have E0 : (Value.slice aa0 ln0 cp0) = .slice A0 l0.length kp0 := (List.cons.inj e0).1
  obtain ⟨rfl, rfl, rfl⟩ : A0 = aa0 ∧ l0.length = ln0 ∧ kp0 = cp0 := by injection E0 with z1 z2 z3; exact ⟨z1.symm, z2.symm, z3.symm⟩
  have k1 := h1
  have lt1 : ∀ x ∈ p1, x.block < W.heap.size := by obtain ⟨m, hm⟩ := k1; exact DataW.trod_lt m _ _ _ hm
  obtain ⟨fu1, hfu1⟩ := h1
  obtain ⟨aa1, ln1, cp1, rfl⟩ := okWide_slice Try.underlying22 (hval 1 22 v1 rfl rfl)
  obtain ⟨l1, hK1, g1⟩ := (Opn_slice (0 : Int) Try.underlying22 (by kernel_rfl) (Opn_int Try.underlying5)) _ _ _ (show DataW.trod enc Try.prog W 0 (fun _ => true) true fu1 22 [.slice aa1 ln1 cp1] = some (_, _) from by simpa [Value.cells] using hfu1)
  obtain ⟨A1, kp1, e1, hc1, hr1⟩ := hK1
  have E1 : (Value.slice aa1 ln1 cp1) = .slice A1 l1.length kp1 := (List.cons.inj e1).1
  obtain ⟨rfl, rfl, rfl⟩ : A1 = aa1 ∧ l1.length = ln1 ∧ kp1 = cp1 := by injection E1 with z1 z2 z3; exact ⟨z1.symm, z2.symm, z3.symm⟩
  clear hA0 hval0 hsz0
  refine (Total.FnFrames A0 kp0 l0 g0 A1 kp1 l1 g1 W hr0 hc0 hr1 hc1).mono fun e W' ⟨he, bel⟩ => ?_
  subst he
  exact ⟨_, rfl, _, _, _, [], _, [], hW', trodAll_mk1 (shut_bool Try.underlying4 _), (trodAll_cons_mk (Below.trod laidOut (by kernel_rfl) (of_decide_eq_true (by kernel_rfl)) k0 bel lt0) (trodAll_cons_mk (Below.trod laidOut (by kernel_rfl) (of_decide_eq_true (by kernel_rfl)) k1 bel lt1) trodAll_mk0)), rfl, bel.frame _, fun h => by cases h⟩
theorem over : Rows.fnFramesRow.holds Try.pinned (OpenSpec.ofChange Rows.fnFramesSpec) :=
  OpenClaim.holds_of_wide 10 Try.f10 rfl rfl rfl rfl rfl rfl rfl ⟨rfl, rfl, rfl, rfl, rfl⟩ rfl rfl rfl rfl rfl (by kernel_rfl) Try.func10 (by kernel_rfl)
    (of_decide_eq_true (by kernel_rfl)) (by unfold Func.isWrapper; first | (rw [if_pos (by decide +kernel)]; kernel_rfl) | (rw [if_neg (by decide +kernel)]; exact ⟨rfl, rfl⟩))
    (fun os started H enc _ => lifted os started H enc)
theorem proved : Rows.FnFramesSaid := over
#print axioms proved
end Go.Proofs.Ytkiknhljomobpaa.fnFrames
namespace Go.Proofs.Ytkiknhljomobpaa
/-- The row, under a short name, for the claim. -/
theorem fnFrames_holds : Rows.FnFramesSaid := fnFrames.proved
end Go.Proofs.Ytkiknhljomobpaa
