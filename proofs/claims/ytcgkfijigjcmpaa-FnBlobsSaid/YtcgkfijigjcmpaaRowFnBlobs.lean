/- FnBlobs: a blob is found by the key of its bytes as long as something refers to it, and each key is that of its bytes. No conditions. -/
import Derived.Test.YtcgkfijigjcmpaaRows
import Derived.Test.YtcgkfijigjcmpaaTotalFnBlobs
import Derived.Test.YtcgkfijigjcmpaaOpn
import Derived.WalkKit
import Derived.ProofKit
import Derived.OpenShut
import Derived.ShutString
import Derived.ChangeOld
import Derived.Below
import Derived.SizedLaws
namespace Go.Proofs.Ytcgkfijigjcmpaa.fnBlobs
open Go.ChangeShapes Go.WideShapes Go.ChangeAt Go.RowKit Go.Proofs.Ytcgkfijigjcmpaa.Opn Go.Proofs.YtcgkfijigjcmpaaW.PrintWords
open Go.ChangeMaps (open_string shut_string)
open Go.Proofs.Ytcgkfijigjcmpaa.PFnBlobs
set_option linter.unusedVariables false
theorem own : ownKnob Try.prog.godebug = none := by kernel_rfl
theorem laidOut : laidOutB Try.prog = true := by kernel_rfl
set_option maxRecDepth 100000 in
set_option maxHeartbeats 1000000 in
theorem lifted (os : Os) (started : os.Started) (H : Type) (enc : TypeId × Value → H) :
    ReturnsInHanded {} Try.checked os 4 .any (Rows.fnBlobsSpec.pre6 enc Try.prog Try.f4 Rows.fnBlobsRow.domain false) (Rows.fnBlobsSpec.post enc Try.prog Try.f4 false true false false) := by
  refine returnsInHanded_of_change_sized (C := Try.checked) own started (by kernel_rfl) Try.func4
    (ChangeSpec.witness6 (enc := enc) (C := Try.checked) false ⟨#[], #[.slice none 0 0], []⟩ 8 (by kernel_rfl) (by kernel_rfl) (by kernel_rfl) (by kernel_rfl)) ?_
  intro W base args ds gs before hval0 hW hcnd hsz0 _
  have hval : ∀ (j : Nat) t v, Try.f4.params[j]? = some t → args[j]? = some v → Value.okWide Try.prog W .any base t v := hval0
  have hW' := hW
  obtain ⟨p, q, hA0, hV, rfl, hfz, hnd⟩ := hW
  have hA : DataW.TrodAll enc Try.prog W 0 (fun _ => true) true Try.f4.params.toList args.toList ds p := hA0
  rw [Try.params4] at hA hval
  obtain ⟨v0, vs0, d0, ds0, p0, q0, hargs, rfl, rfl, h0, r0⟩ := trodAll_cons hA
  obtain ⟨rfl, rfl, rfl⟩ := trodAll_nil r0
  obtain rfl : args = #[v0] := by cases args; simp_all
  obtain ⟨rfl, rfl⟩ := trodVars_none hV
  have k0 := h0
  have lt0 : ∀ x ∈ p0, x.block < W.heap.size := by obtain ⟨m, hm⟩ := k0; exact DataW.trod_lt m _ _ _ hm
  obtain ⟨fu0, hfu0⟩ := h0
  obtain ⟨aa0, ln0, cp0, rfl⟩ := okWide_slice Try.underlying22 (hval 0 22 v0 rfl rfl)
  obtain ⟨l0, hK0, g0⟩ := (Opn_slice (0 : Int) Try.underlying22 (by kernel_rfl) (Opn_int Try.underlying5)) _ _ _ (show DataW.trod enc Try.prog W 0 (fun _ => true) true fu0 22 [.slice aa0 ln0 cp0] = some (_, _) from by simpa [Value.cells] using hfu0)
  obtain ⟨A0, kp0, e0, hc0, hr0⟩ := hK0
  have E0 : (Value.slice aa0 ln0 cp0) = .slice A0 l0.length kp0 := (List.cons.inj e0).1
  obtain ⟨rfl, rfl, rfl⟩ : A0 = aa0 ∧ l0.length = ln0 ∧ kp0 = cp0 := by injection E0 with z1 z2 z3; exact ⟨z1.symm, z2.symm, z3.symm⟩
  clear hA0 hval0 hsz0
  refine (Total.FnBlobs A0 kp0 l0 g0 W hr0 hc0).mono fun e W' ⟨he, bel⟩ => ?_
  subst he
  exact ⟨_, rfl, _, _, _, [], _, [], hW', trodAll_mk1 (shut_bool Try.underlying4 _), (trodAll_cons_mk (Below.trod laidOut (by kernel_rfl) (of_decide_eq_true (by kernel_rfl)) k0 bel lt0) trodAll_mk0), rfl, bel.frame _, fun h => by cases h⟩
theorem over : Rows.fnBlobsRow.holds Try.pinned (OpenSpec.ofChange Rows.fnBlobsSpec) :=
  OpenClaim.holds_of_wide 4 Try.f4 rfl rfl rfl rfl rfl rfl rfl ⟨rfl, rfl, rfl, rfl, rfl⟩ rfl rfl rfl rfl rfl (by kernel_rfl) Try.func4 (by kernel_rfl)
    (of_decide_eq_true (by kernel_rfl)) (by unfold Func.isWrapper; first | (rw [if_pos (by decide +kernel)]; kernel_rfl) | (rw [if_neg (by decide +kernel)]; exact ⟨rfl, rfl⟩))
    (fun os started H enc _ => lifted os started H enc)
theorem proved : Rows.FnBlobsSaid := over
#print axioms proved
end Go.Proofs.Ytcgkfijigjcmpaa.fnBlobs
namespace Go.Proofs.Ytcgkfijigjcmpaa
/-- The row, under a short name, for the claim. -/
theorem fnBlobs_holds : Rows.FnBlobsSaid := fnBlobs.proved
end Go.Proofs.Ytcgkfijigjcmpaa
