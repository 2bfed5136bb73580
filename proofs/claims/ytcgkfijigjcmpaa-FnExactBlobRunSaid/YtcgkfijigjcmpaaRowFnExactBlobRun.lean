/- FnExactBlobRun: the program's run of acts on blobs is the reference's, told again, and the answer owns its memory. No conditions. -/
import Derived.Test.YtcgkfijigjcmpaaRows
import Derived.Test.YtcgkfijigjcmpaaTotalFnExactBlobRun
import Derived.Test.YtcgkfijigjcmpaaOpn
import Derived.WalkKit
import Derived.ProofKit
import Derived.OpenShut
import Derived.ShutString
import Derived.ChangeOld
import Derived.Below
import Derived.SizedLaws
namespace Go.Proofs.Ytcgkfijigjcmpaa.fnExactBlobRun
open Go.ChangeShapes Go.WideShapes Go.ChangeAt Go.RowKit Go.Proofs.Ytcgkfijigjcmpaa.Opn Go.Proofs.YtcgkfijigjcmpaaW.PrintWords
open Go.ChangeMaps (open_string shut_string)
open Go.Proofs.Ytcgkfijigjcmpaa.PFnExactBlobRun
set_option linter.unusedVariables false
theorem own : ownKnob Try.prog.godebug = none := by kernel_rfl
theorem laidOut : laidOutB Try.prog = true := by kernel_rfl
theorem opn68 {H : Type} {enc : TypeId × Value → H} {w : World} {base : Nat} {spare : Nat → Bool} {held : Bool} : Opn enc Try.prog w base spare held 68 k68 (fun r => ((Lit.int .i64 r.f0).wf = true) ∧ (∀ y ∈ r.f1, (Lit.int .u8 y).wf = true) ∧ (r.f2.size ≤ Go.maxLen)) := by
  intro fuel cs x h
  obtain ⟨hl, hf⟩ := struct_fields Try.underlying68 (by kernel_rfl) (by kernel_rfl) h
  obtain ⟨c0, c1, c2, rfl⟩ := list3 (hl.trans rfl)
  obtain ⟨u0, n0, y0, f0, t0⟩ := hf 0 _ rfl
  obtain rfl : c0 = u0 := by simpa using f0
  obtain ⟨a0, e0, g0⟩ := (Opn_int Try.underlying3) _ _ _ t0
  obtain rfl : c0 = .int .i64 a0 := (List.cons.inj (show [c0] = [.int .i64 a0] from e0)).1
  obtain ⟨u1, n1, y1, f1, t1⟩ := hf 1 _ rfl
  obtain rfl : c1 = u1 := by simpa using f1
  obtain ⟨l1, hK1, g1⟩ := (Opn_slice (0 : Int) Try.underlying22 (by kernel_rfl) (Opn_int Try.underlying5)) _ _ _ t1
  obtain ⟨A1, kp1, e1, hc1, hr1⟩ := hK1
  obtain rfl : c1 = .slice A1 l1.length kp1 := (List.cons.inj (show [c1] = [.slice A1 l1.length kp1] from e1)).1
  obtain ⟨u2, n2, y2, f2, t2⟩ := hf 2 _ rfl
  obtain rfl : c2 = u2 := by simpa using f2
  obtain ⟨a2, e2, g2⟩ := (Opn_string Try.underlying9) _ _ _ t2
  obtain rfl : c2 = .string a2 := (List.cons.inj (show [c2] = [.string a2] from e2)).1
  exact ⟨⟨a0, l1, a2⟩, k68_mk w ⟨a0, l1, a2⟩ hc1 hr1, g0, g1, g2⟩
set_option maxRecDepth 100000 in
set_option maxHeartbeats 1000000 in
theorem lifted (os : Os) (started : os.Started) (H : Type) (enc : TypeId × Value → H) :
    ReturnsInHanded {} Try.checked os 5 .any (Rows.fnExactBlobRunSpec.pre6 enc Try.prog Try.f5 Rows.fnExactBlobRunRow.domain false) (Rows.fnExactBlobRunSpec.post enc Try.prog Try.f5 false true false false) := by
  refine returnsInHanded_of_change_sized (C := Try.checked) own started (by kernel_rfl) Try.func5
    (ChangeSpec.witness6 (enc := enc) (C := Try.checked) false ⟨#[], #[.slice none 0 0], []⟩ 8 (by kernel_rfl) (by kernel_rfl) (by kernel_rfl) (by kernel_rfl)) ?_
  intro W base args ds gs before hval0 hW hcnd hsz0 _
  have hval : ∀ (j : Nat) t v, Try.f5.params[j]? = some t → args[j]? = some v → Value.okWide Try.prog W .any base t v := hval0
  have hW' := hW
  obtain ⟨p, q, hA0, hV, rfl, hfz, hnd⟩ := hW
  have hA : DataW.TrodAll enc Try.prog W 0 (fun _ => true) true Try.f5.params.toList args.toList ds p := hA0
  rw [Try.params5] at hA hval
  obtain ⟨v0, vs0, d0, ds0, p0, q0, hargs, rfl, rfl, h0, r0⟩ := trodAll_cons hA
  obtain ⟨rfl, rfl, rfl⟩ := trodAll_nil r0
  obtain rfl : args = #[v0] := by cases args; simp_all
  obtain ⟨rfl, rfl⟩ := trodVars_none hV
  have k0 := h0
  have lt0 : ∀ x ∈ p0, x.block < W.heap.size := by obtain ⟨m, hm⟩ := k0; exact DataW.trod_lt m _ _ _ hm
  obtain ⟨fu0, hfu0⟩ := h0
  obtain ⟨aa0, ln0, cp0, rfl⟩ := okWide_slice Try.underlying38 (hval 0 38 v0 rfl rfl)
  obtain ⟨l0, hK0, g0⟩ := (Opn_slice z68 Try.underlying38 (by kernel_rfl) opn68) _ _ _ (show DataW.trod enc Try.prog W 0 (fun _ => true) true fu0 38 [.slice aa0 ln0 cp0] = some (_, _) from by simpa [Value.cells] using hfu0)
  obtain ⟨A0, kp0, e0, hc0, hr0⟩ := hK0
  have E0 : (Value.slice aa0 ln0 cp0) = .slice A0 l0.length kp0 := (List.cons.inj e0).1
  obtain ⟨rfl, rfl, rfl⟩ : A0 = aa0 ∧ l0.length = ln0 ∧ kp0 = cp0 := by injection E0 with z1 z2 z3; exact ⟨z1.symm, z2.symm, z3.symm⟩
  clear hA0 hval0 hsz0
  refine (Total.FnExactBlobRun A0 kp0 l0 g0 W hr0 hc0).mono fun e W' ⟨he, bel⟩ => ?_
  subst he
  exact ⟨_, rfl, _, _, _, [], _, [], hW', trodAll_mk1 (shut_bool Try.underlying4 _), (trodAll_cons_mk (Below.trod laidOut (by kernel_rfl) (of_decide_eq_true (by kernel_rfl)) k0 bel lt0) trodAll_mk0), rfl, bel.frame _, fun h => by cases h⟩
theorem over : Rows.fnExactBlobRunRow.holds Try.pinned (OpenSpec.ofChange Rows.fnExactBlobRunSpec) :=
  OpenClaim.holds_of_wide 5 Try.f5 rfl rfl rfl rfl rfl rfl rfl ⟨rfl, rfl, rfl, rfl, rfl⟩ rfl rfl rfl rfl rfl (by kernel_rfl) Try.func5 (by kernel_rfl)
    (of_decide_eq_true (by kernel_rfl)) (by unfold Func.isWrapper; first | (rw [if_pos (by decide +kernel)]; kernel_rfl) | (rw [if_neg (by decide +kernel)]; exact ⟨rfl, rfl⟩))
    (fun os started H enc _ => lifted os started H enc)
theorem proved : Rows.FnExactBlobRunSaid := over
#print axioms proved
end Go.Proofs.Ytcgkfijigjcmpaa.fnExactBlobRun
namespace Go.Proofs.Ytcgkfijigjcmpaa
/-- The row, under a short name, for the claim. -/
theorem fnExactBlobRun_holds : Rows.FnExactBlobRunSaid := fnExactBlobRun.proved
end Go.Proofs.Ytcgkfijigjcmpaa
