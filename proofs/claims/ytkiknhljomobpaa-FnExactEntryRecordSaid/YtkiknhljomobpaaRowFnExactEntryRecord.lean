/- FnExactEntryRecord: for every record the program's EntryRecord and the reference's answer the same bytes and code, in memory of their own, and the record stays. No conditions. -/
import Derived.Test.YtkiknhljomobpaaRows
import Derived.Test.YtkiknhljomobpaaPFnExactEntryRecordx4
import Derived.Test.YtkiknhljomobpaaPureFnExactEntryRecord
import Derived.Test.YtkiknhljomobpaaOpn
import Derived.WalkKit
import Derived.ProofKit
import Derived.OpenShut
import Derived.ShutString
import Derived.ChangeOld
import Derived.Below
import Derived.SizedLaws
namespace Go.Proofs.Ytkiknhljomobpaa.fnExactEntryRecord
open Go.ChangeShapes Go.WideShapes Go.ChangeAt Go.RowKit Go.Proofs.Ytkiknhljomobpaa.Opn Go.Proofs.YtkiknhljomobpaaW.PrintWords
open Go.ChangeMaps (open_string shut_string)
set_option linter.unusedVariables false
theorem own : ownKnob Try.prog.godebug = none := by kernel_rfl
theorem laidOut : laidOutB Try.prog = true := by kernel_rfl
set_option maxRecDepth 100000 in
set_option maxHeartbeats 1000000 in
theorem lifted (os : Os) (started : os.Started) (H : Type) (enc : TypeId × Value → H) :
    ReturnsInHanded {} Try.checked os 8 .any (Rows.fnExactEntryRecordSpec.pre6 enc Try.prog Try.f8 Rows.fnExactEntryRecordRow.domain false) (Rows.fnExactEntryRecordSpec.post enc Try.prog Try.f8 false true false false) := by
  refine returnsInHanded_of_change_sized (C := Try.checked) own started (by kernel_rfl) Try.func8
    (ChangeSpec.witness6 (enc := enc) (C := Try.checked) false ⟨#[], #[.agg #[.int .i64 0, .int .i64 0, .slice none 0 0]], []⟩ 8 (by kernel_rfl) (by kernel_rfl) (by kernel_rfl) (by kernel_rfl)) ?_
  intro W base args ds gs before hval0 hW hcnd hsz0 _
  have hval : ∀ (j : Nat) t v, Try.f8.params[j]? = some t → args[j]? = some v → Value.okWide Try.prog W .any base t v := hval0
  have hW' := hW
  obtain ⟨p, q, hA0, hV, rfl, hfz, hnd⟩ := hW
  have hA : DataW.TrodAll enc Try.prog W 0 (fun _ => true) true Try.f8.params.toList args.toList ds p := hA0
  rw [Try.params8] at hA hval
  obtain ⟨v0, vs0, d0, ds0, p0, q0, hargs, rfl, rfl, h0, r0⟩ := trodAll_cons hA
  obtain ⟨rfl, rfl, rfl⟩ := trodAll_nil r0
  obtain rfl : args = #[v0] := by cases args; simp_all
  obtain ⟨rfl, rfl⟩ := trodVars_none hV
  have k0 := h0
  have lt0 : ∀ x ∈ p0, x.block < W.heap.size := by obtain ⟨m, hm⟩ := k0; exact DataW.trod_lt m _ _ _ hm
  obtain ⟨cs0, rfl, hl0, hf0⟩ := agg_fields Try.underlying42 (by kernel_rfl) (by kernel_rfl) (hval 0 42 v0 rfl rfl) h0
  obtain ⟨c0_0, c0_1, c0_2, rfl⟩ := list3 (hl0.trans rfl)
  obtain ⟨u0_0, n0_0, y0_0, f0_0, t0_0⟩ := hf0 0 _ rfl
  obtain rfl : c0_0 = u0_0 := by simpa using f0_0
  obtain ⟨a0_0, e0_0, g0_0⟩ := (Opn_int Try.underlying3) _ _ _ t0_0
  obtain rfl : c0_0 = .int .i64 a0_0 := (List.cons.inj (show [c0_0] = [.int .i64 a0_0] from e0_0)).1
  obtain ⟨u0_1, n0_1, y0_1, f0_1, t0_1⟩ := hf0 1 _ rfl
  obtain rfl : c0_1 = u0_1 := by simpa using f0_1
  obtain ⟨a0_1, e0_1, g0_1⟩ := (Opn_int Try.underlying3) _ _ _ t0_1
  obtain rfl : c0_1 = .int .i64 a0_1 := (List.cons.inj (show [c0_1] = [.int .i64 a0_1] from e0_1)).1
  obtain ⟨u0_2, n0_2, y0_2, f0_2, t0_2⟩ := hf0 2 _ rfl
  obtain rfl : c0_2 = u0_2 := by simpa using f0_2
  obtain ⟨l0_2, hK0_2, g0_2⟩ := (Opn_slice (0 : Int) Try.underlying22 (by kernel_rfl) (Opn_int Try.underlying5)) _ _ _ t0_2
  obtain ⟨A0_2, kp0_2, e0_2, hc0_2, hr0_2⟩ := hK0_2
  obtain rfl : c0_2 = .slice A0_2 l0_2.length kp0_2 := (List.cons.inj (show [c0_2] = [.slice A0_2 l0_2.length kp0_2] from e0_2)).1
  clear hA0 hval0 hsz0
  obtain ⟨kk, hk⟩ := Pure.FnExactEntryRecord a0_0 g0_0 a0_1 g0_1 l0_2 g0_2 hr0_2.2.1
  refine (PFnExactEntryRecord.laws_FnExactEntryRecord.calls kk a0_0 a0_1 A0_2 kp0_2 l0_2 true W hr0_2 hc0_2 hk).mono fun e W' ⟨he, bel⟩ => ?_
  subst he
  exact ⟨_, rfl, _, _, _, [], _, [], hW', trodAll_mk1 (shut_bool Try.underlying4 _), (trodAll_cons_mk (Below.trod laidOut (by kernel_rfl) (of_decide_eq_true (by kernel_rfl)) k0 bel lt0) trodAll_mk0), rfl, bel.frame _, fun h => by cases h⟩
theorem over : Rows.fnExactEntryRecordRow.holds Try.pinned (OpenSpec.ofChange Rows.fnExactEntryRecordSpec) :=
  OpenClaim.holds_of_wide 8 Try.f8 rfl rfl rfl rfl rfl rfl rfl ⟨rfl, rfl, rfl, rfl, rfl⟩ rfl rfl rfl rfl rfl (by kernel_rfl) Try.func8 (by kernel_rfl)
    (of_decide_eq_true (by kernel_rfl)) (by unfold Func.isWrapper; first | (rw [if_pos (by decide +kernel)]; kernel_rfl) | (rw [if_neg (by decide +kernel)]; exact ⟨rfl, rfl⟩))
    (fun os started H enc _ => lifted os started H enc)
theorem proved : Rows.FnExactEntryRecordSaid := over
#print axioms proved
end Go.Proofs.Ytkiknhljomobpaa.fnExactEntryRecord
namespace Go.Proofs.Ytkiknhljomobpaa
/-- The row, under a short name, for the claim. -/
theorem fnExactEntryRecord_holds : Rows.FnExactEntryRecordSaid := fnExactEntryRecord.proved
end Go.Proofs.Ytkiknhljomobpaa
