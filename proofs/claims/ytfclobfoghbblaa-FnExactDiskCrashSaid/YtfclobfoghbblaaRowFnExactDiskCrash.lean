/- FnExactDiskCrash: the program's disk behind a crash is the reference's, told again, and the answer owns its memory. No conditions. -/
import Derived.Test.YtfclobfoghbblaaRows
import Derived.Test.YtfclobfoghbblaaTotalFnExactDiskCrash
import Derived.Test.YtfclobfoghbblaaOpn
import Derived.WalkKit
import Derived.ProofKit
import Derived.OpenShut
import Derived.ShutString
import Derived.ChangeOld
import Derived.Below
import Derived.SizedLaws
namespace Go.Proofs.Ytfclobfoghbblaa.fnExactDiskCrash
open Go.ChangeShapes Go.WideShapes Go.ChangeAt Go.RowKit Go.Proofs.Ytfclobfoghbblaa.Opn Go.Proofs.YtfclobfoghbblaaW.PrintWords
open Go.ChangeMaps (open_string shut_string)
open Go.Proofs.Ytfclobfoghbblaa.PFnExactDiskCrash
set_option linter.unusedVariables false
theorem own : ownKnob Try.prog.godebug = none := by kernel_rfl
theorem laidOut : laidOutB Try.prog = true := by kernel_rfl
set_option maxRecDepth 100000 in
set_option maxHeartbeats 1000000 in
theorem lifted (os : Os) (started : os.Started) (H : Type) (enc : TypeId × Value → H) :
    ReturnsInHanded {} Try.checked os 6 .any (Rows.fnExactDiskCrashSpec.pre6 enc Try.prog Try.f6 Rows.fnExactDiskCrashRow.domain false) (Rows.fnExactDiskCrashSpec.post enc Try.prog Try.f6 false true false false) := by
  refine returnsInHanded_of_change_sized (C := Try.checked) own started (by kernel_rfl) Try.func6
    (ChangeSpec.witness6 (enc := enc) (C := Try.checked) false ⟨#[], #[.agg #[.slice none 0 0, .slice none 0 0], .int .i64 0, .int .i64 0], []⟩ 8 (by kernel_rfl) (by kernel_rfl) (by kernel_rfl) (by kernel_rfl)) ?_
  intro W base args ds gs before hval0 hW hcnd hsz0 _
  have hval : ∀ (j : Nat) t v, Try.f6.params[j]? = some t → args[j]? = some v → Value.okWide Try.prog W .any base t v := hval0
  have hW' := hW
  obtain ⟨p, q, hA0, hV, rfl, hfz, hnd⟩ := hW
  have hA : DataW.TrodAll enc Try.prog W 0 (fun _ => true) true Try.f6.params.toList args.toList ds p := hA0
  rw [Try.params6] at hA hval
  obtain ⟨v0, vs0, d0, ds0, p0, q0, hargs, rfl, rfl, h0, r0⟩ := trodAll_cons hA
  obtain ⟨v1, vs1, d1, ds1, p1, q1, rfl, rfl, rfl, h1, r1⟩ := trodAll_cons r0
  obtain ⟨v2, vs2, d2, ds2, p2, q2, rfl, rfl, rfl, h2, r2⟩ := trodAll_cons r1
  obtain ⟨rfl, rfl, rfl⟩ := trodAll_nil r2
  obtain rfl : args = #[v0, v1, v2] := by cases args; simp_all
  obtain ⟨rfl, rfl⟩ := trodVars_none hV
  have k0 := h0
  have lt0 : ∀ x ∈ p0, x.block < W.heap.size := by obtain ⟨m, hm⟩ := k0; exact DataW.trod_lt m _ _ _ hm
  obtain ⟨cs0, rfl, hl0, hf0⟩ := agg_fields Try.underlying25 (by kernel_rfl) (by kernel_rfl) (hval 0 25 v0 rfl rfl) h0
  obtain ⟨c0_0, c0_1, rfl⟩ := list2 (hl0.trans rfl)
  obtain ⟨u0_0, n0_0, y0_0, f0_0, t0_0⟩ := hf0 0 _ rfl
  obtain rfl : c0_0 = u0_0 := by simpa using f0_0
  obtain ⟨l0_0, hK0_0, g0_0⟩ := (Opn_slice (0 : Int) Try.underlying22 (by kernel_rfl) (Opn_int Try.underlying5)) _ _ _ t0_0
  obtain ⟨A0_0, kp0_0, e0_0, hc0_0, hr0_0⟩ := hK0_0
  obtain rfl : c0_0 = .slice A0_0 l0_0.length kp0_0 := (List.cons.inj (show [c0_0] = [.slice A0_0 l0_0.length kp0_0] from e0_0)).1
  obtain ⟨u0_1, n0_1, y0_1, f0_1, t0_1⟩ := hf0 1 _ rfl
  obtain rfl : c0_1 = u0_1 := by simpa using f0_1
  obtain ⟨l0_1, hK0_1, g0_1⟩ := (Opn_slice ([] : List Int) Try.underlying23 (by kernel_rfl) (Opn_slice (0 : Int) Try.underlying22 (by kernel_rfl) (Opn_int Try.underlying5))) _ _ _ t0_1
  obtain ⟨A0_1, kp0_1, e0_1, hc0_1, hr0_1⟩ := hK0_1
  obtain rfl : c0_1 = .slice A0_1 l0_1.length kp0_1 := (List.cons.inj (show [c0_1] = [.slice A0_1 l0_1.length kp0_1] from e0_1)).1
  have k1 := h1
  have lt1 : ∀ x ∈ p1, x.block < W.heap.size := by obtain ⟨m, hm⟩ := k1; exact DataW.trod_lt m _ _ _ hm
  obtain ⟨fu1, hfu1⟩ := h1
  obtain ⟨ss1, rfl, _, _, _⟩ := open_int Try.underlying3 (hval 1 3 v1 rfl rfl) k1
  obtain ⟨a1, e1, g1⟩ := (Opn_int Try.underlying3) _ _ _ (show DataW.trod enc Try.prog W 0 (fun _ => true) true fu1 3 [.int .i64 ss1] = some (_, _) from by simpa [Value.cells] using hfu1)
  obtain rfl : a1 = ss1 := (show ss1 = a1 from by have z := (List.cons.inj (show ([.int .i64 ss1] : List Value) = [.int .i64 a1] from e1)).1; injection z).symm
  have k2 := h2
  have lt2 : ∀ x ∈ p2, x.block < W.heap.size := by obtain ⟨m, hm⟩ := k2; exact DataW.trod_lt m _ _ _ hm
  obtain ⟨fu2, hfu2⟩ := h2
  obtain ⟨ss2, rfl, _, _, _⟩ := open_int Try.underlying3 (hval 2 3 v2 rfl rfl) k2
  obtain ⟨a2, e2, g2⟩ := (Opn_int Try.underlying3) _ _ _ (show DataW.trod enc Try.prog W 0 (fun _ => true) true fu2 3 [.int .i64 ss2] = some (_, _) from by simpa [Value.cells] using hfu2)
  obtain rfl : a2 = ss2 := (show ss2 = a2 from by have z := (List.cons.inj (show ([.int .i64 ss2] : List Value) = [.int .i64 a2] from e2)).1; injection z).symm
  clear hA0 hval0 hsz0
  refine (Total.FnExactDiskCrash A0_0 kp0_0 l0_0 g0_0 A0_1 kp0_1 l0_1 g0_1 a1 g1 a2 g2 W hr0_0 hc0_0 hr0_1 hc0_1).mono fun e W' ⟨he, bel⟩ => ?_
  subst he
  exact ⟨_, rfl, _, _, _, [], _, [], hW', trodAll_mk1 (shut_bool Try.underlying4 _), (trodAll_cons_mk (Below.trod laidOut (by kernel_rfl) (of_decide_eq_true (by kernel_rfl)) k0 bel lt0) (trodAll_cons_mk (Below.trod laidOut (by kernel_rfl) (of_decide_eq_true (by kernel_rfl)) k1 bel lt1) (trodAll_cons_mk (Below.trod laidOut (by kernel_rfl) (of_decide_eq_true (by kernel_rfl)) k2 bel lt2) trodAll_mk0))), rfl, bel.frame _, fun h => by cases h⟩
theorem over : Rows.fnExactDiskCrashRow.holds Try.pinned (OpenSpec.ofChange Rows.fnExactDiskCrashSpec) :=
  OpenClaim.holds_of_wide 6 Try.f6 rfl rfl rfl rfl rfl rfl rfl ⟨rfl, rfl, rfl, rfl, rfl⟩ rfl rfl rfl rfl rfl (by kernel_rfl) Try.func6 (by kernel_rfl)
    (of_decide_eq_true (by kernel_rfl)) (by unfold Func.isWrapper; first | (rw [if_pos (by decide +kernel)]; kernel_rfl) | (rw [if_neg (by decide +kernel)]; exact ⟨rfl, rfl⟩))
    (fun os started H enc _ => lifted os started H enc)
theorem proved : Rows.FnExactDiskCrashSaid := over
#print axioms proved
end Go.Proofs.Ytfclobfoghbblaa.fnExactDiskCrash
namespace Go.Proofs.Ytfclobfoghbblaa
/-- The row, under a short name, for the claim. -/
theorem fnExactDiskCrash_holds : Rows.FnExactDiskCrashSaid := fnExactDiskCrash.proved
end Go.Proofs.Ytfclobfoghbblaa
