/- FnFrames: frames are read back, in one piece and in any three; a beginning of them gives a beginning of the payloads. No conditions. -/
import Derived.Test.YtkiknhljomobpaaWalkFnFrames
import Derived.Test.YtkiknhljomobpaaPureFnFrames
namespace Go.Proofs.Ytkiknhljomobpaa.Total
open Go.RowKit Go.Proofs.Ytkiknhljomobpaa.PFnFrames Go.Proofs.Ytkiknhljomobpaa.Lawful Go.Proofs.YtkiknhljomobpaaW.PrintWords Go.Proofs.YtkiknhljomobpaaW.PrintLast Go.Proofs.YtkiknhljomobpaaW.PrintMore
set_option linter.unusedVariables false
theorem FnFrames (A0 : Option Addr) (c0 : Nat) (l0 : List Int) (hu0 : ∀ x ∈ l0, (Lit.int .u8 x).wf = true) (A1 : Option Addr) (c1 : Nat) (l1 : List Int) (hu1 : ∀ x ∈ l1, (Lit.int .u8 x).wf = true) (W : World) (hr0 : Kd.C (Kd.int .u8) W A0 l0.length l0) (hc0 : l0.length ≤ c0) (hr1 : Kd.C (Kd.int .u8) W A1 l1.length l1) (hc1 : l1.length ≤ c1) :
    Calls Try.prog 10 #[.slice A0 l0.length c0, .slice A1 l1.length c1] W fun e W' => e = .returned (.bool true) ∧ Below W.heap.size W W' := by
  by_cases h0 : 1048576 < (l0.length : Int)
  · exact laws_FnFrames.early0 A0 c0 l0 A1 c1 l1 W (decide_eq_true h0)
  · by_cases h1 : 1048576 < (l1.length : Int)
    · exact laws_FnFrames.early1 A0 c0 l0 A1 c1 l1 W (decide_eq_false h0) (decide_eq_true h1)
    · obtain ⟨k, ps, pp, fr, a, b0, b, n2, hb, ha0, hab, hbl, hpl, hn, e1, e2, e3, e4, e5, e6, e7, e8, e9⟩ := Pure.FnFrames l0 l1 (Pure.u8_bounds hu0) (Pure.u8_bounds hu1) (by omega) (by omega)
      exact laws_FnFrames.walk k A0 c0 l0 A1 c1 l1 ps pp _ _ fr _ _ _ [] a b0 b n2 W hr0 hc0 hr1 hc1 (decide_eq_false h0) (decide_eq_false h1) hb ha0 hab hbl rfl rfl rfl rfl hpl rfl rfl (decide_eq_true hn) e1 e2 e3 e4 e5 e6 e7 e8 e9
end Go.Proofs.Ytkiknhljomobpaa.Total
