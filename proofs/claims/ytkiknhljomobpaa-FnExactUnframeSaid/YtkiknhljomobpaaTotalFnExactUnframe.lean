/- FnExactUnframe: the program's frames read are the reference's, they are read again, and the answer owns its memory. No conditions. -/
import Derived.Test.YtkiknhljomobpaaWalkFnExactUnframe
import Derived.Test.YtkiknhljomobpaaPureFnExactUnframe
namespace Go.Proofs.Ytkiknhljomobpaa.Total
open Go.RowKit Go.Proofs.Ytkiknhljomobpaa.PFnExactUnframe Go.Proofs.YtkiknhljomobpaaW.PrintWords Go.Proofs.YtkiknhljomobpaaW.PrintLast Go.Proofs.YtkiknhljomobpaaW.PrintMore
theorem FnExactUnframe (A0 : Option Addr) (c0 : Nat) (l0 : List Int) (hl : ∀ x ∈ l0, (Lit.int .u8 x).wf = true) (W : World) (hr : Kd.C (Kd.int .u8) W A0 l0.length l0) (hc : l0.length ≤ c0) :
    Calls Try.prog 11 #[.slice A0 l0.length c0] W fun e W' => e = .returned (.bool true) ∧ Below W.heap.size W W' := by
  by_cases h : 1048576 < l0.length
  · exact laws_FnExactUnframe.early0 0 A0 c0 l0 W hr hc (decide_eq_true (by omega)) (decide_eq_true h)
  · obtain ⟨k, out, a, c, m, x, m2, y, hm, hm2, e1, e2, e3, e4, e5, e6, e7, e8⟩ := Pure.FnExactUnframe l0 hl h
    exact laws_FnExactUnframe.walk k A0 c0 l0 out a c m x m2 y W hr hc (decide_eq_false (by omega)) (decide_eq_false h) (decide_eq_false hm) (decide_eq_false hm2) e1 e2 e1 e3 e4 e1 e5 e6 e4 e7 e8 e1 e3 e4 e8
end Go.Proofs.Ytkiknhljomobpaa.Total
