/- FnExactReadJob: the program's job read out of bytes is the reference's. No conditions. -/
import Derived.Test.YtkiknhljomobpaaWalkFnExactReadJob
import Derived.Test.YtkiknhljomobpaaPureFnExactReadJob
namespace Go.Proofs.Ytkiknhljomobpaa.Total
open Go.RowKit Go.Proofs.Ytkiknhljomobpaa.PFnExactReadJob Go.Proofs.Ytkiknhljomobpaa.Lawful Go.Proofs.YtkiknhljomobpaaW.PrintWords Go.Proofs.YtkiknhljomobpaaW.PrintLast Go.Proofs.YtkiknhljomobpaaW.PrintMore
theorem FnExactReadJob (A0 : Option Addr) (c0 : Nat) (l0 : List Int) (hl : ∀ x ∈ l0, (Lit.int .u8 x).wf = true) (W : World) (hr : Kd.C (Kd.int .u8) W A0 l0.length l0) (hc : l0.length ≤ c0) :
    Calls Try.prog 7 #[.slice A0 l0.length c0] W fun e W' => e = .returned (.bool true) ∧ Below W.heap.size W W' := by
  by_cases h : 1048576 < l0.length
  · exact laws_FnExactReadJob.early0 0 A0 c0 l0 W hr hc (decide_eq_true (by omega)) (decide_eq_true h)
  · obtain ⟨k, q3, q4, q5, q6, q7, q8, q9, q10, q11, e1, e2, e3, e4, e5⟩ := Pure.FnExactReadJob l0 hl h
    exact laws_FnExactReadJob.walk k A0 c0 l0 q3 q4 q5 q6 q7 q8 q9 q10 q11 W hr hc (decide_eq_false (by omega)) (decide_eq_false h) e1 e2 e1 e3 e4 e1 e5
end Go.Proofs.Ytkiknhljomobpaa.Total
