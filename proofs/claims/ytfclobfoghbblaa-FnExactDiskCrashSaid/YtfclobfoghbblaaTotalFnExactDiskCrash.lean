/- FnExactDiskCrash: the program's disk behind a crash is the reference's, told again, and the answer owns its memory. No conditions. -/
import Derived.Test.YtfclobfoghbblaaWalkFnExactDiskCrash
import Derived.Test.YtfclobfoghbblaaPureFnExactDiskCrash
namespace Go.Proofs.Ytfclobfoghbblaa.Total
open Go.RowKit Go.Proofs.Ytfclobfoghbblaa.PFnExactDiskCrash Go.Proofs.Ytfclobfoghbblaa.Lawful Go.Proofs.YtfclobfoghbblaaW.PrintWords Go.Proofs.YtfclobfoghbblaaW.PrintLast Go.Proofs.YtfclobfoghbblaaW.PrintMore
set_option linter.unusedVariables false
theorem FnExactDiskCrash (A0_0 : Option Addr) (c0_0 : Nat) (l0_0 : List Int) (_ : ∀ x ∈ l0_0, (Lit.int .u8 x).wf = true) (A0_1 : Option Addr) (c0_1 : Nat) (l0_1 : List (List Int)) (_ : ∀ y ∈ l0_1, ∀ x ∈ y, (Lit.int .u8 x).wf = true) (a1 : Int) (_ : (Lit.int .i64 a1).wf = true) (a2 : Int) (_ : (Lit.int .i64 a2).wf = true) (W : World) (hr0 : Kd.C (Kd.int .u8) W A0_0 l0_0.length l0_0) (hc0 : l0_0.length ≤ c0_0) (hr1 : Kd.C (Kd.slice 5 (Kd.int .u8)) W A0_1 l0_1.length l0_1) (hc1 : l0_1.length ≤ c0_1) :
    Calls Try.prog 6 #[.agg #[.slice A0_0 l0_0.length c0_0, .slice A0_1 l0_1.length c0_1], .int .i64 a1, .int .i64 a2] W fun e W' => e = .returned (.bool true) ∧ Below W.heap.size W W' := by
  obtain ⟨k, z, e0, hz | ⟨o, c, m, x, y, m2, x2, y2, hz, hm, hm2, e1, e2, e3, e4, e5, e6, e7, e8⟩⟩ := Pure.FnExactDiskCrash l0_0 l0_1 a1 a2 hr0.2.1 hr1.2.1 (rows_max hr1)
  · exact laws_FnExactDiskCrash.early0 k A0_0 c0_0 l0_0 A0_1 c0_1 l0_1 a1 a2 z W hr0 hc0 hr1 hc1 (decide_eq_true hz) e0
  · exact laws_FnExactDiskCrash.walk k A0_0 c0_0 l0_0 A0_1 c0_1 l0_1 a1 a2 z o [] c m x y m2 x2 y2 W hr0 hc0 hr1 hc1 (decide_eq_false hz) (decide_eq_false hm) (decide_eq_false hm2) e0 e1 e2 e1 e3 e4 e1 e5 e6 e4 e7 e8 e1 e3 e4 e8
end Go.Proofs.Ytfclobfoghbblaa.Total
