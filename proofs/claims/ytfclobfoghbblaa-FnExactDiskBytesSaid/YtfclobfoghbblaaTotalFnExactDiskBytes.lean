/- FnExactDiskBytes: the program's disk's bytes are the reference's, told again, and the answer owns its memory. No conditions. -/
import Derived.Test.YtfclobfoghbblaaWalkFnExactDiskBytes
import Derived.Test.YtfclobfoghbblaaPureFnExactDiskBytes
namespace Go.Proofs.Ytfclobfoghbblaa.Total
open Go.RowKit Go.Proofs.Ytfclobfoghbblaa.PFnExactDiskBytes Go.Proofs.Ytfclobfoghbblaa.Lawful Go.Proofs.YtfclobfoghbblaaW.PrintWords Go.Proofs.YtfclobfoghbblaaW.PrintLast Go.Proofs.YtfclobfoghbblaaW.PrintMore
set_option linter.unusedVariables false
theorem FnExactDiskBytes (A0 : Option Addr) (c0 : Nat) (l0 : List Int) (h0 : ∀ x ∈ l0, (Lit.int .u8 x).wf = true) (A1 : Option Addr) (c1 : Nat) (l1 : List (List Int)) (h1 : ∀ x ∈ l1, ∀ y ∈ x, (Lit.int .u8 y).wf = true) (W : World) (hr0 : Kd.C (Kd.int .u8) W A0 l0.length l0) (hc0 : l0.length ≤ c0) (hr1 : Kd.C (Kd.slice 5 (Kd.int .u8)) W A1 l1.length l1) (hc1 : l1.length ≤ c1) :
    Calls Try.prog 3 #[.agg #[.slice A0 l0.length c0, .slice A1 l1.length c1]] W fun e W' => e = .returned (.bool true) ∧ Below W.heap.size W W' := by
  obtain ⟨k, z, e0, hz | ⟨o, c, m, x, y, m2, x2, hz, hm, hm2, e1, e2, e3, e4, e5, e6, e7, e8⟩⟩ := Pure.FnExactDiskBytes l0 l1 hr0.2.1 hr1.2.1 (rows_max hr1)
  · exact laws_FnExactDiskBytes.early0 k A0 c0 l0 A1 c1 l1 z W hr0 hc0 hr1 hc1 (decide_eq_true hz) e0
  · exact laws_FnExactDiskBytes.walk k A0 c0 l0 A1 c1 l1 z o c m x y m2 x2 W hr0 hc0 hr1 hc1 (decide_eq_false hz) (decide_eq_false hm) (decide_eq_false hm2) e0 e1 e2 e1 e3 e4 e1 e5 e6 e4 e7 e8 e1 e3 e4 e8
end Go.Proofs.Ytfclobfoghbblaa.Total
