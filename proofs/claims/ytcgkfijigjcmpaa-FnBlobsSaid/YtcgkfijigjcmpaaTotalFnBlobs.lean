/- FnBlobs: a blob is found by the key of its bytes as long as something refers to it, and each key is that of its bytes. No conditions. -/
import Derived.Test.YtcgkfijigjcmpaaWalkFnBlobs
import Derived.Test.YtcgkfijigjcmpaaPureFnBlobs
namespace Go.Proofs.Ytcgkfijigjcmpaa.Total
open Go.RowKit Go.Proofs.Ytcgkfijigjcmpaa.PFnBlobs Go.Proofs.Ytcgkfijigjcmpaa.Lawful Go.Proofs.YtcgkfijigjcmpaaW.PrintWords Go.Proofs.YtcgkfijigjcmpaaW.PrintLast Go.Proofs.YtcgkfijigjcmpaaW.PrintMore
set_option linter.unusedVariables false
theorem FnBlobs (A0 : Option Addr) (c0 : Nat) (l0 : List Int) (hu0 : ∀ x ∈ l0, (Lit.int .u8 x).wf = true) (W : World) (hr0 : Kd.C (Kd.int .u8) W A0 l0.length l0) (hc0 : l0.length ≤ c0) :
    Calls Try.prog 4 #[.slice A0 l0.length c0] W fun e W' => e = .returned (.bool true) ∧ Below W.heap.size W W' := by
  by_cases h0 : 1048576 < (l0.length : Int)
  · exact laws_FnBlobs.early0 A0 c0 l0 W (decide_eq_true h0)
  · obtain ⟨k, y, c, s, hs, e1, e2, e3, e4, hg⟩ := PureB.FnBlobs l0 (PureB.u8_bounds hu0) (by omega)
    refine laws_FnBlobs.walk k A0 c0 l0 y c s W hr0 hc0 (decide_eq_false h0) hs e1 e2 e3 e4 (fun i hi => ?_)
    have hm : s.getD i z35 ∈ s := by rw [List.getD_eq_getElem?_getD, List.getElem?_eq_getElem hi]; exact List.getElem_mem hi
    exact hg _ hm
end Go.Proofs.Ytcgkfijigjcmpaa.Total
