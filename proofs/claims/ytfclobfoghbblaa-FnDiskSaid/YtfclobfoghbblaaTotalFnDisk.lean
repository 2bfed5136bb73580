/- FnDisk: what was synced is never lost in a crash, and what is left is a beginning of all that was written. No conditions. -/
import Derived.Test.YtfclobfoghbblaaWalkFnDisk
import Derived.Test.YtfclobfoghbblaaPureFnDisk
namespace Go.Proofs.Ytfclobfoghbblaa.Total
open Go.RowKit Go.Proofs.Ytfclobfoghbblaa.PFnDisk Go.Proofs.Ytfclobfoghbblaa.Lawful Go.Proofs.YtfclobfoghbblaaW.PrintWords Go.Proofs.YtfclobfoghbblaaW.PrintLast Go.Proofs.YtfclobfoghbblaaW.PrintMore
set_option linter.unusedVariables false
theorem FnDisk (A0 : Option Addr) (c0 : Nat) (l0 : List Int) (hu0 : ∀ x ∈ l0, (Lit.int .u8 x).wf = true) (A1 : Option Addr) (c1 : Nat) (l1 : List Int) (hu1 : ∀ x ∈ l1, (Lit.int .u8 x).wf = true) (W : World) (hr0 : Kd.C (Kd.int .u8) W A0 l0.length l0) (hc0 : l0.length ≤ c0) (hr1 : Kd.C (Kd.int .u8) W A1 l1.length l1) (hc1 : l1.length ≤ c1) :
    Calls Try.prog 7 #[.slice A0 l0.length c0, .slice A1 l1.length c1] W fun e W' => e = .returned (.bool true) ∧ Below W.heap.size W W' := by
  by_cases h0 : 1048576 < (l0.length : Int)
  · exact laws_FnDisk.early0 A0 c0 l0 A1 c1 l1 W (decide_eq_true h0)
  · by_cases h1 : 1048576 < (l1.length : Int)
    · exact laws_FnDisk.early1 A0 c0 l0 A1 c1 l1 W (decide_eq_false h0) (decide_eq_true h1)
    · obtain ⟨k, y, c, s, q, d, a1, a2, hl, hg, hd, e1, e2, e3, e4, e5, e6, e7, e8, e9, e10⟩ := Pure.FnDisk l0 l1 (Pure.u8_bounds hu0) (Pure.u8_bounds hu1) (by omega) (by omega)
      exact laws_FnDisk.walk k A0 c0 l0 A1 c1 l1 y c s q (s ++ q.flatten) d d d [] a1 a2 W hr0 hc0 hr1 hc1 (decide_eq_false h0) (decide_eq_false h1) (by simp) (by simp) (decide_eq_true hl) (by simp) (decide_eq_true hg) hd e1 e2 e3 e4 e5 e6 e7 e8 e9 e10
end Go.Proofs.Ytfclobfoghbblaa.Total
