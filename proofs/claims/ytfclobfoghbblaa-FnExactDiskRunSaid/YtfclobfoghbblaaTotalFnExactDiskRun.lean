/- FnExactDiskRun: the program's run of a disk is the reference's, told again, and the answer owns its memory. No conditions. -/
import Derived.Test.YtfclobfoghbblaaWalkFnExactDiskRun
import Derived.Test.YtfclobfoghbblaaPureFnExactDiskRun
namespace Go.Proofs.Ytfclobfoghbblaa.Total
open Go.RowKit Go.Proofs.Ytfclobfoghbblaa.PFnExactDiskRun Go.Proofs.Ytfclobfoghbblaa.Lawful Go.Proofs.YtfclobfoghbblaaW.PrintWords Go.Proofs.YtfclobfoghbblaaW.PrintLast Go.Proofs.YtfclobfoghbblaaW.PrintMore
set_option linter.unusedVariables false
theorem acts_max {W : World} {A : Option Addr} {n : Nat} {l : List S126} (h : Kd.C k126 W A n l) : ∀ r ∈ l, r.f3.length ≤ 9223372036854775807 := by
  intro r hr
  obtain ⟨i, hi, rfl⟩ := List.mem_iff_getElem.1 hr
  have hl := h.1
  obtain ⟨ad, A3, c3, _, _, _, _, _, _, g3⟩ := at_T126 h (i : Int) (by omega) (by omega)
  have := g3.2.1
  simpa [rd_T126, List.getD, hi] using this
theorem FnExactDiskRun (A0 : Option Addr) (c0 : Nat) (l0 : List S126) {G : Prop} (_ : G) (W : World) (hr0 : Kd.C k126 W A0 l0.length l0) (hc0 : l0.length ≤ c0) :
    Calls Try.prog 9 #[.slice A0 l0.length c0] W fun e W' => e = .returned (.bool true) ∧ Below W.heap.size W W' := by
  obtain ⟨k, z, e0, hz | ⟨y, q1, q2, q3, q4, m, x, m2, x2, m3, x3, x4, hz, hm, hm2, hm3, e1, e2, e3, e4, e5, e6, e7, e8, e9, e10, e11⟩⟩ := Pure.FnExactDiskRun l0 hr0.2.1 (acts_max hr0)
  · exact laws_FnExactDiskRun.early0 k A0 c0 l0 z W hr0 hc0 (decide_eq_true hz) e0
  · exact laws_FnExactDiskRun.walk k A0 c0 l0 z y q1 q2 q3 q4 m x m2 x2 m3 x3 x4 W hr0 hc0 (decide_eq_false (by omega)) (decide_eq_false (by omega)) (decide_eq_false (by omega)) (decide_eq_false (by omega)) e0 e1 e2 e1 e3 e4 e5 e1 e6 e7 e4 e5 e8 e9 e10 e11 e1 e3 e4 e5 e10 e11
end Go.Proofs.Ytfclobfoghbblaa.Total
