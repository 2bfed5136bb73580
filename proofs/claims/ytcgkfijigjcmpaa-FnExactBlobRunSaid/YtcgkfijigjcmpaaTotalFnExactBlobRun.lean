/- FnExactBlobRun: the program's run of acts on blobs is the reference's, told again, and the answer owns its memory. No conditions. -/
import Derived.Test.YtcgkfijigjcmpaaWalkFnExactBlobRun
import Derived.Test.YtcgkfijigjcmpaaPureFnExactBlobRun
namespace Go.Proofs.Ytcgkfijigjcmpaa.Total
open Go.RowKit Go.Proofs.Ytcgkfijigjcmpaa.PFnExactBlobRun Go.Proofs.Ytcgkfijigjcmpaa.Lawful Go.Proofs.YtcgkfijigjcmpaaW.PrintWords Go.Proofs.YtcgkfijigjcmpaaW.PrintLast Go.Proofs.YtcgkfijigjcmpaaW.PrintMore
set_option linter.unusedVariables false
theorem acts_max {W : World} {A : Option Addr} {n : Nat} {l : List S68} (h : Kd.C k68 W A n l) : ∀ r ∈ l, r.f1.length ≤ 9223372036854775807 := by
  intro r hr
  obtain ⟨i, hi, rfl⟩ := List.mem_iff_getElem.1 hr
  have hl := h.1
  obtain ⟨ad, A3, c3, _, _, _, _, _, g3⟩ := at_T68 h (i : Int) (by omega) (by omega)
  have := g3.2.1
  simpa [rd_T68, List.getD, hi] using this
theorem FnExactBlobRun (A0 : Option Addr) (c0 : Nat) (l0 : List S68) (hg : ∀ r ∈ l0, (Lit.int .i64 r.f0).wf = true ∧ (∀ y ∈ r.f1, (Lit.int .u8 y).wf = true) ∧ r.f2.size ≤ Go.maxLen) (W : World) (hr0 : Kd.C k68 W A0 l0.length l0) (hc0 : l0.length ≤ c0) :
    Calls Try.prog 5 #[.slice A0 l0.length c0] W fun e W' => e = .returned (.bool true) ∧ Below W.heap.size W W' := by
  obtain ⟨k, z, e0, hz | ⟨y, q1, q2, q3, m, x, m2, x2, m3, x3, hz, hm, hm2, hm3, e1, e2, e3, e4, e5, e6, e7, e8, e9, e10, e11⟩⟩ := PureB.FnExactBlobRun l0 hr0.2.1 (fun r hr => ⟨acts_max hr0 r hr, (hg r hr).2.2⟩) (fun r hr b hb => by have := Go.bounds_u8 ((hg r hr).2.1 b hb); omega)
  · exact laws_FnExactBlobRun.early0 k A0 c0 l0 z W hr0 hc0 (decide_eq_true hz) e0
  · exact laws_FnExactBlobRun.walk k A0 c0 l0 z y q1 q2 q3 m x m2 x2 m3 x3 W hr0 hc0 (decide_eq_false (by omega)) (decide_eq_false (by omega)) (decide_eq_false (by omega)) (decide_eq_false (by omega)) e0 e1 e2 e1 e3 e4 e5 e1 e6 e7 e4 e5 e8 e9 e10 e11 e1 e3 e4 e5 e10 e11
end Go.Proofs.Ytcgkfijigjcmpaa.Total
