/- FnExactWalOf: the program's log's bytes are the reference's, told again, and the answer owns its memory. No conditions. -/
import Derived.Test.YtkiknhljomobpaaWalkFnExactWalOf
import Derived.Test.YtkiknhljomobpaaPureFnExactWalOf
namespace Go.Proofs.Ytkiknhljomobpaa.Total
open Go.RowKit Go.Proofs.Ytkiknhljomobpaa.PFnExactWalOf Go.Proofs.Ytkiknhljomobpaa.Lawful Go.Proofs.YtkiknhljomobpaaW.PrintWords Go.Proofs.YtkiknhljomobpaaW.PrintLast Go.Proofs.YtkiknhljomobpaaW.PrintMore
set_option linter.unusedVariables false
theorem recs_max {w : World} {A : Option Addr} {n : Nat} {ls : List S42} (h : Kd.C k42 w A n ls) : ∀ r ∈ ls, r.f2.length ≤ 9223372036854775807 := by
  intro r hr
  obtain ⟨i, hi, rfl⟩ := List.mem_iff_getElem.1 hr
  have hl := h.1
  obtain ⟨ad, c, _, _, hK, _⟩ := Kd.C_get h z42 (i : Int) (by omega) (by omega)
  obtain ⟨_, _, _, _, hC⟩ := k42_open hK
  have := hC.2.1
  simpa [List.getD, hi] using this
theorem FnExactWalOf (a : Int) (_ : (Lit.int .i64 a).wf = true) (b : Int) (_ : (Lit.int .i64 b).wf = true) (c : Int) (_ : (Lit.int .i64 c).wf = true) (d : Int) (_ : (Lit.int .i64 d).wf = true) (A0 : Option Addr) (c0 : Nat) (l0 : List S42) (h0 : ∀ r ∈ l0, (Lit.int .i64 r.f0).wf = true ∧ (Lit.int .i64 r.f1).wf = true ∧ ∀ x ∈ r.f2, (Lit.int .u8 x).wf = true) (q : Int) (_ : (Lit.int .i64 q).wf = true) (W : World) (hr0 : Kd.C k42 W A0 l0.length l0) (hc0 : l0.length ≤ c0) :
    Calls Try.prog 12 #[.agg #[.int .i64 a, .int .i64 b, .int .i64 c, .int .i64 d, .slice A0 l0.length c0, .int .i64 q]] W fun e W' => e = .returned (.bool true) ∧ Below W.heap.size W W' := by
  obtain ⟨k, z, e0, hz | ⟨y, o, e, m, x, m2, x2, hz, hm, hm2, e1, e2, e3, e4, e5, e6, e7, e8⟩⟩ := Pure.FnExactWalOf a b c d q l0 (fun r hr => (h0 r hr).2.2) hr0.2.1 (recs_max hr0)
  · exact laws_FnExactWalOf.early0 k a b c d A0 c0 l0 q z W hr0 hc0 (decide_eq_true hz) e0
  · exact laws_FnExactWalOf.walk k a b c d A0 c0 l0 q z y o e m x m2 x2 W hr0 hc0 (decide_eq_false hz) (decide_eq_false hm) (decide_eq_false hm2) e0 e1 e2 e1 e3 e4 e1 e5 e6 e4 e7 e8 e1 e3 e4 e8
end Go.Proofs.Ytkiknhljomobpaa.Total
