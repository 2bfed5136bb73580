/- FnExactFeed: the program's chunks fed are the reference's, fed again, and the answer owns its memory. No conditions. -/
import Derived.Test.YtkiknhljomobpaaWalkFnExactFeed
import Derived.Test.YtkiknhljomobpaaPureFnExactFeed
namespace Go.Proofs.Ytkiknhljomobpaa.Total
open Go.RowKit Go.Proofs.Ytkiknhljomobpaa.PFnExactFeed Go.Proofs.Ytkiknhljomobpaa.Lawful Go.Proofs.YtkiknhljomobpaaW.PrintWords Go.Proofs.YtkiknhljomobpaaW.PrintLast Go.Proofs.YtkiknhljomobpaaW.PrintMore
theorem FnExactFeed (A0 : Option Addr) (c0 : Nat) (l0 : List Int) (hl : ∀ x ∈ l0, (Lit.int .u8 x).wf = true) (A1 : Option Addr) (c1 : Nat) (l1 : List (List Int)) (hl1 : ∀ y ∈ l1, ∀ x ∈ y, (Lit.int .u8 x).wf = true) (W : World) (hr : Kd.C (Kd.int .u8) W A0 l0.length l0) (hc : l0.length ≤ c0) (hr1 : Kd.C (Kd.slice 5 (Kd.int .u8)) W A1 l1.length l1) (hc1 : l1.length ≤ c1) :
    Calls Try.prog 13 #[.slice A0 l0.length c0, .slice A1 l1.length c1] W fun e W' => e = .returned (.bool true) ∧ Below W.heap.size W W' := by
  by_cases h : 1048576 < l0.length
  · exact laws_FnExactFeed.early0 0 A0 c0 l0 A1 c1 l1 W hr hc hr1 hc1 (decide_eq_true (by omega)) (decide_eq_true h)
  · obtain ⟨k, z, e0, hz | ⟨o, r, c, m, x, m2, x2, m3, x3, m4, x4, hz, hm, hm2, hm3, hm4, e1, e2, e3, e4, e5, e6, e7, e8, e9, e10, e11, e12, e13, e14⟩⟩ := Pure.FnExactFeed l0 hl h l1 hl1 hr1.2.1 (rows_max hr1)
    · exact laws_FnExactFeed.early1 k A0 c0 l0 A1 c1 l1 z W hr hc hr1 hc1 (decide_eq_false (by omega)) (decide_eq_false h) (decide_eq_true hz) e0
    · exact laws_FnExactFeed.walk k A0 c0 l0 A1 c1 l1 z o r c m x m2 x2 m3 x3 m4 x4 W hr hc hr1 hc1 (decide_eq_false (by omega)) (decide_eq_false h) (decide_eq_false hz) (decide_eq_false hm) (decide_eq_false hm2) (decide_eq_false hm3) (decide_eq_false hm4) e0 e1 e2 e3 e1 e2 e4 e5 e6 e1 e7 e2 e8 e9 e10 e5 e6 e11 e12 e13 e14 e1 e2 e4 e5 e6 e13 e14
end Go.Proofs.Ytkiknhljomobpaa.Total
