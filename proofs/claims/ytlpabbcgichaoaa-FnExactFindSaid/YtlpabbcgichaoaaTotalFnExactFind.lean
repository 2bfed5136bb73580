/- FnExactFind: the program's Find is the reference's. No conditions. -/
import Derived.Test.YtlpabbcgichaoaaWalkFnExactFind
import Derived.Test.YtlpabbcgichaoaaPureFnExactFind
namespace Go.Proofs.Ytlpabbcgichaoaa.Total
open Go.RowKit Go.Proofs.Ytlpabbcgichaoaa.PFnExactFind Go.Proofs.Ytlpabbcgichaoaa.Lawful Go.Proofs.YtlpabbcgichaoaaW.PrintWords Go.Proofs.YtlpabbcgichaoaaW.PrintLast Go.Proofs.YtlpabbcgichaoaaW.PrintMore
set_option linter.unusedVariables false
theorem FnExactFind (a0 : Int) (g0 : (Lit.int .i64 a0).wf = true) (a1 : Int) (g1 : (Lit.int .i64 a1).wf = true) (a2 : Int) (g2 : (Lit.int .i64 a2).wf = true) (a3 : ByteArray) (g3 : a3.size ≤ Go.maxLen) (A : Option Addr) (c : Nat) (l : List S24) (g4 : ∀ y ∈ l, Pure.rxLim y) (T : ByteArray) (g5 : T.size ≤ Go.maxLen) (i : Int) (gi : (Lit.int .i64 i).wf = true) (W : World) (hr : Kd.C k24 W A l.length l) (hc : l.length ≤ c) :
    Calls Try.prog 3 #[.agg #[.int .i64 a0, .int .i64 a1, .int .i64 a2, .string a3, .slice A l.length c], .string T, .int .i64 i] W fun e W' => e = .returned (.bool true) ∧ Below W.heap.size W W' := by
  by_cases h : 1048576 < T.size
  · exact laws_FnExactFind.early0 0 a0 a1 a2 a3 A c l T i W hr hc (decide_eq_true (by omega)) (decide_eq_true h)
  · have d1 : decide (1048576 < (T.size : Int)) = false := decide_eq_false (by omega)
    have d2 : decide (1048576 < T.size) = false := decide_eq_false h
    by_cases hs : laws_szRx.g ⟨a0, a1, a2, a3, l⟩ 1048576 < 0
    · exact laws_FnExactFind.early1 0 a0 a1 a2 a3 A c l T i _ W hr hc d1 d2 (decide_eq_true hs) rfl
    · obtain ⟨k, y4, q7, q8, m20, m23, x24, n1, n2, e1, e2, e3, e4, e5, e6, e7, e8⟩ := Pure.FnExactFind a0 a1 a2 a3 g3 l g4 hr.2.1 T i hs
      exact laws_FnExactFind.walk k a0 a1 a2 a3 A c l T i _ y4 q7 q8 m20 m23 x24 W hr hc d1 d2 (decide_eq_false hs) (decide_eq_false n1) (decide_eq_false n2) rfl e1 e2 e1 e3 e4 e1 e5 e6 e4 e7 e8 e1 e3 e4 e8
end Go.Proofs.Ytlpabbcgichaoaa.Total
