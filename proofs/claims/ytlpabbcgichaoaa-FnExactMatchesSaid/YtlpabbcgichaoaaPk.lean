/- Short words for long walks: the same steps as in YtlpabbcgichaoaaWLast, YtlpabbcgichaoaaWTab, YtlpabbcgichaoaaHw, their closed parts found by default. No conditions. -/
import Derived.Test.YtlpabbcgichaoaaHw
import Derived.Test.YtlpabbcgichaoaaWTab
import Derived.Deep.QuietTactic
import Derived.BigQuiet
import Derived.StillTailTactics
namespace Go.Proofs.Ytlpabbcgichaoaa.Lawful
open Go.RowKit Go.Proofs.YtlpabbcgichaoaaW.PrintWords Go.Proofs.YtlpabbcgichaoaaW.PrintLast Go.Proofs.YtlpabbcgichaoaaW.PrintMore
set_option linter.unusedVariables false
section
variable {w w' w1 w2 W : World} {P P1 P2 R S0 : Nat → Prop} {g n : Nat} {t : TypeId}
theorem LB.c1 {v0 : Value} (h : LB w P g t #[v0]) : w.cell? ⟨g, 0, none⟩ = some v0 ∧ w.frozen? ⟨g, 0, none⟩ = false := ⟨(h.cell 0).trans rfl, h.frozen 0⟩
theorem LB.c2 {v0 v1 : Value} (h : LB w P g t #[v0, v1]) : w.cell? ⟨g, 0, none⟩ = some v0 ∧ w.frozen? ⟨g, 0, none⟩ = false ∧ w.cell? ⟨g, 1, none⟩ = some v1 ∧ w.frozen? ⟨g, 1, none⟩ = false := ⟨(h.cell 0).trans rfl, h.frozen 0, (h.cell 1).trans rfl, h.frozen 1⟩
theorem LB.c3 {v0 v1 v2 : Value} (h : LB w P g t #[v0, v1, v2]) : w.cell? ⟨g, 0, none⟩ = some v0 ∧ w.frozen? ⟨g, 0, none⟩ = false ∧ w.cell? ⟨g, 1, none⟩ = some v1 ∧ w.frozen? ⟨g, 1, none⟩ = false ∧ w.cell? ⟨g, 2, none⟩ = some v2 ∧ w.frozen? ⟨g, 2, none⟩ = false := ⟨(h.cell 0).trans rfl, h.frozen 0, (h.cell 1).trans rfl, h.frozen 1, (h.cell 2).trans rfl, h.frozen 2⟩
theorem LB.c4 {v0 v1 v2 v3 : Value} (h : LB w P g t #[v0, v1, v2, v3]) : w.cell? ⟨g, 0, none⟩ = some v0 ∧ w.frozen? ⟨g, 0, none⟩ = false ∧ w.cell? ⟨g, 1, none⟩ = some v1 ∧ w.frozen? ⟨g, 1, none⟩ = false ∧ w.cell? ⟨g, 2, none⟩ = some v2 ∧ w.frozen? ⟨g, 2, none⟩ = false ∧ w.cell? ⟨g, 3, none⟩ = some v3 ∧ w.frozen? ⟨g, 3, none⟩ = false := ⟨(h.cell 0).trans rfl, h.frozen 0, (h.cell 1).trans rfl, h.frozen 1, (h.cell 2).trans rfl, h.frozen 2, (h.cell 3).trans rfl, h.frozen 3⟩
theorem LB.c5 {v0 v1 v2 v3 v4 : Value} (h : LB w P g t #[v0, v1, v2, v3, v4]) : w.cell? ⟨g, 0, none⟩ = some v0 ∧ w.frozen? ⟨g, 0, none⟩ = false ∧ w.cell? ⟨g, 1, none⟩ = some v1 ∧ w.frozen? ⟨g, 1, none⟩ = false ∧ w.cell? ⟨g, 2, none⟩ = some v2 ∧ w.frozen? ⟨g, 2, none⟩ = false ∧ w.cell? ⟨g, 3, none⟩ = some v3 ∧ w.frozen? ⟨g, 3, none⟩ = false ∧ w.cell? ⟨g, 4, none⟩ = some v4 ∧ w.frozen? ⟨g, 4, none⟩ = false := ⟨(h.cell 0).trans rfl, h.frozen 0, (h.cell 1).trans rfl, h.frozen 1, (h.cell 2).trans rfl, h.frozen 2, (h.cell 3).trans rfl, h.frozen 3, (h.cell 4).trans rfl, h.frozen 4⟩
theorem LB.c6 {v0 v1 v2 v3 v4 v5 : Value} (h : LB w P g t #[v0, v1, v2, v3, v4, v5]) : w.cell? ⟨g, 0, none⟩ = some v0 ∧ w.frozen? ⟨g, 0, none⟩ = false ∧ w.cell? ⟨g, 1, none⟩ = some v1 ∧ w.frozen? ⟨g, 1, none⟩ = false ∧ w.cell? ⟨g, 2, none⟩ = some v2 ∧ w.frozen? ⟨g, 2, none⟩ = false ∧ w.cell? ⟨g, 3, none⟩ = some v3 ∧ w.frozen? ⟨g, 3, none⟩ = false ∧ w.cell? ⟨g, 4, none⟩ = some v4 ∧ w.frozen? ⟨g, 4, none⟩ = false ∧ w.cell? ⟨g, 5, none⟩ = some v5 ∧ w.frozen? ⟨g, 5, none⟩ = false := ⟨(h.cell 0).trans rfl, h.frozen 0, (h.cell 1).trans rfl, h.frozen 1, (h.cell 2).trans rfl, h.frozen 2, (h.cell 3).trans rfl, h.frozen 3, (h.cell 4).trans rfl, h.frozen 4, (h.cell 5).trans rfl, h.frozen 5⟩
theorem LB.c7 {v0 v1 v2 v3 v4 v5 v6 : Value} (h : LB w P g t #[v0, v1, v2, v3, v4, v5, v6]) : w.cell? ⟨g, 0, none⟩ = some v0 ∧ w.frozen? ⟨g, 0, none⟩ = false ∧ w.cell? ⟨g, 1, none⟩ = some v1 ∧ w.frozen? ⟨g, 1, none⟩ = false ∧ w.cell? ⟨g, 2, none⟩ = some v2 ∧ w.frozen? ⟨g, 2, none⟩ = false ∧ w.cell? ⟨g, 3, none⟩ = some v3 ∧ w.frozen? ⟨g, 3, none⟩ = false ∧ w.cell? ⟨g, 4, none⟩ = some v4 ∧ w.frozen? ⟨g, 4, none⟩ = false ∧ w.cell? ⟨g, 5, none⟩ = some v5 ∧ w.frozen? ⟨g, 5, none⟩ = false ∧ w.cell? ⟨g, 6, none⟩ = some v6 ∧ w.frozen? ⟨g, 6, none⟩ = false := ⟨(h.cell 0).trans rfl, h.frozen 0, (h.cell 1).trans rfl, h.frozen 1, (h.cell 2).trans rfl, h.frozen 2, (h.cell 3).trans rfl, h.frozen 3, (h.cell 4).trans rfl, h.frozen 4, (h.cell 5).trans rfl, h.frozen 5, (h.cell 6).trans rfl, h.frozen 6⟩
theorem LB.c8 {v0 v1 v2 v3 v4 v5 v6 v7 : Value} (h : LB w P g t #[v0, v1, v2, v3, v4, v5, v6, v7]) : w.cell? ⟨g, 0, none⟩ = some v0 ∧ w.frozen? ⟨g, 0, none⟩ = false ∧ w.cell? ⟨g, 1, none⟩ = some v1 ∧ w.frozen? ⟨g, 1, none⟩ = false ∧ w.cell? ⟨g, 2, none⟩ = some v2 ∧ w.frozen? ⟨g, 2, none⟩ = false ∧ w.cell? ⟨g, 3, none⟩ = some v3 ∧ w.frozen? ⟨g, 3, none⟩ = false ∧ w.cell? ⟨g, 4, none⟩ = some v4 ∧ w.frozen? ⟨g, 4, none⟩ = false ∧ w.cell? ⟨g, 5, none⟩ = some v5 ∧ w.frozen? ⟨g, 5, none⟩ = false ∧ w.cell? ⟨g, 6, none⟩ = some v6 ∧ w.frozen? ⟨g, 6, none⟩ = false ∧ w.cell? ⟨g, 7, none⟩ = some v7 ∧ w.frozen? ⟨g, 7, none⟩ = false := ⟨(h.cell 0).trans rfl, h.frozen 0, (h.cell 1).trans rfl, h.frozen 1, (h.cell 2).trans rfl, h.frozen 2, (h.cell 3).trans rfl, h.frozen 3, (h.cell 4).trans rfl, h.frozen 4, (h.cell 5).trans rfl, h.frozen 5, (h.cell 6).trans rfl, h.frozen 6, (h.cell 7).trans rfl, h.frozen 7⟩
theorem bnf {a b : Int} (h : a ≠ b) : (a == b) = false := beq_eq_false_iff_ne.mpr h
theorem apn (h : ∀ k, P k → k < n) (hn : ∀ k, P1 k → n ≤ k) : ∀ k, P k → ¬ P1 k := fun k a b => absurd (h k a) (by have := hn k b; omega)
theorem rrn {T : Nat → Prop} (h : Kept w w1 R) (hP : ∀ k, P k → w1.heap.size ≤ k ∧ T k) : ∀ k, P k → R k ∨ w.heap.size ≤ k := fun k a => .inr (Nat.le_trans h.1 (hP k a).1)
theorem rrm (h : Kept w w1 R) (hP : ∀ k, P k → w1.heap.size ≤ k) : ∀ k, P k → R k ∨ w.heap.size ≤ k := fun k a => .inr (Nat.le_trans h.1 (hP k a))
theorem gen_ {w0 : World} (hg : g = w1.heap.size) (h : Below w0.heap.size w0 w1) : w0.heap.size ≤ g := by
  rw [hg]
  exact h.size
theorem no_R {R : Nat → Prop} : ∀ k : Nat, (fun _ : Nat => False) k → R k ∨ n ≤ k := fun _ h => h.elim
section
variable {g : Nat} {t : TypeId} {cs : Array Value} {α : Type} {d : Kd α} {e base : Nat} {v : Value} {xs : List α}
theorem sn (hk : Kept w w' (fun _ => False)) (h : Aside0 (LB w P g t cs)) : Aside0 (LB w' P g t cs) := ⟨LB.step h.out hk fun _ _ h => h⟩
theorem ss (hk : Kept w w' R) (h : Aside0 (LB w P g t cs)) (hS : ∀ k, P k → ¬ R k) : Aside0 (LB w' P g t cs) := ⟨LB.step h.out hk hS⟩
theorem na {T : Nat → Prop} (hP : ∀ k, P1 k → w.heap.size ≤ k ∧ T k) (h : Aside0 (LB w P g t cs)) : Aside0 (∀ k, P k → ¬ P1 k) := ⟨new_apart h.out.2.2 hP⟩
theorem ap_ (hn : ∀ k, P1 k → w.heap.size ≤ k) (h : Aside0 (LB w P g t cs)) : Aside0 (∀ k, P k → ¬ P1 k) := ⟨apn h.out.2.2 hn⟩
end
end
section
variable {P : Program} {ops : Array Oper} {Q : Exit → Act → World → Prop} {md : Region.Mode} {S : World → Prop} {ds : List Nat} {T : Bool × List (List Nat × List Nat)} {oi : Oper} {v : Value} {fuel : Nat} {l : Array Bool} {a a' : Act} {w : World}
theorem gs_ {N : Option Tmp} {K : Act → World → Prop} {f : FuncId} {fn : Func} {as : Array Operand} {ts : Array TypeId} (hf : P.funcs[f]? = some fn) (args : Array Value) (hb : fn.body.isSome = true)
    (hw : Region.wanted oi (yielded ops a.tmps) = true) (hN : oi.dst = N) (hop : oi.op = .call { callee := .value (.func f), args := as, argTypes := ts })
    (h : Calls P f args w fun e w' => ∃ v, e = .returned v ∧ K (a.put N v) w')
    (hargs : as.map a.eval = args := by (try simp only [List.map_toArray, List.map_cons, List.map_nil]); first | done | rfl) (hname : (fn.name == "runtime.NumGoroutine") = false := by kernel_rfl) : if Region.wanted oi (yielded ops a.tmps) = true then Oper.wp P oi a w K Q else K (a.put N undef) w :=
  goes_ hf hname hb args hw hN hop hargs h
theorem gl_ {rest : List Oper} (N : Option Tmp) (hd : oi.dst = N) (hg : oi.guard = none) {f : FuncId} {fn : Func} {as : Array Operand} {ts : Array TypeId} (hf : P.funcs[f]? = some fn) (args : Array Value) (hb : fn.body.isSome = true)
    (hop : oi.op = .call { callee := .value (.func f), args := as, argTypes := ts })
    (h : Calls P f args w fun e w' => ∃ v, e = .returned v ∧ wpList P ops Q rest (a.put N v) w')
    (hargs : as.map a.eval = args := by (try simp only [List.map_toArray, List.map_cons, List.map_nil]); first | done | rfl) (hname : (fn.name == "runtime.NumGoroutine") = false := by kernel_rfl) : wpList P ops Q (oi :: rest) a w :=
  goesL_ N hd hg hf hname hb args hop hargs h
section
variable {rest : List Oper} {o : Oper} {W : World}
theorem bx_ {N : Tmp} {cs : Array Value} {t : TypeId} (hgd : o.guard = none) (hd : o.dst = some N)
    (hrun : (execOp a.eval o).run P W = .ok (.value (.pointer (some ⟨W.heap.size, 0, none⟩))) (W.alloc (.cells cs t (0, 0))))
    (h : ∀ g, g = W.heap.size → ∀ w1, Below W.heap.size W w1 → Kept W w1 (fun _ => False) → ∀ P1 : Nat → Prop, (∀ k, P1 k → W.heap.size ≤ k ∧ True) → Aside0 (LB w1 P1 g t cs) → wpList P ops Q rest (a.put o.dst (.pointer (some ⟨g, 0, none⟩))) w1) : wpList P ops Q (o :: rest) a W :=
  box_event hgd hd hrun fun g hg w1 hbox hb => by
    obtain ⟨P1, hP, hL⟩ := LB.fresh hg hbox
    exact h g hg w1 hb (kept_below hb) P1 hP ⟨hL⟩
end
end
end Go.Proofs.Ytlpabbcgichaoaa.Lawful
namespace Go.Proofs.YtlpabbcgichaoaaW.PrintWords
open Go.RowKit
section
variable {w : World} {g : Nat} {t : TypeId}
theorem bkc5 {v0 v1 v2 v3 v4 : Value} (h : w.heap[g]? = some (.cells #[v0, v1, v2, v3, v4] t (0, 0))) : w.cell? ⟨g, 0, none⟩ = some v0 ∧ w.frozen? ⟨g, 0, none⟩ = false ∧ w.cell? ⟨g, 1, none⟩ = some v1 ∧ w.frozen? ⟨g, 1, none⟩ = false ∧ w.cell? ⟨g, 2, none⟩ = some v2 ∧ w.frozen? ⟨g, 2, none⟩ = false ∧ w.cell? ⟨g, 3, none⟩ = some v3 ∧ w.frozen? ⟨g, 3, none⟩ = false ∧ w.cell? ⟨g, 4, none⟩ = some v4 ∧ w.frozen? ⟨g, 4, none⟩ = false := ⟨(blk_cell h 0).trans rfl, blk_frozen h 0, (blk_cell h 1).trans rfl, blk_frozen h 1, (blk_cell h 2).trans rfl, blk_frozen h 2, (blk_cell h 3).trans rfl, blk_frozen h 3, (blk_cell h 4).trans rfl, blk_frozen h 4⟩
end
section
variable {p : Prop}
theorem tA (h : p := by (try simp only [List.map_toArray, List.map_cons, List.map_nil]); first | done | rfl | (simp only [List.length_drop, List.length_take]; rfl)) : p := h
theorem tB (h : p := by repeat (first | (with_reducible first | exact HB.out | apply below_alloc | apply pw_below_drewN | apply below_drew1) | exact HB.out)) : p := h
theorem tG (h : p := by repeat (first | (with_reducible first | exact HB.out | apply below_alloc | apply pw_below_drewN | apply below_drew1 | refine below_set ?_ (by first | exact GE101.out | exact GE104.out | exact GE107.out | exact GE110.out | exact GE114.out | exact GE145.out)) | exact HB.out)) : p := h
theorem tK (h : p := by (with_reducible repeat (first | refine blk_drewN ?_ _ | refine blk_drew ?_ | refine blk_alloc ?_ _)); first | exact BK101.out | exact BK104.out | exact BK107.out | exact BK110.out | exact BK114.out | exact BK118.out | exact BK124.out | exact BK136.out | exact BK140.out | exact BK145.out) : p := h
theorem tE (h : p := by first | rfl | (simp [errW_none, errW_some] <;> rfl) | (simp [*, errW_none, errW_some] <;> rfl)) : p := h
end
end Go.Proofs.YtlpabbcgichaoaaW.PrintWords
