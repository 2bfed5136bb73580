/- Short words for the steps of a drawn region. No conditions. -/
import Derived.Test.YtlpabbcgichaoaaPk
namespace Go.Proofs.Ytlpabbcgichaoaa.Lawful
open Go.RowKit Go.Proofs.YtlpabbcgichaoaaW.PrintWords Go.Proofs.YtlpabbcgichaoaaW.PrintLast Go.Proofs.YtlpabbcgichaoaaW.PrintMore
set_option linter.unusedVariables false
section
variable {P : Program} {ops : Array Oper} {Q : Exit → Act → World → Prop} {md : Region.Mode} {S : World → Prop} {ds : List Nat} {T : Bool × List (List Nat × List Nat)} {oi : Oper} {v : Value} {fuel : Nat} {l : Array Bool} {a a' : Act} {w : World}
def anyU (T : Bool × List (List Nat × List Nat)) (l : List Bool) (i : Nat) : Bool := T.1 && freeT T.2 l i && readyAt T.2 l i
def takeU (T : Bool × List (List Nat × List Nat)) (B : List Nat) (ds : List Nat) (l : List Bool) (i : Nat) : Bool := T.1 && freeT T.2 l i && readyAt T.2 l i && closedT T.2 l && lastW T.2 B l ds i
theorem pu {l' : Array Bool} (i : Nat) (N : Tmp) (hT : rtab md ops = T) (hi : ops[i]? = some oi) (hN : oi.dst = some N) (hw : Region.wanted oi (yielded ops a.tmps) = true) (h : wpAnyLast P md ops Q S ds fuel l' a' w)
    (hy : ∀ w, (execOp a.eval oi).run P w = .ok (.value v) w := by intro w'; go_simp; with_reducible rfl)
    (ha : a.put (some N) v = a' := by simp only [Act.put, List.setIfInBounds_toArray, List.set_cons_zero, List.set_cons_succ, i64_w, i32_w]; rfl)
    (hl : (l.toList.set i true).toArray = l' := by simp only [List.toList_toArray, List.set_cons_zero, List.set_cons_succ]; rfl)
    (hc : anyU T l.toList i = true := by kernel_rfl)
    (hQ : ∀ c a w, Q (.panic c) (a.put oi.dst v) w → Q (.panic c) a w := by exact fun _ _ _ h => h) : wpAnyLast P md ops Q S ds (fuel + 1) l a w := by
  subst hl
  exact pure_ (l.toList.set i true).toArray hi hN (any_of hT (by simpa [anyT, anyU] using hc)) hQ (Or.inl ⟨hw, hy⟩) ha h
theorem tk {l' : Array Bool} (i : Nat) (N : Tmp) {B : List Nat} (hT : rtab md ops = T) (hB : waitsOk T.2 B = true) (hS : S w) (hi : ops[i]? = some oi) (hN : oi.dst = some N) (hw : Region.wanted oi (yielded ops a.tmps) = true) (h : wpAnyLast P md ops Q S ds fuel l' a' w)
    (hy : ∀ w, S w → (execOp a.eval oi).run P w = .ok (.value v) w := by intro w' hS_; go_simp; with_reducible rfl)
    (ha : a.put (some N) v = a' := by simp only [Act.put, List.setIfInBounds_toArray, List.set_cons_zero, List.set_cons_succ, i64_w, i32_w]; rfl)
    (hl : (l.toList.set i true).toArray = l' := by simp only [List.toList_toArray, List.set_cons_zero, List.set_cons_succ]; rfl)
    (hc : takeU T B ds l.toList i = true := by kernel_rfl)
    (hQ : ∀ c a w, Q (.panic c) (a.put oi.dst v) w → Q (.panic c) a w := by exact fun _ _ _ h => h) : wpAnyLast P md ops Q S ds (fuel + 1) l a w := by
  subst hl
  exact take_ (l.toList.set i true).toArray hi hN (take_ofW hT hB (by simpa [takeW, takeU] using hc)) hQ (Or.inl ⟨hw, hy⟩) hS ha h
theorem un {l' : Array Bool} (i : Nat) (N : Tmp) (hT : rtab md ops = T) (hi : ops[i]? = some oi) (hN : oi.dst = some N) (hw : Region.wanted oi (yielded ops a.tmps) = false) (h : wpAnyLast P md ops Q S ds fuel l' a' w)
    (ha : a.put (some N) undef = a' := by simp only [Act.put, List.setIfInBounds_toArray, List.set_cons_zero, List.set_cons_succ]; rfl)
    (hl : (l.toList.set i true).toArray = l' := by simp only [List.toList_toArray, List.set_cons_zero, List.set_cons_succ]; rfl)
    (hc : anyU T l.toList i = true := by kernel_rfl)
    (hQ : ∀ c a w, Q (.panic c) (a.put oi.dst undef) w → Q (.panic c) a w := by exact fun _ _ _ h => h) : wpAnyLast P md ops Q S ds (fuel + 1) l a w := by
  subst hl
  exact pure_ (l.toList.set i true).toArray hi hN (any_of hT (by simpa [anyT, anyU] using hc)) hQ (Or.inr ⟨hw, rfl⟩) ha h
theorem on_ {l' : Array Bool} (i : Nat) (N : Option Tmp) (hT : rtab md ops = T) (hi : ops[i]? = some oi) (hN : oi.dst = N)
    (h : ∀ K : Act → World → Prop, Shut (∀ a' w', S w' → (S w' → wpAnyLast P md ops Q S ds fuel l' a' w') → K a' w') → if Region.wanted oi (yielded ops a.tmps) = true then Oper.wp P oi a w K Q else K (a.put N undef) w)
    (hl : (l.toList.set i true).toArray = l' := by simp only [List.toList_toArray, List.set_cons_zero, List.set_cons_succ]; rfl) (hc : (readyT T.2 l.toList == [i]) = true := by kernel_rfl) (hd : i ∉ ds := by decide) : wpAnyLast P md ops Q S ds (fuel + 1) l a w := by
  subst hl
  exact one_ (l.toList.set i true).toArray hi hN (one_of hT (by simpa using hc)) hd h
theorem la_ {l' : Array Bool} (i : Nat) (N : Option Tmp) (hT : rtab md ops = T) (hi : ops[i]? = some oi) (hN : oi.dst = N)
    (h : ∀ K : Act → World → Prop, Shut (∀ a' w', wpAnyLast P md ops Q S ds fuel l' a' w' → K a' w') → if Region.wanted oi (yielded ops a.tmps) = true then Oper.wp P oi a w K Q else K (a.put N undef) w)
    (hl : (l.toList.set i true).toArray = l' := by simp only [List.toList_toArray, List.set_cons_zero, List.set_cons_succ]; rfl) (hc : (readyT T.2 l.toList == [i]) = true := by kernel_rfl) (hd : i ∈ ds := by decide) : wpAnyLast P md ops Q S ds (fuel + 1) l a w := by
  subst hl
  exact last_ (l.toList.set i true).toArray hi hN (one_of hT (by simpa using hc)) hd h
end
end Go.Proofs.Ytlpabbcgichaoaa.Lawful
