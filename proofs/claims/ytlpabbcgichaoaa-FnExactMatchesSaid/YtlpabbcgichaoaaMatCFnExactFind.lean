/- More of the matchers' plain words: no program in sight. -/
import Derived.Test.YtlpabbcgichaoaaMatBFnExactFind
namespace Go.Proofs.Ytlpabbcgichaoaa.PFnExactFind
open Go.RowKit Go.Proofs.YtlpabbcgichaoaaW.PrintWords Go.Proofs.YtlpabbcgichaoaaW.PrintLast Go.Proofs.YtlpabbcgichaoaaW.PrintMore
set_option linter.unusedVariables false
set_option linter.unusedSimpArgs false
theorem imRowStep (tx : Nat → Int) (n i : Nat) (x : S31) (yes b : Bool) (hm : ∀ j, mat tx n x i j = (j == i + 1 && b)) (hy : i < n → yes = b) : rowOf n (fun j => false || (yes && j == i + 1)) = rowOf n (mat tx n x i) := rowOf_congr (fun j hj => by
  rw [hm]
  by_cases c : j = i + 1
  · rw [hy (by omega)]
    simp [c]
  · have h2 : (j == i + 1) = false := beq_eq_false_iff_ne.2 c
    rw [h2]; simp)
theorem imChar (tx : Nat → Int) (n i : Nat) (a m : Int) (s : ByteArray) (l : List S31) (j : Nat) : mat tx n ⟨1, a, m, s, l⟩ i j = (j == i + 1 && decide (tx i = a)) := by rw [mat]; rfl
theorem imAny (tx : Nat → Int) (n i : Nat) (a m : Int) (s : ByteArray) (l : List S31) (j : Nat) : mat tx n ⟨2, a, m, s, l⟩ i j = (j == i + 1 && true) := by rw [mat, Bool.and_true]; rfl
theorem imSet (tx : Nat → Int) (n i : Nat) (a m : Int) (s : ByteArray) (l : List S31) (j : Nat) : mat tx n ⟨3, a, m, s, l⟩ i j = (j == i + 1 && inS s (tx i)) := by rw [mat]; rfl
theorem imBegin (tx : Nat → Int) (n i : Nat) (a m : Int) (s : ByteArray) (l : List S31) : rowOf n (fun j => if j = i then (i == 0) else false) = rowOf n (mat tx n ⟨4, a, m, s, l⟩ i) := rowOf_congr (fun j hj => by
  rw [mat]
  show _ = (i == 0 && j == 0)
  by_cases c : j = i
  · subst c; simp
  · rw [if_neg c]
    by_cases d : i = 0
    · subst d; simp [c]
    · simp [d])
theorem imEnd (tx : Nat → Int) (n i : Nat) (a m : Int) (s : ByteArray) (l : List S31) : rowOf n (fun j => if j = i then (i == n) else false) = rowOf n (mat tx n ⟨5, a, m, s, l⟩ i) := rowOf_congr (fun j hj => by
  rw [mat]
  show _ = (i == n && j == i)
  by_cases c : j = i
  · subst c; simp
  · simp [c])
theorem imGroup (tx : Nat → Int) (n i : Nat) (a m : Int) (s : ByteArray) (l : List S31) (y : S31) (hy : l[0]? = some y) : rowOf n (fun j => false || mat tx n y i j) = rowOf n (mat tx n ⟨6, a, m, s, l⟩ i) := rowOf_congr (fun j hj => by
  rw [mat, Bool.false_or]
  show _ = matHd tx n l i j
  cases l with
  | nil => simp at hy
  | cons z l => rw [matHd]; simp at hy; rw [hy])
theorem matAlt_any (tx : Nat → Int) (n i j : Nat) : ∀ l : List S31, matAlt tx n l i j = l.any fun y => mat tx n y i j
  | [] => by rw [matAlt]; rfl
  | x :: l => by rw [matAlt, List.any_cons]; show (mat tx n x i j || matAlt tx n l i j) = _; rw [matAlt_any tx n i j l]
theorem imAlt (tx : Nat → Int) (n i : Nat) (a m : Int) (s : ByteArray) (l : List S31) : rowOf n (fun j => (l.take l.length).any fun y => mat tx n y i j) = rowOf n (mat tx n ⟨8, a, m, s, l⟩ i) := rowOf_congr (fun j hj => by
  rw [mat, List.take_length]
  exact (matAlt_any tx n i j l).symm)
theorem imAltStep (tx : Nat → Int) (n i q : Nat) (l : List S31) (y : S31) (hy : l[q]? = some y) : (fun j => (l.take q).any (fun y => mat tx n y i j) || mat tx n y i j) = fun j => (l.take (q + 1)).any fun y => mat tx n y i j := by
  funext j
  rw [List.take_add_one, hy]
  simp
theorem imSeq (tx : Nat → Int) (n i : Nat) (k a m : Int) (s : ByteArray) (l : List S31) (hk : k = 7 ∨ k = 9) : rowOf n (fun j => false || onw tx n ⟨k, a, m, s, l⟩ 0 i j) = rowOf n (mat tx n ⟨k, a, m, s, l⟩ i) := rowOf_congr (fun j hj => by rw [Bool.false_or]; exact onw_zero tx n k a m s l hk i j)
end Go.Proofs.Ytlpabbcgichaoaa.PFnExactFind
