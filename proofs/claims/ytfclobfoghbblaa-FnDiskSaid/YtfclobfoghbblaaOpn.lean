/- How an argument of any kind (numbers, bools, strings, slices and structs of these) is opened to a plain value that its cells read as. Words for the rows of this seat; no conditions. -/
import Derived.Test.YtfclobfoghbblaaWMore
import Derived.ProofKit
import Derived.OpenShut
import Derived.Deep.Slices
import Derived.Deep.Fields
import Derived.ChangeSame
namespace Go.Proofs.Ytfclobfoghbblaa.Opn
open Go.ChangeShapes Go.WideShapes Go.Deep Go.RowKit Go.Proofs.YtfclobfoghbblaaW.PrintWords
set_option linter.unusedVariables false
set_option linter.unusedSimpArgs false
section
variable {H : Type} {enc : TypeId × Value → H} {P : Program} {w : World} {base : Nat} {spare : Nat → Bool} {held : Bool}
/-- Whatever cells of type T are read as data, they read as a plain value that is good. -/
def Opn {α : Type} (enc : TypeId × Value → H) (P : Program) (w : World) (base : Nat) (spare : Nat → Bool) (held : Bool) (T : TypeId) (d : Kd α) (G : α → Prop) : Prop :=
  ∀ (fuel : Nat) (cs : List Value) (x : DataW H × List MemPlace), DataW.trod enc P w base spare held fuel T cs = some x → ∃ v : α, d.K w v cs ∧ G v
theorem Opn_int {T : TypeId} {k : IntKind} (ht : P.underlying T = some (.int k)) : Opn enc P w base spare held T (Kd.int k) (fun n => (Lit.int k n).wf = true) := by
  intro fuel cs x h
  obtain ⟨n, rfl, _, hw⟩ := DataW.trod_int ht h
  exact ⟨n, rfl, hw⟩
theorem Opn_slice {α : Type} {T e : TypeId} {d : Kd α} {G : α → Prop} (z : α) (ht : P.underlying T = some (.slice e)) (hc : P.cellsOf e = d.sz) (ho : Opn enc P w base spare held e d G) :
    Opn enc P w base spare held T (Kd.slice e d) (fun xs => ∀ x ∈ xs, G x) := by
  intro fuel cs x h
  rcases open_slice ht h with ⟨rfl, _⟩ | ⟨a, len, cap, m, n, D, Pl, rfl, _, hl, hm, hmm, _, hi⟩
  · exact ⟨[], ⟨none, 0, rfl, Nat.le_refl _, Kd.C_nil _ _⟩, by simp⟩
  · have hle : len ≤ m := by rw [hmm]; split <;> omega
    have each : ∀ i, ∃ y : α, i < len → ∃ c, c.length = d.sz ∧ d.K w y c ∧ (∀ j u, c[j]? = some u → w.cell? (a.add (i * d.sz + j)) = some u) ∧ G y := by
      intro i
      by_cases hlt : i < len
      · obtain ⟨cs', hcs, htr⟩ := hi i (by omega)
        obtain ⟨y, hK, hG⟩ := ho _ _ _ htr
        rw [hc] at hcs
        obtain ⟨_, hcl, hat⟩ := World.cells?_some hcs
        refine ⟨y, fun _ => ⟨cs', hcl, hK, fun j u hu => ?_, hG⟩⟩
        have hj : j < d.sz := by have := (List.getElem?_eq_some_iff.1 hu).1; omega
        have h2 := hat j hj
        rw [← Go.Deep.add_add, h2, hu]
      · exact ⟨z, fun h => absurd h hlt⟩
    obtain ⟨f, hf⟩ := Classical.axiomOfChoice each
    refine ⟨(List.range len).map f, ⟨some a, cap, by simp, by simpa using hl, ⟨by simp, ?_, fun _ => ⟨a, rfl, fun j p hj => ?_⟩⟩⟩, fun y hy => ?_⟩
    · simp only [List.length_map, List.length_range]
      have : maxLen ≤ 9223372036854775807 := by decide
      omega
    · rw [List.getElem?_map] at hj
      rcases hr : (List.range len)[j]? with _ | i
      · rw [hr] at hj; simp at hj
      · rw [hr] at hj
        obtain ⟨hjl, rfl⟩ := List.getElem?_eq_some_iff.1 hr
        simp only [Option.map_some, Option.some.injEq, List.getElem_range] at hj
        subst hj
        obtain ⟨c, h1, h2, h3, _⟩ := hf j (by simpa using hjl)
        exact ⟨c, h1, h2, h3⟩
    · obtain ⟨i, hi2, rfl⟩ := List.mem_map.1 hy
      obtain ⟨c, _, _, _, hG⟩ := hf i (by simpa using hi2)
      exact hG
end
end Go.Proofs.Ytfclobfoghbblaa.Opn
