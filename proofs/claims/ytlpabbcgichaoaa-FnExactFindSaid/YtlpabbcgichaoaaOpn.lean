/- How an argument of any kind (numbers, bools, strings, slices and structs of these) is opened to a plain value that its cells read as. Words for the rows of this seat; no conditions. -/
import Derived.Test.YtlpabbcgichaoaaWWords
import Derived.ProofKit
import Derived.OpenShut
import Derived.Deep.Slices
import Derived.Deep.Fields
import Derived.ChangeSame
namespace Go.Proofs.Ytlpabbcgichaoaa.Opn
open Go.ChangeShapes Go.WideShapes Go.Deep Go.RowKit Go.Proofs.YtlpabbcgichaoaaW.PrintWords
set_option linter.unusedVariables false
set_option linter.unusedSimpArgs false
section
variable {H : Type} {enc : TypeId × Value → H} {P : Program} {w : World} {base : Nat} {spare : Nat → Bool} {held : Bool}
def Opn {α : Type} (enc : TypeId × Value → H) (P : Program) (w : World) (base : Nat) (spare : Nat → Bool) (held : Bool) (T : TypeId) (d : Kd α) (G : α → Prop) : Prop :=
  ∀ (fuel : Nat) (cs : List Value) (x : DataW H × List MemPlace), DataW.trod enc P w base spare held fuel T cs = some x → ∃ v : α, d.K w v cs ∧ G v
theorem Opn_int {T : TypeId} {k : IntKind} (ht : P.underlying T = some (.int k)) : Opn enc P w base spare held T (Kd.int k) (fun n => (Lit.int k n).wf = true) := by
  intro fuel cs x h
  obtain ⟨n, rfl, _, hw⟩ := DataW.trod_int ht h
  exact ⟨n, rfl, hw⟩
theorem Opn_string {T : TypeId} (ht : P.underlying T = some .string) : Opn enc P w base spare held T Kd.string (fun s => s.size ≤ maxLen) := by
  intro fuel cs x h
  obtain ⟨s, rfl, _, hs⟩ := DataW.trod_string ht h
  exact ⟨s, rfl, hs⟩
theorem Opn_slice {α : Type} {T e : TypeId} {d : Kd α} {G : α → Prop} (z : α) (ht : P.underlying T = some (.slice e)) (hc : P.cellsOf e = d.sz) (ho : Opn enc P w base spare held e d G) :
    Opn enc P w base spare held T (Kd.slice e d) (fun xs => ∀ x ∈ xs, G x) := by
  intro fuel cs x h
  rcases open_slice ht h with ⟨rfl, _⟩ | ⟨a, len, cap, m, n, D, Pl, rfl, _, hl, hm, hmm, _, hi⟩
  · exact ⟨[], ⟨none, 0, rfl, Nat.le_refl _, Kd.C_nil _ _⟩, by simp⟩
  · have hle : len ≤ m := by rw [hmm]; split <;> omega
    have each : ∀ i, ∃ y : α, i < len → ∃ c, c.length = d.sz ∧ d.K w y c ∧ (∀ j u, c[j]? = some u → w.cell? (a.add (i * d.sz + j)) = some u) ∧ G y := by
      intro i
      by_cases hlt : i < len
      · obtain ⟨cs', hcs, htr⟩ := hi i (by omega)
        obtain ⟨y, hK, hG⟩ := ho _ _ _ htr
        rw [hc] at hcs
        obtain ⟨_, hcl, hat⟩ := World.cells?_some hcs
        refine ⟨y, fun _ => ⟨cs', hcl, hK, fun j u hu => ?_, hG⟩⟩
        have hj : j < d.sz := by have := (List.getElem?_eq_some_iff.1 hu).1; omega
        have h2 := hat j hj
        rw [← Go.Deep.add_add, h2, hu]
      · exact ⟨z, fun h => absurd h hlt⟩
    obtain ⟨f, hf⟩ := Classical.axiomOfChoice each
    refine ⟨(List.range len).map f, ⟨some a, cap, by simp, by simpa using hl, ⟨by simp, ?_, fun _ => ⟨a, rfl, fun j p hj => ?_⟩⟩⟩, fun y hy => ?_⟩
    · simp only [List.length_map, List.length_range]
      have : maxLen ≤ 9223372036854775807 := by decide
      omega
    · rw [List.getElem?_map] at hj
      rcases hr : (List.range len)[j]? with _ | i
      · rw [hr] at hj; simp at hj
      · rw [hr] at hj
        obtain ⟨hjl, rfl⟩ := List.getElem?_eq_some_iff.1 hr
        simp only [Option.map_some, Option.some.injEq, List.getElem_range] at hj
        subst hj
        obtain ⟨c, h1, h2, h3, _⟩ := hf j (by simpa using hjl)
        exact ⟨c, h1, h2, h3⟩
    · obtain ⟨i, hi2, rfl⟩ := List.mem_map.1 hy
      obtain ⟨c, _, _, _, hG⟩ := hf i (by simpa using hi2)
      exact hG
theorem struct_fields {T : TypeId} {fs : Array Field} {fuel : Nat} {cs : List Value} {x : DataW H × List MemPlace} (hs : P.underlying T = some (.struct fs)) (hone : oneCellFields P fs = true) (hC : P.cellsOf T = fs.size)
    (h : DataW.trod enc P w base spare held fuel T cs = some x) :
    cs.length = fs.size ∧ ∀ (j : Nat) (f : Field), fs[j]? = some f → ∃ (u : Value) (n : Nat) (y : DataW H × List MemPlace), cs[j]? = some u ∧ DataW.trod enc P w base spare held n f.type [u] = some y := by
  obtain ⟨ys, n, _, _, hlen, hyl, hf⟩ := DataW.trod_struct hs h
  rw [hC] at hlen
  refine ⟨hlen, fun j f hj => ?_⟩
  obtain ⟨o, k⟩ := hone_of hone j f hj
  have hjl : j < fs.size := (Array.getElem?_eq_some_iff.1 hj).1
  have h1 := hf j f hj
  rw [o, k] at h1
  have h2 : (cs.drop j).take 1 = [cs[j]'(by omega)] := by
    rw [List.drop_eq_getElem_cons (by omega)]
    rfl
  rw [h2] at h1
  exact ⟨_, n, ys[j]'(by omega), List.getElem?_eq_getElem (by omega), h1.trans (List.getElem?_eq_getElem (by omega))⟩
theorem struct_parts_at {T : TypeId} {fs : Array Field} {fuel : Nat} {cs : List Value} {x : DataW H × List MemPlace} (hs : P.underlying T = some (.struct fs)) (h : DataW.trod enc P w base spare held fuel T cs = some x) :
    cs.length = P.cellsOf T ∧ ∃ n : Nat, fuel = n + 1 ∧ ∀ (j : Nat) (f : Field), fs[j]? = some f → ∃ y : DataW H × List MemPlace, DataW.trod enc P w base spare held n f.type ((cs.drop f.offset).take (P.cellsOf f.type)) = some y := by
  obtain ⟨ys, n, hn, _, hlen, hyl, hf⟩ := DataW.trod_struct hs h
  refine ⟨hlen, n, hn, fun j f hj => ?_⟩
  have hjl : j < fs.size := (Array.getElem?_eq_some_iff.1 hj).1
  exact ⟨ys[j]'(by omega), (hf j f hj).trans (List.getElem?_eq_getElem (by omega))⟩
theorem opn_slice_at {α : Type} {T e : TypeId} {d : Kd α} {G : α → Prop} (z : α) (ht : P.underlying T = some (.slice e)) (hc : P.cellsOf e = d.sz) {fuel : Nat}
    (ho : ∀ m, m < fuel → ∀ (cs : List Value) (x : DataW H × List MemPlace), DataW.trod enc P w base spare held m e cs = some x → ∃ v : α, d.K w v cs ∧ G v) {cs : List Value} {x : DataW H × List MemPlace}
    (h : DataW.trod enc P w base spare held fuel T cs = some x) : ∃ xs : List α, (Kd.slice e d).K w xs cs ∧ (∀ x ∈ xs, G x) ∧ xs.length ≤ maxLen := by
  rcases DataW.trod_slice ht h with ⟨rfl, _⟩ | ⟨a, len, cap, elems, rest, n, hn, rfl, _, _, hl, hm, hlen, hel, _, _⟩
  · exact ⟨[], ⟨none, 0, rfl, Nat.le_refl _, Kd.C_nil _ _⟩, by simp, by simp⟩
  · have each : ∀ i, ∃ y : α, i < len → ∃ c, c.length = d.sz ∧ d.K w y c ∧ (∀ j u, c[j]? = some u → w.cell? (a.add (i * d.sz + j)) = some u) ∧ G y := by
      intro i
      by_cases hlt : i < len
      · have h1 := (hel i hlt).trans (List.getElem?_eq_getElem (by omega))
        obtain ⟨cs', hcs, htr⟩ := Option.bind_eq_some_iff.1 h1
        obtain ⟨y, hK, hG⟩ := ho n (by omega) _ _ htr
        rw [hc] at hcs
        obtain ⟨_, hcl, hat⟩ := World.cells?_some hcs
        refine ⟨y, fun _ => ⟨cs', hcl, hK, fun j u hu => ?_, hG⟩⟩
        have hj : j < d.sz := by have := (List.getElem?_eq_some_iff.1 hu).1; omega
        have h2 := hat j hj
        rw [← Go.Deep.add_add, h2, hu]
      · exact ⟨z, fun h => absurd h hlt⟩
    obtain ⟨f, hf⟩ := Classical.axiomOfChoice each
    refine ⟨(List.range len).map f, ⟨some a, cap, by simp, by simpa using hl, ⟨by simp, ?_, fun _ => ⟨a, rfl, fun j p hj => ?_⟩⟩⟩, fun y hy => ?_, by simp; omega⟩
    · simp only [List.length_map, List.length_range]
      have : maxLen ≤ 9223372036854775807 := by decide
      omega
    · rw [List.getElem?_map] at hj
      rcases hr : (List.range len)[j]? with _ | i
      · rw [hr] at hj; simp at hj
      · rw [hr] at hj
        obtain ⟨hjl, rfl⟩ := List.getElem?_eq_some_iff.1 hr
        simp only [Option.map_some, Option.some.injEq, List.getElem_range] at hj
        subst hj
        obtain ⟨c, h1, h2, h3, _⟩ := hf j (by simpa using hjl)
        exact ⟨c, h1, h2, h3⟩
    · obtain ⟨i, hi2, rfl⟩ := List.mem_map.1 hy
      obtain ⟨c, _, _, _, hG⟩ := hf i (by simpa using hi2)
      exact hG
theorem trod_cells {T : TypeId} {fuel k : Nat} {cs : List Value} {x : DataW H × List MemPlace} (hk : P.cellsOf T = k) (o : Nat) (h : DataW.trod enc P w base spare held fuel T ((cs.drop o).take (P.cellsOf T)) = some x) : DataW.trod enc P w base spare held fuel T ((cs.drop o).take k) = some x := by
  rw [hk] at h
  exact h
theorem agg_fields {r : Reach} {b0 : Nat} {T : TypeId} {fs : Array Field} {v : Value} {d : DataW H} {p : List MemPlace} (hs : P.underlying T = some (.struct fs)) (hone : oneCellFields P fs = true) (hC : P.cellsOf T = fs.size)
    (hv : Value.okWide P w r b0 T v) (h : DataW.Trod enc P w base spare held T v d p) :
    ∃ cs : List Value, v = .agg cs.toArray ∧ cs.length = fs.size ∧ ∀ (j : Nat) (f : Field), fs[j]? = some f → ∃ (u : Value) (n : Nat) (y : DataW H × List MemPlace), cs[j]? = some u ∧ DataW.trod enc P w base spare held n f.type [u] = some y := by
  obtain ⟨cs, rfl, hsz⟩ := okWide_struct hs hv
  obtain ⟨fuel, hf⟩ := h
  obtain ⟨h1, h2⟩ := struct_fields hs hone hC hf
  exact ⟨cs.toList, by simp, by simpa [Value.cells] using h1, by simpa [Value.cells] using h2⟩
end
theorem list5 {α : Type} {l : List α} (h : l.length = 5) : ∃ a0 a1 a2 a3 a4, l = [a0, a1, a2, a3, a4] := by
  match l, h with
  | [a0, a1, a2, a3, a4], _ => exact ⟨a0, a1, a2, a3, a4, rfl⟩
end Go.Proofs.Ytlpabbcgichaoaa.Opn
