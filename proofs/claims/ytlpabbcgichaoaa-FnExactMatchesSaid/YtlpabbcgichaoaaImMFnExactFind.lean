/- Maps keyed by rows of whole numbers. -/
import Derived.Test.YtlpabbcgichaoaaHw
import Derived.Test.YtlpabbcgichaoaaProg
import Derived.Maps.Keyed
import Derived.DeepKeys4
namespace Go.Proofs.Ytlpabbcgichaoaa.PFnExactFind
set_option linter.unusedVariables false
set_option linter.unusedSimpArgs false
section
open Go.Maps
theorem im_laid : laidOutB Try.prog = true := by kernel_rfl
theorem im_law2 : Keyed Try.prog 86 := Keyed.of_law (deep_law_laid im_laid (m := 3) (by omega) (of_decide_eq_true (by kernel_rfl)) (by kernel_rfl) (by rw [Try.underlying86]))
theorem im_key2 (a b : Nat) (h : a < 9223372036854775808 ∧ b < 9223372036854775808) : ∃ l, keyOf Try.prog 86 (.agg #[.int .i64 (a : Int), .int .i64 (b : Int)]) = some l := by
  have hc : Try.prog.cellsOf 86 = 2 := by kernel_rfl
  have hc3 : Try.prog.cellsOf 3 = 1 := by kernel_rfl
  have hk : Try.prog.keyType 86 = true := by kernel_rfl
  have hf : (Value.agg #[.int .i64 (a : Int), .int .i64 (b : Int)]).formed Try.prog 86 = true := by simp [Value.formed, Try.underlying86, hc]
  obtain ⟨D, hD⟩ : ∃ D, Try.prog.types.size = D + 1 := ⟨Try.prog.types.size - 1, by have : 0 < Try.prog.types.size := of_decide_eq_true (by kernel_rfl); omega⟩
  have h1 : ∀ x : Nat, x < 9223372036854775808 → Try.prog.keyLits (D + 1) 3 [.int .i64 (x : Int)] = some [.int .i64 (x : Int)] := fun x hx => by
    unfold Program.keyLits
    rw [Try.underlying3]
    simp only
    have hw : (Lit.int .i64 (x : Int)).wf = true := by
      show (decide ((-9223372036854775808 : Int) ≤ (x : Int)) && decide ((x : Int) ≤ 9223372036854775807)) = true
      rw [Bool.and_eq_true, decide_eq_true_eq, decide_eq_true_eq]
      omega
    simp [hw]
  unfold keyOf
  rw [Try.underlying86]
  simp only [hk, hf, Bool.and_self, if_true]
  rw [hD]
  unfold Program.keyLits
  rw [Try.underlying86]
  simp only [hc, hc3]
  simp [List.range_succ, Value.cells, h1 a h.1, h1 b h.2]
theorem im_law3 : Keyed Try.prog 101 := Keyed.of_law (deep_law_laid im_laid (m := 3) (by omega) (of_decide_eq_true (by kernel_rfl)) (by kernel_rfl) (by rw [Try.underlying101]))
theorem im_key3 (a b c : Nat) (h : a < 9223372036854775808 ∧ b < 9223372036854775808 ∧ c < 9223372036854775808) : ∃ l, keyOf Try.prog 101 (.agg #[.int .i64 (a : Int), .int .i64 (b : Int), .int .i64 (c : Int)]) = some l := by
  have hc : Try.prog.cellsOf 101 = 3 := by kernel_rfl
  have hc3 : Try.prog.cellsOf 3 = 1 := by kernel_rfl
  have hk : Try.prog.keyType 101 = true := by kernel_rfl
  have hf : (Value.agg #[.int .i64 (a : Int), .int .i64 (b : Int), .int .i64 (c : Int)]).formed Try.prog 101 = true := by simp [Value.formed, Try.underlying101, hc]
  obtain ⟨D, hD⟩ : ∃ D, Try.prog.types.size = D + 1 := ⟨Try.prog.types.size - 1, by have : 0 < Try.prog.types.size := of_decide_eq_true (by kernel_rfl); omega⟩
  have h1 : ∀ x : Nat, x < 9223372036854775808 → Try.prog.keyLits (D + 1) 3 [.int .i64 (x : Int)] = some [.int .i64 (x : Int)] := fun x hx => by
    unfold Program.keyLits
    rw [Try.underlying3]
    simp only
    have hw : (Lit.int .i64 (x : Int)).wf = true := by
      show (decide ((-9223372036854775808 : Int) ≤ (x : Int)) && decide ((x : Int) ≤ 9223372036854775807)) = true
      rw [Bool.and_eq_true, decide_eq_true_eq, decide_eq_true_eq]
      omega
    simp [hw]
  unfold keyOf
  rw [Try.underlying101]
  simp only [hk, hf, Bool.and_self, if_true]
  rw [hD]
  unfold Program.keyLits
  rw [Try.underlying101]
  simp only [hc, hc3]
  simp [List.range_succ, Value.cells, h1 a h.1, h1 b h.2.1, h1 c h.2.2]
theorem im_look {P : Program} {k t e : TypeId} {w : World} {b : Nat} {es : Array MapEntry} {clock : Nat} (K : Keyed P k) (ht : P.underlying t = some (.map k e)) {z : Value} (hz : (zeroValue e).run P w = .ok z w) (hb : w.heap[b]? = some (.map es clock)) (hes : ∀ x ∈ es.toList, ∃ l, keyOf P k x.key = some l) {key : Value} (hkey : ∃ l, keyOf P k key = some l) :
    (Instr.lookup t (.map (some b)) key true).run P w = .ok (.tuple #[z, .bool false]) w ∨ ∃ e0 ∈ es.toList, e0.key = key ∧ (Instr.lookup t (.map (some b)) key true).run P w = .ok (.tuple #[e0.val, .bool true]) w := by
  obtain ⟨kl, hkey⟩ := hkey
  rcases K.find w hkey es.toList hes with ⟨h1, h2⟩ | ⟨j, e0, h1, h2, h3⟩
  · exact .inl (by simp [Instr.lookup, run_underlying ht, MapKept.run_getObj_map hb, K.check w _ hkey, h1, hz, Result.andThen])
  · exact .inr ⟨e0, List.mem_of_getElem? h2, h3, by simp [Instr.lookup, run_underlying ht, MapKept.run_getObj_map hb, K.check w _ hkey, h1, Result.andThen]⟩
theorem im_put {P : Program} {k t e : TypeId} {w : World} {b : Nat} {es : Array MapEntry} {clock : Nat} (K : Keyed P k) (ht : P.underlying t = some (.map k e)) (hb : w.heap[b]? = some (.map es clock)) (hes : ∀ x ∈ es.toList, ∃ l, keyOf P k x.key = some l) {key val : Value} (hkey : ∃ l, keyOf P k key = some l) :
    ∃ es' clock', (Instr.mapUpdate t (.map (some b)) key val).run P w = .ok () (ChangeMaps.setBlock w b (.map es' clock')) ∧ ∀ x' ∈ es'.toList, x' ∈ es.toList ∨ (x'.key = key ∧ x'.val = val) := by
  obtain ⟨kl, hkey⟩ := hkey
  rcases K.find w hkey es.toList hes with ⟨h1, h2⟩ | ⟨j, e0, h1, h2, h3⟩
  · refine ⟨es.push ⟨key, val, clock⟩, clock + 1, by simp [Instr.mapUpdate, run_underlying ht, MapKept.run_getObj_map hb, K.check w false hkey, h1, MapKept.run_setObj_map _ hb, Result.andThen, ChangeMaps.setBlock], fun x' hx => ?_⟩
    simp only [Array.toList_push, List.mem_append, List.mem_singleton] at hx
    rcases hx with hx | rfl
    · exact .inl hx
    · exact .inr ⟨rfl, rfl⟩
  · have hj : es[j]? = some e0 := by simpa using h2
    have hlist : (es.modify j (fun e' => { e' with key := key, val := val })).toList = es.toList.set j { e0 with key := key, val := val } := by rw [Array.toList_modify, ChangeMaps.modify_eq_set _ _ _ _ h2]
    refine ⟨es.modify j (fun e' => { e' with key := key, val := val }), clock, by simp [Instr.mapUpdate, run_underlying ht, MapKept.run_getObj_map hb, K.check w false hkey, h1, hj, h3, K.stays w hkey, MapKept.run_setObj_map _ hb, Result.andThen, ChangeMaps.setBlock], fun x' hx => ?_⟩
    rw [hlist] at hx
    rcases List.mem_or_eq_of_mem_set hx with hx | rfl
    · exact .inl hx
    · exact .inr ⟨rfl, rfl⟩
end
end Go.Proofs.Ytlpabbcgichaoaa.PFnExactFind
