/- Words for the program's matcher: a row of its nodes. -/
import Derived.Test.YtlpabbcgichaoaaPFnExactFindx0
import Derived.Test.YtlpabbcgichaoaaMatBFnExactFind
import Derived.Deep.QuietTactic
import Derived.BigQuiet
import Derived.StillTailTactics
import Derived.Outline
import Derived.Deep.RegionHeld3
import Derived.Deep.Cut
import Derived.Test.YtlpabbcgichaoaaHw
namespace Go.Proofs.Ytlpabbcgichaoaa.PFnExactFind
open Go.RowKit Go.Proofs.Ytlpabbcgichaoaa.Lawful Go.Proofs.YtlpabbcgichaoaaW.PrintWords Go.Proofs.YtlpabbcgichaoaaW.PrintLast Go.Proofs.YtlpabbcgichaoaaW.PrintMore
attribute [local go_sem] max2_int min2_int max_two min_two max_three min_three max_four min_four   -- for this text's walks alone
set_option linter.unusedVariables false
set_option linter.unusedSimpArgs false
section
open Go.Proofs.Ytlpabbcgichaoaa.Lawful
def kNA : Kd (S31 × List Int) := Kd.pair k31 (Kd.slice 3 (Kd.int .i64))
theorem infoNA : (Try.prog.info? 76).map (fun i => (i.zero, i.size, i.bytes)) = some (some (.agg #[.int .i64 0, .int .i64 0, .int .i64 0, .string ⟨#[]⟩, .slice none 0 0, .slice none 0 0]), 6, 88) := by kernel_rfl
theorem k31_openF {W : World} {ok : Nat → Prop} {x : S31} {cs : List Value} (h : Kd.FK k31 W ok x cs) : ∃ A4 c4, cs = [.int .i64 x.f0, .int .i64 x.f1, .int .i64 x.f2, .string x.f3, .slice A4 x.f4.length c4] ∧ x.f4.length ≤ c4 ∧ Kd.F k31 W ok A4 x.f4.length x.f4 := by
  obtain ⟨A4, c4, rfl, hl, _⟩ := k31_open (Kd.FK_now h)
  refine ⟨A4, c4, rfl, hl, fun W' hW => ?_⟩
  obtain ⟨A5, c5, he, _, hC⟩ := k31_open (h W' hW)
  injection he with _ he
  injection he with _ he
  injection he with _ he
  injection he with _ he
  injection he with he _
  injection he with he _ _
  subst he
  exact hC
theorem kNA_mkF {W : World} {ok : Nat → Prop} (x : S31) (ks : List Int) {A4 A5 : Option Addr} {c4 c5 : Nat} (h1 : x.f4.length ≤ c4) (h2 : Kd.F k31 W ok A4 x.f4.length x.f4) (h3 : ks.length ≤ c5) (h4 : Kd.F (Kd.int .i64) W ok A5 ks.length ks) :
    Kd.FK kNA W ok (x, ks) [.int .i64 x.f0, .int .i64 x.f1, .int .i64 x.f2, .string x.f3, .slice A4 x.f4.length c4, .slice A5 ks.length c5] :=
  fun W' hW => ⟨[.int .i64 x.f0, .int .i64 x.f1, .int .i64 x.f2, .string x.f3, .slice A4 x.f4.length c4], [.slice A5 ks.length c5], rfl, k31_mk W' x h1 (h2 W' hW), ⟨A5, c5, rfl, h3, h4 W' hW⟩⟩
theorem kNA_open {W : World} {p : S31 × List Int} {cs : List Value} (h : kNA.K W p cs) : ∃ A4 c4 A5 c5, cs = [.int .i64 p.1.f0, .int .i64 p.1.f1, .int .i64 p.1.f2, .string p.1.f3, .slice A4 p.1.f4.length c4, .slice A5 p.2.length c5] ∧ p.1.f4.length ≤ c4 ∧ k31.C W A4 p.1.f4.length p.1.f4 ∧ p.2.length ≤ c5 ∧ Kd.C (Kd.int .i64) W A5 p.2.length p.2 := by
  obtain ⟨a, b, rfl, ha, A5, c5, rfl, h5, hC⟩ := h
  obtain ⟨A4, c4, rfl, h4, hC4⟩ := k31_open ha
  exact ⟨A4, c4, A5, c5, rfl, h4, hC4, h5, hC⟩
theorem kNA_openF {W : World} {ok : Nat → Prop} {p : S31 × List Int} {cs : List Value} (h : Kd.FK kNA W ok p cs) : ∃ A4 c4 A5 c5, cs = [.int .i64 p.1.f0, .int .i64 p.1.f1, .int .i64 p.1.f2, .string p.1.f3, .slice A4 p.1.f4.length c4, .slice A5 p.2.length c5] ∧ p.1.f4.length ≤ c4 ∧ Kd.F k31 W ok A4 p.1.f4.length p.1.f4 ∧ p.2.length ≤ c5 ∧ Kd.F (Kd.int .i64) W ok A5 p.2.length p.2 := by
  obtain ⟨A4, c4, A5, c5, rfl, h4, _, h5, _⟩ := kNA_open (Kd.FK_now h)
  have key : ∀ W', (∀ k, ok k → k < W.heap.size → W'.heap[k]? = W.heap[k]?) → k31.C W' A4 p.1.f4.length p.1.f4 ∧ Kd.C (Kd.int .i64) W' A5 p.2.length p.2 := fun W' hW => by
    obtain ⟨B4, d4, B5, d5, he, _, hC4, _, hC5⟩ := kNA_open (h W' hW)
    injection he with _ he
    injection he with _ he
    injection he with _ he
    injection he with _ he
    injection he with he4 he
    injection he with he5 _
    injection he4 with he4 _ _
    injection he5 with he5 _ _
    subst he4 he5
    exact ⟨hC4, hC5⟩
  exact ⟨A4, c4, A5, c5, rfl, h4, fun W' hW => (key W' hW).1, h5, fun W' hW => (key W' hW).2⟩
theorem F_up {α : Type} {d : Kd α} {w W : World} {ok : Nat → Prop} {A : Option Addr} {n : Nat} {xs : List α} (h : Kd.F d w ok A n xs) (hb : Below w.heap.size w W) : Kd.F d W ok A n xs := fun W' hW' => h W' (fun k hk hlt => (hW' k hk (Nat.lt_of_lt_of_le hlt hb.size)).trans (hb.block k hlt))
theorem iBelow {w w1 w2 : World} {g : Nat} (hB : Below w.heap.size w w1) (h : w1.grownBy w2 (some g)) (hg : w.heap.size ≤ g) : Below w.heap.size w w2 :=
  ⟨h.os.trans hB.os, h.tape.trans hB.tape, h.output.trans hB.output, Nat.le_trans hB.size h.size, fun k hk => (h.block k (Nat.lt_of_lt_of_le hk hB.size) (fun he => by injection he with he; omega)).trans (hB.block k hk)⟩
theorem at_F31 {w : World} {ok : Nat → Prop} {A : Option Addr} {n : Nat} {xs : List S31} (h : Kd.F k31 w ok A n xs) (i : Nat) (h1 : i < n) (y : S31) (hy : xs[i]? = some y) : ∃ ad A4 c4, A = some ad ∧ w.cell? (ad.add (i * 5)) = some (.int .i64 y.f0) ∧ w.cell? ⟨(ad.add (i * 5)).block, (ad.add (i * 5)).off + 1, none⟩ = some (.int .i64 y.f1) ∧ w.cell? ⟨(ad.add (i * 5)).block, (ad.add (i * 5)).off + 2, none⟩ = some (.int .i64 y.f2) ∧ w.cell? ⟨(ad.add (i * 5)).block, (ad.add (i * 5)).off + 3, none⟩ = some (.string y.f3) ∧ w.cell? ⟨(ad.add (i * 5)).block, (ad.add (i * 5)).off + 4, none⟩ = some (.slice A4 y.f4.length c4) ∧ y.f4.length ≤ c4 ∧ Kd.F k31 w ok A4 y.f4.length y.f4 := by
  obtain ⟨ad, c, e, _, hK, hc0, _⟩ := Kd.F_get h z31 (i : Int) (by omega) (by omega)
  rw [Int.toNat_natCast, List.getD_eq_getElem?_getD, hy] at hK
  have hc : ∀ j u, c[j]? = some u → w.cell? (ad.add (i * 5 + j)) = some u := hc0
  obtain ⟨A4, c4, rfl, h4, hC4⟩ := k31_openF hK
  exact ⟨ad, A4, c4, e, hc 0 _ rfl, by rw [← add_field _ _ 1 (by omega)]; exact hc 1 _ rfl, by rw [← add_field _ _ 2 (by omega)]; exact hc 2 _ rfl, by rw [← add_field _ _ 3 (by omega)]; exact hc 3 _ rfl, by rw [← add_field _ _ 4 (by omega)]; exact hc 4 _ rfl, h4, hC4⟩
section
variable {P : Program} {ops : Array Oper} {rest : List Oper} {o : Oper} {a : Act} {Q : Exit → Act → World → Prop} {Kc : Act → World → Prop} {α : Type} {d : Kd α} {e : Nat} {w0 W : World} {P1 P2 : Nat → Prop}
theorem LM.append_in_step (d : Kd α) (hw : Region.wanted o (yielded ops a.tmps) = true) (s x : Operand) (t e : TypeId) (z : Value) (bytes : Nat)
    (ho : o.op = .call { callee := .builtin .append, args := #[s, x], argTypes := #[t, t] })
    (ht : P.underlying t = some (.slice e)) (hinfo : (P.info? e).map (fun i => (i.zero, i.size, i.bytes)) = some (some z, d.sz, bytes)) (hz : z.cells.size = d.sz) (hs0 : 0 < d.sz) (hb0 : 0 < bytes)
    (v : Value) (xs : List α) (p : α) (cs : List Value) (hs : a.eval s = v) (hx : a.eval x = .slice (some ⟨W.heap.size, 0, none⟩) 1 1) (_h1 : True)
    (HO : LM d e W w0.heap.size P1 v xs) (HP : Kd.FK d W P2 p cs) (hD : ∀ k, P2 k → P1 k ∧ k < w0.heap.size)
    (HB : Below w0.heap.size w0 W) (hl : (xs.length + 1) * bytes ≤ 140737488355328)
    (h : ∀ R v1 w1, LM d e w1 w0.heap.size R v1 (xs ++ [p]) → Below w0.heap.size w0 w1 → Kept W w1 P1 → (∀ k, R k ↔ (P1 k ∨ W.heap.size ≤ k) ∧ k < w1.heap.size) → Kc (a.put o.dst v1) w1) :
    if Region.wanted o (yielded ops a.tmps) = true then Oper.wp P o a (W.alloc (.cells cs.toArray e)) Kc Q else Kc (a.put o.dst undef) (W.alloc (.cells cs.toArray e)) := by
  have hv : ∀ k, v.ownBlock = some k → P1 k := HO.1.1
  refine Kd.N_append_step d w0.heap.size hw s x t e z bytes ho ht hinfo hz hs0 hb0 v xs p cs (fun k => P1 k ∨ W.heap.size ≤ k) P2 hs hx HP (fun k hk => ⟨.inl (hD k hk).1, fun he => by have := Kd.N_base HO.1 k he.symm; have := (hD k hk).2; omega⟩) (fun k hk => .inr hk) (Kd.N_mono HO.1 (fun k hk => .inl hk)) HB HB.size hl ?_
  intro v1 w1 hr hb hg hat
  exact h (fun k => (P1 k ∨ W.heap.size ≤ k) ∧ k < w1.heap.size) v1 w1 ⟨Kd.N_bound hr, fun k hk => hk.2⟩ hb (kept_app hg hv) (fun k => Iff.rfl)
theorem LM.kids {g n c : Nat} {xs : List (S31 × List Int)} (h : LM kNA 76 W w0.heap.size P1 (.slice (some ⟨g, 0, none⟩) n c) xs) (i : Nat) (hi : i < n) (x : S31) (ks : List Int) (hx : ∃ k0, xs[i]? = some (x, k0)) {A5 : Option Addr} {c5 : Nat} {P2 : Nat → Prop} (h5 : LR (Kd.int .i64) 3 W w0.heap.size P2 (.slice A5 ks.length c5) ks) (hD : ∀ k, P2 k → ¬ P1 k) :
    LM kNA 76 (W.setCells g (i * 6 + 5) [.slice A5 ks.length c5]) w0.heap.size (fun k => (P1 k ∨ P2 k) ∧ k < W.heap.size) (.slice (some ⟨g, 0, none⟩) n c) (xs.set i (x, ks)) ∧ W.grownBy (W.setCells g (i * 6 + 5) [.slice A5 ks.length c5]) (some g) ∧ P1 g := by
  obtain ⟨k0, hx⟩ := hx
  have hP : P1 g := h.1.1 g (by simp [Value.ownBlock])
  obtain ⟨cs, hcl, hFK, hcc, hfr⟩ := Kd.N_elem h.1 ((z31, []) : S31 × List Int) (i : Int) (by omega) (by omega)
  rw [Int.toNat_natCast] at hcc
  rw [Int.toNat_natCast, List.getD_eq_getElem?_getD, hx] at hFK
  obtain ⟨A4, c4, A6, c6, rfl, h4, hF4, _, _⟩ := kNA_openF hFK
  have hnew : Kd.FK kNA W (fun k => (P1 k ∧ k ≠ g) ∨ P2 k) (x, ks) [.int .i64 x.f0, .int .i64 x.f1, .int .i64 x.f2, .string x.f3, .slice A4 x.f4.length c4, .slice A5 ks.length c5] :=
    kNA_mkF x ks h4 (Kd.F_mono hF4 (fun k hk => .inl hk)) h5.room (Kd.F_mono (Kd.R_F h5.1) (fun k hk => .inr hk))
  have hs := Kd.N_seg (ok := fun k => P1 k ∨ P2 k) (Kd.N_mono h.1 (fun k hk => .inl hk)) (i : Int) (by omega) (by omega) (c := [.int .i64 x.f0, .int .i64 x.f1, .int .i64 x.f2, .string x.f3, .slice A4 x.f4.length c4, .slice A6 k0.length c6]) (seg := [.slice A5 ks.length c5]) (j := 5) rfl (by rw [Int.toNat_natCast]; exact hcc) (show 5 + 1 ≤ 6 from by decide) (x' := (x, ks)) (okp := fun k => (P1 k ∧ k ≠ g) ∨ P2 k) hnew (fun k hk => by
    rcases hk with hk | hk
    · exact ⟨.inl hk.1, hk.2⟩
    · exact ⟨.inr hk, fun e => hD k hk (e ▸ hP)⟩)
  rw [Int.toNat_natCast] at hs
  have hsz : (W.setCells g (i * 6 + 5) [.slice A5 ks.length c5]).heap.size = W.heap.size := (setCells_same g [Value.slice A5 ks.length c5] (i * 6 + 5) W).2.2.2
  refine ⟨⟨Kd.N_mono (Kd.N_bound hs.1) (fun k hk => ⟨hk.1, by rw [← hsz]; exact hk.2⟩), fun k hk => by rw [hsz]; exact hk.2⟩, hs.2, hP⟩
end
end
end Go.Proofs.Ytlpabbcgichaoaa.PFnExactFind
