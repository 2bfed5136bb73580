import Derived.Test.YtlpabbcgichaoaaPFnExactFindx0
import Derived.Test.YtlpabbcgichaoaaMatFnExactFind
import Derived.Deep.QuietTactic
import Derived.BigQuiet
import Derived.StillTailTactics
import Derived.Outline
import Derived.Deep.RegionHeld3
import Derived.Deep.Cut
import Derived.Test.YtlpabbcgichaoaaWWords
import Derived.Test.YtlpabbcgichaoaaProg
import Derived.Maps.Keyed
import Derived.DeepKeys4
import Derived.Test.YtlpabbcgichaoaaPFnExactFindx6
section
namespace Go.Proofs.Ytlpabbcgichaoaa.PFnExactFind
open Go.RowKit Go.Proofs.Ytlpabbcgichaoaa.Lawful Go.Proofs.YtlpabbcgichaoaaW.PrintWords Go.Proofs.YtlpabbcgichaoaaW.PrintLast Go.Proofs.YtlpabbcgichaoaaW.PrintMore
attribute [local go_sem] max2_int min2_int max_two min_two max_three min_three max_four min_four   -- for this text's walks alone
set_option linter.unusedVariables false
set_option linter.unusedSimpArgs false
section
open Go.Proofs.Ytlpabbcgichaoaa.Lawful
def kNA : Kd (S31 × List Int) := Kd.pair k31 (Kd.slice 3 (Kd.int .i64))
theorem infoNA : (Try.prog.info? 76).map (fun i => (i.zero, i.size, i.bytes)) = some (some (.agg #[.int .i64 0, .int .i64 0, .int .i64 0, .string ⟨#[]⟩, .slice none 0 0, .slice none 0 0]), 6, 88) := by kernel_rfl
theorem k31_openF {W : World} {ok : Nat → Prop} {x : S31} {cs : List Value} (h : Kd.FK k31 W ok x cs) : ∃ A4 c4, cs = [.int .i64 x.f0, .int .i64 x.f1, .int .i64 x.f2, .string x.f3, .slice A4 x.f4.length c4] ∧ x.f4.length ≤ c4 ∧ Kd.F k31 W ok A4 x.f4.length x.f4 := by
  obtain ⟨A4, c4, rfl, hl, _⟩ := k31_open (Kd.FK_now h)
  refine ⟨A4, c4, rfl, hl, fun W' hW => ?_⟩
  obtain ⟨A5, c5, he, _, hC⟩ := k31_open (h W' hW)
  injection he with _ he
  injection he with _ he
  injection he with _ he
  injection he with _ he
  injection he with he _
  injection he with he _ _
  subst he
  exact hC
theorem kNA_mkF {W : World} {ok : Nat → Prop} (x : S31) (ks : List Int) {A4 A5 : Option Addr} {c4 c5 : Nat} (h1 : x.f4.length ≤ c4) (h2 : Kd.F k31 W ok A4 x.f4.length x.f4) (h3 : ks.length ≤ c5) (h4 : Kd.F (Kd.int .i64) W ok A5 ks.length ks) :
    Kd.FK kNA W ok (x, ks) [.int .i64 x.f0, .int .i64 x.f1, .int .i64 x.f2, .string x.f3, .slice A4 x.f4.length c4, .slice A5 ks.length c5] :=
  fun W' hW => ⟨[.int .i64 x.f0, .int .i64 x.f1, .int .i64 x.f2, .string x.f3, .slice A4 x.f4.length c4], [.slice A5 ks.length c5], rfl, k31_mk W' x h1 (h2 W' hW), ⟨A5, c5, rfl, h3, h4 W' hW⟩⟩
theorem kNA_open {W : World} {p : S31 × List Int} {cs : List Value} (h : kNA.K W p cs) : ∃ A4 c4 A5 c5, cs = [.int .i64 p.1.f0, .int .i64 p.1.f1, .int .i64 p.1.f2, .string p.1.f3, .slice A4 p.1.f4.length c4, .slice A5 p.2.length c5] ∧ p.1.f4.length ≤ c4 ∧ k31.C W A4 p.1.f4.length p.1.f4 ∧ p.2.length ≤ c5 ∧ Kd.C (Kd.int .i64) W A5 p.2.length p.2 := by
  obtain ⟨a, b, rfl, ha, A5, c5, rfl, h5, hC⟩ := h
  obtain ⟨A4, c4, rfl, h4, hC4⟩ := k31_open ha
  exact ⟨A4, c4, A5, c5, rfl, h4, hC4, h5, hC⟩
theorem kNA_openF {W : World} {ok : Nat → Prop} {p : S31 × List Int} {cs : List Value} (h : Kd.FK kNA W ok p cs) : ∃ A4 c4 A5 c5, cs = [.int .i64 p.1.f0, .int .i64 p.1.f1, .int .i64 p.1.f2, .string p.1.f3, .slice A4 p.1.f4.length c4, .slice A5 p.2.length c5] ∧ p.1.f4.length ≤ c4 ∧ Kd.F k31 W ok A4 p.1.f4.length p.1.f4 ∧ p.2.length ≤ c5 ∧ Kd.F (Kd.int .i64) W ok A5 p.2.length p.2 := by
  obtain ⟨A4, c4, A5, c5, rfl, h4, _, h5, _⟩ := kNA_open (Kd.FK_now h)
  have key : ∀ W', (∀ k, ok k → k < W.heap.size → W'.heap[k]? = W.heap[k]?) → k31.C W' A4 p.1.f4.length p.1.f4 ∧ Kd.C (Kd.int .i64) W' A5 p.2.length p.2 := fun W' hW => by
    obtain ⟨B4, d4, B5, d5, he, _, hC4, _, hC5⟩ := kNA_open (h W' hW)
    injection he with _ he
    injection he with _ he
    injection he with _ he
    injection he with _ he
    injection he with he4 he
    injection he with he5 _
    injection he4 with he4 _ _
    injection he5 with he5 _ _
    subst he4 he5
    exact ⟨hC4, hC5⟩
  exact ⟨A4, c4, A5, c5, rfl, h4, fun W' hW => (key W' hW).1, h5, fun W' hW => (key W' hW).2⟩
theorem at_NA {w : World} {A : Option Addr} {n : Nat} {xs : List (S31 × List Int)} (h : Kd.C kNA w A n xs) (i : Nat) (h1 : i < n) (p : S31 × List Int) (hp : xs[i]? = some p) : ∃ ad A4 c4 A5 c5, A = some ad ∧ w.cell? (ad.add (i * 6)) = some (.int .i64 p.1.f0) ∧ w.cell? ⟨(ad.add (i * 6)).block, (ad.add (i * 6)).off + 1, none⟩ = some (.int .i64 p.1.f1) ∧ w.cell? ⟨(ad.add (i * 6)).block, (ad.add (i * 6)).off + 2, none⟩ = some (.int .i64 p.1.f2) ∧ w.cell? ⟨(ad.add (i * 6)).block, (ad.add (i * 6)).off + 3, none⟩ = some (.string p.1.f3) ∧ w.cell? ⟨(ad.add (i * 6)).block, (ad.add (i * 6)).off + 4, none⟩ = some (.slice A4 p.1.f4.length c4) ∧ w.cell? ⟨(ad.add (i * 6)).block, (ad.add (i * 6)).off + 5, none⟩ = some (.slice A5 p.2.length c5) ∧ p.1.f4.length ≤ c4 ∧ k31.C w A4 p.1.f4.length p.1.f4 ∧ p.2.length ≤ c5 ∧ Kd.C (Kd.int .i64) w A5 p.2.length p.2 := by
  obtain ⟨ad, c, e, _, hK, hc0⟩ := Kd.C_get h ((z31, []) : S31 × List Int) (i : Int) (by omega) (by omega)
  rw [Int.toNat_natCast, List.getD_eq_getElem?_getD, hp] at hK
  have hc : ∀ j u, c[j]? = some u → w.cell? (ad.add (i * 6 + j)) = some u := hc0
  obtain ⟨A4, c4, A5, c5, rfl, h4, hC4, h5, hC5⟩ := kNA_open hK
  exact ⟨ad, A4, c4, A5, c5, e, hc 0 _ rfl, by rw [← add_field _ _ 1 (by omega)]; exact hc 1 _ rfl, by rw [← add_field _ _ 2 (by omega)]; exact hc 2 _ rfl, by rw [← add_field _ _ 3 (by omega)]; exact hc 3 _ rfl, by rw [← add_field _ _ 4 (by omega)]; exact hc 4 _ rfl, by rw [← add_field _ _ 5 (by omega)]; exact hc 5 _ rfl, h4, hC4, h5, hC5⟩
theorem F_up {α : Type} {d : Kd α} {w W : World} {ok : Nat → Prop} {A : Option Addr} {n : Nat} {xs : List α} (h : Kd.F d w ok A n xs) (hb : Below w.heap.size w W) : Kd.F d W ok A n xs := fun W' hW' => h W' (fun k hk hlt => (hW' k hk (Nat.lt_of_lt_of_le hlt hb.size)).trans (hb.block k hlt))
theorem iBelow {w w1 w2 : World} {g : Nat} (hB : Below w.heap.size w w1) (h : w1.grownBy w2 (some g)) (hg : w.heap.size ≤ g) : Below w.heap.size w w2 :=
  ⟨h.os.trans hB.os, h.tape.trans hB.tape, h.output.trans hB.output, Nat.le_trans hB.size h.size, fun k hk => (h.block k (Nat.lt_of_lt_of_le hk hB.size) (fun he => by injection he with he; omega)).trans (hB.block k hk)⟩
theorem at_F31 {w : World} {ok : Nat → Prop} {A : Option Addr} {n : Nat} {xs : List S31} (h : Kd.F k31 w ok A n xs) (i : Nat) (h1 : i < n) (y : S31) (hy : xs[i]? = some y) : ∃ ad A4 c4, A = some ad ∧ w.cell? (ad.add (i * 5)) = some (.int .i64 y.f0) ∧ w.cell? ⟨(ad.add (i * 5)).block, (ad.add (i * 5)).off + 1, none⟩ = some (.int .i64 y.f1) ∧ w.cell? ⟨(ad.add (i * 5)).block, (ad.add (i * 5)).off + 2, none⟩ = some (.int .i64 y.f2) ∧ w.cell? ⟨(ad.add (i * 5)).block, (ad.add (i * 5)).off + 3, none⟩ = some (.string y.f3) ∧ w.cell? ⟨(ad.add (i * 5)).block, (ad.add (i * 5)).off + 4, none⟩ = some (.slice A4 y.f4.length c4) ∧ y.f4.length ≤ c4 ∧ Kd.F k31 w ok A4 y.f4.length y.f4 := by
  obtain ⟨ad, c, e, _, hK, hc0, _⟩ := Kd.F_get h z31 (i : Int) (by omega) (by omega)
  rw [Int.toNat_natCast, List.getD_eq_getElem?_getD, hy] at hK
  have hc : ∀ j u, c[j]? = some u → w.cell? (ad.add (i * 5 + j)) = some u := hc0
  obtain ⟨A4, c4, rfl, h4, hC4⟩ := k31_openF hK
  exact ⟨ad, A4, c4, e, hc 0 _ rfl, by rw [← add_field _ _ 1 (by omega)]; exact hc 1 _ rfl, by rw [← add_field _ _ 2 (by omega)]; exact hc 2 _ rfl, by rw [← add_field _ _ 3 (by omega)]; exact hc 3 _ rfl, by rw [← add_field _ _ 4 (by omega)]; exact hc 4 _ rfl, h4, hC4⟩
section
variable {P : Program} {ops : Array Oper} {rest : List Oper} {o : Oper} {a : Act} {Q : Exit → Act → World → Prop} {Kc : Act → World → Prop} {α : Type} {d : Kd α} {e : Nat} {w0 W : World} {P1 P2 : Nat → Prop}
theorem LM.append_in_step (d : Kd α) (hw : Region.wanted o (yielded ops a.tmps) = true) (s x : Operand) (t e : TypeId) (z : Value) (bytes : Nat)
    (ho : o.op = .call { callee := .builtin .append, args := #[s, x], argTypes := #[t, t] })
    (ht : P.underlying t = some (.slice e)) (hinfo : (P.info? e).map (fun i => (i.zero, i.size, i.bytes)) = some (some z, d.sz, bytes)) (hz : z.cells.size = d.sz) (hs0 : 0 < d.sz) (hb0 : 0 < bytes)
    (v : Value) (xs : List α) (p : α) (cs : List Value) (hs : a.eval s = v) (hx : a.eval x = .slice (some ⟨W.heap.size, 0, none⟩) 1 1) (_h1 : True)
    (HO : LM d e W w0.heap.size P1 v xs) (HP : Kd.FK d W P2 p cs) (hD : ∀ k, P2 k → P1 k ∧ k < w0.heap.size)
    (HB : Below w0.heap.size w0 W) (hl : (xs.length + 1) * bytes ≤ 140737488355328)
    (h : ∀ R v1 w1, LM d e w1 w0.heap.size R v1 (xs ++ [p]) → Below w0.heap.size w0 w1 → Kept W w1 P1 → (∀ k, R k ↔ (P1 k ∨ W.heap.size ≤ k) ∧ k < w1.heap.size) → Kc (a.put o.dst v1) w1) :
    if Region.wanted o (yielded ops a.tmps) = true then Oper.wp P o a (W.alloc (.cells cs.toArray e)) Kc Q else Kc (a.put o.dst undef) (W.alloc (.cells cs.toArray e)) := by
  have hv : ∀ k, v.ownBlock = some k → P1 k := HO.1.1
  refine Kd.N_append_step d w0.heap.size hw s x t e z bytes ho ht hinfo hz hs0 hb0 v xs p cs (fun k => P1 k ∨ W.heap.size ≤ k) P2 hs hx HP (fun k hk => ⟨.inl (hD k hk).1, fun he => by have := Kd.N_base HO.1 k he.symm; have := (hD k hk).2; omega⟩) (fun k hk => .inr hk) (Kd.N_mono HO.1 (fun k hk => .inl hk)) HB HB.size hl ?_
  intro v1 w1 hr hb hg hat
  exact h (fun k => (P1 k ∨ W.heap.size ≤ k) ∧ k < w1.heap.size) v1 w1 ⟨Kd.N_bound hr, fun k hk => hk.2⟩ hb (kept_app hg hv) (fun k => Iff.rfl)
theorem LM.kids {g n c : Nat} {xs : List (S31 × List Int)} (h : LM kNA 76 W w0.heap.size P1 (.slice (some ⟨g, 0, none⟩) n c) xs) (i : Nat) (hi : i < n) (x : S31) (ks : List Int) (hx : ∃ k0, xs[i]? = some (x, k0)) {A5 : Option Addr} {c5 : Nat} {P2 : Nat → Prop} (h5 : LR (Kd.int .i64) 3 W w0.heap.size P2 (.slice A5 ks.length c5) ks) (hD : ∀ k, P2 k → ¬ P1 k) :
    LM kNA 76 (W.setCells g (i * 6 + 5) [.slice A5 ks.length c5]) w0.heap.size (fun k => (P1 k ∨ P2 k) ∧ k < W.heap.size) (.slice (some ⟨g, 0, none⟩) n c) (xs.set i (x, ks)) ∧ W.grownBy (W.setCells g (i * 6 + 5) [.slice A5 ks.length c5]) (some g) ∧ P1 g := by
  obtain ⟨k0, hx⟩ := hx
  have hP : P1 g := h.1.1 g (by simp [Value.ownBlock])
  obtain ⟨cs, hcl, hFK, hcc, hfr⟩ := Kd.N_elem h.1 ((z31, []) : S31 × List Int) (i : Int) (by omega) (by omega)
  rw [Int.toNat_natCast] at hcc
  rw [Int.toNat_natCast, List.getD_eq_getElem?_getD, hx] at hFK
  obtain ⟨A4, c4, A6, c6, rfl, h4, hF4, _, _⟩ := kNA_openF hFK
  have hnew : Kd.FK kNA W (fun k => (P1 k ∧ k ≠ g) ∨ P2 k) (x, ks) [.int .i64 x.f0, .int .i64 x.f1, .int .i64 x.f2, .string x.f3, .slice A4 x.f4.length c4, .slice A5 ks.length c5] :=
    kNA_mkF x ks h4 (Kd.F_mono hF4 (fun k hk => .inl hk)) h5.room (Kd.F_mono (Kd.R_F h5.1) (fun k hk => .inr hk))
  have hs := Kd.N_seg (ok := fun k => P1 k ∨ P2 k) (Kd.N_mono h.1 (fun k hk => .inl hk)) (i : Int) (by omega) (by omega) (c := [.int .i64 x.f0, .int .i64 x.f1, .int .i64 x.f2, .string x.f3, .slice A4 x.f4.length c4, .slice A6 k0.length c6]) (seg := [.slice A5 ks.length c5]) (j := 5) rfl (by rw [Int.toNat_natCast]; exact hcc) (show 5 + 1 ≤ 6 from by decide) (x' := (x, ks)) (okp := fun k => (P1 k ∧ k ≠ g) ∨ P2 k) hnew (fun k hk => by
    rcases hk with hk | hk
    · exact ⟨.inl hk.1, hk.2⟩
    · exact ⟨.inr hk, fun e => hD k hk (e ▸ hP)⟩)
  rw [Int.toNat_natCast] at hs
  have hsz : (W.setCells g (i * 6 + 5) [.slice A5 ks.length c5]).heap.size = W.heap.size := (setCells_same g [Value.slice A5 ks.length c5] (i * 6 + 5) W).2.2.2
  refine ⟨⟨Kd.N_mono (Kd.N_bound hs.1) (fun k hk => ⟨hk.1, by rw [← hsz]; exact hk.2⟩), fun k hk => by rw [hsz]; exact hk.2⟩, hs.2, hP⟩
end
end
end Go.Proofs.Ytlpabbcgichaoaa.PFnExactFind
end
section
namespace Go.Proofs.Ytlpabbcgichaoaa.PFnExactFind
open Go.RowKit Go.Proofs.Ytlpabbcgichaoaa.Lawful Go.Proofs.YtlpabbcgichaoaaW.PrintWords Go.Proofs.YtlpabbcgichaoaaW.PrintLast Go.Proofs.YtlpabbcgichaoaaW.PrintMore
attribute [local go_sem] max2_int min2_int max_two min_two max_three min_three max_four min_four
set_option maxHeartbeats 16000000
set_option maxRecDepth 100000
set_option linter.unusedVariables false
set_option linter.unusedSimpArgs false
theorem dl {a b : Nat} (h : a < b) : decide ((a : Int) < (b : Int)) = true := decide_eq_true (Int.ofNat_lt.2 h)
section
open Go.Proofs.Ytlpabbcgichaoaa.Lawful
@[reducible] def imB (w ws : World) (PG PN : Nat → Prop) (g : Nat) (B : Option Addr) (D : Nat) (T : ByteArray) (VE VR VG : Value) (ns : List (S31 × List Int)) : Prop :=
 Below w.heap.size w ws ∧ LB ws PG g 74 #[.string T, .slice B ns.length D, VE, VR, VG] ∧ LM kNA 76 ws w.heap.size PN (.slice B ns.length D) ns ∧ (∀ k, PG k → ¬ PN k) ∧ w.heap.size ≤ g ∧ ∀ k, k < w.heap.size → PN k
@[reducible] def imBP (w ws : World) (PG PN : Nat → Prop) (g : Nat) (T : ByteArray) (VE VR VG : Value) (ns : List (S31 × List Int)) (v : Value) (e : Ending) (w' : World) : Prop :=
 ∃ (B : Option Addr) (D : Nat) (PN' : Nat → Prop), e = .returned v ∧ imB w w' PG PN' g B D T VE VR VG ns ∧ (∀ k, PN' k → (PG k ∨ PN k) ∨ ws.heap.size ≤ k) ∧ Kept ws w' (fun k_ => PG k_ ∨ PN k_)
def impl_add.T2 : Bool × List (List Nat × List Nat) := (true, [([], []), ([], []), ([1], [1]), ([2], [2]), ([3], [3]), ([], []), ([5], [5]), ([6], [6]), ([4, 7], [4, 7]), ([0, 0, 1, 2, 3, 4, 5, 6, 7, 8], [0]), ([9, 0, 1, 2, 3, 4, 5, 6, 7, 8], [9]), ([10, 8, 8, 0, 1, 2, 3, 4, 5, 6, 7, 8], [8, 10])])
def impl_add.B2 : List Nat := [0, 0, 2, 6, 14, 0, 32, 96, 254, 511, 1023, 2047]
theorem impl_add.tab2 : rtab .any (opsOf Try.f44 2) = impl_add.T2 := by kernel_rfl
theorem impl_add.bits2 : waitsOk impl_add.T2.2 impl_add.B2 = true := by kernel_rfl
theorem impl_add (w : World) (PG PA : Nat → Prop) (gG : Nat) (T : ByteArray) (VE VR VG : Value) (hPA : ∀ k, PA k → k < w.heap.size) : ∀ (N : Nat) (x : S31), SizeOf.sizeOf x ≤ N → ∀ (ws : World) (PN : Nat → Prop) (BN : Option Addr) (DN : Nat) (ns : List (S31 × List Int)) (A4 : Option Addr) (c4 : Nat), Kd.F k31 w PA A4 x.f4.length x.f4 → x.f4.length ≤ c4 → ns.length + cnt x < 1099511627776 → imB w ws PG PN gG BN DN T VE VR VG ns →
  Calls Try.prog 44 #[.pointer (some ⟨gG, 0, none⟩), .agg #[.int .i64 x.f0, .int .i64 x.f1, .int .i64 x.f2, .string x.f3, .slice A4 x.f4.length c4]] ws (imBP w ws PG PN gG T VE VR VG (ad x ns) (.int .i64 (ns.length : Int))) := by
 intro N
 induction N with
 | zero => intro x hx; cases x; simp at hx
 | succ N ih =>
 rintro ⟨f0, f1, f2, f3, l⟩ hx ws PN BN DN ns A4 c4 hr hc hl hAt
 dsimp only at hr hc hl ⊢
 have HLS := am (show SizeOf.sizeOf l ≤ N by simp at hx; omega)
 rw [cnt] at hl
 have IH := am ih
 have HPA := am hPA
 have HV := am hr
 have HC4 := am hc
 have HLN := am hl
 have HCL := am (cntL_ge l)
 clear ih hx hPA hr hc hl
 have hu := Try.underlying74
 have hu2 := Try.underlying76
 have hu3 := Try.underlying31
 obtain ⟨hb_, hg_, hn_, hd_, hge_, hold_⟩ := hAt
 have HB := am hb_
 have HG := am hg_
 have HN := am hn_
 have D_G_N := am hd_
 have GEG := am hge_
 have OLDN := am hold_
 have HK := am (Kept.refl ws (fun k_ => PG k_ ∨ PN k_))
 have RRG := am (show ∀ k_, PG k_ → (fun k_ => PG k_ ∨ PN k_) k_ ∨ ws.heap.size ≤ k_ from fun _ h_ => .inl (.inl h_))
 have RRN := am (show ∀ k_, PN k_ → (fun k_ => PG k_ ∨ PN k_) k_ ∨ ws.heap.size ≤ k_ from fun _ h_ => .inl (.inr h_))
 clear hb_ hg_ hn_ hd_ hge_ hold_
 obtain ⟨n0, hn0⟩ : ∃ q : List (S31 × List Int), q = ns ++ [((⟨f0, f1, f2, f3, l⟩ : S31), [])] := ⟨_, rfl⟩
 have Nn0 := am hn0
 have hl0 : n0.length = ns.length + 1 := by rw [hn0]; simp
 have HL0 := am hl0
 obtain ⟨⟨nf, kf⟩, hqf⟩ : ∃ q : List (S31 × List Int) × List Int, adL l n0 = q := ⟨_, rfl⟩
 have hnf : nf.length = n0.length + cntL l := by have := (ad_len _).2 l (Nat.le_refl _) n0; rw [hqf] at this; exact this
 have HNF := am hnf
 obtain ⟨yf, hyf⟩ : ∃ q : List (S31 × List Int), nf.set ns.length ((⟨f0, f1, f2, f3, l⟩ : S31), kf) = q := ⟨_, rfl⟩
 have em : ad (⟨f0, f1, f2, f3, l⟩ : S31) ns = yf := by rw [ad]; dsimp only; rw [← hn0, hqf]; exact hyf
 rw [em]
 have HYF := am hyf
 have HQF := am hqf
 have hat0 : nf[ns.length]? = some ((⟨f0, f1, f2, f3, l⟩ : S31), []) := by have := ((ad_good _).2 l (Nat.le_refl _) n0).2.1 ns.length (by omega); rw [hqf] at this; rw [this, hn0]; simp
 have HAT := am hat0
 obtain ⟨ks0, hks⟩ : ∃ q : List Int, q = [] := ⟨_, rfl⟩
 have Nks0 := am hks
 have hwl : wrap64 ((n0.length : Int) - 1) = (ns.length : Int) := by have := HLN.out; unfold wrap64; omega
 clear hn0 hl0 hqf hnf hyf em hat0 hks hwl
 replace jG := HG.out.c5
 go_enter Try.func44, Try.ntmps44
 go_upto_region 2 with (first | ((with_reducible refine gd 3 rfl ?_); refine bx_ (N := 3) (cs := #[.int .i64 f0, .int .i64 f1, .int .i64 f2, .string f3, .slice A4 l.length c4]) (t := 31) rfl rfl ?hr_1 ?_; (case hr_1 => first | (go_simp; done) | (go_simp; rfl)); intro gX1 hg w2 hb hk PX1 hPX1 HX1; have GEX1 := ge_ hg HB; have D_N_X1 := nl hPX1 HN.out.lt; have D_G_X1 := na hPX1 HG; have RRX1 := ra HK hPX1; replace HN := am (HN.out.step hk no_S); replace HG := sn hk HG; replace HK := kt HK hk; replace HB := bs HB hb; clear hb hk hg hPX1; replace jG := HG.out.c5; replace jX1 := HX1.out.c5))
 refine sr (n := 12) (S := fun w' => w'.cell? ⟨gG, 1, none⟩ = some (.slice BN ns.length DN) ∧ w'.cell? ⟨gX1, 0, none⟩ = some (.int .i64 f0) ∧ w'.cell? ⟨gX1, 1, none⟩ = some (.int .i64 f1) ∧ w'.cell? ⟨gX1, 2, none⟩ = some (.int .i64 f2) ∧ w'.cell? ⟨gX1, 3, none⟩ = some (.string f3) ∧ w'.cell? ⟨gX1, 4, none⟩ = some (.slice A4 l.length c4)) (ds := [11]) ⟨jG.2.2.1, jX1.1, jX1.2.2.1, jX1.2.2.2.2.1, jX1.2.2.2.2.2.2.1, jX1.2.2.2.2.2.2.2.2.1⟩ (fun hHeld => ?_)
 refine with_tabW impl_add.tab2 impl_add.bits2 (fun HT_ HW_ => ?_)
 generalize hwd_ : World.drew w2 = wd_ at hHeld ⊢
 have hk := kept_drew hwd_
 replace HN := am (HN.out.step hk no_S)
 replace HG := sn hk HG
 replace HX1 := sn hk HX1
 replace HK := kt HK hk
 replace HB := bd HB hwd_
 clear hk hwd_
 replace jG := HG.out.c5
 replace jX1 := HX1.out.c5
 refine pu 0 14 HT_.out rfl rfl rfl ?_
 refine pu 1 15 HT_.out rfl rfl rfl ?_
 refine pu 2 16 HT_.out rfl rfl rfl ?_
 refine pu 3 17 HT_.out rfl rfl rfl ?_
 refine tk 4 18 HT_.out HW_.out hHeld rfl rfl rfl ?_
 refine tk 5 19 HT_.out HW_.out hHeld rfl rfl rfl ?_
 refine pu 6 20 HT_.out rfl rfl rfl ?_
 refine on_ 7 (some 21) HT_.out rfl rfl fun K hK => ?_
 refine event_step (by rfl) (by first | (go_simp; exact ⟨rfl, rfl⟩) | (go_simp; done) | (go_simp; rfl)) ?_
 refine hK.out _ _ ⟨(pw_cell_below (below_alloc (Below.refl _ _) _) jG.2.2.1), (pw_cell_below (below_alloc (Below.refl _ _) _) jX1.1), (pw_cell_below (below_alloc (Below.refl _ _) _) jX1.2.2.1), (pw_cell_below (below_alloc (Below.refl _ _) _) jX1.2.2.2.2.1), (pw_cell_below (below_alloc (Below.refl _ _) _) jX1.2.2.2.2.2.2.1), (pw_cell_below (below_alloc (Below.refl _ _) _) jX1.2.2.2.2.2.2.2.2.1)⟩ (fun hHeld => ?_)
 clear hK K
 refine nm ?_
 refine on_ 8 (some 22) HT_.out rfl rfl fun K hK => ?_
 refine LM.append_in_step kNA (w0 := w) (by rfl) (.tmp 18) (.tmp 21) 72 76 (.agg #[.int .i64 0, .int .i64 0, .int .i64 0, .string ⟨#[]⟩, .slice none 0 0, .slice none 0 0]) 88 rfl Try.underlying72 infoNA rfl (by decide) (by omega) (.slice BN ns.length DN) ns ((⟨f0, f1, f2, f3, l⟩ : S31), []) [.int .i64 f0, .int .i64 f1, .int .i64 f2, .string f3, .slice A4 l.length c4, .slice none 0 0] rfl rfl (by simp) HN.out (kNA_mkF (⟨f0, f1, f2, f3, l⟩ : S31) [] HC4.out (F_up HV.out HB.out) (Nat.le_refl _) (Kd.F_nil _ _ _)) (fun k_ h_ => ⟨OLDN.out k_ (HPA.out k_ h_), HPA.out k_ h_⟩) HB.out ?aL_2 ?_
 (case aL_2 => have := HLN.out; omega)
 intro PN2 v_ w2 HL hb hk hR0
 have OLDN2 := am (show ∀ k, k < w.heap.size → PN2 k from fun k h_ => (hR0 k).2 ⟨.inl (OLDN.out k h_), Nat.lt_of_lt_of_le h_ hb.size⟩)
 have hR := fun k h_ => ((hR0 k).1 h_).1
 clear hR0 OLDN
 have D_G_N2 := ax hR HG.out.lt D_G_N
 have D_X1_N2 := ay hR HX1.out.lt D_N_X1
 have RRN2 := am (show ∀ k_, PN2 k_ → (fun k_ => PG k_ ∨ PN k_) k_ ∨ ws.heap.size ≤ k_ from rr_app hR HK.out.1 RRN.out)
 replace HG := ss hk HG D_G_N.out
 replace HX1 := ss hk HX1 (apart_symm D_N_X1.out)
 replace HK := kr HK hk RRN
 rw [← Nn0.out] at HL
 have HN2 := am HL
 replace HB := am hb
 clear hR HL hb hk HN
 obtain ⟨BN2, DN2, e_N2⟩ := HN2.out.val
 subst e_N2
 replace jG := HG.out.c5
 replace jX1 := HX1.out.c5
 refine hK.out _ _ ⟨jG.2.2.1, jX1.1, jX1.2.2.1, jX1.2.2.2.2.1, jX1.2.2.2.2.2.2.1, jX1.2.2.2.2.2.2.2.2.1⟩ (fun hHeld => ?_)
 clear hK K
 refine nm ?_
 refine pu 9 23 HT_.out rfl rfl rfl ?_
 refine pu 10 24 HT_.out rfl rfl rfl ?_
 refine la_ 11 none HT_.out rfl rfl fun K hK => ?_
 refine LB.stored_step HG.out HB.out GEG.out 1 [.slice BN2 n0.length DN2] (by rfl) rfl ?hr_3 ?_
 (case hr_3 => first | (go_simp; done) | (go_simp; simp only [World.setCells, Nat.reduceAdd, Nat.zero_add]; done))
 intro w2 hx hk hb
 replace HX1 := ss hk HX1 (apart_symm D_G_X1.out)
 replace HN2 := am (HN2.out.step hk (apart_symm D_G_N2.out))
 replace HK := kr HK hk RRG
 replace HB := am hb
 replace HG := am (show LB w2 PG gG 74 #[.string T, .slice BN2 n0.length DN2, VE, VR, VG] from hx)
 clear hk hx hb
 replace jG := HG.out.c5
 replace jX1 := HX1.out.c5
 refine hK.out _ _ ?_
 clear hK K
 refine dn HT_ ?_
 go_wp2_with (first | ((with_reducible refine gd 25 rfl ?_); refine Kd.R_lit (Kd.int .i64) _ 3 ?hg_4 (N := 25) ?hd_4 (xs := []) (inner := []) (ok := fun _ => True) (okp := fun _ => True) ?hr_4 ?hp_4 (fun _ hk => hk) trivial (Below.refl _ _) (Nat.le_refl _) (by simp) ?_; (case hd_4 => rfl); (case hg_4 => rfl); (case hr_4 => first | (go_simp; done) | (go_simp; rfl)); (case hp_4 => exact (Reps.none _ _)); intro vF3 w2 hrF3 hb hg_ hnew_; clear hg_ hnew_; rw [← Nks0.out] at hrF3; have hk := kept_below hb; obtain ⟨PF3, hPF3, HLF3⟩ := LR.fresh rfl HB.out hrF3; have HF3 := am HLF3; clear HLF3 hrF3; have D_G_F3 := na hPF3 HG; have D_X1_F3 := na hPF3 HX1; have D_N2_F3 := nl hPF3 HN2.out.lt; have RRF3 := ra HK hPF3; replace HG := sn hk HG; replace HX1 := sn hk HX1; replace HN2 := am (HN2.out.step hk no_S); replace HK := kt HK hk; clear hPF3; obtain ⟨BF3, DF3, e_F3⟩ := HF3.out.val; subst e_F3; replace HB := bs HB hb; clear hb hk; replace jG := HG.out.c5; replace jX1 := HX1.out.c5))
 go_loopg [6, 29] (l.length + 1) (fun kq v6 v29 w' => ∃ (i : Nat) (m1 : List (S31 × List Int)) (k1 : List Int) (B1 : Option Addr) (D1 : Nat) (P1 : Nat → Prop) (B2 : Option Addr) (D2 : Nat) (P2 : Nat → Prop), v6 = .slice B2 k1.length D2 ∧ v29 = .int .i64 (i : Int) ∧ Aside0 (i + kq = l.length + 1 ∧ 0 < kq) ∧ Aside0 (k1.length = i) ∧ Aside0 (kf = k1 ++ (adL (l.drop i) m1).2 ∧ nf = (adL (l.drop i) m1).1 ∧ m1.length ≤ nf.length) ∧ Aside0 (Below w.heap.size w w') ∧ Aside0 (LB w' PG gG 74 #[.string T, .slice B1 m1.length D1, VE, VR, VG]) ∧ Aside0 (LM kNA 76 w' w.heap.size P1 (.slice B1 m1.length D1) m1) ∧ Aside0 (∀ k, PG k → ¬ P1 k) ∧ Aside0 (∀ k_, P1 k_ → (PG k_ ∨ PN k_) ∨ ws.heap.size ≤ k_) ∧ Aside0 (∀ k, k < w.heap.size → P1 k) ∧ Aside0 (Kept ws w' (fun k_ => PG k_ ∨ PN k_)) ∧ Aside0 (LB w' PX1 gX1 31 #[.int .i64 f0, .int .i64 f1, .int .i64 f2, .string f3, .slice A4 l.length c4]) ∧ Aside0 (∀ k, PX1 k → ¬ P1 k) ∧ Aside0 (LR (Kd.int .i64) 3 w' w.heap.size P2 (.slice B2 k1.length D2) k1) ∧ Aside0 (∀ k, PG k → ¬ P2 k) ∧ Aside0 (∀ k, P2 k → ¬ P1 k) ∧ Aside0 (∀ k, PX1 k → ¬ P2 k) ∧ Aside0 (∀ k_, P2 k_ → (PG k_ ∨ PN k_) ∨ ws.heap.size ≤ k_))
 case atStart => exact ⟨0, n0, ks0, _, _, _, _, _, _, rfl, rfl, ⟨by omega, by omega⟩, ⟨by rw [Nks0.out]; rfl⟩, ⟨by rw [List.drop_zero, HQF.out, Nks0.out]; rfl, by rw [List.drop_zero, HQF.out], by have := HNF.out; omega⟩, HB, HG, HN2, D_G_N2, RRN2, OLDN2, HK, HX1, ⟨D_X1_N2.out⟩, HF3, ⟨D_G_F3.out⟩, ⟨(apart_symm D_N2_F3.out)⟩, ⟨D_X1_F3.out⟩, RRF3⟩
 case round =>
  clear HB HG HN2 D_G_N2 RRN2 OLDN2 HK HX1 HF3 RRF3
  try clear jG
  try clear jX1
  obtain ⟨i, m1, k1, BM, DM, PM, BQ, DQ, PQ, rfl, rfl, HI, HKL, HS, HB, HG, HM, D_G_M, RRM, OLDM, HK, HX1, D_X1_M, HQ, D_G_Q, D_Q_M, D_X1_Q, RRQ⟩ := hrel
  replace jG := HG.out.c5
  replace jX1 := HX1.out.c5
  by_cases hlt : i < l.length
  ·
   obtain ⟨g1, rfl⟩ : ∃ k_, gk = k_ + 1 := ⟨gk - 1, by have := HI.out; omega⟩
   obtain ⟨y, hy⟩ : ∃ y_, y_ = l.getD i z31 := ⟨_, rfl⟩
   have hyi : l[i]? = some y := by rw [hy, List.getD_eq_getElem?_getD, List.getElem?_eq_getElem hlt]; rfl
   have hys : SizeOf.sizeOf y ≤ N := by have := size_at l i hlt; rw [hy]; exact Nat.le_trans (Nat.le_of_lt this) HLS.out
   have hst := adL_step l i hlt m1
   rw [show (⟨0, 0, 0, ⟨#[]⟩, []⟩ : S31) = z31 from rfl, ← hy] at hst
   obtain ⟨m2, hm2⟩ : ∃ q : List (S31 × List Int), ad y m1 = q := ⟨_, rfl⟩
   rw [hm2] at hst
   obtain ⟨k2, hk2⟩ : ∃ q : List Int, q = k1 ++ [(m1.length : Int)] := ⟨_, rfl⟩
   have hs2 := HS.out
   rw [hst] at hs2
   dsimp only at hs2
   have HS2 := am (show kf = k2 ++ (adL (l.drop (i + 1)) m2).2 ∧ nf = (adL (l.drop (i + 1)) m2).1 ∧ m2.length ≤ nf.length from ⟨by rw [hk2, hs2.1]; simp, hs2.2.1, by rw [hs2.2.1]; exact ((ad_good _).2 _ (Nat.le_refl _) m2).1⟩)
   have hb1 : m1.length + cnt y < 1099511627776 := by have h1 := (ad_len _).1 y (Nat.le_refl _) m1; rw [hm2] at h1; have h2 := HS2.out.2.2; have h3 := HNF.out; have h4 := HL0.out; have h5 := HLN.out; omega
   obtain ⟨ad0, A5, c5, ea, ha0, ha1, ha2, ha3, ha4, hl5, hC5⟩ := at_F31 HV.out i hlt y hyi
   cases ea
   have IY := (fun (ws' : World) (PN' : Nat → Prop) (BN' : Option Addr) (DN' : Nat) h => IH.out y hys ws' PN' BN' DN' m1 A5 c5 hC5 hl5 hb1 h)
   rw [hm2] at IY
   replace IY := am IY
   have Nk2 := am hk2
   have HKL2 := am (show k2.length = i + 1 by rw [hk2]; simp; exact HKL.out)
   replace ha0 := (HB.out.cell (World.block_lt_of_cell? w _ ha0)).trans ha0
   replace ha1 := (HB.out.cell (World.block_lt_of_cell? w _ ha1)).trans ha1
   replace ha2 := (HB.out.cell (World.block_lt_of_cell? w _ ha2)).trans ha2
   replace ha3 := (HB.out.cell (World.block_lt_of_cell? w _ ha3)).trans ha3
   replace ha4 := (HB.out.cell (World.block_lt_of_cell? w _ ha4)).trans ha4
   have hw1 : wrap64 ((i : Int) + 1) = ((i + 1 : Nat) : Int) := by have h1 := HCL.out; have h2 := HLN.out; unfold wrap64; omega
   have p3 := zn i
   have p4 := il hlt
   have p4d := dl hlt
   have p4n := decide_eq_true hlt
   have HILT := am hlt
   clear hlt hy hyi hys hst hm2 hk2 hs2 hb1 hl5 hC5
   go_wp2_with (first | ((with_reducible refine gd 8 rfl ?_); refine bx_ (N := 8) (cs := #[.int .i64 0, .int .i64 0, .int .i64 0, .string ByteArray.empty, .slice none 0 0]) (t := 31) rfl rfl ?hr_5 ?_; (case hr_5 => first | (go_simp; done) | (go_simp; rfl)); intro gX4 hg w2 hb hk PX4 hPX4 HX4; have GEX4 := ge_ hg HB; have D_G_X4 := na hPX4 HG; have D_X1_X4 := na hPX4 HX1; have D_M_X4 := nl hPX4 HM.out.lt; have D_Q_X4 := nl hPX4 HQ.out.lt; have RRX4 := ra HK hPX4; replace HG := sn hk HG; replace HX1 := sn hk HX1; replace HM := am (HM.out.step hk no_S); replace HQ := am (HQ.out.step hk no_S); replace HK := kt HK hk; replace HB := bs HB hb; clear hb hk hg hPX4; replace jG := HG.out.c5; replace jX1 := HX1.out.c5; replace jX4 := HX4.out.c5) | ((with_reducible refine gate_store (t := 31) (p := 8) rfl ?_); refine LB.storedW HX4.out HB.out GEX4.out [.int .i64 y.f0, .int .i64 y.f1, .int .i64 y.f2, .string y.f3, .slice A5 y.f4.length c5] rfl rfl (t := 31) (p := 8) rfl rfl ?hr_6 ?_; (case hr_6 => first | (go_simp; done) | (go_simp; simp only [World.setCells, Nat.reduceAdd, Nat.zero_add]; done)); intro w2 hx hk hb; replace HG := ss hk HG D_G_X4.out; replace HX1 := ss hk HX1 D_X1_X4.out; replace HM := am (HM.out.step hk D_M_X4.out); replace HQ := am (HQ.out.step hk D_Q_X4.out); replace HK := kr HK hk RRX4; replace HB := am hb; replace HX4 := am (show LB w2 PX4 gX4 31 #[.int .i64 y.f0, .int .i64 y.f1, .int .i64 y.f2, .string y.f3, .slice A5 y.f4.length c5] from hx); clear hk hx hb; replace jG := HG.out.c5; replace jX1 := HX1.out.c5; replace jX4 := HX4.out.c5) | ((with_reducible refine gc 44 rfl ?_); refine gl_ (some 36) rfl rfl Try.func44 #[.pointer (some ⟨gG, 0, none⟩), .agg #[.int .i64 y.f0, .int .i64 y.f1, .int .i64 y.f2, .string y.f3, .slice A5 y.f4.length c5]] rfl rfl ?_; (with_reducible refine (IY.out _ _ _ _ ⟨HB.out, HG.out, HM.out, D_G_M.out, GEG.out, OLDM.out⟩).mono ?_); rintro e w2 ⟨BN5, DN5, PN5, rfl, ⟨hb_, hg_, hn_, hd_, hge_, hold_⟩, hrr_, hkk_⟩; refine ⟨_, rfl, ?_⟩; have D_X1_N5 := am (apart_app hrr_ HX1.out.lt (apart_or (apart_symm D_G_X1.out) D_X1_M.out)); have D_Q_N5 := am (apart_app hrr_ HQ.out.lt (apart_or (apart_symm D_G_Q.out) D_Q_M.out)); have D_X4_N5 := am (apart_app hrr_ HX4.out.lt (apart_or (apart_symm D_G_X4.out) (apart_symm D_M_X4.out))); replace HX1 := ss hkk_ HX1 (apart_or (apart_symm D_G_X1.out) D_X1_M.out); replace HQ := am (HQ.out.step hkk_ (apart_or (apart_symm D_G_Q.out) D_Q_M.out)); replace HX4 := ss hkk_ HX4 (apart_or (apart_symm D_G_X4.out) (apart_symm D_M_X4.out)); have RRN5 := am (rr_app hrr_ HK.out.1 (rr_or RRG.out RRM.out)); replace HK := am (HK.out.then_ hkk_ (rr_or RRG.out RRM.out)); replace HB := am hb_; replace HG := am hg_; have HN5 := am hn_; have D_G_N5 := am hd_; have OLDN5 := am hold_; clear hb_ hg_ hn_ hd_ hge_ hold_ hrr_ hkk_ HM OLDM; replace jG := HG.out.c5; replace jX1 := HX1.out.c5; replace jX4 := HX4.out.c5) | ((with_reducible refine gate_builtin (b := .append) (xs := #[.tmp 33, .tmp 37]) rfl ?_); at_builtin; refine LR.append1 (Kd.int .i64) (w0 := w) rfl (.tmp 33) (.tmp 37) 26 3 (.int .i64 0) 8 rfl Try.underlying26 info3 rfl (by decide) (by omega) (.slice BQ k1.length DQ) k1 (m1.length : Int) [.int .i64 (m1.length : Int)] rfl rfl (by simp) HQ.out rfl (fun _ _ h_ => h_) HB.out ?aL_7 ?_; (case aL_7 => have h1 := HKL.out; have h2 := HI.out; have h3 := HCL.out; have h4 := HLN.out; omega); intro PF6 v_ w2 HL hb hk hR; have D_X1_F6 := ax hR HX1.out.lt D_X1_Q; have D_X4_F6 := ay hR HX4.out.lt D_Q_X4; have D_G_F6 := ax hR HG.out.lt D_G_Q; have D_N5_F6 := ay hR HN5.out.lt D_Q_N5; have RRF6 := am (show ∀ k_, PF6 k_ → (fun k_ => PG k_ ∨ PN k_) k_ ∨ ws.heap.size ≤ k_ from rr_app hR HK.out.1 RRQ.out); replace HX1 := ss hk HX1 D_X1_Q.out; replace HX4 := ss hk HX4 (apart_symm D_Q_X4.out); replace HG := ss hk HG D_G_Q.out; replace HN5 := am (HN5.out.step hk (apart_symm D_Q_N5.out)); replace HK := kr HK hk RRQ; rw [← Nk2.out] at HL; have HF6 := am HL; replace HB := am hb; clear hR HL hb hk; clear HQ; obtain ⟨BF6, DF6, e_F6⟩ := HF6.out.val; subst e_F6; replace jG := HG.out.c5; replace jX1 := HX1.out.c5; replace jX4 := HX4.out.c5))
   go_roundg g1
   case measure => omega
   case rel => exact ⟨i + 1, m2, k2, _, _, _, _, _, _, rfl, by first | rfl | exact congrArg (Value.int .i64) hw1, ⟨by have := HI.out; omega, by have h1 := HI.out; have h2 := HILT.out; omega⟩, HKL2, HS2, HB, HG, HN5, D_G_N5, RRN5, OLDN5, HK, HX1, ⟨D_X1_N5.out⟩, HF6, ⟨D_G_F6.out⟩, ⟨(apart_symm D_N5_F6.out)⟩, ⟨D_X1_F6.out⟩, RRF6⟩
  have hi : i = l.length := by have := HI.out; omega
  have hs2 := HS.out
  rw [hi, List.drop_length, adL] at hs2
  dsimp only at hs2
  rw [List.append_nil] at hs2
  obtain ⟨e1_, e2_, _⟩ := hs2
  subst e1_ e2_
  have p4d : decide ((i : Int) < (l.length : Int)) = false := decide_eq_false (by omega)
  have p4n : decide (i < l.length) = false := decide_eq_false hlt
  obtain ⟨gN, cN, he, hge, hltN, _⟩ := Kd.N_form HM.out.1 (by have := HNF.out; have := HL0.out; omega)
  injection he with ea _ ec
  subst ea ec
  have hin : ns.length < nf.length := by have h1 := HNF.out; have h2 := HL0.out; omega
  obtain ⟨cs, hcl, _, hcc, hfr⟩ := Kd.N_elem HM.out.1 ((z31, []) : S31 × List Int) (ns.length : Int) (by omega) (by omega)
  rw [Int.toNat_natCast] at hcc hfr
  obtain ⟨u5, hu5⟩ : ∃ u_, cs[5]? = some u_ := ⟨_, List.getElem?_eq_getElem (by rw [hcl]; decide)⟩
  have hc5 := (show wr.cell? ⟨gN, ns.length * 6 + 5, none⟩ = some u5 from hcc 5 _ hu5)
  have hf5 := (show wr.frozen? ⟨gN, ns.length * 6 + 5, none⟩ = false from hfr 5)
  clear hcc hfr hu5 hcl
  obtain ⟨hs_, hg_, hp_⟩ := LM.kids HM.out ns.length hin (⟨f0, f1, f2, f3, l⟩ : S31) kf ⟨_, HAT.out⟩ HQ.out D_Q_M.out
  rw [HYF.out] at hs_
  have HS_ := am hs_
  have HG_ := am hg_
  have HP_ := am hp_
  have p5 := eq_true (show (0 : Int) ≤ (ns.length : Int) from Int.natCast_nonneg _)
  have p6 := eq_true (show (ns.length : Int) < (nf.length : Int) by omega)
  have p6n := eq_true hin
  have HYL := am (show nf.length = yf.length by rw [← HYF.out]; simp)
  have hgN : w.heap.size ≤ gN := hge
  have GEN := am hgN
  clear hlt hi hs_ hg_ hp_ hge hltN hin hgN
  replace jG := HG.out.c5
  replace jX1 := HX1.out.c5
  go_wp2_with (first | ((with_reducible refine gate_store (t := 26) (p := 47) rfl ?_); refine store_event (t := 26) (p := 47) (v := ?vo_s9) (w1 := World.setCells wr gN (ns.length * 6 + 5) [.slice BQ kf.length DQ]) ?hg_s9 ?ho_s9 ?hn_s9 ?hr_s9 ?_; (case ho_s9 => rfl); (case hg_s9 => rfl); (case hn_s9 => rfl); (case hr_s9 => first | (go_simp; done) | (go_simp; simp only [World.setCells, Nat.reduceAdd, Nat.zero_add]; done)); intro w13 hw_; have hs2_ := HS_.out; have hg2_ := HG_.out; rw [← hw_] at hs2_ hg2_; have hk := Kept.of_grown hg2_ (Kept.refl _ PM) (fun k_ h_ => .inl (by injection h_ with h_; rw [← h_]; exact HP_.out)); have hb := iBelow HB.out hg2_ GEN.out; replace HG := ss hk HG D_G_M.out; replace HK := kr HK hk RRM; have HZ := am hs2_; have OLDZ := am (show ∀ k, k < w.heap.size → (PM k ∨ PQ k) ∧ k < wr.heap.size from fun k h_ => ⟨.inl (OLDM.out k h_), Nat.lt_of_lt_of_le h_ HB.out.size⟩); replace HB := am hb; clear hs2_ hg2_ hk hb hw_; replace jG := HG.out.c5))
  go_ret
  rw [HYL.out] at HZ HG
  exact ⟨_, _, _, rfl, ⟨HB.out, HG.out, HZ.out, fun k h1 h2 => h2.1.elim (D_G_M.out k h1) (D_G_Q.out k h1), GEG.out, OLDZ.out⟩, fun k h => h.1.elim (RRM.out k) (RRQ.out k), HK.out⟩
end
end Go.Proofs.Ytlpabbcgichaoaa.PFnExactFind
end
section
namespace Go.Proofs.Ytlpabbcgichaoaa.PFnExactFind
set_option linter.unusedVariables false
set_option linter.unusedSimpArgs false
section
open Go.Maps
theorem im_laid : laidOutB Try.prog = true := by kernel_rfl
theorem im_law2 : Keyed Try.prog 86 := Keyed.of_law (deep_law_laid im_laid (m := 3) (by omega) (of_decide_eq_true (by kernel_rfl)) (by kernel_rfl) (by rw [Try.underlying86]))
theorem im_key2 (a b : Nat) (h : a < 9223372036854775808 ∧ b < 9223372036854775808) : ∃ l, keyOf Try.prog 86 (.agg #[.int .i64 (a : Int), .int .i64 (b : Int)]) = some l := by
  have hc : Try.prog.cellsOf 86 = 2 := by kernel_rfl
  have hc3 : Try.prog.cellsOf 3 = 1 := by kernel_rfl
  have hk : Try.prog.keyType 86 = true := by kernel_rfl
  have hf : (Value.agg #[.int .i64 (a : Int), .int .i64 (b : Int)]).formed Try.prog 86 = true := by simp [Value.formed, Try.underlying86, hc]
  obtain ⟨D, hD⟩ : ∃ D, Try.prog.types.size = D + 1 := ⟨Try.prog.types.size - 1, by have : 0 < Try.prog.types.size := of_decide_eq_true (by kernel_rfl); omega⟩
  have h1 : ∀ x : Nat, x < 9223372036854775808 → Try.prog.keyLits (D + 1) 3 [.int .i64 (x : Int)] = some [.int .i64 (x : Int)] := fun x hx => by
    unfold Program.keyLits
    rw [Try.underlying3]
    simp only
    have hw : (Lit.int .i64 (x : Int)).wf = true := by
      show (decide ((-9223372036854775808 : Int) ≤ (x : Int)) && decide ((x : Int) ≤ 9223372036854775807)) = true
      rw [Bool.and_eq_true, decide_eq_true_eq, decide_eq_true_eq]
      omega
    simp [hw]
  unfold keyOf
  rw [Try.underlying86]
  simp only [hk, hf, Bool.and_self, if_true]
  rw [hD]
  unfold Program.keyLits
  rw [Try.underlying86]
  simp only [hc, hc3]
  simp [List.range_succ, Value.cells, h1 a h.1, h1 b h.2]
theorem im_law3 : Keyed Try.prog 101 := Keyed.of_law (deep_law_laid im_laid (m := 3) (by omega) (of_decide_eq_true (by kernel_rfl)) (by kernel_rfl) (by rw [Try.underlying101]))
theorem im_key3 (a b c : Nat) (h : a < 9223372036854775808 ∧ b < 9223372036854775808 ∧ c < 9223372036854775808) : ∃ l, keyOf Try.prog 101 (.agg #[.int .i64 (a : Int), .int .i64 (b : Int), .int .i64 (c : Int)]) = some l := by
  have hc : Try.prog.cellsOf 101 = 3 := by kernel_rfl
  have hc3 : Try.prog.cellsOf 3 = 1 := by kernel_rfl
  have hk : Try.prog.keyType 101 = true := by kernel_rfl
  have hf : (Value.agg #[.int .i64 (a : Int), .int .i64 (b : Int), .int .i64 (c : Int)]).formed Try.prog 101 = true := by simp [Value.formed, Try.underlying101, hc]
  obtain ⟨D, hD⟩ : ∃ D, Try.prog.types.size = D + 1 := ⟨Try.prog.types.size - 1, by have : 0 < Try.prog.types.size := of_decide_eq_true (by kernel_rfl); omega⟩
  have h1 : ∀ x : Nat, x < 9223372036854775808 → Try.prog.keyLits (D + 1) 3 [.int .i64 (x : Int)] = some [.int .i64 (x : Int)] := fun x hx => by
    unfold Program.keyLits
    rw [Try.underlying3]
    simp only
    have hw : (Lit.int .i64 (x : Int)).wf = true := by
      show (decide ((-9223372036854775808 : Int) ≤ (x : Int)) && decide ((x : Int) ≤ 9223372036854775807)) = true
      rw [Bool.and_eq_true, decide_eq_true_eq, decide_eq_true_eq]
      omega
    simp [hw]
  unfold keyOf
  rw [Try.underlying101]
  simp only [hk, hf, Bool.and_self, if_true]
  rw [hD]
  unfold Program.keyLits
  rw [Try.underlying101]
  simp only [hc, hc3]
  simp [List.range_succ, Value.cells, h1 a h.1, h1 b h.2.1, h1 c h.2.2]
theorem im_look {P : Program} {k t e : TypeId} {w : World} {b : Nat} {es : Array MapEntry} {clock : Nat} (K : Keyed P k) (ht : P.underlying t = some (.map k e)) {z : Value} (hz : (zeroValue e).run P w = .ok z w) (hb : w.heap[b]? = some (.map es clock)) (hes : ∀ x ∈ es.toList, ∃ l, keyOf P k x.key = some l) {key : Value} (hkey : ∃ l, keyOf P k key = some l) :
    (Instr.lookup t (.map (some b)) key true).run P w = .ok (.tuple #[z, .bool false]) w ∨ ∃ e0 ∈ es.toList, e0.key = key ∧ (Instr.lookup t (.map (some b)) key true).run P w = .ok (.tuple #[e0.val, .bool true]) w := by
  obtain ⟨kl, hkey⟩ := hkey
  rcases K.find w hkey es.toList hes with ⟨h1, h2⟩ | ⟨j, e0, h1, h2, h3⟩
  · exact .inl (by simp [Instr.lookup, run_underlying ht, MapKept.run_getObj_map hb, K.check w _ hkey, h1, hz, Result.andThen])
  · exact .inr ⟨e0, List.mem_of_getElem? h2, h3, by simp [Instr.lookup, run_underlying ht, MapKept.run_getObj_map hb, K.check w _ hkey, h1, Result.andThen]⟩
theorem im_put {P : Program} {k t e : TypeId} {w : World} {b : Nat} {es : Array MapEntry} {clock : Nat} (K : Keyed P k) (ht : P.underlying t = some (.map k e)) (hb : w.heap[b]? = some (.map es clock)) (hes : ∀ x ∈ es.toList, ∃ l, keyOf P k x.key = some l) {key val : Value} (hkey : ∃ l, keyOf P k key = some l) :
    ∃ es' clock', (Instr.mapUpdate t (.map (some b)) key val).run P w = .ok () (ChangeMaps.setBlock w b (.map es' clock')) ∧ ∀ x' ∈ es'.toList, x' ∈ es.toList ∨ (x'.key = key ∧ x'.val = val) := by
  obtain ⟨kl, hkey⟩ := hkey
  rcases K.find w hkey es.toList hes with ⟨h1, h2⟩ | ⟨j, e0, h1, h2, h3⟩
  · refine ⟨es.push ⟨key, val, clock⟩, clock + 1, by simp [Instr.mapUpdate, run_underlying ht, MapKept.run_getObj_map hb, K.check w false hkey, h1, MapKept.run_setObj_map _ hb, Result.andThen, ChangeMaps.setBlock], fun x' hx => ?_⟩
    simp only [Array.toList_push, List.mem_append, List.mem_singleton] at hx
    rcases hx with hx | rfl
    · exact .inl hx
    · exact .inr ⟨rfl, rfl⟩
  · have hj : es[j]? = some e0 := by simpa using h2
    have hlist : (es.modify j (fun e' => { e' with key := key, val := val })).toList = es.toList.set j { e0 with key := key, val := val } := by rw [Array.toList_modify, ChangeMaps.modify_eq_set _ _ _ _ h2]
    refine ⟨es.modify j (fun e' => { e' with key := key, val := val }), clock, by simp [Instr.mapUpdate, run_underlying ht, MapKept.run_getObj_map hb, K.check w false hkey, h1, hj, h3, K.stays w hkey, MapKept.run_setObj_map _ hb, Result.andThen, ChangeMaps.setBlock], fun x' hx => ?_⟩
    rw [hlist] at hx
    rcases List.mem_or_eq_of_mem_set hx with hx | rfl
    · exact .inl hx
    · exact .inr ⟨rfl, rfl⟩
end
end Go.Proofs.Ytlpabbcgichaoaa.PFnExactFind
end
section
namespace Go.Proofs.Ytlpabbcgichaoaa.PFnExactFind
open Go.RowKit Go.Proofs.Ytlpabbcgichaoaa.Lawful Go.Proofs.YtlpabbcgichaoaaW.PrintWords Go.Proofs.YtlpabbcgichaoaaW.PrintLast Go.Proofs.YtlpabbcgichaoaaW.PrintMore
attribute [local go_sem] max2_int min2_int max_two min_two max_three min_three max_four min_four
set_option maxHeartbeats 16000000
set_option maxRecDepth 100000
set_option linter.unusedVariables false
set_option linter.unusedSimpArgs false
section
open Go.Proofs.Ytlpabbcgichaoaa.Lawful
theorem join_go (n : Nat) (f g : Nat → Bool) (hn : n < 4611686018427387904) : ∀ (d i : Nat), i + d = n + 1 → impl_join.l0 (d + 1) (rowOf n (fun j => if j < i then f j || g j else f j)) (rowOf n g) ((n : Int) + 1) (i : Int) = some (rowOf n (fun j => f j || g j)) := by
 intro d
 induction d with
 | zero =>
  intro i hi
  rw [impl_join.l0, if_neg (by omega)]
  exact congrArg some (rowOf_congr (fun j hj => if_pos (by omega)))
 | succ d ih =>
  intro i hi
  have hin : i ≤ n := by omega
  rw [impl_join.l0, if_pos (by omega), if_pos (by omega), if_pos (by rw [rowOf_len]; omega), if_pos (by rw [rowOf_len]; omega)]
  have hw : wrap64 ((i : Int) + 1) = ((i + 1 : Nat) : Int) := by unfold wrap64; omega
  have h1 : rdOf false (rowOf n (fun j => if j < i then f j || g j else f j)) (i : Int) = f i := by
   unfold rdOf; rw [Int.toNat_natCast, List.getD_eq_getElem?_getD, rowOf_at n _ i hin]; simp
  have h2 : rdOf false (rowOf n g) (i : Int) = g i := by
   unfold rdOf; rw [Int.toNat_natCast, List.getD_eq_getElem?_getD, rowOf_at n _ i hin]; rfl
  have key : ∀ b : Bool, b = (f i || g i) → (rowOf n (fun j => if j < i then f j || g j else f j)).set i b = rowOf n (fun j => if j < i + 1 then f j || g j else f j) := fun b hb => by
   rw [rowOf_set]
   refine rowOf_congr (fun j hj => ?_)
   by_cases e : j = i
   ·
    subst e; rw [if_pos rfl, if_pos (by omega), hb]
   rw [if_neg e]
   by_cases c : j < i
   ·
    rw [if_pos c, if_pos (by omega)]
   rw [if_neg c, if_neg (by omega)]
  rw [h1, h2, Int.toNat_natCast, hw]
  by_cases c : f i = true
  ·
   rw [if_pos c, key true (by rw [c]; rfl)]; exact ih (i + 1) (by omega)
  rw [if_neg c, key (g i) (by rw [Bool.eq_false_iff.2 c]; rfl)]; exact ih (i + 1) (by omega)
theorem join_row (n : Nat) (f g : Nat → Bool) (hn : n < 4611686018427387904) : impl_join.f (n + 2) (rowOf n f) (rowOf n g) = some (rowOf n (fun j => f j || g j)) := by
 have h := join_go n f g hn (n + 1) 0 (by omega)
 unfold impl_join.f
 rw [rowOf_len]
 have e : rowOf n (fun j => if j < 0 then f j || g j else f j) = rowOf n f := rowOf_congr (fun j _ => if_neg (by omega))
 rw [e] at h
 exact h
structure imE where
 PG : Nat → Prop
 PN : Nat → Prop
 gG : Nat
 gE : Nat
 gR : Nat
 BN : Option Addr
 DN : Nat
 T : ByteArray
 L : Nat
 ns : List (S31 × List Int)
@[reducible] def imTx (T : ByteArray) : Nat → Int := fun i => bt T (i : Int)
@[reducible] def imRow (T : ByteArray) (x : S31) (i : Nat) : List Bool := rowOf T.size (mat (imTx T) T.size x i)
@[reducible] def imOn (T : ByteArray) (x : S31) (d i : Nat) : List Bool := rowOf T.size (onw (imTx T) T.size x d i)
def imVal (E : imE) (W : World) (PE : Nat → Prop) (v : Value) (l : List Bool) : Prop := ∃ A c, v = .slice A E.L c ∧ E.L ≤ c ∧ Kd.F Kd.bool W (fun k => PE k ∧ k ≠ E.gE ∧ k ≠ E.gR) A E.L l
def imE2 (E : imE) (W : World) (PE : Nat → Prop) (x : MapEntry) : Prop := ∃ (node i : Nat) (y : S31) (ks : List Int), x.key = .agg #[.int .i64 (node : Int), .int .i64 (i : Int)] ∧ (node < 9223372036854775808 ∧ i < 9223372036854775808) ∧ E.ns[node]? = some (y, ks) ∧ imVal E W PE x.val (imRow E.T y i)
def imE3 (E : imE) (W : World) (PE : Nat → Prop) (x : MapEntry) : Prop := ∃ (node d i : Nat) (y : S31) (ks : List Int), x.key = .agg #[.int .i64 (node : Int), .int .i64 (d : Int), .int .i64 (i : Int)] ∧ (node < 9223372036854775808 ∧ d < 9223372036854775808 ∧ i < 9223372036854775808) ∧ E.ns[node]? = some (y, ks) ∧ imVal E W PE x.val (imOn E.T y d i)
def imK (E : imE) (W : World) (PE : Nat → Prop) : Prop :=
 (PE E.gE ∧ PE E.gR) ∧ (∀ k, PE k → k < W.heap.size) ∧ (∃ es c, W.heap[E.gE]? = some (.map es c) ∧ ∀ x ∈ es.toList, imE2 E W PE x) ∧ (∃ es c, W.heap[E.gR]? = some (.map es c) ∧ ∀ x ∈ es.toList, imE3 E W PE x)
theorem imVal.step {E : imE} {W W' : World} {PE PE' : Nat → Prop} {v : Value} {l : List Bool} (h : imVal E W PE v l) (hW : ∀ k, PE k → k ≠ E.gE → k ≠ E.gR → k < W.heap.size → W'.heap[k]? = W.heap[k]?) (hP : ∀ k, PE k → PE' k) : imVal E W' PE' v l := by
 obtain ⟨A, c, h1, h2, h3⟩ := h
 exact ⟨A, c, h1, h2, Kd.F_mono (Kd.F_step h3 (fun k hk hlt => hW k hk.1 hk.2.1 hk.2.2 hlt)) (fun k hk => ⟨hP k hk.1, hk.2⟩)⟩
theorem imK.lt {E : imE} {W : World} {PE : Nat → Prop} (h : imK E W PE) : ∀ k, PE k → k < W.heap.size := h.2.1
theorem imK.step {E : imE} {W W' : World} {PE S : Nat → Prop} (h : imK E W PE) (hk : Kept W W' S) (hS : ∀ k, PE k → ¬ S k) : imK E W' PE := by
 obtain ⟨h1, h2, ⟨es, c, h3, h4⟩, ⟨es2, c2, h5, h6⟩⟩ := h
 have hW : ∀ k, PE k → k ≠ E.gE → k ≠ E.gR → k < W.heap.size → W'.heap[k]? = W.heap[k]? := fun k hp _ _ hlt => hk.2 k hlt (hS k hp)
 refine ⟨h1, fun k hp => Nat.lt_of_lt_of_le (h2 k hp) hk.1, ⟨es, c, (hk.2 _ (h2 _ h1.1) (hS _ h1.1)).trans h3, fun x hx => ?_⟩, ⟨es2, c2, (hk.2 _ (h2 _ h1.2) (hS _ h1.2)).trans h5, fun x hx => ?_⟩⟩
 ·
  obtain ⟨node, i, y, ks, a1, a2, a3, a4⟩ := h4 x hx
  exact ⟨node, i, y, ks, a1, a2, a3, a4.step hW (fun _ h => h)⟩
 obtain ⟨node, d, i, y, ks, a1, a2, a3, a4⟩ := h6 x hx
 exact ⟨node, d, i, y, ks, a1, a2, a3, a4.step hW (fun _ h => h)⟩
theorem imE2.key {E : imE} {W : World} {PE : Nat → Prop} {x : MapEntry} (h : imE2 E W PE x) : ∃ l, keyOf Try.prog 86 x.key = some l := by
 obtain ⟨node, i, y, ks, a1, a2, _⟩ := h
 rw [a1]
 exact im_key2 node i a2
theorem imE3.key {E : imE} {W : World} {PE : Nat → Prop} {x : MapEntry} (h : imE3 E W PE x) : ∃ l, keyOf Try.prog 101 x.key = some l := by
 obtain ⟨node, d, i, y, ks, a1, a2, _⟩ := h
 rw [a1]
 exact im_key3 node d i a2
theorem im_zero (w : World) : (zeroValue 64).run Try.prog w = .ok (.slice none 0 0) w := by kernel_rfl
theorem imK.look2 {E : imE} {W : World} {PE : Nat → Prop} (h : imK E W PE) (node i : Nat) (hn : node < 9223372036854775808 ∧ i < 9223372036854775808) {y : S31} {ks : List Int} (hy : E.ns[node]? = some (y, ks)) :
  (Instr.lookup 70 (.map (some E.gE)) (.agg #[.int .i64 (node : Int), .int .i64 (i : Int)]) true).run Try.prog W = .ok (.tuple #[.slice none 0 0, .bool false]) W ∨ ∃ v, (Instr.lookup 70 (.map (some E.gE)) (.agg #[.int .i64 (node : Int), .int .i64 (i : Int)]) true).run Try.prog W = .ok (.tuple #[v, .bool true]) W ∧ imVal E W PE v (imRow E.T y i) := by
 obtain ⟨h1, h2, ⟨es, c, h3, h4⟩, _⟩ := h
 rcases im_look im_law2 Try.underlying70 (im_zero W) h3 (fun x hx => (h4 x hx).key) (im_key2 node i hn) with h | ⟨e0, he, hk, hr⟩
 ·
  exact .inl h
 obtain ⟨node', i', y', ks', a1, a2, a3, a4⟩ := h4 e0 he
 rw [hk] at a1
 injection a1 with a1
 injection a1 with a1
 injection a1 with b1 b2
 injection b2 with b2 _
 injection b1 with _ b1
 injection b2 with _ b2
 obtain rfl : node = node' := by omega
 obtain rfl : i = i' := by omega
 rw [hy] at a3
 injection a3 with a3
 injection a3 with a3 _
 subst a3
 exact .inr ⟨_, hr, a4⟩
theorem imK.look3 {E : imE} {W : World} {PE : Nat → Prop} (h : imK E W PE) (node d i : Nat) (hn : node < 9223372036854775808 ∧ d < 9223372036854775808 ∧ i < 9223372036854775808) {y : S31} {ks : List Int} (hy : E.ns[node]? = some (y, ks)) :
  (Instr.lookup 71 (.map (some E.gR)) (.agg #[.int .i64 (node : Int), .int .i64 (d : Int), .int .i64 (i : Int)]) true).run Try.prog W = .ok (.tuple #[.slice none 0 0, .bool false]) W ∨ ∃ v, (Instr.lookup 71 (.map (some E.gR)) (.agg #[.int .i64 (node : Int), .int .i64 (d : Int), .int .i64 (i : Int)]) true).run Try.prog W = .ok (.tuple #[v, .bool true]) W ∧ imVal E W PE v (imOn E.T y d i) := by
 obtain ⟨h1, h2, _, ⟨es, c, h3, h4⟩⟩ := h
 rcases im_look im_law3 Try.underlying71 (im_zero W) h3 (fun x hx => (h4 x hx).key) (im_key3 node d i hn) with h | ⟨e0, he, hk, hr⟩
 ·
  exact .inl h
 obtain ⟨node', d', i', y', ks', a1, a2, a3, a4⟩ := h4 e0 he
 rw [hk] at a1
 injection a1 with a1
 injection a1 with a1
 injection a1 with b1 b2
 injection b2 with b2 b3
 injection b3 with b3 _
 injection b1 with _ b1
 injection b2 with _ b2
 injection b3 with _ b3
 obtain rfl : node = node' := by omega
 obtain rfl : d = d' := by omega
 obtain rfl : i = i' := by omega
 rw [hy] at a3
 injection a3 with a3
 injection a3 with a3 _
 subst a3
 exact .inr ⟨_, hr, a4⟩
@[reducible] def imStored (E : imE) (W W' : World) (PE PO : Nat → Prop) (g : Nat) : Prop := imK E W' (fun k => PE k ∨ PO k) ∧ Kept W W' (fun k => k = g) ∧ ∀ w : World, Below w.heap.size w W → w.heap.size ≤ g → Below w.heap.size w W'
theorem setBlock_kept {W : World} {b : Nat} {es es' : Array MapEntry} {c c' : Nat} (hb : W.heap[b]? = some (.map es c)) : Kept W (ChangeMaps.setBlock W b (.map es' c')) (fun k => k = b) ∧ (ChangeMaps.setBlock W b (.map es' c')).heap.size = W.heap.size ∧ ∀ w : World, Below w.heap.size w W → w.heap.size ≤ b → Below w.heap.size w (ChangeMaps.setBlock W b (.map es' c')) := by
 have hs : (ChangeMaps.setBlock W b (.map es' c')).heap.size = W.heap.size := by simp [ChangeMaps.setBlock]
 refine ⟨⟨by rw [hs]; exact Nat.le_refl _, fun k _ hk => ChangeMaps.heap_setBlock_other hb _ hk⟩, hs, fun w hw hge => ⟨hw.os, hw.tape, hw.output, by rw [hs]; exact hw.size, fun k hk => (ChangeMaps.heap_setBlock_other hb _ (by omega)).trans (hw.block k hk)⟩⟩
theorem imK.put2 {E : imE} {W : World} {PE PO : Nat → Prop} (h : imK E W PE) (hne : E.gE ≠ E.gR) (hL : E.L = E.T.size + 1) (node i : Nat) (hn : node < 9223372036854775808 ∧ i < 9223372036854775808) {y : S31} {ks : List Int} (hy : E.ns[node]? = some (y, ks)) {base : Nat} {A : Option Addr} {c : Nat} (hO : LR Kd.bool 4 W base PO (.slice A E.L c) (imRow E.T y i)) (hD : ∀ k, PO k → ¬ PE k) :
  ∃ w', (Instr.mapUpdate 70 (.map (some E.gE)) (.agg #[.int .i64 (node : Int), .int .i64 (i : Int)]) (.slice A E.L c)).run Try.prog W = .ok () w' ∧ imStored E W w' PE PO E.gE := by
 obtain ⟨h1, h2, ⟨es, c0, h3, h4⟩, ⟨es2, c2, h5, h6⟩⟩ := h
 obtain ⟨es', c', hr, hm⟩ := im_put im_law2 Try.underlying70 h3 (fun x hx => (h4 x hx).key) (im_key2 node i hn) (val := .slice A E.L c)
 obtain ⟨k1, k2, k3⟩ := setBlock_kept (es' := es') (c' := c') h3
 have hW : ∀ k, PE k → k ≠ E.gE → k ≠ E.gR → k < W.heap.size → (ChangeMaps.setBlock W E.gE (.map es' c')).heap[k]? = W.heap[k]? := fun k _ hk _ hlt => k1.2 k hlt hk
 refine ⟨_, hr, ⟨⟨.inl h1.1, .inl h1.2⟩, fun k hk => by rw [k2]; exact hk.elim (h2 k) (hO.lt k), ⟨es', c', ChangeMaps.heap_setBlock_same h3 _, fun x hx => ?_⟩, ⟨es2, c2, (k1.2 _ (h2 _ h1.2) (fun e => hne e.symm)).trans h5, fun x hx => ?_⟩⟩, k1, k3⟩
 ·
  rcases hm x hx with hx | ⟨e1, e2⟩
  ·
   obtain ⟨node, i, y, ks, a1, a2, a3, a4⟩ := h4 x hx
   exact ⟨node, i, y, ks, a1, a2, a3, a4.step hW (fun _ h => .inl h)⟩
  refine ⟨node, i, y, ks, e1, hn, hy, A, c, e2, ?_, ?_⟩
  ·
   have := hO.room; rw [show (imRow E.T y i).length = E.L from (rowOf_len _ _).trans hL.symm] at this; exact this
  have hF := Kd.R_F hO.1
  refine Kd.F_mono (Kd.F_step hF (fun k hk hlt => k1.2 k hlt (fun e => hD k hk (e ▸ h1.1)))) (fun k hk => ⟨.inr hk, fun e => hD k hk (e ▸ h1.1), fun e => hD k hk (e ▸ h1.2)⟩)
 obtain ⟨node, d, i, y, ks, a1, a2, a3, a4⟩ := h6 x hx
 exact ⟨node, d, i, y, ks, a1, a2, a3, a4.step hW (fun _ h => .inl h)⟩
theorem imK.put3 {E : imE} {W : World} {PE PO : Nat → Prop} (h : imK E W PE) (hne : E.gE ≠ E.gR) (hL : E.L = E.T.size + 1) (node d i : Nat) (hn : node < 9223372036854775808 ∧ d < 9223372036854775808 ∧ i < 9223372036854775808) {y : S31} {ks : List Int} (hy : E.ns[node]? = some (y, ks)) {base : Nat} {A : Option Addr} {c : Nat} (hO : LR Kd.bool 4 W base PO (.slice A E.L c) (imOn E.T y d i)) (hD : ∀ k, PO k → ¬ PE k) :
  ∃ w', (Instr.mapUpdate 71 (.map (some E.gR)) (.agg #[.int .i64 (node : Int), .int .i64 (d : Int), .int .i64 (i : Int)]) (.slice A E.L c)).run Try.prog W = .ok () w' ∧ imStored E W w' PE PO E.gR := by
 obtain ⟨h1, h2, ⟨es2, c2, h5, h6⟩, ⟨es, c0, h3, h4⟩⟩ := h
 obtain ⟨es', c', hr, hm⟩ := im_put im_law3 Try.underlying71 h3 (fun x hx => (h4 x hx).key) (im_key3 node d i hn) (val := .slice A E.L c)
 obtain ⟨k1, k2, k3⟩ := setBlock_kept (es' := es') (c' := c') h3
 have hW : ∀ k, PE k → k ≠ E.gE → k ≠ E.gR → k < W.heap.size → (ChangeMaps.setBlock W E.gR (.map es' c')).heap[k]? = W.heap[k]? := fun k _ _ hk hlt => k1.2 k hlt hk
 refine ⟨_, hr, ⟨⟨.inl h1.1, .inl h1.2⟩, fun k hk => by rw [k2]; exact hk.elim (h2 k) (hO.lt k), ⟨es2, c2, (k1.2 _ (h2 _ h1.1) hne).trans h5, fun x hx => ?_⟩, ⟨es', c', ChangeMaps.heap_setBlock_same h3 _, fun x hx => ?_⟩⟩, k1, k3⟩
 ·
  obtain ⟨node, i, y, ks, a1, a2, a3, a4⟩ := h6 x hx
  exact ⟨node, i, y, ks, a1, a2, a3, a4.step hW (fun _ h => .inl h)⟩
 rcases hm x hx with hx | ⟨e1, e2⟩
 ·
  obtain ⟨node, d, i, y, ks, a1, a2, a3, a4⟩ := h4 x hx
  exact ⟨node, d, i, y, ks, a1, a2, a3, a4.step hW (fun _ h => .inl h)⟩
 refine ⟨node, d, i, y, ks, e1, hn, hy, A, c, e2, ?_, ?_⟩
 ·
  have := hO.room; rw [show (imOn E.T y d i).length = E.L from (rowOf_len _ _).trans hL.symm] at this; exact this
 have hF := Kd.R_F hO.1
 refine Kd.F_mono (Kd.F_step hF (fun k hk hlt => k1.2 k hlt (fun e => hD k hk (e ▸ h1.2)))) (fun k hk => ⟨.inr hk, fun e => hD k hk (e ▸ h1.1), fun e => hD k hk (e ▸ h1.2)⟩)
theorem im_info4 : (Try.prog.info? 4).map (fun i => (i.zero, i.size, i.bytes)) = some (some (.bool false), 1, 1) := by kernel_rfl
@[reducible] def impl_none.Post (w ws : World) (T : ByteArray) (L : Nat) (e : Ending) (w' : World) : Prop := ∃ (B : Option Addr) (D : Nat) (P : Nat → Prop), e = .returned (.slice B L D) ∧ LR Kd.bool 4 w' w.heap.size P (.slice B L D) (rowOf T.size (fun _ => false)) ∧ Below w.heap.size w w' ∧ Kept ws w' (fun _ => False) ∧ ∀ k, P k → ws.heap.size ≤ k
theorem impl_none (w ws : World) (PG : Nat → Prop) (gG : Nat) (T : ByteArray) (v1 v2 v3 v4 : Value) (L : Nat) (hL : L = T.size + 1) (hB : Below w.heap.size w ws) (hG : LB ws PG gG 74 #[.string T, v1, v2, v3, v4]) (hT : T.size ≤ 120) :
  Calls Try.prog 50 #[.pointer (some ⟨gG, 0, none⟩)] ws (impl_none.Post w ws T L) := by
 have hu := Try.underlying74
 have HB := am hB
 have HG := am hG
 have HT := am hT
 have HK := am (Kept.refl ws (fun _ => False))
 obtain ⟨W1, hW⟩ : ∃ W_, W_ = T.size + 1 := ⟨_, rfl⟩
 have e1 : wrap64 ((T.size : Int) + 1) = (W1 : Int) := wrap_nat (by rw [hW]; rfl) (by omega)
 have e1k : IntKind.i64.wrap ((T.size : Int) + 1) = (W1 : Int) := (i64_w _).trans e1
 have HW := am hW
 obtain ⟨zs, hzs⟩ : ∃ z_ : List Bool, z_ = List.replicate W1 false := ⟨_, rfl⟩
 have Nzs := am hzs
 have HLL := am hL
 clear hB hG hT hW hzs hL
 replace jG := HG.out.c5
 go_enter Try.func50, Try.ntmps50
 go_wp2_with (first | ((with_reducible refine gd 9 rfl ?_); refine Kd.R_make Kd.bool _ 4 rfl (N := 9) rfl 64 _ _ rfl (W1 : Int) rfl rfl Try.underlying64 (.bool false) 1 im_info4 rfl (by decide) (by omega) false (ok := fun _ => True) (okp := fun _ => True) rfl (fun _ hk => hk) trivial (Int.natCast_nonneg _) (by rw [Int.toNat_natCast]; have := HW.out; have := HT.out; omega) (Below.refl _ _) (Nat.le_refl _) ?_; intro vY w2 hrY hb hg_ hnew_; clear hg_ hnew_; rw [Int.toNat_natCast, ← Nzs.out] at hrY; have hk := kept_below hb; obtain ⟨PY, hPY, HLY⟩ := LR.fresh rfl HB.out hrY; have HY := am HLY; clear HLY hrY; have D_G_Y := na hPY HG; have RRY := am (show ∀ k_, PY k_ → (fun _ => False) k_ ∨ ws.heap.size ≤ k_ from fun k_ h_ => .inr (Nat.le_trans HK.out.1 (hPY k_ h_).1)); replace HG := sn hk HG; replace HK := kt HK hk; clear hPY; obtain ⟨BY, DY, e_Y⟩ := HY.out.val; subst e_Y; replace HB := bs HB hb; clear hb hk; replace jG := HG.out.c5))
 go_ret
 have hzl : zs.length = L := by rw [Nzs.out, List.length_replicate, HLL.out]; exact HW.out
 have hzr : zs = rowOf T.size (fun _ => false) := by rw [Nzs.out, HW.out]; exact rowOf_none _
 rw [hzl] at HY
 rw [hzl]
 exact ⟨_, _, PY, rfl, hzr ▸ HY.out, HB.out, HK.out, fun k hk => (RRY.out k hk).resolve_left (fun h => h)⟩
end
section
open Go.Proofs.Ytlpabbcgichaoaa.Lawful
section
variable {P : Program} {ops : Array Oper} {rest : List Oper} {o : Oper} {a : Act} {Q : Exit → Act → World → Prop} {Kc : Act → World → Prop} {w0 W : World} {P1 : Nat → Prop}
theorem im_at {g n c : Nat} {kn : List Bool} {base : Nat} (H : LR Kd.bool 4 W base P1 (.slice (some ⟨g, 0, none⟩) n c) kn) (i : Nat) (h : i < n) : W.cell? ⟨g, i, none⟩ = some (.bool (kn.getD i false)) ∧ W.frozen? ⟨g, i, none⟩ = false := by
 have := Kd.R_celln false H.1 (i : Int) (by omega) (by omega)
 rw [Int.toNat_natCast] at this
 refine ⟨?_, this.2⟩
 rw [this.1]
 simp [rdOf]
theorem im_bput {g n c : Nat} {kn : List Bool} (H : LR Kd.bool 4 W w0.heap.size P1 (.slice (some ⟨g, 0, none⟩) n c) kn) (hB : Below w0.heap.size w0 W) (i : Nat) (hi : i < n) (x : Bool) :
  LR Kd.bool 4 (W.setCell ⟨g, i, none⟩ (.bool x)) w0.heap.size P1 (.slice (some ⟨g, 0, none⟩) n c) (kn.set i x) ∧ Kept W (W.setCell ⟨g, i, none⟩ (.bool x)) P1 ∧ Below w0.heap.size w0 (W.setCell ⟨g, i, none⟩ (.bool x)) := by
 have hl : n = kn.length := H.len
 have hp := Kd.R_putg H.1 (i : Int) x
 rw [Int.toNat_natCast] at hp
 obtain ⟨g', c', he, hge, hlt, _⟩ := Kd.R_form H.1 (by omega)
 injection he with he1 _ _
 injection he1 with he1
 injection he1 with he1 _ _
 subst he1
 have hk : Kept W (W.setCell ⟨g, i, none⟩ (.bool x)) P1 := Kept.of_grown hp.2 (Kept.refl W P1) (fun k hk_ => by injection hk_ with hk_; subst hk_; exact .inl (H.1.1 _ rfl))
 exact ⟨H.wrote hp.1 hk, hk, below_set hB hge⟩
theorem im_put1 {g n c : Nat} {kn : List Bool} (H : LR Kd.bool 4 W w0.heap.size P1 (.slice (some ⟨g, 0, none⟩) n c) kn) (hB : Below w0.heap.size w0 W) (i : Nat) (hi : i < n) (x : Bool) (hgd : o.guard = none) {t : TypeId} {p : Tmp} {y : Operand} (hN : o.dst = none) (ho : o.op = .store t (.tmp p) y)
  (hrun : (execOp a.eval o).run P W = .ok .skip (W.setCell ⟨g, i, none⟩ (.bool x)))
  (h : ∀ w2, LR Kd.bool 4 w2 w0.heap.size P1 (.slice (some ⟨g, 0, none⟩) n c) (kn.set i x) → Kept W w2 P1 → Below w0.heap.size w0 w2 → wpList P ops Q rest a w2) : wpList P ops Q (o :: rest) a W := by
 obtain ⟨h1, h2, h3⟩ := im_bput H hB i hi x
 exact store_event hgd ho hN hrun (fun w' hw => by subst hw; exact h _ h1 h2 h3)
theorem im_put1_step {g n c : Nat} {kn : List Bool} (H : LR Kd.bool 4 W w0.heap.size P1 (.slice (some ⟨g, 0, none⟩) n c) kn) (hB : Below w0.heap.size w0 W) (i : Nat) (hi : i < n) (x : Bool) (hw : Region.wanted o (yielded ops a.tmps) = true) (hN : o.dst = none)
  (hrun : (execOp a.eval o).run P W = .ok .skip (W.setCell ⟨g, i, none⟩ (.bool x)))
  (h : ∀ w2, LR Kd.bool 4 w2 w0.heap.size P1 (.slice (some ⟨g, 0, none⟩) n c) (kn.set i x) → Kept W w2 P1 → Below w0.heap.size w0 w2 → Kc a w2) : if Region.wanted o (yielded ops a.tmps) = true then Oper.wp P o a W Kc Q else Kc (a.put o.dst undef) W := by
 obtain ⟨h1, h2, h3⟩ := im_bput H hB i hi x
 exact skip_step hw hN hrun (h _ h1 h2 h3)
end
theorem step_row0 (n i : Nat) (f : Nat → Bool) : rowOf n f = rowOf n (fun j => f j || (false && j == i + 1)) := rowOf_congr (fun j _ => by simp)
theorem step_row1 (n i : Nat) (f : Nat → Bool) : rowOf n (fun j => if j = i + 1 then true else f j) = rowOf n (fun j => f j || (true && j == i + 1)) := rowOf_congr (fun j _ => by
 by_cases e : j = i + 1
 ·
  rw [if_pos e, beq_iff_eq.2 e]; simp
 rw [if_neg e, beq_eq_false_iff_ne.2 e]; simp)
theorem step_row2 (n i : Nat) (f : Nat → Bool) (yes : Bool) (h : i = n) : rowOf n f = rowOf n (fun j => f j || (yes && j == i + 1)) := rowOf_congr (fun j hj => by
 have : (j == i + 1) = false := beq_eq_false_iff_ne.2 (by omega)
 rw [this]; simp)
@[reducible] def impl_step.Post (w ws : World) (PO : Nat → Prop) (gO n cO : Nat) (r : List Bool) (e : Ending) (w' : World) : Prop := e = .returned (.tuple #[]) ∧ LR Kd.bool 4 w' w.heap.size PO (.slice (some ⟨gO, 0, none⟩) n cO) r ∧ Below w.heap.size w w' ∧ Kept ws w' PO
theorem impl_step (w ws : World) (PG PI PM PX PO : Nat → Prop) (gG gI gM gX gO n cO : Nat) (T : ByteArray) (v1 v2 v3 v4 : Value) (i : Nat) (yes : Bool) (f : Nat → Bool) (hn : n = T.size + 1) (hT : T.size ≤ 120) (hi : i ≤ T.size) (hB : Below w.heap.size w ws) (hG : LB ws PG gG 74 #[.string T, v1, v2, v3, v4]) (hI : LB ws PI gI 3 #[.int .i64 (i : Int)]) (hM : LB ws PM gM 54 #[.pointer (some ⟨gG, 0, none⟩)]) (hX : LB ws PX gX 64 #[.slice (some ⟨gO, 0, none⟩) n cO]) (hO : LR Kd.bool 4 ws w.heap.size PO (.slice (some ⟨gO, 0, none⟩) n cO) (rowOf T.size f)) (d1 : ∀ k, PG k → ¬ PO k) (d2 : ∀ k, PI k → ¬ PO k) (d3 : ∀ k, PM k → ¬ PO k) (d4 : ∀ k, PX k → ¬ PO k) :
  Calls Try.prog 51 #[.bool yes, .pointer (some ⟨gI, 0, none⟩), .pointer (some ⟨gM, 0, none⟩), .pointer (some ⟨gX, 0, none⟩)] ws (impl_step.Post w ws PO gO n cO (rowOf T.size (fun j => f j || (yes && j == i + 1)))) := by
 have hu := Try.underlying74
 have HB := am hB
 have HG := am hG
 have HI := am hI
 have HM := am hM
 have HX := am hX
 have HO := am hO
 have D_G_O := am d1
 have D_I_O := am d2
 have D_M_O := am d3
 have D_X_O := am d4
 have HK := am (Kept.refl ws PO)
 have HN := am hn
 have HS := am (show T.size ≤ 120 ∧ i ≤ T.size from ⟨hT, hi⟩)
 have hwi : wrap64 ((i : Int) + 1) = ((i + 1 : Nat) : Int) := by unfold wrap64; omega
 have hwik : IntKind.i64.wrap ((i : Int) + 1) = ((i + 1 : Nat) : Int) := (i64_w _).trans hwi
 clear hB hG hI hM hX hO d1 d2 d3 d4 hn hT hi
 replace jG := HG.out.c5
 replace jI := HI.out.c1
 replace jM := HM.out.c1
 replace jX := HX.out.c1
 by_cases hlt : i < T.size
 ·
  have clt : decide ((i : Int) < (T.size : Int)) = true := decide_eq_true (Int.ofNat_lt.2 hlt)
  have cltn := decide_eq_true hlt
  have HLT := am hlt
  clear hlt
  rcases yes with _ | _
  ·
   go_enter Try.func51, Try.ntmps51
   go_upto_region 0 with (fail)
   go_quiet (fail)
   generalize hwd_ : World.drewN ws nq = wd_
   have hb_ := (show Below (World.heap ws).size ws wd_ from hwd_ ▸ pw_below_drewN (Below.refl _ _) nq)
   have hk := (Kept.of_below hb_ (fun _ => False))
   replace HG := sn hk HG
   replace HI := sn hk HI
   replace HM := sn hk HM
   replace HX := sn hk HX
   replace HO := rn hk HO
   replace HK := kt HK hk
   replace HB := bs HB hb_
   clear hk hwd_ hb_
   replace jG := HG.out.c5
   replace jI := HI.out.c1
   replace jM := HM.out.c1
   replace jX := HX.out.c1
   go_wp2
   first | go_end0 | ((try simp only [Exit.inBlock, Exit.then]); refine bodyPost_ret (results_none rfl _ _ _) rfl ?_)
   exact ⟨rfl, by rw [← step_row0]; exact HO.out, HB.out, HK.out⟩
  go_enter Try.func51, Try.ntmps51
  go_upto_region 0 with (fail)
  go_quiet (fail)
  generalize hwd_ : World.drewN ws nq = wd_
  have hb_ := (show Below (World.heap ws).size ws wd_ from hwd_ ▸ pw_below_drewN (Below.refl _ _) nq)
  have hk := (Kept.of_below hb_ (fun _ => False))
  replace HG := sn hk HG
  replace HI := sn hk HI
  replace HM := sn hk HM
  replace HX := sn hk HX
  replace HO := rn hk HO
  replace HK := kt HK hk
  replace HB := bs HB hb_
  clear hk hwd_ hb_
  replace jG := HG.out.c5
  replace jI := HI.out.c1
  replace jM := HM.out.c1
  replace jX := HX.out.c1
  obtain ⟨hy0, hy1⟩ := im_at HO.out (i + 1) (by have := HN.out; have := HLT.out; omega)
  have p3 := eq_true (show (0 : Int) ≤ ((i + 1 : Nat) : Int) from Int.natCast_nonneg _)
  have p4 := eq_true (show ((i + 1 : Nat) : Int) < (n : Int) by have := HN.out; have := HLT.out; omega)
  have p4n := eq_true (show i + 1 < n by have := HN.out; have := HLT.out; omega)
  have p3i := eq_true (show (0 : Int) ≤ (i : Int) + 1 by omega)
  have p4i := eq_true (show (i : Int) + 1 < (n : Int) by have := HN.out; have := HLT.out; omega)
  go_wp2_with (first | ((with_reducible refine gate_store (t := 4) (p := 18) rfl ?_); refine im_put1 HO.out HB.out (i + 1) (by have := HN.out; have := HLT.out; omega) true rfl (t := 4) (p := 18) rfl rfl ?hr ?_; (case hr => first | (go_simp; done) | (go_simp; simp only [World.setCells, Nat.reduceAdd, Nat.zero_add]; done)); intro w2 hx hk hb; replace HG := ss hk HG D_G_O.out; replace HI := ss hk HI D_I_O.out; replace HM := ss hk HM D_M_O.out; replace HX := ss hk HX D_X_O.out; replace HK := kl HK hk; replace HB := am hb; replace HO := am hx; clear hk hx hb; replace jG := HG.out.c5; replace jI := HI.out.c1; replace jM := HM.out.c1; replace jX := HX.out.c1))
  first | go_end0 | ((try simp only [Exit.inBlock, Exit.then]); refine bodyPost_ret (results_none rfl _ _ _) rfl ?_)
  exact ⟨rfl, by rw [← step_row1, ← rowOf_set]; exact HO.out, HB.out, HK.out⟩
 have clt : decide ((i : Int) < (T.size : Int)) = false := decide_eq_false (by omega)
 have cltn : decide (i < T.size) = false := decide_eq_false hlt
 have HLT := am (show i = T.size by have := HS.out; omega)
 clear hlt
 go_enter Try.func51, Try.ntmps51
 go_upto_region 0 with (fail)
 go_quiet (fail)
 generalize hwd_ : World.drewN ws nq = wd_
 have hb_ := (show Below (World.heap ws).size ws wd_ from hwd_ ▸ pw_below_drewN (Below.refl _ _) nq)
 have hk := (Kept.of_below hb_ (fun _ => False))
 replace HG := sn hk HG
 replace HI := sn hk HI
 replace HM := sn hk HM
 replace HX := sn hk HX
 replace HO := rn hk HO
 replace HK := kt HK hk
 replace HB := bs HB hb_
 clear hk hwd_ hb_
 replace jG := HG.out.c5
 replace jI := HI.out.c1
 replace jM := HM.out.c1
 replace jX := HX.out.c1
 go_wp2
 first | go_end0 | ((try simp only [Exit.inBlock, Exit.then]); refine bodyPost_ret (results_none rfl _ _ _) rfl ?_)
 exact ⟨rfl, by rw [← step_row2 T.size i f yes HLT.out]; exact HO.out, HB.out, HK.out⟩
end
end Go.Proofs.Ytlpabbcgichaoaa.PFnExactFind
end
section
namespace Go.Proofs.Ytlpabbcgichaoaa.PFnExactFind
open Go.RowKit Go.Proofs.Ytlpabbcgichaoaa.Lawful Go.Proofs.YtlpabbcgichaoaaW.PrintWords Go.Proofs.YtlpabbcgichaoaaW.PrintLast Go.Proofs.YtlpabbcgichaoaaW.PrintMore
attribute [local go_sem] max2_int min2_int max_two min_two max_three min_three max_four min_four   -- for this text's walks alone
set_option linter.unusedVariables false
set_option linter.unusedSimpArgs false
section
open Go.Proofs.Ytlpabbcgichaoaa.Lawful
@[reducible] def imE.At (E : imE) (w ws : World) (PE : Nat → Prop) (VG : Value) : Prop :=
  Below w.heap.size w ws ∧ LB ws E.PG E.gG 74 #[.string E.T, .slice E.BN E.ns.length E.DN, .map (some E.gE), .map (some E.gR), VG] ∧ LN kNA 76 ws w.heap.size E.PN (.slice E.BN E.ns.length E.DN) E.ns ∧ imK E ws PE ∧ (∀ k, E.PG k → ¬ PE k) ∧ (∀ k, E.PN k → ¬ PE k)
def imE.Ok (E : imE) (w : World) : Prop := E.gE ≠ E.gR ∧ E.L = E.T.size + 1 ∧ E.T.size ≤ 120 ∧ w.heap.size ≤ E.gE ∧ w.heap.size ≤ E.gR ∧ E.ns.length < 1099511627776 ∧ (∀ k, naAt E.ns k) ∧ (∀ (k : Nat) (x : S31) (ks : List Int), E.ns[k]? = some (x, ks) → rxW x ∧ rxT x ∧ cnt x < 1099511627776)
@[reducible] def imE.Post (E : imE) (w ws : World) (PE : Nat → Prop) (VG : Value) (l : List Bool) (e : Ending) (w' : World) : Prop :=
  ∃ (PE' : Nat → Prop) (A : Option Addr) (c : Nat), e = .returned (.slice A E.L c) ∧ E.At w w' PE' VG ∧ E.L ≤ c ∧ Kd.F Kd.bool w' (fun k => PE' k ∧ k ≠ E.gE ∧ k ≠ E.gR) A E.L l ∧ (∀ k, PE k → PE' k) ∧ (∀ k, PE' k → PE k ∨ ws.heap.size ≤ k) ∧ Kept ws w' (fun k => k = E.gE ∨ k = E.gR)
def imE.From (E : imE) (w : World) (VG : Value) (x : S31) : Prop := ∀ (node : Nat) (ks : List Int) (i : Nat) (ws : World) (PE : Nat → Prop), E.ns[node]? = some (x, ks) → i ≤ E.T.size → E.At w ws PE VG →
  Calls Try.prog 38 #[.pointer (some ⟨E.gG, 0, none⟩), .int .i64 (node : Int), .int .i64 (i : Int)] ws (E.Post w ws PE VG (imRow E.T x i))
theorem imNotK {P PE : Nat → Prop} {gE gR : Nat} (h : ∀ k, P k → ¬ PE k) (he : PE gE ∧ PE gR) : ∀ k, P k → ¬ (k = gE ∨ k = gR) := fun k hk h2 => by
  rcases h2 with h2 | h2
  · exact h k hk (h2 ▸ he.1)
  · exact h k hk (h2 ▸ he.2)
theorem imLN {W : World} {base : Nat} {P : Nat → Prop} {A : Option Addr} {L c : Nat} {l : List Bool} (hl : l.length = L) (hc : L ≤ c) (hF : Kd.F Kd.bool W P A L l) (hlt : ∀ k, P k → k < W.heap.size) : LN Kd.bool 4 W base P (.slice A L c) l := by
  subst hl
  exact ⟨⟨A, c, rfl, hc, hF⟩, hlt⟩
theorem im_atN {W : World} {base : Nat} {P : Nat → Prop} {A : Option Addr} {n c : Nat} {l : List Bool} (H : LN Kd.bool 4 W base P (.slice A n c) l) (j : Nat) (hj : j < n) : ∃ ad, A = some ad ∧ W.cell? (ad.add j) = some (.bool (l.getD j false)) := by
  obtain ⟨hn, _, hC⟩ := Kd.V_reads' H.1
  obtain ⟨ad, c, e, hcl, hK, hc0⟩ := Kd.C_get hC false (j : Int) (by omega) (by omega)
  have hc : ∀ q u, c[q]? = some u → W.cell? (ad.add ((j : Int).toNat * 1 + q)) = some u := hc0
  rw [Int.toNat_natCast] at hK hc
  obtain rfl : c = [.bool (l.getD j false)] := hK
  exact ⟨ad, e, by have := hc 0 _ rfl; rwa [Nat.mul_one, Nat.add_zero] at this⟩
theorem im_atI {W : World} {base : Nat} {P : Nat → Prop} {A : Option Addr} {n c : Nat} {l : List Int} (H : LN (Kd.int .i64) 3 W base P (.slice A n c) l) (j : Nat) (hj : j < n) {v : Int} (hv : l[j]? = some v) : ∃ ad, A = some ad ∧ W.cell? (ad.add j) = some (.int .i64 v) := by
  obtain ⟨hn, _, hC⟩ := Kd.V_reads' H.1
  obtain ⟨ad, c, e, hcl, hK, hc0⟩ := Kd.C_get hC (0 : Int) (j : Int) (by omega) (by omega)
  have hc : ∀ q u, c[q]? = some u → W.cell? (ad.add ((j : Int).toNat * 1 + q)) = some u := hc0
  rw [Int.toNat_natCast] at hK hc
  rw [List.getD_eq_getElem?_getD, hv] at hK
  obtain rfl : c = [.int .i64 v] := hK
  exact ⟨ad, e, by have := hc 0 _ rfl; rwa [Nat.mul_one, Nat.add_zero] at this⟩
theorem rowOf_getD (n : Nat) (f : Nat → Bool) (j : Nat) (h : j ≤ n) : (rowOf n f).getD j false = f j := by rw [List.getD_eq_getElem?_getD, rowOf_at n f j h]; rfl
@[reducible] def im_join.Post (w ws : World) (PO : Nat → Prop) (gO L cO n : Nat) (f : Nat → Bool) (e : Ending) (w' : World) : Prop := e = .returned (.tuple #[]) ∧ LR Kd.bool 4 w' w.heap.size PO (.slice (some ⟨gO, 0, none⟩) L cO) (rowOf n f) ∧ Below w.heap.size w w' ∧ Kept ws w' PO
theorem im_join (w ws : World) (PO PR : Nat → Prop) (gO L cO n c : Nat) (A : Option Addr) (f g : Nat → Bool) (hL : L = n + 1) (hn : n ≤ 120) (hB : Below w.heap.size w ws) (hO : LR Kd.bool 4 ws w.heap.size PO (.slice (some ⟨gO, 0, none⟩) L cO) (rowOf n f)) (hR : LN Kd.bool 4 ws w.heap.size PR (.slice A L c) (rowOf n g)) (hD : ∀ k, PR k → ¬ PO k) :
    Calls Try.prog 53 #[.slice (some ⟨gO, 0, none⟩) L cO, .slice A L c] ws (im_join.Post w ws PO gO L cO n (fun j => f j || g j)) := by
  obtain ⟨e1, e2, _⟩ := Kd.V_reads' hR.1
  have hC : ∀ W_, Kept ws W_ (fun k_ => PO k_) → Kd.C Kd.bool W_ A (rowOf n g).length (rowOf n g) := fun W_ hk => (Kd.V_reads' (Kd.V_kept hR.1 hk hD)).2.2
  have h := impl_join.calls (n + 2) PO (.slice (some ⟨gO, 0, none⟩) L cO) (rowOf n f) A c (rowOf n g) _ w ws hB hO.1 hC (by omega) (join_row n f g (by omega))
  rw [← e1] at h
  refine h.mono ?_
  rintro e w' ⟨rfl, h1, h2, h3⟩
  refine ⟨rfl, ⟨Kd.R_mono (Kd.R_tight rfl h1) (fun k hk => hO.1.1 k hk.symm), fun k hk => Nat.lt_of_lt_of_le (hO.2 k hk) h3.1⟩, h2, h3⟩
theorem at_NAF {W : World} {base : Nat} {P : Nat → Prop} {A : Option Addr} {n c : Nat} {xs : List (S31 × List Int)} (H : LN kNA 76 W base P (.slice A n c) xs) (i : Nat) (q : S31 × List Int) (hp : xs[i]? = some q) : ∃ ad A4 c4 A5 c5, A = some ad ∧ W.cell? (ad.add (i * 6)) = some (.int .i64 q.1.f0) ∧ W.cell? ⟨(ad.add (i * 6)).block, (ad.add (i * 6)).off + 1, none⟩ = some (.int .i64 q.1.f1) ∧ W.cell? ⟨(ad.add (i * 6)).block, (ad.add (i * 6)).off + 2, none⟩ = some (.int .i64 q.1.f2) ∧ W.cell? ⟨(ad.add (i * 6)).block, (ad.add (i * 6)).off + 3, none⟩ = some (.string q.1.f3) ∧ W.cell? ⟨(ad.add (i * 6)).block, (ad.add (i * 6)).off + 4, none⟩ = some (.slice A4 q.1.f4.length c4) ∧ W.cell? ⟨(ad.add (i * 6)).block, (ad.add (i * 6)).off + 5, none⟩ = some (.slice A5 q.2.length c5) ∧ LN (Kd.int .i64) 3 W base P (.slice A5 q.2.length c5) q.2 ∧ i < n := by
  have hn := (Kd.V_at H.1).1
  have hlt : i < xs.length := (List.getElem?_eq_some_iff.1 hp).1
  obtain ⟨ad, c, e, _, hK, hc0, _⟩ := Kd.F_get (Kd.V_F H.1) ((z31, []) : S31 × List Int) (i : Int) (by omega) (by omega)
  rw [Int.toNat_natCast, List.getD_eq_getElem?_getD, hp] at hK
  have hc : ∀ j u, c[j]? = some u → W.cell? (ad.add (i * 6 + j)) = some u := hc0
  obtain ⟨A4, c4, A5, c5, rfl, h4, hC4, h5, hC5⟩ := kNA_openF hK
  exact ⟨ad, A4, c4, A5, c5, e, hc 0 _ rfl, by rw [← add_field _ _ 1 (by omega)]; exact hc 1 _ rfl, by rw [← add_field _ _ 2 (by omega)]; exact hc 2 _ rfl, by rw [← add_field _ _ 3 (by omega)]; exact hc 3 _ rfl, by rw [← add_field _ _ 4 (by omega)]; exact hc 4 _ rfl, by rw [← add_field _ _ 5 (by omega)]; exact hc 5 _ rfl, ⟨⟨A5, c5, rfl, h5, hC5⟩, H.2⟩, by omega⟩
end
end Go.Proofs.Ytlpabbcgichaoaa.PFnExactFind
end
section
namespace Go.Proofs.Ytlpabbcgichaoaa.PFnExactFind
open Go.RowKit Go.Proofs.Ytlpabbcgichaoaa.Lawful Go.Proofs.YtlpabbcgichaoaaW.PrintWords Go.Proofs.YtlpabbcgichaoaaW.PrintLast Go.Proofs.YtlpabbcgichaoaaW.PrintMore
attribute [local go_sem] max2_int min2_int max_two min_two max_three min_three max_four min_four
set_option maxHeartbeats 16000000
set_option maxRecDepth 100000
set_option linter.unusedVariables false
set_option linter.unusedSimpArgs false
section
open Go.Proofs.Ytlpabbcgichaoaa.Lawful
def LMap (W : World) (P : Nat → Prop) (g : Nat) (c : Nat) : Prop := (∀ k, P k ↔ k = g) ∧ W.heap[g]? = some (.map #[] c) ∧ ∀ k, P k → k < W.heap.size
theorem LMap.lt {W : World} {P : Nat → Prop} {g c : Nat} (h : LMap W P g c) : ∀ k, P k → k < W.heap.size := h.2.2
theorem LMap.step {W W' : World} {P S : Nat → Prop} {g c : Nat} (h : LMap W P g c) (hk : Kept W W' S) (hS : ∀ k, P k → ¬ S k) : LMap W' P g c :=
 ⟨h.1, (hk.2 g (h.2.2 g ((h.1 g).2 rfl)) (hS g ((h.1 g).2 rfl))).trans h.2.1, fun k hp => Nat.lt_of_lt_of_le (h.2.2 k hp) hk.1⟩
theorem k31_heap {w w' : World} (hw : ∀ k, k < w.heap.size → w'.heap[k]? = w.heap[k]?) : ∀ (N : Nat), (∀ (x : S31) (cs : List Value), SizeOf.sizeOf x ≤ N → k31.K w x cs → k31.K w' x cs) ∧ (∀ (l : List S31) (A : Option Addr) (n : Nat), SizeOf.sizeOf l ≤ N → k31.C w A n l → k31.C w' A n l) := by
 intro N
 induction N with
 | zero =>
  refine ⟨fun x cs hx => ?_, fun l A n hl => ?_⟩
  ·
   cases x; simp at hx
  cases l <;> simp at hl
 | succ N ih =>
  refine ⟨fun x cs hx h => ?_, fun l A n hl h => ?_⟩
  ·
   obtain ⟨A4, c4, rfl, h4, hC⟩ := k31_open h
   exact k31_mk w' x h4 (ih.2 x.f4 A4 _ (by cases x; simp at hx ⊢; omega) hC)
  obtain ⟨h1, h2, h3⟩ := h
  refine ⟨h1, h2, fun hp => ?_⟩
  obtain ⟨ad, e, h4⟩ := h3 hp
  refine ⟨ad, e, fun j p hj => ?_⟩
  obtain ⟨c, a1, a2, a3⟩ := h4 j p hj
  refine ⟨c, a1, ih.1 p c (by have := List.sizeOf_lt_of_mem (List.mem_of_getElem? hj); omega) a2, fun q u hu => ?_⟩
  have h5 := a3 q u hu
  have hlt := World.block_lt_of_cell? w _ h5
  unfold World.cell? at h5 ⊢
  rw [hw _ hlt]
  exact h5
theorem k31_F {w : World} {A : Option Addr} {n : Nat} {l : List S31} (h : k31.C w A n l) : Kd.F k31 w (fun k => k < w.heap.size) A n l := fun W' hW => (k31_heap (fun k hk => hW k hk hk) _).2 l A n (Nat.le_refl _) h
@[reducible] def imMade (E : imE) (w w' ws : World) (x : S31) (T : ByteArray) : Prop := E.Ok w ∧ E.T = T ∧ E.ns = ad x [] ∧ (∃ PE, E.At w w' PE (.slice none 0 0)) ∧ Kept ws w' (fun _ => False) ∧ w.heap.size ≤ E.gG ∧ ∀ k, E.PG k → ¬ E.PN k
theorem imMap_event {P : Program} {ops : Array Oper} {Q : Exit → Act → World → Prop} {rest : List Oper} {oi : Oper} {a : Act} {W : World} {N : Tmp} (hgd : oi.guard = none) (_hd : oi.dst = some N)
  (hrun : (execOp a.eval oi).run P W = .ok (.value (.map (some W.heap.size))) (W.alloc (.map #[] 0)))
  (h : ∀ g, g = W.heap.size → ∀ w1, w1.heap[g]? = some (.map #[] 0) → Below W.heap.size W w1 → wpList P ops Q rest (a.put oi.dst (.map (some g))) w1) : wpList P ops Q (oi :: rest) a W :=
 Kd.event_run hgd hrun (h _ rfl _ (blk_new W _) (below_alloc (Below.refl _ _) _))
theorem LMap.fresh {w w' : World} {g c : Nat} (hg : g = w.heap.size) (h : w'.heap[g]? = some (.map #[] c)) : ∃ P, (∀ k, P k → w.heap.size ≤ k ∧ True) ∧ LMap w' P g c :=
 ⟨fun k => k = g, fun k hk => ⟨by omega, trivial⟩, fun k => Iff.rfl, h, fun k hk => by rw [hk]; exact blk_lt h⟩
theorem Kept.thenB {w ws W W2 : World} {S : Nat → Prop} (h : Kept ws W (fun _ => False)) (h2 : Kept W W2 S) (hS : ∀ k, k < ws.heap.size → S k → k < w.heap.size) (hb0 : Below w.heap.size w ws) (hb2 : Below w.heap.size w W2) : Kept ws W2 (fun _ => False) :=
 ⟨Nat.le_trans h.1 h2.1, fun k hk _ => by
  by_cases c : S k
  ·
   exact (hb2.block k (hS k hk c)).trans (hb0.block k (hS k hk c)).symm
  exact (h2.2 k (Nat.lt_of_lt_of_le hk h.1) c).trans (h.2 k hk (fun h => h))⟩
theorem impl_new (w ws : World) (x : S31) (T : ByteArray) (A4 : Option Addr) (c4 : Nat) (hB : Below w.heap.size w ws) (hr : Kd.C k31 w A4 x.f4.length x.f4) (hc : x.f4.length ≤ c4) (hw : rxW x) (hn : cnt x ≤ 2000) (hs : rxT x) (hT : T.size ≤ 120) :
  Calls Try.prog 30 #[.agg #[.int .i64 x.f0, .int .i64 x.f1, .int .i64 x.f2, .string x.f3, .slice A4 x.f4.length c4], .string T] ws fun e w' => ∃ E : imE, e = .returned (.pointer (some ⟨E.gG, 0, none⟩)) ∧ imMade E w w' ws x T := by
 have hu := Try.underlying74
 have hu2 := Try.underlying76
 have hu3 := Try.underlying31
 have LM_ := (fun (PG : Nat → Prop) (gG : Nat) (VE VR VG : Value) (ws' : World) h => impl_add w PG (fun k => k < w.heap.size) gG T VE VR VG (fun _ h => h) _ x (Nat.le_refl _) ws' (fun k => k < w.heap.size) none 0 [] A4 c4 (k31_F hr) hc (by simp; omega) h)
 have hall := (ad_all (P := fun y => rxW y ∧ rxT y ∧ cnt y < 1099511627776) (fun k a m s l h y hy => ⟨rxWL_mem l (by have h1 := h.1; rw [rxW] at h1; exact h1.2.2.2.2.2.2) y hy, rxTL_mem l (by have h1 := h.2.1; rw [rxT] at h1; exact h1.2) y hy, by have h1 := h.2.2; rw [cnt] at h1; have := cntL_mem l y hy; omega⟩) _).1 x (Nat.le_refl _) ⟨hw, hs, by omega⟩ [] (fun v hv => by simp at hv)
 have hlen := (ad_len _).1 x (Nat.le_refl _) []
 obtain ⟨n1, hq⟩ : ∃ q : List (S31 × List Int), q = ad x [] := ⟨_, rfl⟩
 rw [← hq] at LM_ hall hlen
 have HLM := am LM_
 have HALL := am hall
 have HLEN := am (show n1.length ≤ 2000 by rw [hlen]; simpa using hn)
 have HQ := am hq
 have HNA := am (ad_na x)
 have HT := am hT
 have HB := am hB
 have HB0 := am hB
 have HK := am (Kept.refl ws (fun _ => False))
 clear LM_ hall hlen hn hw hs hr hc hT hB
 obtain ⟨f0, f1, f2, f3, l⟩ := x
 dsimp only at HLM
 go_enter Try.func30, Try.ntmps30
 go_wp2_with (first | ((with_reducible refine gd 2 rfl ?_); refine box_event ?hg_1 (N := 2) ?hd_1 (cs := #[.int .i64 f0, .int .i64 f1, .int .i64 f2, .string f3, .slice A4 l.length c4]) (t := 31) ?hr_1 ?_; (case hd_1 => rfl); (case hg_1 => rfl); (case hr_1 => first | (go_simp; done) | (go_simp; rfl)); intro gX1 hg w2 hbox hb; have hk := kept_below hb; obtain ⟨PX1, hPX1, HLX1⟩ := LB.fresh hg hbox; have HX1 := am HLX1; clear HLX1; have GEX1 := ge_ hg HB; have RRX1 := am (show ∀ k_, PX1 k_ → (fun _ => False) k_ ∨ ws.heap.size ≤ k_ from fun k_ h_ => .inr (Nat.le_trans HK.out.1 (hPX1 k_ h_).1)); replace HK := kt HK hk; replace HB := bs HB hb; clear hb hk hbox hg hPX1; (try clear hxX1_0 hfX1_0 hxX1_1 hfX1_1 hxX1_2 hfX1_2 hxX1_3 hfX1_3 hxX1_4 hfX1_4); obtain ⟨hxX1_0, hfX1_0, hxX1_1, hfX1_1, hxX1_2, hfX1_2, hxX1_3, hfX1_3, hxX1_4, hfX1_4⟩ := HX1.out.c5) | ((with_reducible refine gd 7 rfl ?_); refine imMap_event (N := 7) ?hg_2 rfl ?hr_2 ?_; (case hg_2 => rfl); (case hr_2 => first | (go_simp; done) | (go_simp; rfl)); intro gME hg w2 hbox hb; have hk := kept_below hb; obtain ⟨PME, hPME, HLME⟩ := LMap.fresh hg hbox; have HME := am HLME; clear HLME; have GEME := ge_ hg HB; have D_X1_ME := nl hPME HX1.out.lt; have RRME := am (show ∀ k_, PME k_ → (fun _ => False) k_ ∨ ws.heap.size ≤ k_ from fun k_ h_ => .inr (Nat.le_trans HK.out.1 (hPME k_ h_).1)); replace HX1 := am (HX1.out.step hk no_S); replace HK := kt HK hk; replace HB := bs HB hb; clear hb hk hbox hg hPME; (try clear hxX1_0 hfX1_0 hxX1_1 hfX1_1 hxX1_2 hfX1_2 hxX1_3 hfX1_3 hxX1_4 hfX1_4); obtain ⟨hxX1_0, hfX1_0, hxX1_1, hfX1_1, hxX1_2, hfX1_2, hxX1_3, hfX1_3, hxX1_4, hfX1_4⟩ := HX1.out.c5) | ((with_reducible refine gd 8 rfl ?_); refine imMap_event (N := 8) ?hg_3 rfl ?hr_3 ?_; (case hg_3 => rfl); (case hr_3 => first | (go_simp; done) | (go_simp; rfl)); intro gMR hg w2 hbox hb; have hk := kept_below hb; obtain ⟨PMR, hPMR, HLMR⟩ := LMap.fresh hg hbox; have HMR := am HLMR; clear HLMR; have GEMR := ge_ hg HB; have D_X1_MR := nl hPMR HX1.out.lt; have D_ME_MR := nl hPMR HME.out.lt; have RRMR := am (show ∀ k_, PMR k_ → (fun _ => False) k_ ∨ ws.heap.size ≤ k_ from fun k_ h_ => .inr (Nat.le_trans HK.out.1 (hPMR k_ h_).1)); replace HX1 := am (HX1.out.step hk no_S); replace HME := am (HME.out.step hk no_S); replace HK := kt HK hk; replace HB := bs HB hb; clear hb hk hbox hg hPMR; (try clear hxX1_0 hfX1_0 hxX1_1 hfX1_1 hxX1_2 hfX1_2 hxX1_3 hfX1_3 hxX1_4 hfX1_4); obtain ⟨hxX1_0, hfX1_0, hxX1_1, hfX1_1, hxX1_2, hfX1_2, hxX1_3, hfX1_3, hxX1_4, hfX1_4⟩ := HX1.out.c5) | ((with_reducible refine gd 10 rfl ?_); refine box_event ?hg_4 (N := 10) ?hd_4 (cs := #[.string T, .slice none 0 0, .map (some gME), .map (some gMR), .slice none 0 0]) (t := 74) ?hr_4 ?_; (case hd_4 => rfl); (case hg_4 => rfl); (case hr_4 => first | (go_simp; done) | (go_simp; rfl)); intro gX2 hg w2 hbox hb; have hk := kept_below hb; obtain ⟨PX2, hPX2, HLX2⟩ := LB.fresh hg hbox; have HX2 := am HLX2; clear HLX2; have GEX2 := ge_ hg HB; have D_X1_X2 := nl hPX2 HX1.out.lt; have D_ME_X2 := nl hPX2 HME.out.lt; have D_MR_X2 := nl hPX2 HMR.out.lt; have RRX2 := am (show ∀ k_, PX2 k_ → (fun _ => False) k_ ∨ ws.heap.size ≤ k_ from fun k_ h_ => .inr (Nat.le_trans HK.out.1 (hPX2 k_ h_).1)); replace HX1 := am (HX1.out.step hk no_S); replace HME := am (HME.out.step hk no_S); replace HMR := am (HMR.out.step hk no_S); replace HK := kt HK hk; replace HB := bs HB hb; clear hb hk hbox hg hPX2; (try clear hxX1_0 hfX1_0 hxX1_1 hfX1_1 hxX1_2 hfX1_2 hxX1_3 hfX1_3 hxX1_4 hfX1_4); obtain ⟨hxX1_0, hfX1_0, hxX1_1, hfX1_1, hxX1_2, hfX1_2, hxX1_3, hfX1_3, hxX1_4, hfX1_4⟩ := HX1.out.c5; (try clear hxX2_0 hfX2_0 hxX2_1 hfX2_1 hxX2_2 hfX2_2 hxX2_3 hfX2_3 hxX2_4 hfX2_4); obtain ⟨hxX2_0, hfX2_0, hxX2_1, hfX2_1, hxX2_2, hfX2_2, hxX2_3, hfX2_3, hxX2_4, hfX2_4⟩ := HX2.out.c5) | ((with_reducible refine gc 44 rfl ?_); refine goesL_ (some 13) rfl rfl Try.func44 (by kernel_rfl) rfl #[.pointer (some ⟨gX2, 0, none⟩), .agg #[.int .i64 f0, .int .i64 f1, .int .i64 f2, .string f3, .slice A4 l.length c4]] rfl (by (try simp only [List.map_toArray, List.map_cons, List.map_nil]); first | done | rfl) ?_; have hat_ := (show imB w _ PX2 (fun k => k < w.heap.size) gX2 none 0 T (.map (some gME)) (.map (some gMR)) (.slice none 0 0) [] from ⟨HB.out, HX2.out, ⟨Kd.N_nil _ _ _ _ _, fun k hk => Nat.lt_of_lt_of_le hk HB.out.size⟩, fun k h1 h2 => by have h3 := (HX2.out.1 k).1 h1; have h4 := GEX2.out; omega, GEX2.out, fun _ h => h⟩); (with_reducible refine (HLM.out _ _ _ _ _ _ hat_).mono ?_); rintro e w2 ⟨BN, DN, PN, rfl, ⟨hb_, hg_, hn_, hd_, hge_, hold_⟩, hrr_, hkk_⟩; refine ⟨_, rfl, ?_⟩; clear hat_; have D_ME_N := am (apart_app hrr_ HME.out.lt (apart_or D_ME_X2.out (fun k h1 h2 => by have h3 := (HME.out.1 k).1 h1; have h4 := GEME.out; omega))); replace HME := am (HME.out.step hkk_ (apart_or D_ME_X2.out (fun k h1 h2 => by have h3 := (HME.out.1 k).1 h1; have h4 := GEME.out; omega))); have D_MR_N := am (apart_app hrr_ HMR.out.lt (apart_or D_MR_X2.out (fun k h1 h2 => by have h3 := (HMR.out.1 k).1 h1; have h4 := GEMR.out; omega))); replace HMR := am (HMR.out.step hkk_ (apart_or D_MR_X2.out (fun k h1 h2 => by have h3 := (HMR.out.1 k).1 h1; have h4 := GEMR.out; omega))); replace HK := am (Kept.thenB HK.out hkk_ (fun k h1 h2 => h2.elim (fun h3 => absurd h1 (by have := (RRX2.out k h3).resolve_left (fun h => h); omega)) id) HB0.out hb_); replace HB := am hb_; replace HX2 := am hg_; have HN := am hn_; have D_X2_N := am hd_; clear hb_ hg_ hn_ hd_ hge_ hold_ hrr_ hkk_ HX1))
 go_ret
 have hgm : gME ≠ gMR := fun e => D_ME_MR.out gME ((HME.out.1 gME).2 rfl) ((HMR.out.1 gME).2 e)
 have hpe : ∀ k, PN k → k ≠ gME ∧ k ≠ gMR := fun k h => ⟨fun e => D_ME_N.out k ((HME.out.1 k).2 e) h, fun e => D_MR_N.out k ((HMR.out.1 k).2 e) h⟩
 refine ⟨⟨PX2, PN, gX2, gME, gMR, BN, DN, T, T.size + 1, n1⟩, rfl, ⟨hgm, rfl, HT.out, GEME.out, GEMR.out, by have := HLEN.out; show n1.length < _; omega, fun k => by show naAt n1 k; rw [HQ.out]; exact HNA.out k, fun k y ks h => HALL.out (y, ks) (List.mem_of_getElem? h)⟩, rfl, HQ.out, ⟨fun k => k = gME ∨ k = gMR, HB.out, HX2.out, HN.out.toLN, ⟨⟨.inl rfl, .inr rfl⟩, fun k h => h.elim (fun e => HME.out.lt k ((HME.out.1 k).2 e)) (fun e => HMR.out.lt k ((HMR.out.1 k).2 e)), ⟨#[], _, HME.out.2.1, fun y hy => by simp at hy⟩, ⟨#[], _, HMR.out.2.1, fun y hy => by simp at hy⟩⟩, fun k h1 h2 => h2.elim (fun e => D_ME_X2.out k ((HME.out.1 k).2 e) h1) (fun e => D_MR_X2.out k ((HMR.out.1 k).2 e) h1), fun k h1 h2 => h2.elim (hpe k h1).1 (hpe k h1).2⟩, HK.out, GEX2.out, D_X2_N.out⟩
end
end Go.Proofs.Ytlpabbcgichaoaa.PFnExactFind
end
