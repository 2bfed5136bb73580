/- The program's matcher: what a call of it leaves. -/
import Derived.Test.YtlpabbcgichaoaaImSFnExactFind
import Derived.Deep.QuietTactic
import Derived.BigQuiet
import Derived.StillTailTactics
import Derived.Outline
import Derived.Deep.RegionHeld3
import Derived.Deep.Cut
import Derived.Test.YtlpabbcgichaoaaHw
namespace Go.Proofs.Ytlpabbcgichaoaa.PFnExactFind
open Go.RowKit Go.Proofs.Ytlpabbcgichaoaa.Lawful Go.Proofs.YtlpabbcgichaoaaW.PrintWords Go.Proofs.YtlpabbcgichaoaaW.PrintLast Go.Proofs.YtlpabbcgichaoaaW.PrintMore
attribute [local go_sem] max2_int min2_int max_two min_two max_three min_three max_four min_four   -- for this text's walks alone
set_option linter.unusedVariables false
set_option linter.unusedSimpArgs false
section
open Go.Proofs.Ytlpabbcgichaoaa.Lawful
@[reducible] def imE.At (E : imE) (w ws : World) (PE : Nat → Prop) (VG : Value) : Prop :=
  Below w.heap.size w ws ∧ LB ws E.PG E.gG 74 #[.string E.T, .slice E.BN E.ns.length E.DN, .map (some E.gE), .map (some E.gR), VG] ∧ LN kNA 76 ws w.heap.size E.PN (.slice E.BN E.ns.length E.DN) E.ns ∧ imK E ws PE ∧ (∀ k, E.PG k → ¬ PE k) ∧ (∀ k, E.PN k → ¬ PE k)
def imE.Ok (E : imE) (w : World) : Prop := E.gE ≠ E.gR ∧ E.L = E.T.size + 1 ∧ E.T.size ≤ 120 ∧ w.heap.size ≤ E.gE ∧ w.heap.size ≤ E.gR ∧ E.ns.length < 1099511627776 ∧ (∀ k, naAt E.ns k) ∧ (∀ (k : Nat) (x : S31) (ks : List Int), E.ns[k]? = some (x, ks) → rxW x ∧ rxT x ∧ cnt x < 1099511627776)
@[reducible] def imE.Post (E : imE) (w ws : World) (PE : Nat → Prop) (VG : Value) (l : List Bool) (e : Ending) (w' : World) : Prop :=
  ∃ (PE' : Nat → Prop) (A : Option Addr) (c : Nat), e = .returned (.slice A E.L c) ∧ E.At w w' PE' VG ∧ E.L ≤ c ∧ Kd.F Kd.bool w' (fun k => PE' k ∧ k ≠ E.gE ∧ k ≠ E.gR) A E.L l ∧ (∀ k, PE k → PE' k) ∧ (∀ k, PE' k → PE k ∨ ws.heap.size ≤ k) ∧ Kept ws w' (fun k => k = E.gE ∨ k = E.gR)
def imE.From (E : imE) (w : World) (VG : Value) (x : S31) : Prop := ∀ (node : Nat) (ks : List Int) (i : Nat) (ws : World) (PE : Nat → Prop), E.ns[node]? = some (x, ks) → i ≤ E.T.size → E.At w ws PE VG →
  Calls Try.prog 38 #[.pointer (some ⟨E.gG, 0, none⟩), .int .i64 (node : Int), .int .i64 (i : Int)] ws (E.Post w ws PE VG (imRow E.T x i))
theorem imNotK {P PE : Nat → Prop} {gE gR : Nat} (h : ∀ k, P k → ¬ PE k) (he : PE gE ∧ PE gR) : ∀ k, P k → ¬ (k = gE ∨ k = gR) := fun k hk h2 => by
  rcases h2 with h2 | h2
  · exact h k hk (h2 ▸ he.1)
  · exact h k hk (h2 ▸ he.2)
theorem imLN {W : World} {base : Nat} {P : Nat → Prop} {A : Option Addr} {L c : Nat} {l : List Bool} (hl : l.length = L) (hc : L ≤ c) (hF : Kd.F Kd.bool W P A L l) (hlt : ∀ k, P k → k < W.heap.size) : LN Kd.bool 4 W base P (.slice A L c) l := by
  subst hl
  exact ⟨⟨A, c, rfl, hc, hF⟩, hlt⟩
theorem im_atN {W : World} {base : Nat} {P : Nat → Prop} {A : Option Addr} {n c : Nat} {l : List Bool} (H : LN Kd.bool 4 W base P (.slice A n c) l) (j : Nat) (hj : j < n) : ∃ ad, A = some ad ∧ W.cell? (ad.add j) = some (.bool (l.getD j false)) := by
  obtain ⟨hn, _, hC⟩ := Kd.V_reads' H.1
  obtain ⟨ad, c, e, hcl, hK, hc0⟩ := Kd.C_get hC false (j : Int) (by omega) (by omega)
  have hc : ∀ q u, c[q]? = some u → W.cell? (ad.add ((j : Int).toNat * 1 + q)) = some u := hc0
  rw [Int.toNat_natCast] at hK hc
  obtain rfl : c = [.bool (l.getD j false)] := hK
  exact ⟨ad, e, by have := hc 0 _ rfl; rwa [Nat.mul_one, Nat.add_zero] at this⟩
theorem im_atI {W : World} {base : Nat} {P : Nat → Prop} {A : Option Addr} {n c : Nat} {l : List Int} (H : LN (Kd.int .i64) 3 W base P (.slice A n c) l) (j : Nat) (hj : j < n) {v : Int} (hv : l[j]? = some v) : ∃ ad, A = some ad ∧ W.cell? (ad.add j) = some (.int .i64 v) := by
  obtain ⟨hn, _, hC⟩ := Kd.V_reads' H.1
  obtain ⟨ad, c, e, hcl, hK, hc0⟩ := Kd.C_get hC (0 : Int) (j : Int) (by omega) (by omega)
  have hc : ∀ q u, c[q]? = some u → W.cell? (ad.add ((j : Int).toNat * 1 + q)) = some u := hc0
  rw [Int.toNat_natCast] at hK hc
  rw [List.getD_eq_getElem?_getD, hv] at hK
  obtain rfl : c = [.int .i64 v] := hK
  exact ⟨ad, e, by have := hc 0 _ rfl; rwa [Nat.mul_one, Nat.add_zero] at this⟩
theorem rowOf_getD (n : Nat) (f : Nat → Bool) (j : Nat) (h : j ≤ n) : (rowOf n f).getD j false = f j := by rw [List.getD_eq_getElem?_getD, rowOf_at n f j h]; rfl
@[reducible] def im_join.Post (w ws : World) (PO : Nat → Prop) (gO L cO n : Nat) (f : Nat → Bool) (e : Ending) (w' : World) : Prop := e = .returned (.tuple #[]) ∧ LR Kd.bool 4 w' w.heap.size PO (.slice (some ⟨gO, 0, none⟩) L cO) (rowOf n f) ∧ Below w.heap.size w w' ∧ Kept ws w' PO
theorem im_join (w ws : World) (PO PR : Nat → Prop) (gO L cO n c : Nat) (A : Option Addr) (f g : Nat → Bool) (hL : L = n + 1) (hn : n ≤ 120) (hB : Below w.heap.size w ws) (hO : LR Kd.bool 4 ws w.heap.size PO (.slice (some ⟨gO, 0, none⟩) L cO) (rowOf n f)) (hR : LN Kd.bool 4 ws w.heap.size PR (.slice A L c) (rowOf n g)) (hD : ∀ k, PR k → ¬ PO k) :
    Calls Try.prog 53 #[.slice (some ⟨gO, 0, none⟩) L cO, .slice A L c] ws (im_join.Post w ws PO gO L cO n (fun j => f j || g j)) := by
  obtain ⟨e1, e2, _⟩ := Kd.V_reads' hR.1
  have hC : ∀ W_, Kept ws W_ (fun k_ => PO k_) → Kd.C Kd.bool W_ A (rowOf n g).length (rowOf n g) := fun W_ hk => (Kd.V_reads' (Kd.V_kept hR.1 hk hD)).2.2
  have h := impl_join.calls (n + 2) PO (.slice (some ⟨gO, 0, none⟩) L cO) (rowOf n f) A c (rowOf n g) _ w ws hB hO.1 hC (by omega) (join_row n f g (by omega))
  rw [← e1] at h
  refine h.mono ?_
  rintro e w' ⟨rfl, h1, h2, h3⟩
  refine ⟨rfl, ⟨Kd.R_mono (Kd.R_tight rfl h1) (fun k hk => hO.1.1 k hk.symm), fun k hk => Nat.lt_of_lt_of_le (hO.2 k hk) h3.1⟩, h2, h3⟩
theorem at_NAF {W : World} {base : Nat} {P : Nat → Prop} {A : Option Addr} {n c : Nat} {xs : List (S31 × List Int)} (H : LN kNA 76 W base P (.slice A n c) xs) (i : Nat) (q : S31 × List Int) (hp : xs[i]? = some q) : ∃ ad A4 c4 A5 c5, A = some ad ∧ W.cell? (ad.add (i * 6)) = some (.int .i64 q.1.f0) ∧ W.cell? ⟨(ad.add (i * 6)).block, (ad.add (i * 6)).off + 1, none⟩ = some (.int .i64 q.1.f1) ∧ W.cell? ⟨(ad.add (i * 6)).block, (ad.add (i * 6)).off + 2, none⟩ = some (.int .i64 q.1.f2) ∧ W.cell? ⟨(ad.add (i * 6)).block, (ad.add (i * 6)).off + 3, none⟩ = some (.string q.1.f3) ∧ W.cell? ⟨(ad.add (i * 6)).block, (ad.add (i * 6)).off + 4, none⟩ = some (.slice A4 q.1.f4.length c4) ∧ W.cell? ⟨(ad.add (i * 6)).block, (ad.add (i * 6)).off + 5, none⟩ = some (.slice A5 q.2.length c5) ∧ LN (Kd.int .i64) 3 W base P (.slice A5 q.2.length c5) q.2 ∧ i < n := by
  have hn := (Kd.V_at H.1).1
  have hlt : i < xs.length := (List.getElem?_eq_some_iff.1 hp).1
  obtain ⟨ad, c, e, _, hK, hc0, _⟩ := Kd.F_get (Kd.V_F H.1) ((z31, []) : S31 × List Int) (i : Int) (by omega) (by omega)
  rw [Int.toNat_natCast, List.getD_eq_getElem?_getD, hp] at hK
  have hc : ∀ j u, c[j]? = some u → W.cell? (ad.add (i * 6 + j)) = some u := hc0
  obtain ⟨A4, c4, A5, c5, rfl, h4, hC4, h5, hC5⟩ := kNA_openF hK
  exact ⟨ad, A4, c4, A5, c5, e, hc 0 _ rfl, by rw [← add_field _ _ 1 (by omega)]; exact hc 1 _ rfl, by rw [← add_field _ _ 2 (by omega)]; exact hc 2 _ rfl, by rw [← add_field _ _ 3 (by omega)]; exact hc 3 _ rfl, by rw [← add_field _ _ 4 (by omega)]; exact hc 4 _ rfl, by rw [← add_field _ _ 5 (by omega)]; exact hc 5 _ rfl, ⟨⟨A5, c5, rfl, h5, hC5⟩, H.2⟩, by omega⟩
end
end Go.Proofs.Ytlpabbcgichaoaa.PFnExactFind
