/- What a law's walk says of the memory that its calls have made: each value with the blocks that it lies in; a call that writes one value's blocks leaves the others. Words for the walks of this seat's laws; no conditions. -/
import Derived.Test.YtlpabbcgichaoaaWMore
import Derived.Test.YtlpabbcgichaoaaWApart
import Derived.Test.YtlpabbcgichaoaaWKept
import Derived.Test.YtlpabbcgichaoaaWN
namespace Go.Proofs.Ytlpabbcgichaoaa.Lawful
open Go.RowKit Go.Proofs.YtlpabbcgichaoaaW.PrintWords Go.Proofs.YtlpabbcgichaoaaW.PrintLast Go.Proofs.YtlpabbcgichaoaaW.PrintMore
set_option linter.unusedVariables false
section
variable {α : Type} {d : Kd α} {e base : Nat} {w w' w0 : World} {v : Value} {xs : List α} {S P ok : Nat → Prop}
def LR (d : Kd α) (e : Nat) (w : World) (base : Nat) (P : Nat → Prop) (v : Value) (xs : List α) : Prop := d.R e w base P v xs ∧ ∀ k, P k → k < w.heap.size
def LS (d : Kd α) (e : Nat) (w : World) (base : Nat) (P : Nat → Prop) (v : Value) (xs : List α) : Prop := Kd.S d e w base P v xs ∧ ∀ k, P k → k < w.heap.size
def LN (d : Kd α) (e : Nat) (w : World) (base : Nat) (P : Nat → Prop) (v : Value) (xs : List α) : Prop := Kd.V d e w base P v xs ∧ ∀ k, P k → k < w.heap.size
theorem LR.step (h : LR d e w base P v xs) (hk : Kept w w' S) (hS : ∀ k, P k → ¬ S k) : LR d e w' base P v xs :=
  ⟨Kd.R_kept h.1 hk hS, fun k hp => Nat.lt_of_lt_of_le (h.2 k hp) hk.1⟩
theorem LS.step (h : LS d e w base P v xs) (hk : Kept w w' S) (hS : ∀ k, P k → ¬ S k) : LS d e w' base P v xs :=
  ⟨Kd.S_kept h.1 hk hS, fun k hp => Nat.lt_of_lt_of_le (h.2 k hp) hk.1⟩
theorem LN.step (h : LN d e w base P v xs) (hk : Kept w w' S) (hS : ∀ k, P k → ¬ S k) : LN d e w' base P v xs :=
  ⟨Kd.V_kept h.1 hk hS, fun k hp => Nat.lt_of_lt_of_le (h.2 k hp) hk.1⟩
theorem LR.fresh (hE : d.E = []) (hB : Below w0.heap.size w0 w) (h : d.R e w' w.heap.size ok v xs) : ∃ P, (∀ k, P k → w.heap.size ≤ k ∧ some k = v.ownBlock ∧ ok k) ∧ LR d e w' w0.heap.size P v xs :=
  ⟨fun k => w.heap.size ≤ k ∧ (some k = v.ownBlock ∧ ok k) ∧ k < w'.heap.size, fun k hk => ⟨hk.1, hk.2.1⟩, Kd.R_lower (Kd.R_mono (Kd.R_bound (Kd.R_tight2 hE h)) (fun k hk => ⟨hk.2.1, hk.1, hk.2.2.1⟩)) hB.size, fun k hk => hk.2.2⟩
theorem LS.fresh (hB : Below w0.heap.size w0 w) (h : Kd.S d e w' w.heap.size ok v xs) : ∃ P, (∀ k, P k → w.heap.size ≤ k ∧ ok k) ∧ LS d e w' w0.heap.size P v xs :=
  ⟨fun k => w.heap.size ≤ k ∧ ok k ∧ k < w'.heap.size, fun k hk => ⟨hk.1, hk.2.1⟩, Kd.S_lower (Kd.S_mono (Kd.S_bound h) (fun k hk => ⟨hk.2.1, hk.1, hk.2.2.1⟩)) hB.size, fun k hk => hk.2.2⟩
theorem LN.fresh (hB : Below w0.heap.size w0 w) (h : Kd.N d e w' w.heap.size ok v xs) (hok : ∀ k, ok k → w.heap.size ≤ k) : ∃ P, (∀ k, P k → w.heap.size ≤ k ∧ ok k) ∧ LN d e w' w0.heap.size P v xs :=
  ⟨fun k => (ok k ∧ k < w'.heap.size), fun k hk => ⟨hok k hk.1, hk.1⟩, Kd.N_V (Kd.N_bound h), fun k hk => hk.2⟩
theorem LR.slice (h : LR d e w base P v xs) : ∃ A n c, n = xs.length ∧ v = .slice A n c := by
  obtain ⟨A, c, h⟩ := Kd.R_slice h.1
  exact ⟨A, _, c, rfl, h⟩
theorem LS.slice (h : LS d e w base P v xs) : ∃ A n c, n = xs.length ∧ v = .slice A n c := by
  obtain ⟨A, c, h⟩ := Kd.S_slice h.1
  exact ⟨A, _, c, rfl, h⟩
theorem LN.slice (h : LN d e w base P v xs) : ∃ A n c, n = xs.length ∧ v = .slice A n c := by
  obtain ⟨⟨A, c, rfl, _⟩, _⟩ := h
  exact ⟨A, _, c, rfl, rfl⟩
theorem LR.len {A : Option Addr} {n c : Nat} (h : LR d e w base P (.slice A n c) xs) : n = xs.length := (Kd.R_reads' h.1).1
theorem LS.len {A : Option Addr} {n c : Nat} (h : LS d e w base P (.slice A n c) xs) : n = xs.length := (Kd.S_reads' h.1).1
theorem LR.reads {A : Option Addr} {n c : Nat} (h : LR d e w base P (.slice A n c) xs) : d.C w A xs.length xs := (Kd.R_reads' h.1).2.2
theorem LS.reads {A : Option Addr} {n c : Nat} (h : LS d e w base P (.slice A n c) xs) : d.C w A xs.length xs := (Kd.S_reads' h.1).2.2
theorem LN.reads {A : Option Addr} {n c : Nat} (h : LN d e w base P (.slice A n c) xs) : d.C w A xs.length xs := (Kd.V_reads' h.1).2.2
theorem LR.room {A : Option Addr} {n c : Nat} (h : LR d e w base P (.slice A n c) xs) : xs.length ≤ c := by have := Kd.R_reads' h.1; omega
theorem LS.room {A : Option Addr} {n c : Nat} (h : LS d e w base P (.slice A n c) xs) : xs.length ≤ c := by have := Kd.S_reads' h.1; omega
theorem LN.room {A : Option Addr} {n c : Nat} (h : LN d e w base P (.slice A n c) xs) : xs.length ≤ c := by have := Kd.V_reads' h.1; omega
theorem LR.wrote {ys : List α} (h : LR d e w base P v xs) (h2 : d.R e w' base P v ys) (hk : Kept w w' S) : LR d e w' base P v ys := ⟨h2, fun k hp => Nat.lt_of_lt_of_le (h.2 k hp) hk.1⟩
theorem LS.wrote {ys : List α} (h : LS d e w base P v xs) (h2 : Kd.S d e w' base P v ys) (hk : Kept w w' S) : LS d e w' base P v ys := ⟨h2, fun k hp => Nat.lt_of_lt_of_le (h.2 k hp) hk.1⟩
def LB (w : World) (P : Nat → Prop) (g : Nat) (t : TypeId) (cs : Array Value) : Prop := (∀ k, P k ↔ k = g) ∧ w.heap[g]? = some (.cells cs t (0, 0)) ∧ ∀ k, P k → k < w.heap.size
theorem LB.step {g : Nat} {t : TypeId} {cs : Array Value} (h : LB w P g t cs) (hk : Kept w w' S) (hS : ∀ k, P k → ¬ S k) : LB w' P g t cs :=
  ⟨h.1, blk_kept h.2.1 hk (hS g ((h.1 g).2 rfl)), fun k hp => Nat.lt_of_lt_of_le (h.2.2 k hp) hk.1⟩
theorem LB.fresh {g : Nat} {t : TypeId} {cs : Array Value} (hg : g = w.heap.size) (h : w'.heap[g]? = some (.cells cs t (0, 0))) : ∃ P, (∀ k, P k → w.heap.size ≤ k ∧ True) ∧ LB w' P g t cs :=
  ⟨fun k => k = g, fun k hk => ⟨by omega, trivial⟩, fun k => Iff.rfl, h, fun k hk => by rw [hk]; exact blk_lt h⟩
theorem LR.lt (h : LR d e w base P v xs) : ∀ k, P k → k < w.heap.size := h.2
theorem LS.lt (h : LS d e w base P v xs) : ∀ k, P k → k < w.heap.size := h.2
theorem LN.lt (h : LN d e w base P v xs) : ∀ k, P k → k < w.heap.size := h.2
theorem LB.lt {g : Nat} {t : TypeId} {cs : Array Value} (h : LB w P g t cs) : ∀ k, P k → k < w.heap.size := h.2.2
theorem LB.cell {g : Nat} {t : TypeId} {cs : Array Value} (h : LB w P g t cs) (i : Nat) : w.cell? ⟨g, i, none⟩ = cs[i]? := blk_cell h.2.1 i
theorem LB.frozen {g : Nat} {t : TypeId} {cs : Array Value} (h : LB w P g t cs) (i : Nat) : w.frozen? ⟨g, i, none⟩ = false := blk_frozen h.2.1 i
theorem LB.put {g : Nat} {t : TypeId} {cs : Array Value} (h : LB w P g t cs) (i : Nat) (u : Value) : LB (w.setCell ⟨g, i, none⟩ u) P g t (cs.setIfInBounds i u) :=
  ⟨h.1, blk_set h.2.1 i u, fun k hp => by have := h.2.2 k hp; simpa [World.setCell] using this⟩
theorem LB.keeps {g : Nat} {t : TypeId} {cs : Array Value} (h : LB w P g t cs) {W : World} (hk : Kept W w P) (i : Nat) (u : Value) : Kept W (w.setCell ⟨g, i, none⟩ u) P := hk.setCell (.inl ((h.1 g).2 rfl)) u
theorem kept_drawn (h : Drawn0 w w') : Kept w w' (fun _ => False) := Kept.of_below h.below _
theorem kept_below (h : Below w.heap.size w w') : Kept w w' (fun _ => False) := Kept.of_below h _
theorem below_drawn (hB : Below w0.heap.size w0 w) (h : Drawn0 w w') : Below w0.heap.size w0 w' := below_step hB h.below
theorem kept_drew (h : w.drew = w') : Kept w w' (fun _ => False) := by subst h; exact (Kept.refl w _).drew
theorem below_drewd (hB : Below w0.heap.size w0 w) (h : w.drew = w') : Below w0.heap.size w0 w' := by subst h; exact below_drew1 hB
theorem no_S : ∀ k : Nat, P k → ¬ (fun _ : Nat => False) k := fun _ _ h => h
theorem new_apart {Q ok2 : Nat → Prop} (h : ∀ k, P k → k < w.heap.size) (h2 : ∀ k, Q k → w.heap.size ≤ k ∧ ok2 k) : ∀ k, P k → ¬ Q k := fun k hp hq => by
  have := h k hp
  have := (h2 k hq).1
  omega
theorem apart_symm {Q : Nat → Prop} (h : ∀ k, P k → ¬ Q k) : ∀ k, Q k → ¬ P k := fun k hq hp => h k hp hq
end
end Go.Proofs.Ytlpabbcgichaoaa.Lawful
