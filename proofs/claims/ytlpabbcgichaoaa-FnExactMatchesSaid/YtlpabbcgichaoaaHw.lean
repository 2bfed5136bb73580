/- Events (append, literals, stores) told of values each with the blocks that it lies in. Words for walks by hand; no conditions. -/
import Derived.Test.YtlpabbcgichaoaaLawful
namespace Go.Proofs.Ytlpabbcgichaoaa.Lawful
open Go.RowKit Go.Proofs.YtlpabbcgichaoaaW.PrintWords Go.Proofs.YtlpabbcgichaoaaW.PrintLast Go.Proofs.YtlpabbcgichaoaaW.PrintMore
set_option linter.unusedVariables false
section
variable {α : Type} {d : Kd α} {e base : Nat} {w w' w0 W w1 : World} {v : Value} {xs ys : List α} {S P P1 P2 Q2 ok okp : Nat → Prop}
theorem S_rows {A : Option Addr} {m c : Nat} (HO : Kd.S d e W base (fun k => ok k ∧ ¬ okp k) v xs) (HY : Kd.S d e W base okp (.slice A m c) ys) :
    ∃ f : Nat → Nat, (Kd.tag f d).R e W base ok v xs.zipIdx ∧ m = (ys.zipIdx xs.length).length ∧ ReadsRow (fun p cs => (Kd.tag f d).M W base (fun k => okp k ∧ some k ≠ v.ownBlock) p cs) d.sz W A m (ys.zipIdx xs.length) := by
  obtain ⟨f1, h1⟩ := HO
  obtain ⟨f2, h2⟩ := HY
  have hm := (Kd.R_reads' h2).1
  have hmax := (Kd.R_reads' h2).2.2.2.1
  rw [List.length_zipIdx] at hm hmax
  refine ⟨fun k => open Classical in if okp k then xs.length + f2 k else f1 k, Kd.R_mono (Kd.R_tag h1 (fun k hk _ => if_neg hk.2)) (fun k hk => hk.1), by rw [List.length_zipIdx]; exact hm, by rw [List.length_zipIdx]; exact hm.symm, by omega, fun hp => ?_⟩
  have hv : ∀ k, okp k → some k ≠ v.ownBlock := fun k hk he => (h1.1 k he.symm).2 hk
  cases A with
  | none =>
    obtain ⟨g, cap, he, _⟩ := Kd.R_form h2 (by rw [List.length_zipIdx]; omega)
    cases he
  | some ad =>
    refine ⟨ad, rfl, fun j p hj => ?_⟩
    rw [List.getElem?_zipIdx] at hj
    obtain ⟨y, hy, rfl⟩ := Option.map_eq_some_iff.1 hj
    have hjl : j < ys.length := (List.getElem?_eq_some_iff.1 hy).1
    obtain ⟨cs, hcl, hM, hc⟩ := Kd.R_getA h2 (y, j) (j : Int) (by omega) (by omega)
    simp only [Int.toNat_natCast] at hM hc
    have hg : ys.zipIdx.getD j (y, j) = (y, j) := by
      rw [List.getD_eq_getElem?_getD, List.getElem?_zipIdx, hy]
      simp
    rw [hg] at hM
    exact ⟨cs, hcl, d.M_mono (fun k hk => ⟨⟨hk.1.1, hv k hk.1.1⟩, (if_pos hk.1.1).trans (by have h3 := hk.2; simp only at h3; omega)⟩) hM, hc⟩
theorem zip_rows (xs ys : List α) : (xs ++ ys).zipIdx = xs.zipIdx ++ ys.zipIdx xs.length := by rw [List.zipIdx_append]; simp
end
section
variable {P : Program} {ops : Array Oper} {rest : List Oper} {o : Oper} {a : Act} {Q : Exit → Act → World → Prop} {Kc : Act → World → Prop} {α : Type} {d : Kd α} {e base : Nat} {w w' w0 W w1 : World} {v : Value} {xs ys : List α} {P1 P2 ok okp : Nat → Prop}
theorem LR.val {P : Nat → Prop} (h : LR d e w base P v xs) : ∃ A c, v = .slice A xs.length c := Kd.R_slice h.1
theorem LS.val {P : Nat → Prop} (h : LS d e w base P v xs) : ∃ A c, v = .slice A xs.length c := Kd.S_slice h.1
theorem LN.val {P : Nat → Prop} (h : LN d e w base P v xs) : ∃ A c, v = .slice A xs.length c := by
  obtain ⟨⟨A, c, rfl, _⟩, _⟩ := h
  exact ⟨A, c, rfl⟩
theorem LR.out {P : Nat → Prop} (h : LR d e w1 w0.heap.size P v xs) : d.R e w1 w0.heap.size (fun k_ => (w0.heap.size ≤ k_)) v xs := Kd.R_mono (Kd.R_bound h.1) (fun k hk => hk.2.1)
theorem LS.out {P P2 : Nat → Prop} {u : Value} (h : LS d e w1 w0.heap.size P v xs) (hu : ∀ k, u.ownBlock = some k → P2 k) (hD : ∀ k, P2 k → ¬ P k) : Kd.S d e w1 w0.heap.size (fun k_ => (w0.heap.size ≤ k_) ∧ some k_ ≠ u.ownBlock) v xs :=
  Kd.S_mono (Kd.S_bound h.1) (fun k hk => ⟨hk.2.1, fun he => hD k (hu k he.symm) hk.1⟩)
theorem LV.fresh {ok : Nat → Prop} (hB : Below w0.heap.size w0 w) (h : Kd.V d e w' w.heap.size ok v xs) (hok : ∀ k, ok k → w.heap.size ≤ k) : ∃ P, (∀ k, P k → w.heap.size ≤ k ∧ ok k) ∧ LN d e w' w0.heap.size P v xs :=
  ⟨fun k => (ok k ∧ k < w'.heap.size), fun k hk => ⟨hok k hk.1, hk.1⟩, Kd.V_bound h, fun k hk => hk.2⟩
theorem LR.of_app {v1 : Value} (h : d.R e w1 base (fun k => P1 k ∨ W.heap.size ≤ k) v1 xs) : ∃ R, (∀ k, R k → P1 k ∨ W.heap.size ≤ k) ∧ LR d e w1 base R v1 xs :=
  ⟨fun k => (P1 k ∨ W.heap.size ≤ k) ∧ k < w1.heap.size, fun k hk => hk.1, Kd.R_mono (Kd.R_bound h) (fun k hk => ⟨hk.1, hk.2.2.1⟩), fun k hk => hk.2⟩
theorem LS.of_app {v1 : Value} (h : Kd.S d e w1 base (fun k => P1 k ∨ W.heap.size ≤ k) v1 xs) : ∃ R, (∀ k, R k → P1 k ∨ W.heap.size ≤ k) ∧ LS d e w1 base R v1 xs :=
  ⟨fun k => (P1 k ∨ W.heap.size ≤ k) ∧ k < w1.heap.size, fun k hk => hk.1, Kd.S_mono (Kd.S_bound h) (fun k hk => ⟨hk.1, hk.2.2.1⟩), fun k hk => hk.2⟩
theorem kept_app (hg : W.grownBy w1 v.ownBlock) (hP : ∀ k, v.ownBlock = some k → P1 k) : Kept W w1 P1 := Kept.of_grown hg (Kept.refl W P1) (fun k hk => .inl (hP k hk))
theorem LS.append_rows_step (d : Kd α) (hw : Region.wanted o (yielded ops a.tmps) = true) (s x : Operand) (t e : TypeId) (z : Value) (bytes : Nat)
    (ho : o.op = .call { callee := .builtin .append, args := #[s, x], argTypes := #[t, t] })
    (ht : P.underlying t = some (.slice e)) (hinfo : (P.info? e).map (fun i => (i.zero, i.size, i.bytes)) = some (some z, d.sz, bytes)) (hz : z.cells.size = d.sz) (hs0 : 0 < d.sz) (hb0 : 0 < bytes)
    (v : Value) (xs ys : List α) (A : Option Addr) (m c : Nat) (hs : a.eval s = v) (hx : a.eval x = .slice A m c)
    (HO : LS d e W w0.heap.size P1 v xs) (HY : LS d e W w0.heap.size P2 (.slice A m c) ys) (hD : ∀ k, P1 k → ¬ P2 k)
    (HB : Below w0.heap.size w0 W) (hl : (xs.length + m) * bytes ≤ 140737488355328)
    (h : ∀ R v1 w1, LS d e w1 w0.heap.size R v1 (xs ++ ys) → Below w0.heap.size w0 w1 → Kept W w1 P1 → (∀ k, R k → (P1 k ∨ P2 k) ∨ W.heap.size ≤ k) → Kc (a.put o.dst v1) w1) :
    if Region.wanted o (yielded ops a.tmps) = true then Oper.wp P o a W Kc Q else Kc (a.put o.dst undef) W := by
  obtain ⟨f, hR, hml, hrr⟩ := S_rows (ok := fun k => (P1 k ∨ P2 k) ∨ W.heap.size ≤ k) (Kd.S_mono (ok' := fun k => ((P1 k ∨ P2 k) ∨ W.heap.size ≤ k) ∧ ¬ P2 k) HO.1 (fun k hk => ⟨.inl (.inl hk), hD k hk⟩)) HY.1
  refine Kd.R_append_rows_step (Kd.tag f d) w0.heap.size hw s x t e z bytes ho ht hinfo hz hs0 hb0 v xs.zipIdx (ys.zipIdx xs.length) A m c _ _ hs hx hR hrr (fun _ _ hp => hp) (fun k hk => ⟨.inl (.inr hk.1), hk.2⟩) (fun k hk => .inr hk) HB HB.size (by rw [List.length_zipIdx]; exact hl) ?_
  intro v1 w1 hr hb hg hat
  rw [← zip_rows] at hr
  obtain ⟨R, h1, h2⟩ := LS.of_app (P1 := fun k => P1 k ∨ P2 k) ⟨f, hr⟩
  exact h R v1 w1 h2 hb (kept_app hg (fun k hk => by obtain ⟨f0, h0⟩ := HO.1; exact h0.1 k hk)) h1
theorem LS.append_rows (d : Kd α) (hgd : o.guard = none) (s x : Operand) (t e : TypeId) (z : Value) (bytes : Nat)
    (ho : o.op = .call { callee := .builtin .append, args := #[s, x], argTypes := #[t, t] })
    (ht : P.underlying t = some (.slice e)) (hinfo : (P.info? e).map (fun i => (i.zero, i.size, i.bytes)) = some (some z, d.sz, bytes)) (hz : z.cells.size = d.sz) (hs0 : 0 < d.sz) (hb0 : 0 < bytes)
    (v : Value) (xs ys : List α) (A : Option Addr) (m c : Nat) (hs : a.eval s = v) (hx : a.eval x = .slice A m c)
    (HO : LS d e W w0.heap.size P1 v xs) (HY : LS d e W w0.heap.size P2 (.slice A m c) ys) (hD : ∀ k, P1 k → ¬ P2 k)
    (HB : Below w0.heap.size w0 W) (hl : (xs.length + m) * bytes ≤ 140737488355328)
    (h : ∀ R v1 w1, LS d e w1 w0.heap.size R v1 (xs ++ ys) → Below w0.heap.size w0 w1 → Kept W w1 P1 → (∀ k, R k → (P1 k ∨ P2 k) ∨ W.heap.size ≤ k) → wpList P ops Q rest (a.put o.dst v1) w1) :
    wpList P ops Q (o :: rest) a W := by
  obtain ⟨f, hR, hml, hrr⟩ := S_rows (ok := fun k => (P1 k ∨ P2 k) ∨ W.heap.size ≤ k) (Kd.S_mono (ok' := fun k => ((P1 k ∨ P2 k) ∨ W.heap.size ≤ k) ∧ ¬ P2 k) HO.1 (fun k hk => ⟨.inl (.inl hk), hD k hk⟩)) HY.1
  refine Kd.R_append_rows (Kd.tag f d) w0.heap.size hgd s x t e z bytes ho ht hinfo hz hs0 hb0 v xs.zipIdx (ys.zipIdx xs.length) A m c _ _ hs hx hR hrr (fun _ _ hp => hp) (fun k hk => ⟨.inl (.inr hk.1), hk.2⟩) (fun k hk => .inr hk) HB HB.size (by rw [List.length_zipIdx]; exact hl) ?_
  intro v1 w1 hr hb hg hat
  rw [← zip_rows] at hr
  obtain ⟨R, h1, h2⟩ := LS.of_app (P1 := fun k => P1 k ∨ P2 k) ⟨f, hr⟩
  exact h R v1 w1 h2 hb (kept_app hg (fun k hk => by obtain ⟨f0, h0⟩ := HO.1; exact h0.1 k hk)) h1
theorem LB.set {g : Nat} {t : TypeId} {cs : Array Value} (h : LB W P1 g t cs) : ∀ (us : List Value) (i : Nat), ∃ cs' : Array Value, cs'.size = cs.size ∧ LB (W.setCells g i us) P1 g t cs' ∧ Kept W (W.setCells g i us) P1 ∧ cs' = us.zipIdx.foldl (fun (c : Array Value) (p : Value × Nat) => c.setIfInBounds (i + p.2) p.1) cs := by
  intro us
  have key : ∀ (us : List Value) (W' : World) (cs : Array Value) (i j : Nat), LB W' P1 g t cs → Kept W W' P1 → ∃ cs' : Array Value, cs'.size = cs.size ∧ LB (W'.setCells g (i + j) us) P1 g t cs' ∧ Kept W (W'.setCells g (i + j) us) P1 ∧ cs' = (us.zipIdx j).foldl (fun (c : Array Value) (p : Value × Nat) => c.setIfInBounds (i + p.2) p.1) cs := by
    intro us
    induction us with
    | nil => intro W' cs i j h hk; exact ⟨cs, rfl, h, hk, rfl⟩
    | cons u us ih =>
      intro W' cs i j h hk
      obtain ⟨cs', h1, h2, h3, h4⟩ := ih (W'.setCell ⟨g, i + j, none⟩ u) (cs.setIfInBounds (i + j) u) i (j + 1) (h.put (i + j) u) (h.keeps hk (i + j) u)
      exact ⟨cs', h1.trans (by simp), h2, h3, h4⟩
  intro i
  exact key us W cs i 0 h (Kept.refl W P1)
theorem below_box {g : Nat} {t2 : TypeId} {cs : Array Value} (hB : Below w0.heap.size w0 W) (hk : Kept W w1 P1) (hg : w0.heap.size ≤ g) (h : LB W P1 g t2 cs) (h1 : w1.os = W.os ∧ w1.tape = W.tape ∧ w1.output = W.output) : Below w0.heap.size w0 w1 :=
  ⟨h1.1.trans hB.os, h1.2.1.trans hB.tape, h1.2.2.trans hB.output, Nat.le_trans hB.size hk.1, fun k hk2 => (hk.2 k (Nat.lt_of_lt_of_le hk2 hB.size) (fun hp => by have := (h.1 k).1 hp; omega)).trans (hB.block k hk2)⟩
theorem LB.stored {g : Nat} {t2 : TypeId} {cs : Array Value} (H : LB W P1 g t2 cs) (hB : Below w0.heap.size w0 W) (hge : w0.heap.size ≤ g) (i : Nat) (us : List Value) (hgd : o.guard = none) {t : TypeId} {p : Tmp} {x : Operand} (hN : o.dst = none) (ho : o.op = .store t (.tmp p) x)
    (hrun : (execOp a.eval o).run P W = .ok .skip (W.setCells g i us))
    (h : ∀ w2, LB w2 P1 g t2 (us.zipIdx.foldl (fun (c : Array Value) (p : Value × Nat) => c.setIfInBounds (i + p.2) p.1) cs) → Kept W w2 P1 → Below w0.heap.size w0 w2 → wpList P ops Q rest a w2) : wpList P ops Q (o :: rest) a W := by
  obtain ⟨cs', _, h2, h3, rfl⟩ := LB.set H us i
  obtain ⟨k1, k2, k3, _⟩ := setCells_same g us i W
  exact store_event hgd ho hN hrun (fun w' hw => by subst hw; exact h _ h2 h3 (below_box hB h3 hge H ⟨k1, k2, k3⟩))
theorem skip_step (hw : Region.wanted o (yielded ops a.tmps) = true) (hN : o.dst = none) (hrun : (execOp a.eval o).run P W = .ok .skip w1) (h : Kc a w1) : if Region.wanted o (yielded ops a.tmps) = true then Oper.wp P o a W Kc Q else Kc (a.put o.dst undef) W := by
  rw [if_pos hw]
  unfold Oper.wp
  rw [hrun]
  show Kc (a.put o.dst undef) w1
  rw [hN]
  exact h
theorem LB.stored_step {g : Nat} {t2 : TypeId} {cs : Array Value} (H : LB W P1 g t2 cs) (hB : Below w0.heap.size w0 W) (hge : w0.heap.size ≤ g) (i : Nat) (us : List Value) (hw : Region.wanted o (yielded ops a.tmps) = true) (hN : o.dst = none)
    (hrun : (execOp a.eval o).run P W = .ok .skip (W.setCells g i us))
    (h : ∀ w2, LB w2 P1 g t2 (us.zipIdx.foldl (fun (c : Array Value) (p : Value × Nat) => c.setIfInBounds (i + p.2) p.1) cs) → Kept W w2 P1 → Below w0.heap.size w0 w2 → Kc a w2) : if Region.wanted o (yielded ops a.tmps) = true then Oper.wp P o a W Kc Q else Kc (a.put o.dst undef) W := by
  obtain ⟨cs', _, h2, h3, rfl⟩ := LB.set H us i
  obtain ⟨k1, k2, k3, _⟩ := setCells_same g us i W
  exact skip_step hw hN hrun (h _ h2 h3 (below_box hB h3 hge H ⟨k1, k2, k3⟩))
theorem LS.append1 (d : Kd α) (hgd : o.guard = none) (s x : Operand) (t e : TypeId) (z : Value) (bytes : Nat)
    (ho : o.op = .call { callee := .builtin .append, args := #[s, x], argTypes := #[t, t] })
    (ht : P.underlying t = some (.slice e)) (hinfo : (P.info? e).map (fun i => (i.zero, i.size, i.bytes)) = some (some z, d.sz, bytes)) (hz : z.cells.size = d.sz) (hs0 : 0 < d.sz) (hb0 : 0 < bytes)
    (v : Value) (xs : List α) (p : α) (cs : List Value) (hs : a.eval s = v) (hx : a.eval x = .slice (some ⟨W.heap.size, 0, none⟩) 1 1) (_h1 : True)
    (HO : LS d e W w0.heap.size P1 v xs) (HP : d.M W w0.heap.size P2 p cs) (hD : ∀ k, P1 k → ¬ P2 k)
    (HB : Below w0.heap.size w0 W) (hl : (xs.length + 1) * bytes ≤ 140737488355328)
    (h : ∀ R v1 w1, LS d e w1 w0.heap.size R v1 (xs ++ [p]) → Below w0.heap.size w0 w1 → Kept W w1 P1 → (∀ k, R k → (P1 k ∨ P2 k) ∨ W.heap.size ≤ k) → wpList P ops Q rest (a.put o.dst v1) w1) :
    wpList P ops Q (o :: rest) a (W.alloc (.cells cs.toArray e)) := by
  have hv : ∀ k, v.ownBlock = some k → P1 k := fun k hk => by obtain ⟨f0, h0⟩ := HO.1; exact h0.1 k hk
  refine Kd.S_append d w0.heap.size hgd s x t e z bytes ho ht hinfo hz hs0 hb0 v xs p cs (fun k => (P1 k ∨ P2 k) ∨ W.heap.size ≤ k) P2 hs hx HP (fun k hk => ⟨.inl (.inr hk), fun he => hD k (hv k he.symm) hk⟩) (fun k hk => .inr hk) (Kd.S_mono HO.1 (fun k hk => ⟨.inl (.inl hk), hD k hk⟩)) HB HB.size hl ?_
  intro v1 w1 hr hb hg hat
  obtain ⟨R, h1, h2⟩ := LS.of_app (P1 := fun k => P1 k ∨ P2 k) hr
  exact h R v1 w1 h2 hb (kept_app hg hv) h1
theorem LS.append1_step (d : Kd α) (hw : Region.wanted o (yielded ops a.tmps) = true) (s x : Operand) (t e : TypeId) (z : Value) (bytes : Nat)
    (ho : o.op = .call { callee := .builtin .append, args := #[s, x], argTypes := #[t, t] })
    (ht : P.underlying t = some (.slice e)) (hinfo : (P.info? e).map (fun i => (i.zero, i.size, i.bytes)) = some (some z, d.sz, bytes)) (hz : z.cells.size = d.sz) (hs0 : 0 < d.sz) (hb0 : 0 < bytes)
    (v : Value) (xs : List α) (p : α) (cs : List Value) (hs : a.eval s = v) (hx : a.eval x = .slice (some ⟨W.heap.size, 0, none⟩) 1 1) (_h1 : True)
    (HO : LS d e W w0.heap.size P1 v xs) (HP : d.M W w0.heap.size P2 p cs) (hD : ∀ k, P1 k → ¬ P2 k)
    (HB : Below w0.heap.size w0 W) (hl : (xs.length + 1) * bytes ≤ 140737488355328)
    (h : ∀ R v1 w1, LS d e w1 w0.heap.size R v1 (xs ++ [p]) → Below w0.heap.size w0 w1 → Kept W w1 P1 → (∀ k, R k → (P1 k ∨ P2 k) ∨ W.heap.size ≤ k) → Kc (a.put o.dst v1) w1) :
    if Region.wanted o (yielded ops a.tmps) = true then Oper.wp P o a (W.alloc (.cells cs.toArray e)) Kc Q else Kc (a.put o.dst undef) (W.alloc (.cells cs.toArray e)) := by
  have hv : ∀ k, v.ownBlock = some k → P1 k := fun k hk => by obtain ⟨f0, h0⟩ := HO.1; exact h0.1 k hk
  refine Kd.S_append_step d w0.heap.size hw s x t e z bytes ho ht hinfo hz hs0 hb0 v xs p cs (fun k => (P1 k ∨ P2 k) ∨ W.heap.size ≤ k) P2 hs hx HP (fun k hk => ⟨.inl (.inr hk), fun he => hD k (hv k he.symm) hk⟩) (fun k hk => .inr hk) (Kd.S_mono HO.1 (fun k hk => ⟨.inl (.inl hk), hD k hk⟩)) HB HB.size hl ?_
  intro v1 w1 hr hb hg hat
  obtain ⟨R, h1, h2⟩ := LS.of_app (P1 := fun k => P1 k ∨ P2 k) hr
  exact h R v1 w1 h2 hb (kept_app hg hv) h1
theorem LR.append1 (d : Kd α) (hgd : o.guard = none) (s x : Operand) (t e : TypeId) (z : Value) (bytes : Nat)
    (ho : o.op = .call { callee := .builtin .append, args := #[s, x], argTypes := #[t, t] })
    (ht : P.underlying t = some (.slice e)) (hinfo : (P.info? e).map (fun i => (i.zero, i.size, i.bytes)) = some (some z, d.sz, bytes)) (hz : z.cells.size = d.sz) (hs0 : 0 < d.sz) (hb0 : 0 < bytes)
    (v : Value) (xs : List α) (p : α) (cs : List Value) (hs : a.eval s = v) (hx : a.eval x = .slice (some ⟨W.heap.size, 0, none⟩) 1 1) (_h1 : True)
    (HO : LR d e W w0.heap.size P1 v xs) (HP : d.M W w0.heap.size (fun _ => False) p cs) (_hD : ∀ k, P1 k → ¬ (fun _ : Nat => False) k)
    (HB : Below w0.heap.size w0 W) (hl : (xs.length + 1) * bytes ≤ 140737488355328)
    (h : ∀ R v1 w1, LR d e w1 w0.heap.size R v1 (xs ++ [p]) → Below w0.heap.size w0 w1 → Kept W w1 P1 → (∀ k, R k → P1 k ∨ W.heap.size ≤ k) → wpList P ops Q rest (a.put o.dst v1) w1) :
    wpList P ops Q (o :: rest) a (W.alloc (.cells cs.toArray e)) := by
  refine Kd.R_append d w0.heap.size hgd s x t e z bytes ho ht hinfo hz hs0 hb0 v xs p cs (fun k => P1 k ∨ W.heap.size ≤ k) (fun _ => False) hs hx HP (fun _ hk => hk.elim) (fun k hk => .inr hk) (Kd.R_mono HO.1 (fun k hk => .inl hk)) HB HB.size hl ?_
  intro v1 w1 hr hb hg hat
  obtain ⟨R, h1, h2⟩ := LR.of_app hr
  exact h R v1 w1 h2 hb (kept_app hg (fun k hk => HO.1.1 k hk)) h1
theorem LR.append1_step (d : Kd α) (hw : Region.wanted o (yielded ops a.tmps) = true) (s x : Operand) (t e : TypeId) (z : Value) (bytes : Nat)
    (ho : o.op = .call { callee := .builtin .append, args := #[s, x], argTypes := #[t, t] })
    (ht : P.underlying t = some (.slice e)) (hinfo : (P.info? e).map (fun i => (i.zero, i.size, i.bytes)) = some (some z, d.sz, bytes)) (hz : z.cells.size = d.sz) (hs0 : 0 < d.sz) (hb0 : 0 < bytes)
    (v : Value) (xs : List α) (p : α) (cs : List Value) (hs : a.eval s = v) (hx : a.eval x = .slice (some ⟨W.heap.size, 0, none⟩) 1 1) (_h1 : True)
    (HO : LR d e W w0.heap.size P1 v xs) (HP : d.M W w0.heap.size (fun _ => False) p cs) (_hD : ∀ k, P1 k → ¬ (fun _ : Nat => False) k)
    (HB : Below w0.heap.size w0 W) (hl : (xs.length + 1) * bytes ≤ 140737488355328)
    (h : ∀ R v1 w1, LR d e w1 w0.heap.size R v1 (xs ++ [p]) → Below w0.heap.size w0 w1 → Kept W w1 P1 → (∀ k, R k → P1 k ∨ W.heap.size ≤ k) → Kc (a.put o.dst v1) w1) :
    if Region.wanted o (yielded ops a.tmps) = true then Oper.wp P o a (W.alloc (.cells cs.toArray e)) Kc Q else Kc (a.put o.dst undef) (W.alloc (.cells cs.toArray e)) := by
  refine Kd.R_append_step d w0.heap.size hw s x t e z bytes ho ht hinfo hz hs0 hb0 v xs p cs (fun k => P1 k ∨ W.heap.size ≤ k) (fun _ => False) hs hx HP (fun _ hk => hk.elim) (fun k hk => .inr hk) (Kd.R_mono HO.1 (fun k hk => .inl hk)) HB HB.size hl ?_
  intro v1 w1 hr hb hg hat
  obtain ⟨R, h1, h2⟩ := LR.of_app hr
  exact h R v1 w1 h2 hb (kept_app hg (fun k hk => HO.1.1 k hk)) h1
def LM (d : Kd α) (e : Nat) (w : World) (base : Nat) (P : Nat → Prop) (v : Value) (xs : List α) : Prop := Kd.N d e w base P v xs ∧ ∀ k, P k → k < w.heap.size
theorem LM.step {S P : Nat → Prop} (h : LM d e w base P v xs) (hk : Kept w w' S) (hS : ∀ k, P k → ¬ S k) : LM d e w' base P v xs := ⟨Kd.N_kept h.1 hk hS, fun k hp => Nat.lt_of_lt_of_le (h.2 k hp) hk.1⟩
theorem LM.val {P : Nat → Prop} (h : LM d e w base P v xs) : ∃ A c, v = .slice A xs.length c := Kd.N_slice h.1
theorem LM.lt {P : Nat → Prop} (h : LM d e w base P v xs) : ∀ k, P k → k < w.heap.size := h.2
theorem LM.reads {P : Nat → Prop} {A : Option Addr} {n c : Nat} (h : LM d e w base P (.slice A n c) xs) : d.C w A xs.length xs := (Kd.N_reads' h.1).2.2
theorem LM.room {P : Nat → Prop} {A : Option Addr} {n c : Nat} (h : LM d e w base P (.slice A n c) xs) : xs.length ≤ c := by have := Kd.N_reads' h.1; omega
theorem LM.of_app {v1 : Value} (h : Kd.N d e w1 base (fun k => P1 k ∨ W.heap.size ≤ k) v1 xs) : ∃ R, (∀ k, R k → P1 k ∨ W.heap.size ≤ k) ∧ LM d e w1 base R v1 xs :=
  ⟨fun k => (P1 k ∨ W.heap.size ≤ k) ∧ k < w1.heap.size, fun k hk => hk.1, Kd.N_bound h, fun k hk => hk.2⟩
theorem LR.toLM {P : Nat → Prop} (h : LR d e w base P v xs) : LM d e w base P v xs := ⟨Kd.R_N h.1, h.2⟩
theorem LS.toLM {P : Nat → Prop} (h : LS d e w base P v xs) : LM d e w base P v xs := ⟨Kd.S_N h.1, h.2⟩
theorem LM.toLN {P : Nat → Prop} {base' : Nat} (h : LM d e w base P v xs) : LN d e w base' P v xs := ⟨Kd.N_V h.1, h.2⟩
theorem LR.toLN {P : Nat → Prop} {base' : Nat} (h : LR d e w base P v xs) : LN d e w base' (fun k => P k ∧ base ≤ k) v xs := ⟨Kd.R_V (Kd.R_mono (Kd.R_bound h.1) (fun k hk => ⟨hk.1, hk.2.1⟩)), fun k hk => h.2 k hk.1⟩
theorem LS.toLN {P : Nat → Prop} {base' : Nat} (h : LS d e w base P v xs) : LN d e w base' (fun k => P k ∧ base ≤ k) v xs := ⟨Kd.N_V (base' := base') (Kd.S_N (Kd.S_mono (Kd.S_bound h.1) (fun k hk => ⟨hk.1, hk.2.1⟩))), fun k hk => h.2 k hk.1⟩
theorem LN.mono {P P' : Nat → Prop} (h : LN d e w base P v xs) (hP : ∀ k, P k → P' k) : LN d e w base (fun k => P' k ∧ k < w.heap.size) v xs := ⟨Kd.V_mono h.1 (fun k hk => ⟨hP k hk, h.2 k hk⟩), fun k hk => hk.2⟩
theorem LM.append_rows_step (d : Kd α) (hw : Region.wanted o (yielded ops a.tmps) = true) (s x : Operand) (t e : TypeId) (z : Value) (bytes : Nat)
    (ho : o.op = .call { callee := .builtin .append, args := #[s, x], argTypes := #[t, t] })
    (ht : P.underlying t = some (.slice e)) (hinfo : (P.info? e).map (fun i => (i.zero, i.size, i.bytes)) = some (some z, d.sz, bytes)) (hz : z.cells.size = d.sz) (hs0 : 0 < d.sz) (hb0 : 0 < bytes)
    (v : Value) (xs ys : List α) (A : Option Addr) (m c : Nat) (hs : a.eval s = v) (hx : a.eval x = .slice A m c)
    (HO : LM d e W w0.heap.size P1 v xs) {base' : Nat} (HY : LN d e W base' P2 (.slice A m c) ys) (hD : ∀ k, P1 k → ¬ P2 k)
    (HB : Below w0.heap.size w0 W) (hl : (xs.length + m) * bytes ≤ 140737488355328)
    (h : ∀ R v1 w1, LM d e w1 w0.heap.size R v1 (xs ++ ys) → Below w0.heap.size w0 w1 → Kept W w1 P1 → (∀ k, R k → (P1 k ∨ P2 k) ∨ W.heap.size ≤ k) → Kc (a.put o.dst v1) w1) :
    if Region.wanted o (yielded ops a.tmps) = true then Oper.wp P o a W Kc Q else Kc (a.put o.dst undef) W := by
  have hv : ∀ k, v.ownBlock = some k → P1 k := HO.1.1
  refine Kd.N_append_rows_step d w0.heap.size hw s x t e z bytes ho ht hinfo hz hs0 hb0 v xs ys A m c (fun k => (P1 k ∨ P2 k) ∨ W.heap.size ≤ k) P2 hs hx (Kd.N_mono HO.1 (fun k hk => .inl (.inl hk))) (Kd.V_F HY.1) (fun k hk => ⟨.inl (.inr hk), fun he => hD k (hv k he.symm) hk⟩) (fun k hk => .inr hk) HB HB.size hl ?_
  intro v1 w1 hr hb hg hat
  obtain ⟨R, h1, h2⟩ := LM.of_app (P1 := fun k => P1 k ∨ P2 k) hr
  exact h R v1 w1 h2 hb (kept_app hg hv) h1
theorem LM.append_rows (d : Kd α) (hgd : o.guard = none) (s x : Operand) (t e : TypeId) (z : Value) (bytes : Nat)
    (ho : o.op = .call { callee := .builtin .append, args := #[s, x], argTypes := #[t, t] })
    (ht : P.underlying t = some (.slice e)) (hinfo : (P.info? e).map (fun i => (i.zero, i.size, i.bytes)) = some (some z, d.sz, bytes)) (hz : z.cells.size = d.sz) (hs0 : 0 < d.sz) (hb0 : 0 < bytes)
    (v : Value) (xs ys : List α) (A : Option Addr) (m c : Nat) (hs : a.eval s = v) (hx : a.eval x = .slice A m c)
    (HO : LM d e W w0.heap.size P1 v xs) {base' : Nat} (HY : LN d e W base' P2 (.slice A m c) ys) (hD : ∀ k, P1 k → ¬ P2 k)
    (HB : Below w0.heap.size w0 W) (hl : (xs.length + m) * bytes ≤ 140737488355328)
    (h : ∀ R v1 w1, LM d e w1 w0.heap.size R v1 (xs ++ ys) → Below w0.heap.size w0 w1 → Kept W w1 P1 → (∀ k, R k → (P1 k ∨ P2 k) ∨ W.heap.size ≤ k) → wpList P ops Q rest (a.put o.dst v1) w1) :
    wpList P ops Q (o :: rest) a W := by
  have hv : ∀ k, v.ownBlock = some k → P1 k := HO.1.1
  refine Kd.N_append_rows d w0.heap.size hgd s x t e z bytes ho ht hinfo hz hs0 hb0 v xs ys A m c (fun k => (P1 k ∨ P2 k) ∨ W.heap.size ≤ k) P2 hs hx (Kd.N_mono HO.1 (fun k hk => .inl (.inl hk))) (Kd.V_F HY.1) (fun k hk => ⟨.inl (.inr hk), fun he => hD k (hv k he.symm) hk⟩) (fun k hk => .inr hk) HB HB.size hl ?_
  intro v1 w1 hr hb hg hat
  obtain ⟨R, h1, h2⟩ := LM.of_app (P1 := fun k => P1 k ∨ P2 k) hr
  exact h R v1 w1 h2 hb (kept_app hg hv) h1
theorem LM.append1_step (d : Kd α) (hw : Region.wanted o (yielded ops a.tmps) = true) (s x : Operand) (t e : TypeId) (z : Value) (bytes : Nat)
    (ho : o.op = .call { callee := .builtin .append, args := #[s, x], argTypes := #[t, t] })
    (ht : P.underlying t = some (.slice e)) (hinfo : (P.info? e).map (fun i => (i.zero, i.size, i.bytes)) = some (some z, d.sz, bytes)) (hz : z.cells.size = d.sz) (hs0 : 0 < d.sz) (hb0 : 0 < bytes)
    (v : Value) (xs : List α) (p : α) (cs : List Value) (hs : a.eval s = v) (hx : a.eval x = .slice (some ⟨W.heap.size, 0, none⟩) 1 1) (_h1 : True)
    (HO : LM d e W w0.heap.size P1 v xs) (HP : Kd.FK d W P2 p cs) (hD : ∀ k, P1 k → ¬ P2 k)
    (HB : Below w0.heap.size w0 W) (hl : (xs.length + 1) * bytes ≤ 140737488355328)
    (h : ∀ R v1 w1, LM d e w1 w0.heap.size R v1 (xs ++ [p]) → Below w0.heap.size w0 w1 → Kept W w1 P1 → (∀ k, R k → (P1 k ∨ P2 k) ∨ W.heap.size ≤ k) → Kc (a.put o.dst v1) w1) :
    if Region.wanted o (yielded ops a.tmps) = true then Oper.wp P o a (W.alloc (.cells cs.toArray e)) Kc Q else Kc (a.put o.dst undef) (W.alloc (.cells cs.toArray e)) := by
  have hv : ∀ k, v.ownBlock = some k → P1 k := HO.1.1
  refine Kd.N_append_step d w0.heap.size hw s x t e z bytes ho ht hinfo hz hs0 hb0 v xs p cs (fun k => (P1 k ∨ P2 k) ∨ W.heap.size ≤ k) P2 hs hx HP (fun k hk => ⟨.inl (.inr hk), fun he => hD k (hv k he.symm) hk⟩) (fun k hk => .inr hk) (Kd.N_mono HO.1 (fun k hk => .inl (.inl hk))) HB HB.size hl ?_
  intro v1 w1 hr hb hg hat
  obtain ⟨R, h1, h2⟩ := LM.of_app (P1 := fun k => P1 k ∨ P2 k) hr
  exact h R v1 w1 h2 hb (kept_app hg hv) h1
theorem LR.FK {d2 : Kd α} {e2 : Nat} {xs2 : List α} {P : Nat → Prop} {v2 : Value} (h : LR d2 e2 w base P v2 xs2) : Kd.FK (Kd.slice e2 d2) w P xs2 [v2] := Kd.FK_of_M (Kd.M_row (base := base) h.1)
theorem LN.nil (d : Kd α) (e : Nat) (w : World) (base : Nat) : LN d e w base (fun _ => False) (.slice none 0 0) [] := ⟨Kd.V_nil d e w base _, fun _ hk => hk.elim⟩
theorem LS.nil (d : Kd α) (e : Nat) (w : World) (base : Nat) : LS d e w base (fun _ => False) (.slice none 0 0) [] := ⟨Kd.S_nil d e w base _, fun _ hk => hk.elim⟩
theorem LR.nil (d : Kd α) (e : Nat) (w : World) (base : Nat) : LR d e w base (fun _ => False) (.slice none 0 0) [] := ⟨Kd.R_nil d e w base _, fun _ hk => hk.elim⟩
theorem rr_app {R C : Nat → Prop} {b : Nat} (hR : ∀ k, R k → P1 k ∨ W.heap.size ≤ k) (hb : b ≤ W.heap.size) (h1 : ∀ k, P1 k → C k ∨ b ≤ k) : ∀ k, R k → C k ∨ b ≤ k := fun k hr => (hR k hr).elim (h1 k) (fun h => .inr (Nat.le_trans hb h))
theorem rr_or {C : Nat → Prop} {b : Nat} (h1 : ∀ k, P1 k → C k ∨ b ≤ k) (h2 : ∀ k, P2 k → C k ∨ b ≤ k) : ∀ k, (P1 k ∨ P2 k) → C k ∨ b ≤ k := fun k h => h.elim (h1 k) (h2 k)
theorem LR.take {A : Option Addr} {n c m : Nat} (h : LR d e W base P1 (.slice A n c) xs) (hm : m ≤ xs.length) : LR d e W base P1 (.slice A m c) (xs.take m) :=
  ⟨by have := Kd.R_take h.1 hm; exact this, h.2⟩
theorem LR.cut {A : Option Addr} {n c : Nat} {j : Int} {y : List α} (h : LR d e W base P1 (.slice A n c) xs) (hy : y = xs.take j.toNat) (h0 : 0 ≤ j) (h1 : j ≤ xs.length) : LR d e W base P1 (.slice A y.length c) y := by
  subst hy
  have hl : (xs.take j.toNat).length = j.toNat := by rw [List.length_take]; omega
  rw [hl]
  exact h.take (by omega)
theorem apart_app {R X : Nat → Prop} (hR : ∀ k, R k → P1 k ∨ W.heap.size ≤ k) (hX : ∀ k, X k → k < W.heap.size) (h1 : ∀ k, X k → ¬ P1 k) : ∀ k, X k → ¬ R k := fun k hx hr => by
  rcases hR k hr with h | h
  · exact h1 k hx h
  · exact absurd (hX k hx) (by omega)
theorem apart_or {X : Nat → Prop} (h1 : ∀ k, X k → ¬ P1 k) (h2 : ∀ k, X k → ¬ P2 k) : ∀ k, X k → ¬ (P1 k ∨ P2 k) := fun k hx h => h.elim (h1 k hx) (h2 k hx)
theorem fold_set (us : List Value) : ∀ (j : Nat) (pre post : List Value), pre.length = j → post.length = us.length → (us.zipIdx j).foldl (fun (c : Array Value) (p : Value × Nat) => c.setIfInBounds (0 + p.2) p.1) (pre ++ post).toArray = (pre ++ us).toArray := by
  induction us with
  | nil => intro j pre post _ h2; cases post with
    | nil => rfl
    | cons _ _ => simp at h2
  | cons u us ih =>
    intro j pre post h1 h2
    cases post with
    | nil => simp at h2
    | cons q post =>
      rw [List.zipIdx_cons, List.foldl_cons]
      have h3 : (pre ++ q :: post).toArray.setIfInBounds (0 + j) u = ((pre ++ [u]) ++ post).toArray := by
        subst h1
        simp
      have := ih (j + 1) (pre ++ [u]) post (by simp [h1]) (by simpa using h2)
      simp only at h3 ⊢
      rw [h3, this]
      simp
theorem fold_all (us : List Value) (cs : Array Value) (h : us.length = cs.size) : us.zipIdx.foldl (fun (c : Array Value) (p : Value × Nat) => c.setIfInBounds (0 + p.2) p.1) cs = us.toArray := by
  have := fold_set us 0 [] cs.toList rfl (by simp [h])
  simpa using this
theorem LB.storedW {g : Nat} {t2 : TypeId} {cs : Array Value} (H : LB W P1 g t2 cs) (hB : Below w0.heap.size w0 W) (hge : w0.heap.size ≤ g) (us : List Value) (hl : us.length = cs.size) (hgd : o.guard = none) {t : TypeId} {p : Tmp} {x : Operand} (hN : o.dst = none) (ho : o.op = .store t (.tmp p) x)
    (hrun : (execOp a.eval o).run P W = .ok .skip (W.setCells g 0 us))
    (h : ∀ w2, LB w2 P1 g t2 us.toArray → Kept W w2 P1 → Below w0.heap.size w0 w2 → wpList P ops Q rest a w2) : wpList P ops Q (o :: rest) a W :=
  LB.stored H hB hge 0 us hgd hN ho hrun (fun w2 hx => h w2 (by rw [← fold_all us cs hl]; exact hx))
theorem LB.storedW_step {g : Nat} {t2 : TypeId} {cs : Array Value} (H : LB W P1 g t2 cs) (hB : Below w0.heap.size w0 W) (hge : w0.heap.size ≤ g) (us : List Value) (hl : us.length = cs.size) (hw : Region.wanted o (yielded ops a.tmps) = true) (hN : o.dst = none)
    (hrun : (execOp a.eval o).run P W = .ok .skip (W.setCells g 0 us))
    (h : ∀ w2, LB w2 P1 g t2 us.toArray → Kept W w2 P1 → Below w0.heap.size w0 w2 → Kc a w2) : if Region.wanted o (yielded ops a.tmps) = true then Oper.wp P o a W Kc Q else Kc (a.put o.dst undef) W :=
  LB.stored_step H hB hge 0 us hw hN hrun (fun w2 hx => h w2 (by rw [← fold_all us cs hl]; exact hx))
end
end Go.Proofs.Ytlpabbcgichaoaa.Lawful
