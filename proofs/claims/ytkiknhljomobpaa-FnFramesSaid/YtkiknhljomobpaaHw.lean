/- Events (append, literals, stores) told of values each with the blocks that it lies in. Words for walks by hand; no conditions. -/
import Derived.Test.YtkiknhljomobpaaLawful
namespace Go.Proofs.Ytkiknhljomobpaa.Lawful
open Go.RowKit Go.Proofs.YtkiknhljomobpaaW.PrintWords Go.Proofs.YtkiknhljomobpaaW.PrintLast Go.Proofs.YtkiknhljomobpaaW.PrintMore
set_option linter.unusedVariables false
section
variable {α : Type} {d : Kd α} {e base : Nat} {w w' w0 W w1 : World} {v : Value} {xs ys : List α} {S P P1 P2 Q2 ok okp : Nat → Prop}
/-- A row appended to a row whose elements lie apart: the elements of the one lie apart from those of the other. -/
theorem S_rows {A : Option Addr} {m c : Nat} (HO : Kd.S d e W base (fun k => ok k ∧ ¬ okp k) v xs) (HY : Kd.S d e W base okp (.slice A m c) ys) :
    ∃ f : Nat → Nat, (Kd.tag f d).R e W base ok v xs.zipIdx ∧ m = (ys.zipIdx xs.length).length ∧ ReadsRow (fun p cs => (Kd.tag f d).M W base (fun k => okp k ∧ some k ≠ v.ownBlock) p cs) d.sz W A m (ys.zipIdx xs.length) := by
  obtain ⟨f1, h1⟩ := HO
  obtain ⟨f2, h2⟩ := HY
  have hm := (Kd.R_reads' h2).1
  have hmax := (Kd.R_reads' h2).2.2.2.1
  rw [List.length_zipIdx] at hm hmax
  refine ⟨fun k => open Classical in if okp k then xs.length + f2 k else f1 k, Kd.R_mono (Kd.R_tag h1 (fun k hk _ => if_neg hk.2)) (fun k hk => hk.1), by rw [List.length_zipIdx]; exact hm, by rw [List.length_zipIdx]; exact hm.symm, by omega, fun hp => ?_⟩
  have hv : ∀ k, okp k → some k ≠ v.ownBlock := fun k hk he => (h1.1 k he.symm).2 hk
  cases A with
  | none =>
    obtain ⟨g, cap, he, _⟩ := Kd.R_form h2 (by rw [List.length_zipIdx]; omega)
    cases he
  | some ad =>
    refine ⟨ad, rfl, fun j p hj => ?_⟩
    rw [List.getElem?_zipIdx] at hj
    obtain ⟨y, hy, rfl⟩ := Option.map_eq_some_iff.1 hj
    have hjl : j < ys.length := (List.getElem?_eq_some_iff.1 hy).1
    obtain ⟨cs, hcl, hM, hc⟩ := Kd.R_getA h2 (y, j) (j : Int) (by omega) (by omega)
    simp only [Int.toNat_natCast] at hM hc
    have hg : ys.zipIdx.getD j (y, j) = (y, j) := by
      rw [List.getD_eq_getElem?_getD, List.getElem?_zipIdx, hy]
      simp
    rw [hg] at hM
    exact ⟨cs, hcl, d.M_mono (fun k hk => ⟨⟨hk.1.1, hv k hk.1.1⟩, (if_pos hk.1.1).trans (by have h3 := hk.2; simp only at h3; omega)⟩) hM, hc⟩
theorem zip_rows (xs ys : List α) : (xs ++ ys).zipIdx = xs.zipIdx ++ ys.zipIdx xs.length := by rw [List.zipIdx_append]; simp
end
section
variable {P : Program} {ops : Array Oper} {rest : List Oper} {o : Oper} {a : Act} {Q : Exit → Act → World → Prop} {Kc : Act → World → Prop} {α : Type} {d : Kd α} {e base : Nat} {w w' w0 W w1 : World} {v : Value} {xs ys : List α} {P1 P2 ok okp : Nat → Prop}
theorem LR.val {P : Nat → Prop} (h : LR d e w base P v xs) : ∃ A c, v = .slice A xs.length c := Kd.R_slice h.1
theorem LS.val {P : Nat → Prop} (h : LS d e w base P v xs) : ∃ A c, v = .slice A xs.length c := Kd.S_slice h.1
theorem LN.val {P : Nat → Prop} (h : LN d e w base P v xs) : ∃ A c, v = .slice A xs.length c := by
  obtain ⟨⟨A, c, rfl, _⟩, _⟩ := h
  exact ⟨A, c, rfl⟩
/-- A row told as the prints tell what a call hands back. -/
theorem LR.out {P : Nat → Prop} (h : LR d e w1 w0.heap.size P v xs) : d.R e w1 w0.heap.size (fun k_ => (w0.heap.size ≤ k_)) v xs := Kd.R_mono (Kd.R_bound h.1) (fun k hk => hk.2.1)
theorem LS.out {P P2 : Nat → Prop} {u : Value} (h : LS d e w1 w0.heap.size P v xs) (hu : ∀ k, u.ownBlock = some k → P2 k) (hD : ∀ k, P2 k → ¬ P k) : Kd.S d e w1 w0.heap.size (fun k_ => (w0.heap.size ≤ k_) ∧ some k_ ≠ u.ownBlock) v xs :=
  Kd.S_mono (Kd.S_bound h.1) (fun k hk => ⟨hk.2.1, fun he => hD k (hu k he.symm) hk.1⟩)
/-- xs[j:] of a slice that is read: y the letter for what is left. -/
theorem cut_drop (t e : TypeId) (kl : IntKind) {i : TypeInfo} (ht : P.underlying t = some (.slice e)) (hi : P.info? e = some i) (hsz : i.size = d.sz) (A : Option Addr) (c : Nat) (j : Int) (y : List α) (hy : y = xs.drop j.toNat) (hc : xs.length ≤ c) (h0 : 0 ≤ j) (hm : j ≤ xs.length) :
    ∃ (A' : Option Addr) (c' : Nat), y.length ≤ c' ∧ (∀ W, (Instr.slice t (.slice A xs.length c) (some (.int kl j)) none none).run P W = .ok (.slice A' y.length c') W) ∧ ∀ W, d.C W A xs.length xs → d.C W A' y.length y := by
  subst hy
  refine ⟨_, c - j.toNat, ?_, fun W => (cut_from t e kl ht hi d.sz hsz A xs.length c j h0 hm W).trans (by rw [List.length_drop]), fun W h => Kd.C_drop h (m := j.toNat) (by omega) hc⟩
  rw [List.length_drop]
  omega
theorem cut_take (t e : TypeId) (kl : IntKind) {i : TypeInfo} (ht : P.underlying t = some (.slice e)) (hi : P.info? e = some i) (A : Option Addr) (c : Nat) (j : Int) (y : List α) (hy : y = xs.take j.toNat) (hc : xs.length ≤ c) (h0 : 0 ≤ j) (hm : j ≤ xs.length) :
    y.length ≤ c ∧ (∀ W, (Instr.slice t (.slice A xs.length c) none (some (.int kl j)) none).run P W = .ok (.slice A y.length c) W) ∧ ∀ W, d.C W A xs.length xs → d.C W A y.length y := by
  subst hy
  have hl : (xs.take j.toNat).length = j.toNat := by rw [List.length_take]; omega
  refine ⟨by omega, fun W => ?_, fun W h => Kd.C_take h (m := j.toNat) (by omega)⟩
  rw [hl]
  exact cut_to t e kl ht hi A xs.length c j h0 hm hc W
theorem cut_both (t e : TypeId) (kl kh : IntKind) {i : TypeInfo} (ht : P.underlying t = some (.slice e)) (hi : P.info? e = some i) (hsz : i.size = d.sz) (A : Option Addr) (c : Nat) (j m : Int) (y : List α) (hy : y = (xs.take m.toNat).drop j.toNat) (hc : xs.length ≤ c) (h0 : 0 ≤ j) (h1 : j ≤ m) (hm : m ≤ xs.length) :
    ∃ (A' : Option Addr) (c' : Nat), y.length ≤ c' ∧ (∀ W, (Instr.slice t (.slice A xs.length c) (some (.int kl j)) (some (.int kh m)) none).run P W = .ok (.slice A' y.length c') W) ∧ ∀ W, d.C W A xs.length xs → d.C W A' y.length y := by
  subst hy
  have hl : ((xs.take m.toNat).drop j.toNat).length = m.toNat - j.toNat := by rw [List.length_drop, List.length_take]; omega
  refine ⟨_, c - j.toNat, by omega, fun W => (cut_mid t e kl kh ht hi d.sz hsz A xs.length c j m h0 h1 hm hc W).trans (by rw [hl]), fun W h => Kd.C_mid h (lo := j.toNat) (hi := m.toNat) (by omega) (by omega) hc⟩
/-- What an append leaves: its blocks are the row's, the appended row's, or new. -/
theorem LR.of_app {v1 : Value} (h : d.R e w1 base (fun k => P1 k ∨ W.heap.size ≤ k) v1 xs) : ∃ R, (∀ k, R k → P1 k ∨ W.heap.size ≤ k) ∧ LR d e w1 base R v1 xs :=
  ⟨fun k => (P1 k ∨ W.heap.size ≤ k) ∧ k < w1.heap.size, fun k hk => hk.1, Kd.R_mono (Kd.R_bound h) (fun k hk => ⟨hk.1, hk.2.2.1⟩), fun k hk => hk.2⟩
theorem LS.of_app {v1 : Value} (h : Kd.S d e w1 base (fun k => P1 k ∨ W.heap.size ≤ k) v1 xs) : ∃ R, (∀ k, R k → P1 k ∨ W.heap.size ≤ k) ∧ LS d e w1 base R v1 xs :=
  ⟨fun k => (P1 k ∨ W.heap.size ≤ k) ∧ k < w1.heap.size, fun k hk => hk.1, Kd.S_mono (Kd.S_bound h) (fun k hk => ⟨hk.1, hk.2.2.1⟩), fun k hk => hk.2⟩
theorem kept_app (hg : W.grownBy w1 v.ownBlock) (hP : ∀ k, v.ownBlock = some k → P1 k) : Kept W w1 P1 := Kept.of_grown hg (Kept.refl W P1) (fun k hk => .inl (hP k hk))
/-- append(out, own...), both rows' elements apart. -/
theorem LS.append_rows_step (d : Kd α) (hw : Region.wanted o (yielded ops a.tmps) = true) (s x : Operand) (t e : TypeId) (z : Value) (bytes : Nat)
    (ho : o.op = .call { callee := .builtin .append, args := #[s, x], argTypes := #[t, t] })
    (ht : P.underlying t = some (.slice e)) (hinfo : (P.info? e).map (fun i => (i.zero, i.size, i.bytes)) = some (some z, d.sz, bytes)) (hz : z.cells.size = d.sz) (hs0 : 0 < d.sz) (hb0 : 0 < bytes)
    (v : Value) (xs ys : List α) (A : Option Addr) (m c : Nat) (hs : a.eval s = v) (hx : a.eval x = .slice A m c)
    (HO : LS d e W w0.heap.size P1 v xs) (HY : LS d e W w0.heap.size P2 (.slice A m c) ys) (hD : ∀ k, P1 k → ¬ P2 k)
    (HB : Below w0.heap.size w0 W) (hl : (xs.length + m) * bytes ≤ 140737488355328)
    (h : ∀ R v1 w1, LS d e w1 w0.heap.size R v1 (xs ++ ys) → Below w0.heap.size w0 w1 → Kept W w1 P1 → (∀ k, R k → (P1 k ∨ P2 k) ∨ W.heap.size ≤ k) → Kc (a.put o.dst v1) w1) :
    if Region.wanted o (yielded ops a.tmps) = true then Oper.wp P o a W Kc Q else Kc (a.put o.dst undef) W := by
  obtain ⟨f, hR, hml, hrr⟩ := S_rows (ok := fun k => (P1 k ∨ P2 k) ∨ W.heap.size ≤ k) (Kd.S_mono (ok' := fun k => ((P1 k ∨ P2 k) ∨ W.heap.size ≤ k) ∧ ¬ P2 k) HO.1 (fun k hk => ⟨.inl (.inl hk), hD k hk⟩)) HY.1
  refine Kd.R_append_rows_step (Kd.tag f d) w0.heap.size hw s x t e z bytes ho ht hinfo hz hs0 hb0 v xs.zipIdx (ys.zipIdx xs.length) A m c _ _ hs hx hR hrr (fun _ _ hp => hp) (fun k hk => ⟨.inl (.inr hk.1), hk.2⟩) (fun k hk => .inr hk) HB HB.size (by rw [List.length_zipIdx]; exact hl) ?_
  intro v1 w1 hr hb hg hat
  rw [← zip_rows] at hr
  obtain ⟨R, h1, h2⟩ := LS.of_app (P1 := fun k => P1 k ∨ P2 k) ⟨f, hr⟩
  exact h R v1 w1 h2 hb (kept_app hg (fun k hk => by obtain ⟨f0, h0⟩ := HO.1; exact h0.1 k hk)) h1
theorem LS.append_rows (d : Kd α) (hgd : o.guard = none) (s x : Operand) (t e : TypeId) (z : Value) (bytes : Nat)
    (ho : o.op = .call { callee := .builtin .append, args := #[s, x], argTypes := #[t, t] })
    (ht : P.underlying t = some (.slice e)) (hinfo : (P.info? e).map (fun i => (i.zero, i.size, i.bytes)) = some (some z, d.sz, bytes)) (hz : z.cells.size = d.sz) (hs0 : 0 < d.sz) (hb0 : 0 < bytes)
    (v : Value) (xs ys : List α) (A : Option Addr) (m c : Nat) (hs : a.eval s = v) (hx : a.eval x = .slice A m c)
    (HO : LS d e W w0.heap.size P1 v xs) (HY : LS d e W w0.heap.size P2 (.slice A m c) ys) (hD : ∀ k, P1 k → ¬ P2 k)
    (HB : Below w0.heap.size w0 W) (hl : (xs.length + m) * bytes ≤ 140737488355328)
    (h : ∀ R v1 w1, LS d e w1 w0.heap.size R v1 (xs ++ ys) → Below w0.heap.size w0 w1 → Kept W w1 P1 → (∀ k, R k → (P1 k ∨ P2 k) ∨ W.heap.size ≤ k) → wpList P ops Q rest (a.put o.dst v1) w1) :
    wpList P ops Q (o :: rest) a W := by
  obtain ⟨f, hR, hml, hrr⟩ := S_rows (ok := fun k => (P1 k ∨ P2 k) ∨ W.heap.size ≤ k) (Kd.S_mono (ok' := fun k => ((P1 k ∨ P2 k) ∨ W.heap.size ≤ k) ∧ ¬ P2 k) HO.1 (fun k hk => ⟨.inl (.inl hk), hD k hk⟩)) HY.1
  refine Kd.R_append_rows (Kd.tag f d) w0.heap.size hgd s x t e z bytes ho ht hinfo hz hs0 hb0 v xs.zipIdx (ys.zipIdx xs.length) A m c _ _ hs hx hR hrr (fun _ _ hp => hp) (fun k hk => ⟨.inl (.inr hk.1), hk.2⟩) (fun k hk => .inr hk) HB HB.size (by rw [List.length_zipIdx]; exact hl) ?_
  intro v1 w1 hr hb hg hat
  rw [← zip_rows] at hr
  obtain ⟨R, h1, h2⟩ := LS.of_app (P1 := fun k => P1 k ∨ P2 k) ⟨f, hr⟩
  exact h R v1 w1 h2 hb (kept_app hg (fun k hk => by obtain ⟨f0, h0⟩ := HO.1; exact h0.1 k hk)) h1
/-- append(out, xs...) of a flat row that is read. -/
theorem LR.append_read (d : Kd α) (hgd : o.guard = none) (s x : Operand) (t e : TypeId) (z : Value) (bytes : Nat)
    (ho : o.op = .call { callee := .builtin .append, args := #[s, x], argTypes := #[t, t] })
    (ht : P.underlying t = some (.slice e)) (hinfo : (P.info? e).map (fun i => (i.zero, i.size, i.bytes)) = some (some z, d.sz, bytes)) (hz : z.cells.size = d.sz) (hs0 : 0 < d.sz) (hb0 : 0 < bytes)
    (v : Value) (xs ys : List α) (A : Option Addr) (m c : Nat) (hs : a.eval s = v) (hx : a.eval x = .slice A m c)
    (hK : ∀ x cs, d.K W x cs → d.M W w0.heap.size (fun _ => False) x cs)
    (HO : LR d e W w0.heap.size P1 v xs) (HR : d.C W A m ys)
    (HB : Below w0.heap.size w0 W) (hl : (xs.length + m) * bytes ≤ 140737488355328)
    (h : ∀ R v1 w1, LR d e w1 w0.heap.size R v1 (xs ++ ys) → Below w0.heap.size w0 w1 → Kept W w1 P1 → (∀ k, R k → P1 k ∨ W.heap.size ≤ k) → wpList P ops Q rest (a.put o.dst v1) w1) :
    wpList P ops Q (o :: rest) a W := by
  refine Kd.R_append_rows d w0.heap.size hgd s x t e z bytes ho ht hinfo hz hs0 hb0 v xs ys A m c (fun k => P1 k ∨ W.heap.size ≤ k) (fun _ => False) hs hx (Kd.R_mono HO.1 (fun k hk => .inl hk)) HR hK (fun _ hk => hk.elim) (fun k hk => .inr hk) HB HB.size hl ?_
  intro v1 w1 hr hb hg hat
  obtain ⟨R, h1, h2⟩ := LR.of_app hr
  exact h R v1 w1 h2 hb (kept_app hg (fun k hk => HO.1.1 k hk)) h1
theorem LR.append_read_step (d : Kd α) (hw : Region.wanted o (yielded ops a.tmps) = true) (s x : Operand) (t e : TypeId) (z : Value) (bytes : Nat)
    (ho : o.op = .call { callee := .builtin .append, args := #[s, x], argTypes := #[t, t] })
    (ht : P.underlying t = some (.slice e)) (hinfo : (P.info? e).map (fun i => (i.zero, i.size, i.bytes)) = some (some z, d.sz, bytes)) (hz : z.cells.size = d.sz) (hs0 : 0 < d.sz) (hb0 : 0 < bytes)
    (v : Value) (xs ys : List α) (A : Option Addr) (m c : Nat) (hs : a.eval s = v) (hx : a.eval x = .slice A m c)
    (hK : ∀ x cs, d.K W x cs → d.M W w0.heap.size (fun _ => False) x cs)
    (HO : LR d e W w0.heap.size P1 v xs) (HR : d.C W A m ys)
    (HB : Below w0.heap.size w0 W) (hl : (xs.length + m) * bytes ≤ 140737488355328)
    (h : ∀ R v1 w1, LR d e w1 w0.heap.size R v1 (xs ++ ys) → Below w0.heap.size w0 w1 → Kept W w1 P1 → (∀ k, R k → P1 k ∨ W.heap.size ≤ k) → Kc (a.put o.dst v1) w1) :
    if Region.wanted o (yielded ops a.tmps) = true then Oper.wp P o a W Kc Q else Kc (a.put o.dst undef) W := by
  refine Kd.R_append_rows_step d w0.heap.size hw s x t e z bytes ho ht hinfo hz hs0 hb0 v xs ys A m c (fun k => P1 k ∨ W.heap.size ≤ k) (fun _ => False) hs hx (Kd.R_mono HO.1 (fun k hk => .inl hk)) HR hK (fun _ hk => hk.elim) (fun k hk => .inr hk) HB HB.size hl ?_
  intro v1 w1 hr hb hg hat
  obtain ⟨R, h1, h2⟩ := LR.of_app hr
  exact h R v1 w1 h2 hb (kept_app hg (fun k hk => HO.1.1 k hk)) h1
theorem scalar_K {enc : α → Value} {h1 : ∀ x, (enc x).oneCell' = true} {x : α} {cs : List Value} (h : (Kd.scalar enc h1).K W x cs) : (Kd.scalar enc h1).M W base (fun _ => False) x cs := h
/-- What lies apart from two rows, and is elder than what is new, lies apart from what an append has made of them. -/
theorem apart_app {R X : Nat → Prop} (hR : ∀ k, R k → P1 k ∨ W.heap.size ≤ k) (hX : ∀ k, X k → k < W.heap.size) (h1 : ∀ k, X k → ¬ P1 k) : ∀ k, X k → ¬ R k := fun k hx hr => by
  rcases hR k hr with h | h
  · exact h1 k hx h
  · exact absurd (hX k hx) (by omega)
theorem apart_or {X : Nat → Prop} (h1 : ∀ k, X k → ¬ P1 k) (h2 : ∀ k, X k → ¬ P2 k) : ∀ k, X k → ¬ (P1 k ∨ P2 k) := fun k hx h => h.elim (h1 k hx) (h2 k hx)
end
end Go.Proofs.Ytkiknhljomobpaa.Lawful
