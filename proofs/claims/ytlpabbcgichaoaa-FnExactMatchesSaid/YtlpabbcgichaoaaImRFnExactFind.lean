/- The program's matcher while it runs: what its maps hold. -/
import Derived.Test.YtlpabbcgichaoaaImAFnExactFind
import Derived.Test.YtlpabbcgichaoaaImMFnExactFind
import Derived.Test.YtlpabbcgichaoaaPFnExactFindx6
import Derived.Deep.QuietTactic
import Derived.BigQuiet
import Derived.StillTailTactics
import Derived.Outline
import Derived.Deep.RegionHeld3
import Derived.Deep.Cut
import Derived.Test.YtlpabbcgichaoaaHw
import Derived.Test.YtlpabbcgichaoaaPk
namespace Go.Proofs.Ytlpabbcgichaoaa.PFnExactFind
open Go.RowKit Go.Proofs.Ytlpabbcgichaoaa.Lawful Go.Proofs.YtlpabbcgichaoaaW.PrintWords Go.Proofs.YtlpabbcgichaoaaW.PrintLast Go.Proofs.YtlpabbcgichaoaaW.PrintMore
attribute [local go_sem] max2_int min2_int max_two min_two max_three min_three max_four min_four   -- for this text's walks alone
set_option linter.unusedVariables false
set_option linter.unusedSimpArgs false
section
open Go.Proofs.Ytlpabbcgichaoaa.Lawful
theorem join_go (n : Nat) (f g : Nat → Bool) (hn : n < 4611686018427387904) : ∀ (d i : Nat), i + d = n + 1 → impl_join.l0 (d + 1) (rowOf n (fun j => if j < i then f j || g j else f j)) (rowOf n g) ((n : Int) + 1) (i : Int) = some (rowOf n (fun j => f j || g j)) := by
 intro d
 induction d with
 | zero =>
  intro i hi
  rw [impl_join.l0, if_neg (by omega)]
  exact congrArg some (rowOf_congr (fun j hj => if_pos (by omega)))
 | succ d ih =>
  intro i hi
  have hin : i ≤ n := by omega
  rw [impl_join.l0, if_pos (by omega), if_pos (by omega), if_pos (by rw [rowOf_len]; omega), if_pos (by rw [rowOf_len]; omega)]
  have hw : wrap64 ((i : Int) + 1) = ((i + 1 : Nat) : Int) := by unfold wrap64; omega
  have h1 : rdOf false (rowOf n (fun j => if j < i then f j || g j else f j)) (i : Int) = f i := by
   unfold rdOf; rw [Int.toNat_natCast, List.getD_eq_getElem?_getD, rowOf_at n _ i hin]; simp
  have h2 : rdOf false (rowOf n g) (i : Int) = g i := by
   unfold rdOf; rw [Int.toNat_natCast, List.getD_eq_getElem?_getD, rowOf_at n _ i hin]; rfl
  have key : ∀ b : Bool, b = (f i || g i) → (rowOf n (fun j => if j < i then f j || g j else f j)).set i b = rowOf n (fun j => if j < i + 1 then f j || g j else f j) := fun b hb => by
   rw [rowOf_set]
   refine rowOf_congr (fun j hj => ?_)
   by_cases e : j = i
   ·
    subst e; rw [if_pos rfl, if_pos (by omega), hb]
   rw [if_neg e]
   by_cases c : j < i
   ·
    rw [if_pos c, if_pos (by omega)]
   rw [if_neg c, if_neg (by omega)]
  rw [h1, h2, Int.toNat_natCast, hw]
  by_cases c : f i = true
  ·
   rw [if_pos c, key true (by rw [c]; rfl)]; exact ih (i + 1) (by omega)
  rw [if_neg c, key (g i) (by rw [Bool.eq_false_iff.2 c]; rfl)]; exact ih (i + 1) (by omega)
theorem join_row (n : Nat) (f g : Nat → Bool) (hn : n < 4611686018427387904) : impl_join.f (n + 2) (rowOf n f) (rowOf n g) = some (rowOf n (fun j => f j || g j)) := by
 have h := join_go n f g hn (n + 1) 0 (by omega)
 unfold impl_join.f
 rw [rowOf_len]
 have e : rowOf n (fun j => if j < 0 then f j || g j else f j) = rowOf n f := rowOf_congr (fun j _ => if_neg (by omega))
 rw [e] at h
 exact h
structure imE where
 PG : Nat → Prop
 PN : Nat → Prop
 gG : Nat
 gE : Nat
 gR : Nat
 BN : Option Addr
 DN : Nat
 T : ByteArray
 L : Nat
 ns : List (S31 × List Int)
@[reducible] def imTx (T : ByteArray) : Nat → Int := fun i => bt T (i : Int)
@[reducible] def imRow (T : ByteArray) (x : S31) (i : Nat) : List Bool := rowOf T.size (mat (imTx T) T.size x i)
@[reducible] def imOn (T : ByteArray) (x : S31) (d i : Nat) : List Bool := rowOf T.size (onw (imTx T) T.size x d i)
def imVal (E : imE) (W : World) (PE : Nat → Prop) (v : Value) (l : List Bool) : Prop := ∃ A c, v = .slice A E.L c ∧ E.L ≤ c ∧ Kd.F Kd.bool W (fun k => PE k ∧ k ≠ E.gE ∧ k ≠ E.gR) A E.L l
def imE2 (E : imE) (W : World) (PE : Nat → Prop) (x : MapEntry) : Prop := ∃ (node i : Nat) (y : S31) (ks : List Int), x.key = .agg #[.int .i64 (node : Int), .int .i64 (i : Int)] ∧ (node < 9223372036854775808 ∧ i < 9223372036854775808) ∧ E.ns[node]? = some (y, ks) ∧ imVal E W PE x.val (imRow E.T y i)
def imE3 (E : imE) (W : World) (PE : Nat → Prop) (x : MapEntry) : Prop := ∃ (node d i : Nat) (y : S31) (ks : List Int), x.key = .agg #[.int .i64 (node : Int), .int .i64 (d : Int), .int .i64 (i : Int)] ∧ (node < 9223372036854775808 ∧ d < 9223372036854775808 ∧ i < 9223372036854775808) ∧ E.ns[node]? = some (y, ks) ∧ imVal E W PE x.val (imOn E.T y d i)
def imK (E : imE) (W : World) (PE : Nat → Prop) : Prop :=
 (PE E.gE ∧ PE E.gR) ∧ (∀ k, PE k → k < W.heap.size) ∧ (∃ es c, W.heap[E.gE]? = some (.map es c) ∧ ∀ x ∈ es.toList, imE2 E W PE x) ∧ (∃ es c, W.heap[E.gR]? = some (.map es c) ∧ ∀ x ∈ es.toList, imE3 E W PE x)
theorem imVal.step {E : imE} {W W' : World} {PE PE' : Nat → Prop} {v : Value} {l : List Bool} (h : imVal E W PE v l) (hW : ∀ k, PE k → k ≠ E.gE → k ≠ E.gR → k < W.heap.size → W'.heap[k]? = W.heap[k]?) (hP : ∀ k, PE k → PE' k) : imVal E W' PE' v l := by
 obtain ⟨A, c, h1, h2, h3⟩ := h
 exact ⟨A, c, h1, h2, Kd.F_mono (Kd.F_step h3 (fun k hk hlt => hW k hk.1 hk.2.1 hk.2.2 hlt)) (fun k hk => ⟨hP k hk.1, hk.2⟩)⟩
theorem imK.lt {E : imE} {W : World} {PE : Nat → Prop} (h : imK E W PE) : ∀ k, PE k → k < W.heap.size := h.2.1
theorem imK.step {E : imE} {W W' : World} {PE S : Nat → Prop} (h : imK E W PE) (hk : Kept W W' S) (hS : ∀ k, PE k → ¬ S k) : imK E W' PE := by
 obtain ⟨h1, h2, ⟨es, c, h3, h4⟩, ⟨es2, c2, h5, h6⟩⟩ := h
 have hW : ∀ k, PE k → k ≠ E.gE → k ≠ E.gR → k < W.heap.size → W'.heap[k]? = W.heap[k]? := fun k hp _ _ hlt => hk.2 k hlt (hS k hp)
 refine ⟨h1, fun k hp => Nat.lt_of_lt_of_le (h2 k hp) hk.1, ⟨es, c, (hk.2 _ (h2 _ h1.1) (hS _ h1.1)).trans h3, fun x hx => ?_⟩, ⟨es2, c2, (hk.2 _ (h2 _ h1.2) (hS _ h1.2)).trans h5, fun x hx => ?_⟩⟩
 ·
  obtain ⟨node, i, y, ks, a1, a2, a3, a4⟩ := h4 x hx
  exact ⟨node, i, y, ks, a1, a2, a3, a4.step hW (fun _ h => h)⟩
 obtain ⟨node, d, i, y, ks, a1, a2, a3, a4⟩ := h6 x hx
 exact ⟨node, d, i, y, ks, a1, a2, a3, a4.step hW (fun _ h => h)⟩
theorem imE2.key {E : imE} {W : World} {PE : Nat → Prop} {x : MapEntry} (h : imE2 E W PE x) : ∃ l, keyOf Try.prog 86 x.key = some l := by
 obtain ⟨node, i, y, ks, a1, a2, _⟩ := h
 rw [a1]
 exact im_key2 node i a2
theorem imE3.key {E : imE} {W : World} {PE : Nat → Prop} {x : MapEntry} (h : imE3 E W PE x) : ∃ l, keyOf Try.prog 101 x.key = some l := by
 obtain ⟨node, d, i, y, ks, a1, a2, _⟩ := h
 rw [a1]
 exact im_key3 node d i a2
theorem im_zero (w : World) : (zeroValue 64).run Try.prog w = .ok (.slice none 0 0) w := by kernel_rfl
theorem imK.look2 {E : imE} {W : World} {PE : Nat → Prop} (h : imK E W PE) (node i : Nat) (hn : node < 9223372036854775808 ∧ i < 9223372036854775808) {y : S31} {ks : List Int} (hy : E.ns[node]? = some (y, ks)) :
  (Instr.lookup 70 (.map (some E.gE)) (.agg #[.int .i64 (node : Int), .int .i64 (i : Int)]) true).run Try.prog W = .ok (.tuple #[.slice none 0 0, .bool false]) W ∨ ∃ v, (Instr.lookup 70 (.map (some E.gE)) (.agg #[.int .i64 (node : Int), .int .i64 (i : Int)]) true).run Try.prog W = .ok (.tuple #[v, .bool true]) W ∧ imVal E W PE v (imRow E.T y i) := by
 obtain ⟨h1, h2, ⟨es, c, h3, h4⟩, _⟩ := h
 rcases im_look im_law2 Try.underlying70 (im_zero W) h3 (fun x hx => (h4 x hx).key) (im_key2 node i hn) with h | ⟨e0, he, hk, hr⟩
 ·
  exact .inl h
 obtain ⟨node', i', y', ks', a1, a2, a3, a4⟩ := h4 e0 he
 rw [hk] at a1
 injection a1 with a1
 injection a1 with a1
 injection a1 with b1 b2
 injection b2 with b2 _
 injection b1 with _ b1
 injection b2 with _ b2
 obtain rfl : node = node' := by omega
 obtain rfl : i = i' := by omega
 rw [hy] at a3
 injection a3 with a3
 injection a3 with a3 _
 subst a3
 exact .inr ⟨_, hr, a4⟩
theorem imK.look3 {E : imE} {W : World} {PE : Nat → Prop} (h : imK E W PE) (node d i : Nat) (hn : node < 9223372036854775808 ∧ d < 9223372036854775808 ∧ i < 9223372036854775808) {y : S31} {ks : List Int} (hy : E.ns[node]? = some (y, ks)) :
  (Instr.lookup 71 (.map (some E.gR)) (.agg #[.int .i64 (node : Int), .int .i64 (d : Int), .int .i64 (i : Int)]) true).run Try.prog W = .ok (.tuple #[.slice none 0 0, .bool false]) W ∨ ∃ v, (Instr.lookup 71 (.map (some E.gR)) (.agg #[.int .i64 (node : Int), .int .i64 (d : Int), .int .i64 (i : Int)]) true).run Try.prog W = .ok (.tuple #[v, .bool true]) W ∧ imVal E W PE v (imOn E.T y d i) := by
 obtain ⟨h1, h2, _, ⟨es, c, h3, h4⟩⟩ := h
 rcases im_look im_law3 Try.underlying71 (im_zero W) h3 (fun x hx => (h4 x hx).key) (im_key3 node d i hn) with h | ⟨e0, he, hk, hr⟩
 ·
  exact .inl h
 obtain ⟨node', d', i', y', ks', a1, a2, a3, a4⟩ := h4 e0 he
 rw [hk] at a1
 injection a1 with a1
 injection a1 with a1
 injection a1 with b1 b2
 injection b2 with b2 b3
 injection b3 with b3 _
 injection b1 with _ b1
 injection b2 with _ b2
 injection b3 with _ b3
 obtain rfl : node = node' := by omega
 obtain rfl : d = d' := by omega
 obtain rfl : i = i' := by omega
 rw [hy] at a3
 injection a3 with a3
 injection a3 with a3 _
 subst a3
 exact .inr ⟨_, hr, a4⟩
@[reducible] def imStored (E : imE) (W W' : World) (PE PO : Nat → Prop) (g : Nat) : Prop := imK E W' (fun k => PE k ∨ PO k) ∧ Kept W W' (fun k => k = g) ∧ ∀ w : World, Below w.heap.size w W → w.heap.size ≤ g → Below w.heap.size w W'
theorem setBlock_kept {W : World} {b : Nat} {es es' : Array MapEntry} {c c' : Nat} (hb : W.heap[b]? = some (.map es c)) : Kept W (ChangeMaps.setBlock W b (.map es' c')) (fun k => k = b) ∧ (ChangeMaps.setBlock W b (.map es' c')).heap.size = W.heap.size ∧ ∀ w : World, Below w.heap.size w W → w.heap.size ≤ b → Below w.heap.size w (ChangeMaps.setBlock W b (.map es' c')) := by
 have hs : (ChangeMaps.setBlock W b (.map es' c')).heap.size = W.heap.size := by simp [ChangeMaps.setBlock]
 refine ⟨⟨by rw [hs]; exact Nat.le_refl _, fun k _ hk => ChangeMaps.heap_setBlock_other hb _ hk⟩, hs, fun w hw hge => ⟨hw.os, hw.tape, hw.output, by rw [hs]; exact hw.size, fun k hk => (ChangeMaps.heap_setBlock_other hb _ (by omega)).trans (hw.block k hk)⟩⟩
theorem imK.put2 {E : imE} {W : World} {PE PO : Nat → Prop} (h : imK E W PE) (hne : E.gE ≠ E.gR) (hL : E.L = E.T.size + 1) (node i : Nat) (hn : node < 9223372036854775808 ∧ i < 9223372036854775808) {y : S31} {ks : List Int} (hy : E.ns[node]? = some (y, ks)) {base : Nat} {A : Option Addr} {c : Nat} (hO : LR Kd.bool 4 W base PO (.slice A E.L c) (imRow E.T y i)) (hD : ∀ k, PO k → ¬ PE k) :
  ∃ w', (Instr.mapUpdate 70 (.map (some E.gE)) (.agg #[.int .i64 (node : Int), .int .i64 (i : Int)]) (.slice A E.L c)).run Try.prog W = .ok () w' ∧ imStored E W w' PE PO E.gE := by
 obtain ⟨h1, h2, ⟨es, c0, h3, h4⟩, ⟨es2, c2, h5, h6⟩⟩ := h
 obtain ⟨es', c', hr, hm⟩ := im_put im_law2 Try.underlying70 h3 (fun x hx => (h4 x hx).key) (im_key2 node i hn) (val := .slice A E.L c)
 obtain ⟨k1, k2, k3⟩ := setBlock_kept (es' := es') (c' := c') h3
 have hW : ∀ k, PE k → k ≠ E.gE → k ≠ E.gR → k < W.heap.size → (ChangeMaps.setBlock W E.gE (.map es' c')).heap[k]? = W.heap[k]? := fun k _ hk _ hlt => k1.2 k hlt hk
 refine ⟨_, hr, ⟨⟨.inl h1.1, .inl h1.2⟩, fun k hk => by rw [k2]; exact hk.elim (h2 k) (hO.lt k), ⟨es', c', ChangeMaps.heap_setBlock_same h3 _, fun x hx => ?_⟩, ⟨es2, c2, (k1.2 _ (h2 _ h1.2) (fun e => hne e.symm)).trans h5, fun x hx => ?_⟩⟩, k1, k3⟩
 ·
  rcases hm x hx with hx | ⟨e1, e2⟩
  ·
   obtain ⟨node, i, y, ks, a1, a2, a3, a4⟩ := h4 x hx
   exact ⟨node, i, y, ks, a1, a2, a3, a4.step hW (fun _ h => .inl h)⟩
  refine ⟨node, i, y, ks, e1, hn, hy, A, c, e2, ?_, ?_⟩
  ·
   have := hO.room; rw [show (imRow E.T y i).length = E.L from (rowOf_len _ _).trans hL.symm] at this; exact this
  have hF := Kd.R_F hO.1
  refine Kd.F_mono (Kd.F_step hF (fun k hk hlt => k1.2 k hlt (fun e => hD k hk (e ▸ h1.1)))) (fun k hk => ⟨.inr hk, fun e => hD k hk (e ▸ h1.1), fun e => hD k hk (e ▸ h1.2)⟩)
 obtain ⟨node, d, i, y, ks, a1, a2, a3, a4⟩ := h6 x hx
 exact ⟨node, d, i, y, ks, a1, a2, a3, a4.step hW (fun _ h => .inl h)⟩
theorem imK.put3 {E : imE} {W : World} {PE PO : Nat → Prop} (h : imK E W PE) (hne : E.gE ≠ E.gR) (hL : E.L = E.T.size + 1) (node d i : Nat) (hn : node < 9223372036854775808 ∧ d < 9223372036854775808 ∧ i < 9223372036854775808) {y : S31} {ks : List Int} (hy : E.ns[node]? = some (y, ks)) {base : Nat} {A : Option Addr} {c : Nat} (hO : LR Kd.bool 4 W base PO (.slice A E.L c) (imOn E.T y d i)) (hD : ∀ k, PO k → ¬ PE k) :
  ∃ w', (Instr.mapUpdate 71 (.map (some E.gR)) (.agg #[.int .i64 (node : Int), .int .i64 (d : Int), .int .i64 (i : Int)]) (.slice A E.L c)).run Try.prog W = .ok () w' ∧ imStored E W w' PE PO E.gR := by
 obtain ⟨h1, h2, ⟨es2, c2, h5, h6⟩, ⟨es, c0, h3, h4⟩⟩ := h
 obtain ⟨es', c', hr, hm⟩ := im_put im_law3 Try.underlying71 h3 (fun x hx => (h4 x hx).key) (im_key3 node d i hn) (val := .slice A E.L c)
 obtain ⟨k1, k2, k3⟩ := setBlock_kept (es' := es') (c' := c') h3
 have hW : ∀ k, PE k → k ≠ E.gE → k ≠ E.gR → k < W.heap.size → (ChangeMaps.setBlock W E.gR (.map es' c')).heap[k]? = W.heap[k]? := fun k _ _ hk hlt => k1.2 k hlt hk
 refine ⟨_, hr, ⟨⟨.inl h1.1, .inl h1.2⟩, fun k hk => by rw [k2]; exact hk.elim (h2 k) (hO.lt k), ⟨es2, c2, (k1.2 _ (h2 _ h1.1) hne).trans h5, fun x hx => ?_⟩, ⟨es', c', ChangeMaps.heap_setBlock_same h3 _, fun x hx => ?_⟩⟩, k1, k3⟩
 ·
  obtain ⟨node, i, y, ks, a1, a2, a3, a4⟩ := h6 x hx
  exact ⟨node, i, y, ks, a1, a2, a3, a4.step hW (fun _ h => .inl h)⟩
 rcases hm x hx with hx | ⟨e1, e2⟩
 ·
  obtain ⟨node, d, i, y, ks, a1, a2, a3, a4⟩ := h4 x hx
  exact ⟨node, d, i, y, ks, a1, a2, a3, a4.step hW (fun _ h => .inl h)⟩
 refine ⟨node, d, i, y, ks, e1, hn, hy, A, c, e2, ?_, ?_⟩
 ·
  have := hO.room; rw [show (imOn E.T y d i).length = E.L from (rowOf_len _ _).trans hL.symm] at this; exact this
 have hF := Kd.R_F hO.1
 refine Kd.F_mono (Kd.F_step hF (fun k hk hlt => k1.2 k hlt (fun e => hD k hk (e ▸ h1.2)))) (fun k hk => ⟨.inr hk, fun e => hD k hk (e ▸ h1.1), fun e => hD k hk (e ▸ h1.2)⟩)
theorem im_info4 : (Try.prog.info? 4).map (fun i => (i.zero, i.size, i.bytes)) = some (some (.bool false), 1, 1) := by kernel_rfl
@[reducible] def impl_none.Post (w ws : World) (T : ByteArray) (L : Nat) (e : Ending) (w' : World) : Prop := ∃ (B : Option Addr) (D : Nat) (P : Nat → Prop), e = .returned (.slice B L D) ∧ LR Kd.bool 4 w' w.heap.size P (.slice B L D) (rowOf T.size (fun _ => false)) ∧ Below w.heap.size w w' ∧ Kept ws w' (fun _ => False) ∧ ∀ k, P k → ws.heap.size ≤ k
set_option maxHeartbeats 16000000 in
set_option maxRecDepth 100000 in
theorem impl_none (w ws : World) (PG : Nat → Prop) (gG : Nat) (T : ByteArray) (v1 v2 v3 v4 : Value) (L : Nat) (hL : L = T.size + 1) (hB : Below w.heap.size w ws) (hG : LB ws PG gG 74 #[.string T, v1, v2, v3, v4]) (hT : T.size ≤ 120) :
  Calls Try.prog 50 #[.pointer (some ⟨gG, 0, none⟩)] ws (impl_none.Post w ws T L) := by
 have hu := Try.underlying74
 have HB := Aside0.mk hB
 have HG := Aside0.mk hG
 have HT := Aside0.mk hT
 have HK := Aside0.mk (Kept.refl ws (fun _ => False))
 obtain ⟨W1, hW⟩ : ∃ W_, W_ = T.size + 1 := ⟨_, rfl⟩
 have e1 : wrap64 ((T.size : Int) + 1) = (W1 : Int) := wrap_nat (by rw [hW]; rfl) (by omega)
 have e1k : IntKind.i64.wrap ((T.size : Int) + 1) = (W1 : Int) := (i64_w _).trans e1
 have HW := Aside0.mk hW
 obtain ⟨zs, hzs⟩ : ∃ z_ : List Bool, z_ = List.replicate W1 false := ⟨_, rfl⟩
 have Nzs := Aside0.mk hzs
 have HLL := Aside0.mk hL
 clear hB hG hT hW hzs hL
 replace jG := HG.out.c5
 go_enter Try.func50, Try.ntmps50
 go_wp2_with (first | ((with_reducible refine gate_dst (N := 9) rfl ?_); refine Kd.R_make Kd.bool _ 4 rfl (N := 9) rfl 64 _ _ rfl (W1 : Int) rfl rfl Try.underlying64 (.bool false) 1 im_info4 rfl (by decide) (by omega) false (ok := fun _ => True) (okp := fun _ => True) rfl (fun _ hk => hk) trivial (Int.natCast_nonneg _) (by rw [Int.toNat_natCast]; have := HW.out; have := HT.out; omega) (Below.refl _ _) (Nat.le_refl _) ?_; intro vY w2 hrY hb hg_ hnew_; clear hg_ hnew_; rw [Int.toNat_natCast, ← Nzs.out] at hrY; have hk := kept_below hb; obtain ⟨PY, hPY, HLY⟩ := LR.fresh rfl HB.out hrY; have HY := Aside0.mk HLY; clear HLY hrY; have D_G_Y := na hPY HG; have RRY := Aside0.mk (show ∀ k_, PY k_ → (fun _ => False) k_ ∨ ws.heap.size ≤ k_ from fun k_ h_ => .inr (Nat.le_trans HK.out.1 (hPY k_ h_).1)); replace HG := sn hk HG; replace HK := Aside0.mk (HK.out.then_ hk no_R); clear hPY; obtain ⟨BY, DY, e_Y⟩ := HY.out.val; subst e_Y; replace HB := Aside0.mk (below_step HB.out hb); clear hb hk; replace jG := HG.out.c5))
 go_ret
 have hzl : zs.length = L := by rw [Nzs.out, List.length_replicate, HLL.out]; exact HW.out
 have hzr : zs = rowOf T.size (fun _ => false) := by rw [Nzs.out, HW.out]; exact rowOf_none _
 rw [hzl] at HY
 rw [hzl]
 exact ⟨_, _, PY, rfl, hzr ▸ HY.out, HB.out, HK.out, fun k hk => (RRY.out k hk).resolve_left (fun h => h)⟩
end
end Go.Proofs.Ytlpabbcgichaoaa.PFnExactFind
