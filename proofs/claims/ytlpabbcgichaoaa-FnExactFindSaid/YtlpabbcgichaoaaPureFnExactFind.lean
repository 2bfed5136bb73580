/- The program's Find is the reference's: plain. -/
import Derived.Test.YtlpabbcgichaoaaPFnExactFindx7
import Derived.Test.YtlpabbcgichaoaaHandFnExactFind
import Derived.Test.YtlpabbcgichaoaaPFnExactFindx6
import Derived.Test.YtlpabbcgichaoaaPFnExactFindx3
import Derived.OpenShut
namespace Go.Proofs.Ytlpabbcgichaoaa.Pure
open Go.RowKit Go.Proofs.Ytlpabbcgichaoaa.PFnExactFind Go.Proofs.YtlpabbcgichaoaaW.PrintWords Go.Proofs.YtlpabbcgichaoaaW.PrintLast Go.Proofs.YtlpabbcgichaoaaW.PrintMore
set_option linter.unusedVariables false
set_option linter.unusedSimpArgs false

theorem Ev_pos {α : Type} {c : Prop} [Decidable c] {A B : Nat → Option α} {r : α} (h : c) (e : Ev A r) : Ev (fun k => if c then A k else B k) r := by
 simpa only [if_pos h] using e
theorem Ev_neg {α : Type} {c : Prop} [Decidable c] {A B : Nat → Option α} {r : α} (h : ¬ c) (e : Ev B r) : Ev (fun k => if c then A k else B k) r := by
 simpa only [if_neg h] using e
theorem Ev_some {α : Type} (r : α) : Ev (fun _ => some r) r := Ev.now r
theorem Ev_const {α : Type} {x : Option α} {r : α} (h : x = some r) : Ev (fun _ => x) r := ⟨0, fun _ _ => h⟩
theorem Ev_eq {α : Type} {A : Nat → Option α} {r q : α} (h : Ev A r) (e : r = q) : Ev A q := e ▸ h
theorem Ev_bindc {α β : Type} {x : Option α} {f : Nat → α → Option β} {a : α} {r : β} (h : x = some a) (k : Ev (fun n => f n a) r) : Ev (fun n => x.bind (f n)) r := Ev.bind (g := fun _ => x) (Ev_const h) k
theorem wrap64_id {x : Int} (h0 : -9223372036854775808 ≤ x) (h1 : x ≤ 9223372036854775807) : wrap64 x = x := by
 unfold wrap64; omega
theorem rd_append_len (p : List Int) (x : Int) (l : List Int) : rd (p ++ x :: l) (p.length : Int) = x := by
 unfold rd
 simp [List.getD]

theorem unlessOf (b : Bool) (c : Int) : impl_unless.f b c = some (if b = true then 0 else c) := by unfold impl_unless.f; split <;> rfl

theorem within_ev (a b c : Int) : impl_within.f a b c = some (decide (b ≤ a ∧ a ≤ c)) := by
 unfold impl_within.f
 by_cases h : b ≤ a
 ·
  rw [if_pos h]; simp [h]
 ·
  rw [if_neg h]; simp [h]

theorem first_two (a b : Int) : Ev (fun k => impl_first.f k [a, b]) (if a = 0 then b else a) := by
 have s0 : ∀ k, impl_first.l0 (k + 1) [a, b] 2 0 = if a = 0 then impl_first.l0 k [a, b] 2 1 else some a := fun k => by
  simp only [impl_first.l0]
  by_cases h : a = 0 <;> simp [rd, wrap64, h]
 have s1 : ∀ k, impl_first.l0 (k + 1) [a, b] 2 1 = if b = 0 then impl_first.l0 k [a, b] 2 2 else some b := fun k => by
  simp only [impl_first.l0]
  by_cases h : b = 0 <;> simp [rd, wrap64, h]
 have s2 : ∀ k, impl_first.l0 (k + 1) [a, b] 2 2 = some 0 := fun k => by simp [impl_first.l0]
 refine ⟨3, fun k hk => ?_⟩
 obtain ⟨k, rfl⟩ : ∃ m, k = m + 3 := ⟨k - 3, by omega⟩
 show impl_first.l0 (k + 2 + 1) [a, b] 2 0 = _
 rw [s0]
 by_cases ha : a = 0
 ·
  rw [if_pos ha, if_pos ha, s1]
  by_cases hb : b = 0
  ·
   rw [if_pos hb, s2, hb]
  ·
   rw [if_neg hb]
 ·
  rw [if_neg ha, if_neg ha]

mutual
def rxFine : S31 → Prop
 | ⟨_, _, _, s, l⟩ => s.size ≤ 1048576 ∧ l.length ≤ 1048576 ∧ rxFineL l
def rxFineL : List S31 → Prop
 | [] => True
 | x :: l => rxFine x ∧ rxFineL l
end
theorem rxFineL_at : ∀ (l : List S31), rxFineL l → ∀ x ∈ l, rxFine x
 | [], _, x, hx => by simp at hx
 | y :: l, h, x, hx => by
  rw [rxFineL] at h
  rcases List.mem_cons.1 hx with rfl | hx
  ·
   exact h.1
  ·
   exact rxFineL_at l h.2 x hx
mutual
def rxSz : S31 → Int
 | ⟨_, _, _, _, l⟩ => 1 + rxSzL l
def rxSzL : List S31 → Int
 | [] => 0
 | x :: l => rxSz x + rxSzL l
end
mutual
def rxLeft : S31 → Int → Int
 | ⟨_, _, _, _, l⟩, a => rxLeftL l (wrap64 (a - 1))
def rxLeftL : List S31 → Int → Int
 | [], a => a
 | x :: l, a => if a ≥ 0 then rxLeftL l (rxLeft x a) else a
end
mutual
def rxWgt : S31 → Int
 | ⟨k, n, m, _, l⟩ => if k = 9 then mn (wrap64 (rxWgtL l 1 * mx 1 (wrap64 (mx n m + 1)))) 301 else mn (rxWgtL l 1) 301
def rxWgtL : List S31 → Int → Int
 | [], a => a
 | x :: l, a => rxWgtL l (wrap64 (a + rxWgt x))
end
def ascF (s : ByteArray) : Nat → Int → Bool
 | 0, _ => true
 | d + 1, i => if bt s (i - 1) ≥ bt s i then false else ascF s d (i + 1)
def asc (s : ByteArray) : Bool := ascF s (s.size - 1) 1
def rxChk (k n m : Int) (s : ByteArray) (len next : Int) : Option Int :=
 if k ≠ 3 ∧ ¬ s.toList = [] then none
 else if k ≠ 9 ∧ m ≠ 0 then none
 else if k ≠ 1 ∧ k ≠ 6 ∧ k ≠ 9 ∧ n ≠ 0 then none
 else if k = 1 then (if 0 ≤ n ∧ n ≤ 255 ∧ len = 0 then some next else none)
 else if k = 2 ∨ k = 4 ∨ k = 5 then (if len = 0 then some next else none)
 else if k = 3 then (if len = 0 ∧ 1 ≤ s.size ∧ s.size ≤ 256 ∧ asc s = true then some next else none)
 else if k = 6 then (if n = next ∧ next ≤ 9 ∧ len = 1 then some (wrap64 (next + 1)) else none)
 else if k = 7 then some next
 else if k = 8 then (if 2 ≤ len then some next else none)
 else if k = 9 then (if len = 1 ∧ 0 ≤ n ∧ n ≤ 20 ∧ -1 ≤ m ∧ m ≤ 20 ∧ (0 ≤ m → n ≤ m) then some next else none)
 else none
mutual
def rxRight : S31 → Int → Int
 | ⟨k, n, m, s, l⟩, next => match rxChk k n m s l.length next with
  | none => -1
  | some x => rxRightL l x
def rxRightL : List S31 → Int → Int
 | [], x => x
 | y :: l, x => if x > 0 then rxRightL l (rxRight y x) else x
end
theorem rx_rd (l : List S31) (i : Nat) (hi : i < l.length) : rd_T31 l (i : Int) = l[i] := by
 unfold rd_T31
 simp [List.getD_eq_getElem?_getD, List.getElem?_eq_getElem hi]
theorem rx_w (i : Nat) (h : i < 1048576) : wrap64 ((i : Int) + 1) = ((i + 1 : Nat) : Int) := by
 rw [wrap64_id (by omega) (by omega)]
 rfl
theorem left_ev : ∀ (n : Nat) (t : S31), SizeOf.sizeOf t ≤ n → rxFine t → ∀ a, Ev (fun k => spec_l05Left.f k t.f0 t.f1 t.f2 t.f3 t.f4 a) (rxLeft t a)
 | 0, t, h, _, _ => by cases t; simp at h
 | n + 1, ⟨k0, k1, k2, s, l⟩, h, hf, a => by
  have ih := left_ev n
  have hl : SizeOf.sizeOf l ≤ n := by simp at h; omega
  rw [rxFine] at hf
  obtain ⟨_, hlen, hfl⟩ := hf
  have loop : ∀ d i : Nat, i + d = l.length → ∀ a, Ev (fun k => spec_l05Left.l0 k a (i : Int) k0 k1 k2 s l) (rxLeftL (l.drop i) a) := by
   intro d
   induction d with
   | zero =>
    intro i hi a
    rw [List.drop_eq_nil_of_le (by omega), rxLeftL]
    exact Ev.step (fun k => spec_l05Left.l0.eq_2 _ _ _ _ _ _ _ k) (Ev_neg (by omega) (Ev_some _))
   | succ d ihd =>
    intro i hi a
    have hlt : i < l.length := by omega
    rw [List.drop_eq_getElem_cons hlt, rxLeftL]
    refine Ev.step (fun k => spec_l05Left.l0.eq_2 _ _ _ _ _ _ _ k) (Ev_pos (by omega) ?_)
    by_cases ha : a ≥ 0
    ·
     rw [if_pos ha]
     refine Ev_pos ha (Ev_pos (by omega) ?_)
     rw [rx_rd l i hlt, rx_w i (by omega)]
     exact Ev.bind (ih l[i] (by have := List.sizeOf_lt_of_mem (List.getElem_mem hlt); omega) (rxFineL_at l hfl _ (List.getElem_mem hlt)) a) (ihd (i + 1) (by omega) _)
    ·
     rw [if_neg ha]
     exact Ev_neg ha (Ev_some _)
  rw [rxLeft]
  exact Ev.step (fun k => spec_l05Left.f.eq_2 _ _ _ _ _ _ k) (loop l.length 0 (by omega) _)
theorem wgt_ev : ∀ (n : Nat) (t : S31), SizeOf.sizeOf t ≤ n → rxFine t → Ev (fun k => spec_l05Weight.f k t.f0 t.f1 t.f2 t.f3 t.f4) (rxWgt t)
 | 0, t, h, _ => by cases t; simp at h
 | n + 1, ⟨k0, k1, k2, s, l⟩, h, hf => by
  have ih := wgt_ev n
  have hl : SizeOf.sizeOf l ≤ n := by simp at h; omega
  rw [rxFine] at hf
  obtain ⟨_, hlen, hfl⟩ := hf
  have loop : ∀ d i : Nat, i + d = l.length → ∀ a, Ev (fun k => spec_l05Weight.l0 k a (i : Int) k0 k1 k2 s l) (if k0 = 9 then mn (wrap64 (rxWgtL (l.drop i) a * mx 1 (wrap64 (mx k1 k2 + 1)))) 301 else mn (rxWgtL (l.drop i) a) 301) := by
   intro d
   induction d with
   | zero =>
    intro i hi a
    rw [List.drop_eq_nil_of_le (by omega), rxWgtL]
    refine Ev.step (fun k => spec_l05Weight.l0.eq_2 _ _ _ _ _ _ _ k) (Ev_neg (by omega) ?_)
    by_cases h9 : k0 = 9
    ·
     exact Ev_eq (Ev_pos h9 (Ev_some _)) (if_pos h9).symm
    ·
     exact Ev_eq (Ev_neg h9 (Ev_some _)) (if_neg h9).symm
   | succ d ihd =>
    intro i hi a
    have hlt : i < l.length := by omega
    rw [List.drop_eq_getElem_cons hlt, rxWgtL]
    refine Ev.step (fun k => spec_l05Weight.l0.eq_2 _ _ _ _ _ _ _ k) (Ev_pos (by omega) (Ev_pos (by omega) ?_))
    rw [rx_rd l i hlt, rx_w i (by omega)]
    exact Ev.bind (ih l[i] (by have := List.sizeOf_lt_of_mem (List.getElem_mem hlt); omega) (rxFineL_at l hfl _ (List.getElem_mem hlt))) (ihd (i + 1) (by omega) _)
  rw [rxWgt]
  exact Ev.step (fun k => spec_l05Weight.f.eq_2 _ _ _ _ _ k) (loop l.length 0 (by omega) _)
theorem asc_ev (next : Int) (k0 k1 k2 : Int) (s : ByteArray) (l : List S31) (hs : s.size ≤ 1048576) (R : Int) (hR : Ev (fun k => spec_l05Right.j4 k next k0 k1 k2 s l) R) :
  ∀ d i : Nat, i + d = s.size → 1 ≤ i → Ev (fun k => spec_l05Right.l0 k next (i : Int) k0 k1 k2 s l) (if ascF s d (i : Int) = true then R else -1) := by
 intro d
 induction d with
 | zero =>
  intro i hi h1
  rw [ascF, if_pos rfl]
  exact Ev.step (fun k => spec_l05Right.l0.eq_2 _ _ _ _ _ _ _ k) (Ev_neg (by omega) hR)
 | succ d ih =>
  intro i hi h1
  have hw : wrap64 ((i : Int) - 1) = (i : Int) - 1 := wrap64_id (by omega) (by omega)
  refine Ev.step (fun k => spec_l05Right.l0.eq_2 _ _ _ _ _ _ _ k) (Ev_pos (by omega) ?_)
  rw [hw, ascF]
  refine Ev_pos (by omega) (Ev_pos (by omega) (Ev_pos (by omega) ?_))
  by_cases hc : bt s ((i : Int) - 1) ≥ bt s (i : Int)
  ·
   rw [if_pos hc, if_neg (by simp)]
   exact Ev_pos hc (Ev_some _)
  ·
   rw [if_neg hc, rx_w i (by omega)]
   exact Ev_neg hc (ih (i + 1) (by omega) (by omega))
theorem right_ev : ∀ (n : Nat) (t : S31), SizeOf.sizeOf t ≤ n → rxFine t → ∀ a, Ev (fun k => spec_l05Right.f k t.f0 t.f1 t.f2 t.f3 t.f4 a) (rxRight t a)
 | 0, t, h, _, _ => by cases t; simp at h
 | n + 1, ⟨k0, k1, k2, s, l⟩, h, hf, a => by
  have ih := right_ev n
  have hl : SizeOf.sizeOf l ≤ n := by simp at h; omega
  rw [rxFine] at hf
  obtain ⟨hs, hlen, hfl⟩ := hf
  have loop : ∀ d i : Nat, i + d = l.length → ∀ a, Ev (fun k => spec_l05Right.l1 k a (i : Int) k0 k1 k2 s l) (rxRightL (l.drop i) a) := by
   intro d
   induction d with
   | zero =>
    intro i hi a
    rw [List.drop_eq_nil_of_le (by omega), rxRightL]
    exact Ev.step (fun k => spec_l05Right.l1.eq_2 _ _ _ _ _ _ _ k) (Ev_neg (by omega) (Ev_some _))
   | succ d ihd =>
    intro i hi a
    have hlt : i < l.length := by omega
    rw [List.drop_eq_getElem_cons hlt, rxRightL]
    refine Ev.step (fun k => spec_l05Right.l1.eq_2 _ _ _ _ _ _ _ k) (Ev_pos (by omega) ?_)
    by_cases ha : a > 0
    ·
     rw [if_pos ha]
     refine Ev_pos ha (Ev_pos (by omega) ?_)
     rw [rx_rd l i hlt, rx_w i (by omega)]
     exact Ev.bind (ih l[i] (by have := List.sizeOf_lt_of_mem (List.getElem_mem hlt); omega) (rxFineL_at l hfl _ (List.getElem_mem hlt)) a) (ihd (i + 1) (by omega) _)
    ·
     rw [if_neg ha]
     exact Ev_neg ha (Ev_some _)
  have all : ∀ a, Ev (fun k => spec_l05Right.j4 k a k0 k1 k2 s l) (rxRightL l a) := fun a => Ev.step (fun k => spec_l05Right.j4.eq_2 _ _ _ _ _ _ k) (loop l.length 0 (by omega) a)
  have bad0 : Ev (fun k => spec_l05Right.j0 k a true k0 k1 k2 s l) (-1) := Ev.step (fun k => spec_l05Right.j0.eq_2 _ _ _ _ _ _ _ k) (Ev_pos rfl (Ev_some _))
  have bad2 : Ev (fun k => spec_l05Right.j2 k a true k0 k1 k2 s l) (-1) := Ev.step (fun k => spec_l05Right.j2.eq_2 _ _ _ _ _ _ _ k) (Ev_pos rfl (Ev_some _))
  -- behind the first test
  have go : ∀ b : Bool, (b = true → rxChk k0 k1 k2 s l.length a = none) → (b = false → ¬ (k0 ≠ 3 ∧ ¬ s.toList = []) ∧ ¬ (k0 ≠ 9 ∧ k2 ≠ 0) ∧ ¬ (k0 ≠ 1 ∧ k0 ≠ 6 ∧ k0 ≠ 9 ∧ k1 ≠ 0)) →
    Ev (fun k => spec_l05Right.j0 k a b k0 k1 k2 s l) (rxRight ⟨k0, k1, k2, s, l⟩ a) := by
   intro b hb1 hb2
   rw [rxRight]
   cases b with
   | true => rw [hb1 rfl]; exact bad0
   | false =>
    obtain ⟨c1, c2, c3⟩ := hb2 rfl
    unfold rxChk
    rw [if_neg c1, if_neg c2, if_neg c3]
    clear hb1 hb2 bad0
    refine Ev.step (fun k => spec_l05Right.j0.eq_2 _ _ _ _ _ _ _ k) (Ev_neg (by simp) ?_)
    by_cases e1 : k0 = 1
    ·
     rw [if_pos e1]
     refine Ev_pos e1 ?_
     by_cases d1 : k1 < 0
     ·
      rw [if_neg (by omega)]; exact Ev_pos d1 (Ev_some _)
     refine Ev_neg d1 ?_
     by_cases d2 : k1 > 255
     ·
      rw [if_neg (by omega)]; exact Ev_pos d2 (Ev_some _)
     refine Ev_neg d2 ?_
     by_cases d3 : (l.length : Int) = 0
     ·
      rw [if_pos (by omega)]; exact Ev_pos d3 (all a)
     ·
      rw [if_neg (by omega)]; exact Ev_neg d3 (Ev_some _)
    rw [if_neg e1]
    refine Ev_neg e1 ?_
    have k245 : (k0 = 2 ∨ k0 = 4 ∨ k0 = 5) → Ev (fun k => spec_l05Right.j1 k a k0 true k0 k1 k2 s l) (if (l.length : Int) = 0 then rxRightL l a else -1) := by
     intro _
     refine Ev.step (fun k => spec_l05Right.j1.eq_2 _ _ _ _ _ _ _ _ k) (Ev_pos rfl ?_)
     by_cases d3 : (l.length : Int) = 0
     ·
      rw [if_pos d3]; exact Ev_pos d3 (all a)
     ·
      rw [if_neg d3]; exact Ev_neg d3 (Ev_some _)
    have toM : ∀ (c : Prop) [Decidable c] (x : Int), (match (if c then some x else none : Option Int) with | none => -1 | some x => rxRightL l x) = if c then rxRightL l x else -1 := by
     intro c _ x
     by_cases h : c
     ·
      rw [if_pos h, if_pos h]
     ·
      rw [if_neg h, if_neg h]
    by_cases e2 : k0 = 2
    ·
     rw [if_pos (by omega), toM]
     refine Ev_pos e2 ?_
     rw [show (k0 == 2) = true from beq_iff_eq.mpr e2]
     exact k245 (by omega)
    refine Ev_neg e2 ?_
    by_cases e4 : k0 = 4
    ·
     rw [if_pos (by omega), toM]
     refine Ev_pos e4 ?_
     rw [show (k0 == 4) = true from beq_iff_eq.mpr e4]
     exact k245 (by omega)
    refine Ev_neg e4 ?_
    by_cases e5 : k0 = 5
    ·
     rw [if_pos (by omega), toM]
     rw [show (k0 == 5) = true from beq_iff_eq.mpr e5]
     exact k245 (by omega)
    rw [show (k0 == 5) = false from beq_eq_false_iff_ne.mpr e5, if_neg (by omega)]
    refine Ev.step (fun k => spec_l05Right.j1.eq_2 _ _ _ _ _ _ _ _ k) (Ev_neg (by simp) ?_)
    by_cases e3 : k0 = 3
    ·
     rw [if_pos e3, toM]
     refine Ev_pos e3 ?_
     by_cases d1 : (l.length : Int) = 0
     ·
      refine Ev_pos d1 ?_
      by_cases d2 : (s.size : Int) = 0
      ·
       rw [if_neg (by omega)]; exact Ev_pos d2 bad2
      refine Ev_neg d2 ?_
      by_cases d3 : (s.size : Int) > 256
      ·
       rw [if_neg (by omega), decide_eq_true d3]; exact bad2
      rw [decide_eq_false d3]
      refine Ev.step (fun k => spec_l05Right.j2.eq_2 _ _ _ _ _ _ _ k) (Ev_neg (by simp) ?_)
      have h0 := asc_ev a k0 k1 k2 s l hs _ (all a) (s.size - 1) 1 (by omega) (by omega)
      refine Ev_eq h0 ?_
      show (if asc s = true then _ else _) = _
      by_cases ha : asc s = true
      ·
       rw [if_pos ha, if_pos ⟨d1, by omega, by omega, ha⟩]
      ·
       rw [if_neg ha, if_neg (fun h => ha h.2.2.2)]
     ·
      rw [if_neg (by omega)]; exact Ev_neg d1 bad2
    rw [if_neg e3]
    refine Ev_neg e3 ?_
    by_cases e6 : k0 = 6
    ·
     rw [if_pos e6, toM]
     refine Ev_pos e6 ?_
     by_cases d1 : k1 = a
     ·
      refine Ev_pos d1 ?_
      by_cases d2 : a > 9
      ·
       rw [if_neg (by omega)]; exact Ev_pos d2 (Ev_some _)
      refine Ev_neg d2 ?_
      by_cases d3 : (l.length : Int) = 1
      ·
       rw [if_pos (by omega)]; exact Ev_pos d3 (all _)
      ·
       rw [if_neg (by omega)]; exact Ev_neg d3 (Ev_some _)
     ·
      rw [if_neg (by omega)]; exact Ev_neg d1 (Ev_some _)
    rw [if_neg e6]
    refine Ev_neg e6 ?_
    by_cases e7 : k0 = 7
    ·
     rw [if_pos e7]
     exact Ev_pos e7 (all a)
    rw [if_neg e7]
    refine Ev_neg e7 ?_
    by_cases e8 : k0 = 8
    ·
     rw [if_pos e8, toM]
     refine Ev_pos e8 ?_
     by_cases d1 : (l.length : Int) < 2
     ·
      rw [if_neg (by omega)]; exact Ev_pos d1 (Ev_some _)
     ·
      rw [if_pos (by omega)]; exact Ev_neg d1 (all a)
    rw [if_neg e8]
    refine Ev_neg e8 ?_
    by_cases e9 : k0 = 9
    ·
     rw [if_pos e9, toM]
     refine Ev_pos e9 ?_
     by_cases d1 : (l.length : Int) = 1
     ·
      refine Ev_pos d1 ?_
      by_cases d2 : k1 < 0
      ·
       rw [if_neg (by omega)]; exact Ev_pos d2 (Ev_some _)
      refine Ev_neg d2 ?_
      by_cases d3 : k1 > 20
      ·
       rw [if_neg (by omega)]; exact Ev_pos d3 (Ev_some _)
      refine Ev_neg d3 ?_
      by_cases d4 : k2 < -1
      ·
       rw [if_neg (by omega)]; exact Ev_pos d4 (Ev_some _)
      refine Ev_neg d4 ?_
      by_cases d5 : k2 > 20
      ·
       rw [if_neg (by omega)]; exact Ev_pos d5 (Ev_some _)
      refine Ev_neg d5 ?_
      by_cases d6 : k2 ≥ 0
      ·
       refine Ev_pos d6 ?_
       by_cases d7 : k2 < k1
       ·
        rw [if_neg (by omega)]; exact Ev_pos d7 (Ev_some _)
       ·
        rw [if_pos (by omega)]; exact Ev_neg d7 (all a)
      ·
       rw [if_pos (by omega)]; exact Ev_neg d6 (all a)
     ·
      rw [if_neg (by omega)]; exact Ev_neg d1 (Ev_some _)
    rw [if_neg e9]
    exact Ev_neg e9 (Ev_some _)
  refine Ev.step (fun k => spec_l05Right.f.eq_2 _ _ _ _ _ _ k) ?_
  have nil3 : ∀ {X Y : Nat → Option Int} {r : Int}, (k0 ≠ 3 → s.toList = []) → Ev X r → Ev (fun k => if k0 = 3 then X k else if s.toList = [] then X k else Y k) r := by
   intro X Y r hc hX
   by_cases e3 : k0 = 3
   ·
    exact Ev_pos e3 hX
   ·
    exact Ev_neg e3 (Ev_pos (hc e3) hX)
  by_cases c1 : k0 ≠ 3 ∧ ¬ s.toList = []
  ·
   refine Ev_neg c1.1 (Ev_neg c1.2 (go true (fun _ => ?_) (fun h => by simp at h)))
   unfold rxChk; rw [if_pos c1]
  refine nil3 (fun e => Classical.not_not.1 fun h => c1 ⟨e, h⟩) ?_
  by_cases e9 : k0 = 9
  ·
   have hz : ∀ b : Bool, b = false → Ev (fun k => spec_l05Right.j0 k a b k0 k1 k2 s l) (rxRight ⟨k0, k1, k2, s, l⟩ a) := fun b hb => go b (fun h => by rw [hb] at h; simp at h) (fun _ => ⟨c1, by omega, by omega⟩)
   refine Ev_pos e9 ?_
   refine Ev_neg (show ¬ k0 = 1 by omega) ?_
   exact Ev_neg (show ¬ k0 = 6 by omega) (hz false rfl)
  refine Ev_neg e9 ?_
  by_cases c2 : k2 = 0
  ·
   refine Ev_pos c2 ?_
   by_cases e1 : k0 = 1
   ·
    exact Ev_pos e1 (go false (fun h => by simp at h) (fun _ => ⟨c1, by omega, by omega⟩))
   refine Ev_neg e1 ?_
   by_cases e6 : k0 = 6
   ·
    exact Ev_pos e6 (go false (fun h => by simp at h) (fun _ => ⟨c1, by omega, by omega⟩))
   refine Ev_neg e6 (go _ (fun h => ?_) (fun h => ?_))
   ·
    have hne : k1 ≠ 0 := by simpa using h
    unfold rxChk; rw [if_neg c1, if_neg (by omega), if_pos (by omega)]
   ·
    have he : k1 = 0 := by simpa using h
    exact ⟨c1, by omega, by omega⟩
  ·
   refine Ev_neg c2 (go true (fun _ => ?_) (fun h => by simp at h))
   unfold rxChk; rw [if_neg c1, if_pos (by omega)]
theorem rxSz_pos : ∀ (n : Nat), (∀ t : S31, SizeOf.sizeOf t ≤ n → 1 ≤ rxSz t) ∧ (∀ l : List S31, SizeOf.sizeOf l ≤ n → (l.length : Int) ≤ rxSzL l)
 | 0 => ⟨fun t h => by cases t; simp at h, fun l h => by cases l <;> simp at h⟩
 | n + 1 => by
  obtain ⟨i1, i2⟩ := rxSz_pos n
  refine ⟨fun t h => ?_, fun l h => ?_⟩
  ·
   obtain ⟨k0, k1, k2, s, l⟩ := t
   rw [rxSz]
   have := i2 l (by simp at h; omega)
   omega
  ·
   cases l with
   | nil => rw [rxSzL]; simp
   | cons x l =>
    rw [rxSzL]
    simp at h
    have h1 := i1 x (by omega)
    have h2 := i2 l (by omega)
    simp only [List.length_cons]
    omega
theorem rxSz_ge (t : S31) : 1 ≤ rxSz t := (rxSz_pos _).1 t (Nat.le_refl _)
theorem rxSzL_ge (l : List S31) : (l.length : Int) ≤ rxSzL l := (rxSz_pos _).2 l (Nat.le_refl _)
theorem left_sz : ∀ (n : Nat) (t : S31), SizeOf.sizeOf t ≤ n → ∀ a, 0 ≤ a → a ≤ 1000 → (rxSz t ≤ a → rxLeft t a = a - rxSz t) ∧ (a < rxSz t → rxLeft t a < 0)
 | 0, t, h, _, _, _ => by cases t; simp at h
 | n + 1, ⟨k0, k1, k2, s, l⟩, h, a, h0, h1 => by
  have ih := left_sz n
  have hl : SizeOf.sizeOf l ≤ n := by simp at h; omega
  have loop : ∀ l' : List S31, SizeOf.sizeOf l' ≤ n → ∀ a, -1 ≤ a → a ≤ 1000 → (rxSzL l' ≤ a → rxLeftL l' a = a - rxSzL l') ∧ (a < rxSzL l' → rxLeftL l' a < 0) := by
   intro l'
   induction l' with
   | nil => intro _ a _ _; rw [rxSzL, rxLeftL]; exact ⟨fun _ => by omega, fun h => h⟩
   | cons x l' ihl =>
    intro hs a h0 h1
    have hx : SizeOf.sizeOf x ≤ n := by simp at hs; omega
    have hs' : SizeOf.sizeOf l' ≤ n := by simp at hs; omega
    have g1 := rxSz_ge x
    have g2 := rxSzL_ge l'
    rw [rxSzL, rxLeftL]
    by_cases ha : a ≥ 0
    ·
     rw [if_pos ha]
     obtain ⟨p1, p2⟩ := ih x hx a ha h1
     by_cases hc : rxSz x ≤ a
     ·
      rw [p1 hc]
      obtain ⟨q1, q2⟩ := ihl hs' (a - rxSz x) (by omega) (by omega)
      exact ⟨fun h => by rw [q1 (by omega)]; omega, fun h => q2 (by omega)⟩
     ·
      have hneg := p2 (by omega)
      refine ⟨fun h => by omega, fun _ => ?_⟩
      cases l' with
      | nil => rw [rxLeftL]; exact hneg
      | cons y l' => rw [rxLeftL, if_neg (by omega)]; exact hneg
    ·
     rw [if_neg ha]
     exact ⟨fun h => by omega, fun _ => by omega⟩
  have hw : wrap64 (a - 1) = a - 1 := wrap64_id (by omega) (by omega)
  rw [rxSz, rxLeft, hw]
  obtain ⟨q1, q2⟩ := loop l hl (a - 1) (by omega) (by omega)
  exact ⟨fun h => by rw [q1 (by omega)]; omega, fun h => q2 (by omega)⟩
theorem rightL_pos : ∀ (l : List S31) (x : Int), rxRightL l x > 0 → x > 0
 | [], x, h => by rwa [rxRightL] at h
 | y :: l, x, h => by
  rw [rxRightL] at h
  by_cases c : x > 0
  ·
   exact c
  ·
   rw [if_neg c] at h; exact h
theorem chk9 {n m : Int} {s : ByteArray} {len next x : Int} (h : rxChk 9 n m s len next = some x) : 0 ≤ n ∧ n ≤ 20 ∧ -1 ≤ m ∧ m ≤ 20 ∧ mx 1 (wrap64 (mx n m + 1)) = mx n m + 1 ∧ 1 ≤ mx n m + 1 ∧ mx n m + 1 ≤ 21 ∧ wrap64 (mx n m + 1) = mx n m + 1 := by
 unfold rxChk at h
 by_cases c1 : (9 : Int) ≠ 3 ∧ ¬ s.toList = []
 ·
  rw [if_pos c1] at h; simp at h
 rw [if_neg c1, if_neg (by simp), if_neg (by simp), if_neg (by decide), if_neg (by decide), if_neg (by decide), if_neg (by decide), if_neg (by decide), if_neg (by decide), if_pos rfl] at h
 by_cases c2 : len = 1 ∧ 0 ≤ n ∧ n ≤ 20 ∧ -1 ≤ m ∧ m ≤ 20 ∧ (0 ≤ m → n ≤ m)
 ·
  obtain ⟨_, a1, a2, a3, a4, a5⟩ := c2
  have b1 : 0 ≤ mx n m := by unfold mx; split <;> omega
  have b2 : mx n m ≤ 20 := by unfold mx; split <;> omega
  have b3 : wrap64 (mx n m + 1) = mx n m + 1 := wrap64_id (by omega) (by omega)
  refine ⟨a1, a2, a3, a4, ?_, by omega, by omega, b3⟩
  rw [b3]
  generalize mx n m = z at *
  unfold mx
  split <;> omega
 ·
  rw [if_neg c2] at h; simp at h
theorem wgt_pos : ∀ (n : Nat) (t : S31), SizeOf.sizeOf t ≤ n → rxFine t → ∀ next, rxRight t next > 0 → 1 ≤ rxWgt t ∧ rxWgt t ≤ 301
 | 0, t, h, _, _, _ => by cases t; simp at h
 | n + 1, ⟨k0, k1, k2, s, l⟩, h, hf, next, hr => by
  have ih := wgt_pos n
  have hl : SizeOf.sizeOf l ≤ n := by simp at h; omega
  rw [rxFine] at hf
  obtain ⟨_, hlen, hfl⟩ := hf
  have loop : ∀ l' : List S31, SizeOf.sizeOf l' ≤ n → rxFineL l' → ∀ x, rxRightL l' x > 0 → ∀ a : Int, 1 ≤ a → a + 301 * (l'.length : Int) ≤ 1000000000000 → a ≤ rxWgtL l' a ∧ rxWgtL l' a ≤ a + 301 * (l'.length : Int) := by
   intro l'
   induction l' with
   | nil => intro _ _ x _ a _ _; rw [rxWgtL]; simp
   | cons y l' ihl =>
    intro hs hf' x hx a ha hb
    have hy : SizeOf.sizeOf y ≤ n := by simp at hs; omega
    have hs' : SizeOf.sizeOf l' ≤ n := by simp at hs; omega
    rw [rxFineL] at hf'
    have hx0 := rightL_pos _ _ hx
    rw [rxRightL, if_pos hx0] at hx
    have hy0 := rightL_pos _ _ hx
    obtain ⟨w1, w2⟩ := ih y hy hf'.1 x hy0
    simp only [List.length_cons] at hb ⊢
    have hw : wrap64 (a + rxWgt y) = a + rxWgt y := wrap64_id (by omega) (by omega)
    rw [rxWgtL, hw]
    obtain ⟨q1, q2⟩ := ihl hs' hf'.2 _ hx (a + rxWgt y) (by omega) (by omega)
    constructor <;> omega
  rw [rxRight] at hr
  rcases hc : rxChk k0 k1 k2 s l.length next with _ | x
  ·
   rw [hc] at hr; simp at hr
  ·
   rw [hc] at hr
   obtain ⟨q1, q2⟩ := loop l hl hfl x hr 1 (by omega) (by omega)
   rw [rxWgt]
   by_cases h9 : k0 = 9
   ·
    rw [if_pos h9]
    subst h9
    obtain ⟨_, _, _, _, f1, f2, f3, _⟩ := chk9 hc
    rw [f1]
    have m1 : rxWgtL l 1 * (mx k1 k2 + 1) ≤ 1000000000000 * 21 := Int.mul_le_mul (by omega) f3 (by omega) (by omega)
    have m2 : 1 * 1 ≤ rxWgtL l 1 * (mx k1 k2 + 1) := Int.mul_le_mul q1 f2 (by omega) (by omega)
    rw [wrap64_id (by omega) (by omega)]
    generalize rxWgtL l 1 * (mx k1 k2 + 1) = z at *
    unfold mn
    split <;> omega
   ·
    rw [if_neg h9]
    generalize rxWgtL l 1 = z at *
    unfold mn
    split <;> omega
theorem wgtL_ge (l : List S31) : rxFineL l → ∀ x, rxRightL l x > 0 → ∀ a : Int, 1 ≤ a → a + 301 * (l.length : Int) ≤ 1000000000000 → a ≤ rxWgtL l a ∧ rxWgtL l a ≤ a + 301 * (l.length : Int) ∧ ∀ y ∈ l, a + rxWgt y ≤ rxWgtL l a := by
 induction l with
 | nil => intro _ x _ a _ _; rw [rxWgtL]; simp
 | cons y l ihl =>
  intro hf' x hx a ha hb
  rw [rxFineL] at hf'
  have hx0 := rightL_pos _ _ hx
  rw [rxRightL, if_pos hx0] at hx
  have hy0 := rightL_pos _ _ hx
  obtain ⟨w1, w2⟩ := wgt_pos _ y (Nat.le_refl _) hf'.1 x hy0
  simp only [List.length_cons] at hb ⊢
  have hw : wrap64 (a + rxWgt y) = a + rxWgt y := wrap64_id (by omega) (by omega)
  rw [rxWgtL, hw]
  obtain ⟨q1, q2, q3⟩ := ihl hf'.2 _ hx (a + rxWgt y) (by omega) (by omega)
  refine ⟨by omega, by omega, fun z hz => ?_⟩
  rcases List.mem_cons.1 hz with rfl | hz
  ·
   omega
  ·
   have := q3 z hz
   omega
theorem rises_eq (s : ByteArray) (hs : s.size ≤ 140737488351232) : ∃ b : Bool, Ev (fun k => impl_rises.f k s) b ∧ (b = true ↔ 1 ≤ s.size ∧ s.size ≤ 256 ∧ asc s = true) := by
 have fin : ∀ i : Int, Ev (fun k => impl_rises.j1 k s i false) (decide (1 ≤ (s.size : Int) ∧ (s.size : Int) ≤ 256)) := by
  intro i
  exact Ev.step (fun k => impl_rises.j1.eq_2 s i false k) (Ev_neg (by simp) (Ev_bindc (impl_looker.within_ev _ _ _) (Ev_some _)))
 have loop : ∀ d i : Nat, i + d = s.size → 1 ≤ i → ∃ b : Bool, Ev (fun k => impl_rises.l0 k s (i : Int)) b ∧ (1 ≤ s.size ∧ s.size ≤ 256 → b = ascF s d (i : Int)) ∧ (¬ (1 ≤ s.size ∧ s.size ≤ 256) → b = false) := by
  intro d
  induction d with
  | zero =>
   intro i hi h1
   refine ⟨_, Ev.step (fun k => impl_rises.l0.eq_2 s _ k) (Ev_neg (by omega) (fin _)), fun h => ?_, fun h => decide_eq_false (by omega)⟩
   rw [ascF]
   exact decide_eq_true (by omega)
  | succ d ih =>
   intro i hi h1
   by_cases h300 : (i : Int) < 300
   ·
    have hw : wrap64 ((i : Int) - 1) = (i : Int) - 1 := wrap64_id (by omega) (by omega)
    have hw2 : wrap64 ((i : Int) + 1) = ((i + 1 : Nat) : Int) := rx_w i (by omega)
    by_cases hc : bt s (i : Int) ≤ bt s ((i : Int) - 1)
    ·
     refine ⟨false, Ev.step (fun k => impl_rises.l0.eq_2 s _ k) (Ev_pos (by omega) ?_), fun _ => by rw [ascF, if_pos hc], fun _ => rfl⟩
     rw [decide_eq_true h300]
     refine Ev.step (fun k => impl_rises.j1.eq_2 s _ true k) (Ev_pos rfl (Ev_pos (by omega) (Ev_pos (by omega) ?_)))
     rw [hw]
     exact Ev_pos (by omega) (Ev_pos (by omega) (Ev_pos hc (Ev_some _)))
    ·
     obtain ⟨b, hb, hb1, hb2⟩ := ih (i + 1) (by omega) (by omega)
     refine ⟨b, Ev.step (fun k => impl_rises.l0.eq_2 s _ k) (Ev_pos (by omega) ?_), fun h => by rw [ascF, if_neg hc]; exact hb1 h, hb2⟩
     rw [decide_eq_true h300]
     refine Ev.step (fun k => impl_rises.j1.eq_2 s _ true k) (Ev_pos rfl (Ev_pos (by omega) (Ev_pos (by omega) ?_)))
     rw [hw, hw2]
     exact Ev_pos (by omega) (Ev_pos (by omega) (Ev_neg hc hb))
   ·
    refine ⟨decide (1 ≤ (s.size : Int) ∧ (s.size : Int) ≤ 256), Ev.step (fun k => impl_rises.l0.eq_2 s _ k) (Ev_pos (by omega) ?_), fun h => by omega, fun h => decide_eq_false (by omega)⟩
    rw [decide_eq_false h300]
    exact fin _
 by_cases h0 : s.size = 0
 ·
  refine ⟨_, Ev.step (g := fun k => impl_rises.f k s) (fun k => impl_rises.l0.eq_2 s 1 k) (Ev_neg (by omega) (fin _)), ?_⟩
  rw [decide_eq_true_iff]
  omega
 ·
  obtain ⟨b, hb, hb1, hb2⟩ := loop (s.size - 1) 1 (by omega) (Nat.le_refl _)
  refine ⟨b, hb, ?_⟩
  by_cases h : 1 ≤ s.size ∧ s.size ≤ 256
  ·
   rw [hb1 h]
   unfold asc
   simp [h]
  ·
   rw [hb2 h]
   simp
   omega
theorem looker_rises (s : ByteArray) (hs : s.size ≤ 140737488351232) : impl_looker.rises s = true ↔ 1 ≤ s.size ∧ s.size ≤ 256 ∧ asc s = true := by
 obtain ⟨b, hb, hb2⟩ := rises_eq s hs
 obtain ⟨K, hK⟩ := hb
 have h1 := hK (max K 700) (Nat.le_max_left _ _)
 have h2 := at_rounds (g := fun k => impl_rises.f k s) (fun k => impl_rises.mono s k) (Nat.le_max_right K 700) (impl_looker.rises_ev s)
 have h3 : some b = some (impl_looker.rises s) := h1.symm.trans h2
 rw [← Option.some.inj h3]
 exact hb2

theorem ask_chk (k n m : Int) (s : ByteArray) (hs : s.size ≤ 1048576) (len : Nat) (gr : Int) (h0 : 0 ≤ gr) (h1 : gr ≤ 1000) :
  (rxChk k n m s len (gr + 1) = none → impl_looker.b3 (impl_looker.ask k n m s gr) len = true) ∧
  (∀ x, rxChk k n m s len (gr + 1) = some x → x = (impl_looker.ask k n m s gr).gr + 1 ∧ (len ≤ 120 → impl_looker.b3 (impl_looker.ask k n m s gr) len = false) ∧ (120 < len → impl_looker.b3 (impl_looker.ask k n m s gr) len = true)) := by
 have hr := looker_rises s (by omega)
 have hw : wrap64 (gr + 1) = gr + 1 := wrap64_id (by omega) (by omega)
 have hw2 : wrap64 (gr + 1 + 1) = gr + 1 + 1 := wrap64_id (by omega) (by omega)
 have he : s.toList.isEmpty = true ↔ s.toList = [] := List.isEmpty_iff
 have fin : ∀ (c : Prop) [Decidable c] (z : Int) (b : Bool) (g : Int), z = g + 1 → (c → len ≤ 120 → b = false) → (c → 120 < len → b = true) → (¬ c → b = true) →
   ((if c then some z else none : Option Int) = none → b = true) ∧ (∀ x, (if c then some z else none : Option Int) = some x → x = g + 1 ∧ (len ≤ 120 → b = false) ∧ (120 < len → b = true)) := by
  intro c _ z b g hz c1 c2 c3
  by_cases hc : c
  ·
   rw [if_pos hc]
   exact ⟨fun h => by simp at h, fun x h => ⟨(Option.some.inj h).symm.trans hz, c1 hc, c2 hc⟩⟩
  ·
   rw [if_neg hc]
   exact ⟨fun _ => c3 hc, fun x h => by simp at h⟩
 have all : ∀ (b : Bool), b = true → ((none : Option Int) = none → b = true) ∧ (∀ x : Int, (none : Option Int) = some x → x = (impl_looker.ask k n m s gr).gr + 1 ∧ (len ≤ 120 → b = false) ∧ (120 < len → b = true)) := fun b hb => ⟨fun _ => hb, fun x h => by simp at h⟩
 have B : ∀ a : impl_looker.Ask, impl_looker.b3 a len = true ↔ (a.bad = true ∨ a.n = false ∨ a.m = false ∨ a.set = false ∨ ¬ (a.least ≤ (len : Int) ∧ (len : Int) ≤ a.most)) := by
  intro a
  have hq : ((len : Int) < a.least ∨ a.most < (len : Int)) ↔ (a.least ≤ (len : Int) → a.most < (len : Int)) := by omega
  unfold impl_looker.b3
  simp
  rw [hq]
 have BF : ∀ a : impl_looker.Ask, impl_looker.b3 a len = false ↔ ¬ (a.bad = true ∨ a.n = false ∨ a.m = false ∨ a.set = false ∨ ¬ (a.least ≤ (len : Int) ∧ (len : Int) ≤ a.most)) := by
  intro a
  rw [← B a]
  simp
 by_cases c1 : k ≠ 3 ∧ ¬ s.toList = []
 ·
  have : rxChk k n m s len (gr + 1) = none := by unfold rxChk; rw [if_pos c1]
  rw [this]
  refine all _ ((B _).2 ?_)
  have hne : s.toList.isEmpty = false := by
   cases hb : s.toList.isEmpty with
   | false => rfl
   | true => exact absurd (he.1 hb) c1.2
  unfold impl_looker.ask
  rw [hne]
  by_cases e1 : k = 1
  ·
   rw [if_pos e1]; simp
  rw [if_neg e1]
  by_cases e2 : k = 2 ∨ k = 4 ∨ k = 5
  ·
   rw [if_pos e2]; simp
  rw [if_neg e2, if_neg c1.1]
  by_cases e6 : k = 6
  ·
   rw [if_pos e6]; simp
  rw [if_neg e6]
  by_cases e7 : k = 7
  ·
   rw [if_pos e7]; simp
  rw [if_neg e7]
  by_cases e8 : k = 8
  ·
   rw [if_pos e8]; simp
  rw [if_neg e8]
  by_cases e9 : k = 9
  ·
   rw [if_pos e9]; simp
  rw [if_neg e9]; simp
 have hnil : k ≠ 3 → s.toList.isEmpty = true := fun h => he.2 (Classical.not_not.1 fun h2 => c1 ⟨h, h2⟩)
 by_cases c2 : k ≠ 9 ∧ m ≠ 0
 ·
  have : rxChk k n m s len (gr + 1) = none := by unfold rxChk; rw [if_neg c1, if_pos c2]
  rw [this]
  refine all _ ((B _).2 ?_)
  have hne : (m == 0) = false := beq_eq_false_iff_ne.mpr c2.2
  unfold impl_looker.ask
  rw [hne]
  by_cases e1 : k = 1
  ·
   rw [if_pos e1]; simp
  rw [if_neg e1]
  by_cases e2 : k = 2 ∨ k = 4 ∨ k = 5
  ·
   rw [if_pos e2]; simp
  rw [if_neg e2]
  by_cases e3 : k = 3
  ·
   rw [if_pos e3]; simp
  rw [if_neg e3]
  by_cases e6 : k = 6
  ·
   rw [if_pos e6]; simp
  rw [if_neg e6]
  by_cases e7 : k = 7
  ·
   rw [if_pos e7]; simp
  rw [if_neg e7]
  by_cases e8 : k = 8
  ·
   rw [if_pos e8]; simp
  rw [if_neg e8, if_neg c2.1]; simp
 by_cases c3 : k ≠ 1 ∧ k ≠ 6 ∧ k ≠ 9 ∧ n ≠ 0
 ·
  have : rxChk k n m s len (gr + 1) = none := by unfold rxChk; rw [if_neg c1, if_neg c2, if_pos c3]
  rw [this]
  refine all _ ((B _).2 ?_)
  have hne : (n == 0) = false := beq_eq_false_iff_ne.mpr c3.2.2.2
  unfold impl_looker.ask
  rw [hne, if_neg c3.1]
  by_cases e2 : k = 2 ∨ k = 4 ∨ k = 5
  ·
   rw [if_pos e2]; simp
  rw [if_neg e2]
  by_cases e3 : k = 3
  ·
   rw [if_pos e3]; simp
  rw [if_neg e3, if_neg c3.2.1]
  by_cases e7 : k = 7
  ·
   rw [if_pos e7]; simp
  rw [if_neg e7]
  by_cases e8 : k = 8
  ·
   rw [if_pos e8]; simp
  rw [if_neg e8, if_neg c3.2.2.1]; simp
 have hm : k ≠ 9 → (m == 0) = true := fun h => beq_iff_eq.mpr (by omega)
 have hn : k ≠ 1 → k ≠ 6 → k ≠ 9 → (n == 0) = true := fun h h2 h3 => beq_iff_eq.mpr (by omega)
 unfold rxChk
 rw [if_neg c1, if_neg c2, if_neg c3]
 unfold impl_looker.ask
 by_cases e1 : k = 1
 ·
  rw [if_pos e1, if_pos e1]
  refine fin _ _ _ _ rfl (fun h _ => (BF _).2 ?_) (fun h _ => by omega) (fun h => (B _).2 ?_)
  ·
   simp [hm (by omega), hnil (by omega)]; omega
  ·
   simp [hm (by omega), hnil (by omega)]; omega
 rw [if_neg e1, if_neg e1]
 by_cases e2 : k = 2 ∨ k = 4 ∨ k = 5
 ·
  rw [if_pos e2, if_pos e2]
  refine fin _ _ _ _ rfl (fun h _ => (BF _).2 ?_) (fun h _ => by omega) (fun h => (B _).2 ?_)
  ·
   simp [hm (by omega), hnil (by omega), hn (by omega) (by omega) (by omega)]; omega
  ·
   simp [hm (by omega), hnil (by omega), hn (by omega) (by omega) (by omega)]; omega
 rw [if_neg e2, if_neg e2]
 by_cases e3 : k = 3
 ·
  rw [if_pos e3, if_pos e3]
  refine fin _ _ _ _ rfl (fun h _ => (BF _).2 ?_) (fun h _ => by have := h.1; omega) (fun h => (B _).2 ?_)
  ·
   have := hr.2 h.2
   simp [hm (by omega), hn (by omega) (by omega) (by omega), this]; omega
  ·
   simp only [hm (by omega), hn (by omega) (by omega) (by omega)]
   cases hri : impl_looker.rises s with
   | false => simp
   | true =>
    have := hr.1 hri
    simp
    have hl : ¬ (len : Int) = 0 := fun hl => h ⟨hl, this⟩
    omega
 rw [if_neg e3, if_neg e3]
 by_cases e6 : k = 6
 ·
  rw [if_pos e6, if_pos e6, hw, hw2]
  refine fin _ _ _ _ rfl (fun h _ => (BF _).2 ?_) (fun h _ => by omega) (fun h => (B _).2 ?_)
  ·
   obtain ⟨h3, h4, h5⟩ := h
   have : (n == gr + 1) = true := beq_iff_eq.mpr h3
   simp [hm (by omega), hnil (by omega), this]; omega
  ·
   simp only [hm (by omega), hnil (by omega)]
   by_cases h3 : n = gr + 1
   ·
    by_cases h4 : n ≤ 9
    ·
     simp; omega
    ·
     simp [h4]
   ·
    have : (n == gr + 1) = false := beq_eq_false_iff_ne.mpr h3
    simp [this]
 rw [if_neg e6, if_neg e6]
 have alt : ∀ (z : Int) (b : Bool) (g : Int), z = g + 1 → (len ≤ 120 → b = false) → (120 < len → b = true) → ((some z : Option Int) = none → b = true) ∧ (∀ x, (some z : Option Int) = some x → x = g + 1 ∧ (len ≤ 120 → b = false) ∧ (120 < len → b = true)) :=
  fun z b g hz h1 h2 => ⟨fun h => by simp at h, fun x h => ⟨(Option.some.inj h).symm.trans hz, h1, h2⟩⟩
 by_cases e7 : k = 7
 ·
  rw [if_pos e7, if_pos e7]
  refine alt _ _ _ rfl (fun h => (BF _).2 ?_) (fun h => (B _).2 ?_)
  ·
   simp [hm (by omega), hnil (by omega), hn (by omega) (by omega) (by omega)]; omega
  ·
   simp [hm (by omega), hnil (by omega), hn (by omega) (by omega) (by omega)]; omega
 rw [if_neg e7, if_neg e7]
 by_cases e8 : k = 8
 ·
  rw [if_pos e8, if_pos e8]
  refine fin _ _ _ _ rfl (fun h _ => (BF _).2 ?_) (fun h _ => (B _).2 ?_) (fun h => (B _).2 ?_)
  ·
   simp [hm (by omega), hnil (by omega), hn (by omega) (by omega) (by omega)]; omega
  ·
   simp [hm (by omega), hnil (by omega), hn (by omega) (by omega) (by omega)]; omega
  ·
   simp [hm (by omega), hnil (by omega), hn (by omega) (by omega) (by omega)]; omega
 rw [if_neg e8, if_neg e8]
 by_cases e9 : k = 9
 ·
  rw [if_pos e9, if_pos e9]
  refine fin _ _ _ _ rfl (fun h _ => (BF _).2 ?_) (fun h _ => by omega) (fun h => (B _).2 ?_)
  ·
   obtain ⟨h1, h2, h3, h4, h5, h6⟩ := h
   by_cases hm1 : m = -1
   ·
    simp [hnil (by omega), hm1]; omega
   ·
    have := h6 (by omega)
    simp [hnil (by omega), hm1]; omega
  ·
   simp only [hnil (by omega)]
   by_cases hm1 : m = -1
   ·
    simp [hm1]; omega
   ·
    simp [hm1]; omega
 ·
  rw [if_neg e9, if_neg e9]
  exact ⟨fun _ => (B _).2 (by simp), fun x h => by simp at h⟩
theorem chk_next {k n m : Int} {s : ByteArray} {len next x : Int} (h : rxChk k n m s len next = some x) : x = next ∨ x = wrap64 (next + 1) := by
 have none : ∀ {c : Prop} [Decidable c] {A : Option Int}, (if c then none else A) = some x → A = some x := fun {c _ A} h => by
  by_cases hc : c
  ·
   rw [if_pos hc] at h; simp at h
  ·
   rwa [if_neg hc] at h
 have two : ∀ {c : Prop} [Decidable c] {z : Int} {A : Option Int} {d : Prop} [Decidable d], (if c then (if d then some z else Option.none) else A) = some x → x = z ∨ A = some x := fun {c _ z A d _} h => by
  by_cases hc : c
  ·
   rw [if_pos hc] at h
   by_cases hd : d
   ·
    rw [if_pos hd] at h; exact .inl (Option.some.inj h).symm
   ·
    rw [if_neg hd] at h; simp at h
  ·
   rw [if_neg hc] at h; exact .inr h
 unfold rxChk at h
 have h := none (none (none h))
 rcases two h with h | h
 ·
  exact .inl h
 rcases two h with h | h
 ·
  exact .inl h
 rcases two h with h | h
 ·
  exact .inl h
 rcases two h with h | h
 ·
  exact .inr h
 by_cases e7 : k = 7
 ·
  rw [if_pos e7] at h; exact .inl (Option.some.inj h).symm
 rw [if_neg e7] at h
 rcases two h with h | h
 ·
  exact .inl h
 rcases two h with h | h
 ·
  exact .inl h
 ·
  simp at h
theorem go_bad (l : List S31) (w nd gr : Int) : (impl_looker.go l w nd gr true).2.2.2.2 = true := by
 cases l with
 | nil => rw [impl_looker.go]
 | cons x l => rw [impl_looker.go, if_pos rfl]
theorem fin_bad (k n m : Int) (q : Bool × Int × Int × Int × Bool) (h : q.2.2.2.2 = true) : (impl_looker.fin k n m q).2.2.2 = true := by
 unfold impl_looker.fin
 by_cases c : q.1 = true
 ·
  rw [if_pos c]
 ·
  rw [if_neg c]
  simp [h]
def rxGood (t : S31) (nd gr : Int) : Prop := nd + rxSz t ≤ 120 ∧ rxRight t (gr + 1) > 0 ∧ rxWgt t ≤ 300
def rxGoodL (l : List S31) (nd gr : Int) : Prop := nd + rxSzL l ≤ 120 ∧ rxRightL l (gr + 1) > 0 ∧ ∀ x ∈ l, rxWgt x ≤ 300
theorem look_main : ∀ (n : Nat) (t : S31), SizeOf.sizeOf t ≤ n → rxFine t → ∀ nd gr : Int, 0 ≤ nd → nd ≤ 120 → 0 ≤ gr → gr ≤ nd →
  (rxGood t nd gr → impl_looker.g t nd gr false = (rxWgt t, nd + rxSz t, rxRight t (gr + 1) - 1, false) ∧ rxRight t (gr + 1) - 1 ≤ nd + rxSz t) ∧ (¬ rxGood t nd gr → (impl_looker.g t nd gr false).2.2.2 = true)
 | 0, t, h, _, _, _, _, _, _, _ => by cases t; simp at h
 | n + 1, ⟨k0, k1, k2, s, l⟩, h, hf, nd, gr, n0, n1, g0, g1 => by
  have ih := look_main n
  have hl : SizeOf.sizeOf l ≤ n := by simp at h; omega
  have hf0 := hf
  rw [rxFine] at hf
  obtain ⟨hs, hlen, hfl⟩ := hf
  have loop : ∀ l' : List S31, SizeOf.sizeOf l' ≤ n → rxFineL l' → ∀ w nd gr : Int, 0 ≤ nd → nd ≤ 120 → 0 ≤ gr → gr ≤ nd → 1 ≤ w → w + 301 * (l'.length : Int) ≤ 1000000000000 →
    (rxGoodL l' nd gr → impl_looker.go l' w nd gr false = (false, rxWgtL l' w, nd + rxSzL l', rxRightL l' (gr + 1) - 1, false) ∧ rxRightL l' (gr + 1) - 1 ≤ nd + rxSzL l') ∧ (¬ rxGoodL l' nd gr → (impl_looker.go l' w nd gr false).2.2.2.2 = true) := by
   intro l'
   induction l' with
   | nil =>
    intro _ _ w nd gr a0 a1 b0 b1 _ _
    unfold rxGoodL
    rw [rxSzL, rxRightL, impl_looker.go, rxWgtL]
    refine ⟨fun _ => ⟨by simp, by omega⟩, fun h => absurd ⟨by omega, by omega, by simp⟩ h⟩
   | cons x l' ihl =>
    intro hs hf' w nd gr a0 a1 b0 b1 w0 w1
    have hx : SizeOf.sizeOf x ≤ n := by simp at hs; omega
    have hs' : SizeOf.sizeOf l' ≤ n := by simp at hs; omega
    rw [rxFineL] at hf'
    simp only [List.length_cons] at w1
    have z1 := rxSz_ge x
    have z2 := rxSzL_ge l'
    obtain ⟨p1, p2⟩ := ih x hx hf'.1 nd gr a0 a1 b0 b1
    rw [impl_looker.go, if_neg (by simp)]
    by_cases hg : rxGood x nd gr
    ·
     obtain ⟨q1, q2⟩ := p1 hg
     rw [q1]
     dsimp only
     obtain ⟨s1, s2, s3⟩ := hg
     obtain ⟨v1, v2⟩ := wgt_pos _ x (Nat.le_refl _) hf'.1 _ s2
     have hw : wrap64 (w + rxWgt x) = w + rxWgt x := wrap64_id (by omega) (by omega)
     rw [hw]
     obtain ⟨t1, t2⟩ := ihl hs' hf'.2 (w + rxWgt x) (nd + rxSz x) (rxRight x (gr + 1) - 1) (by omega) (by omega) (by omega) (by omega) (by omega) (by omega)
     have hrr : rxRight x (gr + 1) - 1 + 1 = rxRight x (gr + 1) := by omega
     unfold rxGoodL at t1 t2 ⊢
     rw [hrr] at t1 t2
     rw [rxSzL, rxRightL, if_pos (by omega), rxWgtL, hw]
     refine ⟨fun hG => ?_, fun hG => t2 fun h => hG ⟨by omega, h.2.1, fun y hy => ?_⟩⟩
     ·
      obtain ⟨r1, r2⟩ := t1 ⟨by omega, hG.2.1, fun y hy => hG.2.2 y (List.mem_cons_of_mem _ hy)⟩
      exact ⟨by rw [r1, Int.add_assoc], by omega⟩
     ·
      rcases List.mem_cons.1 hy with rfl | hy
      ·
       exact s3
      ·
       exact h.2.2 y hy
    ·
     have hb := p2 hg
     rw [hb]
     refine ⟨fun hG => absurd ?_ hg, fun _ => go_bad _ _ _ _⟩
     obtain ⟨s1, s2, s3⟩ := hG
     rw [rxSzL] at s1
     rw [rxRightL, if_pos (by omega)] at s2
     exact ⟨by omega, rightL_pos _ _ s2, s3 x (by simp)⟩
  have hw : wrap64 (nd + 1) = nd + 1 := wrap64_id (by omega) (by omega)
  have zl := rxSzL_ge l
  rw [impl_looker.g, hw]
  unfold rxGood
  by_cases hbig : 120 < nd + 1
  ·
   rw [if_pos (by simp [hbig]), rxSz]
   exact ⟨fun h => by omega, fun _ => rfl⟩
  rw [if_neg (by simp [hbig]), rxSz, rxRight]
  obtain ⟨a1, a2⟩ := ask_chk k0 k1 k2 s hs l.length gr g0 (by omega)
  rcases hc : rxChk k0 k1 k2 s l.length (gr + 1) with _ | x
  ·
   rw [a1 hc]
   dsimp only
   exact ⟨fun h => by omega, fun _ => fin_bad _ _ _ _ (go_bad _ _ _ _)⟩
  obtain ⟨hx, b1, b2⟩ := a2 x hc
  dsimp only
  by_cases h120 : 120 < l.length
  ·
   rw [b2 h120]
   exact ⟨fun h => by omega, fun _ => fin_bad _ _ _ _ (go_bad _ _ _ _)⟩
  rw [b1 (by omega)]
  have hx0 : 1 ≤ x ∧ x - 1 ≤ nd + 1 := by
   have h2 : wrap64 (gr + 1 + 1) = gr + 1 + 1 := wrap64_id (by omega) (by omega)
   rcases chk_next hc with h1 | h1 <;> omega
  obtain ⟨p1, p2⟩ := loop l hl hfl 1 (nd + 1) (x - 1) (by omega) (by omega) (by omega) (by omega) (by omega) (by omega)
  have hgr : (impl_looker.ask k0 k1 k2 s gr).gr = x - 1 := by omega
  rw [hgr]
  unfold rxGoodL at p1 p2
  have hxx : x - 1 + 1 = x := by omega
  rw [hxx] at p1 p2
  -- the node's weight over the kids' sum
  have wgt : rxRightL l x > 0 → (∀ y ∈ l, rxWgt y ≤ 300) → rxSzL l ≤ 120 → ∃ v : Int, impl_looker.w2 k0 k1 k2 (rxWgtL l 1) false = v ∧ rxWgt ⟨k0, k1, k2, s, l⟩ = mn v 301 := by
   intro hr hy hz
   obtain ⟨u1, u2, _⟩ := wgtL_ge l hfl x hr 1 (by omega) (by omega)
   refine ⟨_, rfl, ?_⟩
   rw [rxWgt, impl_looker.w2]
   by_cases h9 : k0 = 9
   ·
    subst h9
    obtain ⟨_, _, _, _, f1, f2, f3, f4⟩ := chk9 hc
    rw [if_pos rfl, if_pos (by simp), f1, f4]
   ·
    rw [if_neg h9, if_neg (by simp [h9])]
  have small : rxWgt ⟨k0, k1, k2, s, l⟩ ≤ 300 → rxRightL l x > 0 → ∀ y ∈ l, rxWgt y ≤ 300 := by
   intro hle hr y hy
   obtain ⟨u1, u2, u3⟩ := wgtL_ge l hfl x hr 1 (by omega) (by omega)
   have := u3 y hy
   rw [rxWgt] at hle
   by_cases h9 : k0 = 9
   ·
    rw [if_pos h9] at hle
    subst h9
    obtain ⟨_, _, _, _, f1, f2, f3, f4⟩ := chk9 hc
    rw [f1] at hle
    have m1 : rxWgtL l 1 * (mx k1 k2 + 1) ≤ 1000000000000 * 21 := Int.mul_le_mul (by omega) f3 (by omega) (by omega)
    have m2 : rxWgtL l 1 * 1 ≤ rxWgtL l 1 * (mx k1 k2 + 1) := Int.mul_le_mul_of_nonneg_left f2 (by omega)
    rw [wrap64_id (by omega) (by omega)] at hle
    generalize rxWgtL l 1 * (mx k1 k2 + 1) = z at *
    unfold mn at hle
    split at hle <;> omega
   ·
    rw [if_neg h9] at hle
    unfold mn at hle
    split at hle <;> omega
  by_cases hG : nd + 1 + rxSzL l ≤ 120 ∧ rxRightL l x > 0 ∧ ∀ y ∈ l, rxWgt y ≤ 300
  ·
   obtain ⟨q1, q2⟩ := p1 hG
   rw [q1]
   obtain ⟨v, v1, v2⟩ := wgt hG.2.1 hG.2.2 (by omega)
   unfold impl_looker.fin
   rw [if_neg (by simp)]
   dsimp only
   rw [v1, v2]
   by_cases hv : 300 < v
   ·
    refine ⟨fun h => ?_, fun _ => by simp [hv]⟩
    obtain ⟨_, _, h3⟩ := h
    unfold mn at h3
    split at h3 <;> omega
   ·
    have hmn : mn v 301 = v := by unfold mn; split <;> omega
    rw [hmn]
    refine ⟨fun _ => ⟨?_, by omega⟩, fun h => absurd ⟨by omega, hG.2.1, by omega⟩ h⟩
    rw [decide_eq_false hv, show nd + 1 + rxSzL l = nd + (1 + rxSzL l) by omega]
    rfl
  ·
   refine ⟨fun h => absurd ⟨by omega, h.2.1, small h.2.2 h.2.1⟩ hG, fun _ => fin_bad _ _ _ _ (p2 hG)⟩
theorem RxOK_ev (t : S31) (hf : rxFine t) : Ev (fun k => spec_RxOK.f k t.f0 t.f1 t.f2 t.f3 t.f4) (!(impl_looker.g t 0 0 false).2.2.2) := by
 obtain ⟨m1, m2⟩ := look_main _ t (Nat.le_refl _) hf 0 0 (by omega) (by omega) (by omega) (by omega)
 obtain ⟨l1, l2⟩ := left_sz _ t (Nat.le_refl _) 120 (by omega) (by omega)
 have e1 := left_ev _ t (Nat.le_refl _) hf 120
 have e2 := right_ev _ t (Nat.le_refl _) hf 1
 have e3 := wgt_ev _ t (Nat.le_refl _) hf
 unfold rxGood at m1 m2
 by_cases c1 : rxSz t ≤ 120
 ·
  by_cases c2 : rxRight t 1 > 0
  ·
   by_cases c3 : rxWgt t ≤ 300
   ·
    obtain ⟨q1, _⟩ := m1 ⟨by omega, c2, c3⟩
    rw [q1]
    exact Ev.bind e1 (Ev_pos (by rw [l1 c1]; omega) (Ev.bind e2 (Ev_pos c2 (Ev.bind e3 (Ev_eq (Ev_some _) (by simp [c3]))))))
   ·
    rw [m2 (fun h => c3 h.2.2)]
    exact Ev.bind e1 (Ev_pos (by rw [l1 c1]; omega) (Ev.bind e2 (Ev_pos c2 (Ev.bind e3 (Ev_eq (Ev_some _) (by simp [c3]))))))
  ·
   rw [m2 (fun h => c2 h.2.1)]
   exact Ev.bind e1 (Ev_pos (by rw [l1 c1]; omega) (Ev.bind e2 (Ev_neg c2 (Ev_some _))))
 ·
  rw [m2 (fun h => c1 (by omega))]
  exact Ev.bind e1 (Ev_neg (by have := l2 (by omega); omega) (Ev_some _))
mutual
def rxLim : S24 → Prop
 | ⟨_, _, _, s, l⟩ => s.size ≤ 9223372036854775807 ∧ l.length ≤ 9223372036854775807 ∧ rxLimL l
def rxLimL : List S24 → Prop
 | [] => True
 | x :: l => rxLim x ∧ rxLimL l
end
theorem rxLimL_of : ∀ l : List S24, (∀ y ∈ l, rxLim y) → rxLimL l
 | [], _ => by rw [rxLimL]; trivial
 | x :: l, h => by rw [rxLimL]; exact ⟨h x (by simp), rxLimL_of l fun y hy => h y (List.mem_cons_of_mem _ hy)⟩
theorem rxLim_mk {a0 a1 a2 : Int} {a3 : ByteArray} {l : List S24} (h3 : a3.size ≤ Go.maxLen) (hl : l.length ≤ 9223372036854775807) (h4 : ∀ y ∈ l, rxLim y) : rxLim ⟨a0, a1, a2, a3, l⟩ := by
 rw [rxLim]
 have : Go.maxLen ≤ 9223372036854775807 := by decide
 exact ⟨by omega, hl, rxLimL_of l h4⟩
theorem sz_fine : ∀ (n : Nat), (∀ t : S24, SizeOf.sizeOf t ≤ n → rxLim t → ∀ left : Int, 0 ≤ left → left ≤ 1048576 → 0 ≤ laws_szRx.g t left → laws_szRx.g t left ≤ left ∧ laws_toRx.ok t = true ∧ rxFine (laws_toRx.g t)) ∧
  (∀ l : List S24, SizeOf.sizeOf l ≤ n → rxLimL l → ∀ left : Int, 0 ≤ left → left ≤ 1048576 → 0 ≤ laws_szRx.go l left → laws_szRx.go l left ≤ left ∧ laws_toRx.okL l = true ∧ rxFineL (laws_toRx.go l))
 | 0 => ⟨fun t h => by cases t; simp at h, fun l h => by cases l <;> simp at h⟩
 | n + 1 => by
  obtain ⟨i1, i2⟩ := sz_fine n
  refine ⟨fun t h hL left h0 h1 hp => ?_, fun l h hL left h0 h1 hp => ?_⟩
  ·
   obtain ⟨k0, k1, k2, s, l⟩ := t
   rw [rxLim] at hL
   obtain ⟨hs, hlen, hll⟩ := hL
   rw [laws_szRx.g] at hp ⊢
   have w1 : wrap64 (left - (s.size : Int)) = left - (s.size : Int) := wrap64_id (by omega) (by omega)
   rw [w1] at hp ⊢
   by_cases c1 : left - (s.size : Int) < 0
   ·
    rw [if_pos c1] at hp; omega
   rw [if_neg c1] at hp ⊢
   have w2 : wrap64 (left - (s.size : Int) - (l.length : Int)) = left - (s.size : Int) - (l.length : Int) := wrap64_id (by omega) (by omega)
   rw [w2] at hp ⊢
   by_cases c2 : left - (s.size : Int) - (l.length : Int) < 0
   ·
    rw [if_pos c2] at hp; omega
   rw [if_neg c2] at hp ⊢
   obtain ⟨q1, q2, q3⟩ := i2 l (by simp at h; omega) hll _ (by omega) (by omega) hp
   refine ⟨by omega, ?_, ?_⟩
   ·
    rw [laws_toRx.ok, q2, decide_eq_true (show l.length ≤ 4398046511104 by omega)]
    rfl
   ·
    rw [laws_toRx.g, rxFine, laws_toRx.go_len]
    exact ⟨by omega, by omega, q3⟩
  ·
   cases l with
   | nil =>
    rw [laws_szRx.go, laws_toRx.okL, laws_toRx.go, rxFineL]
    exact ⟨by omega, rfl, trivial⟩
   | cons x l =>
    rw [rxLimL] at hL
    rw [laws_szRx.go] at hp ⊢
    by_cases c : laws_szRx.g x left < 0
    ·
     rw [if_pos c] at hp; omega
    rw [if_neg c] at hp ⊢
    simp at h
    obtain ⟨p1, p2, p3⟩ := i1 x (by omega) hL.1 left h0 h1 (by omega)
    obtain ⟨q1, q2, q3⟩ := i2 l (by omega) hL.2 _ (by omega) (by omega) hp
    refine ⟨by omega, ?_, ?_⟩
    ·
     rw [laws_toRx.okL, p2, q2]
     rfl
    ·
     rw [laws_toRx.go, rxFineL]
     exact ⟨p3, q3⟩
theorem eqRx_self : ∀ (n : Nat), (∀ t : S31, SizeOf.sizeOf t ≤ n → laws_eqRx.g t t = true) ∧ (∀ l : List S31, SizeOf.sizeOf l ≤ n → laws_eqRx.go l l = true)
 | 0 => ⟨fun t h => by cases t; simp at h, fun l h => by cases l <;> simp at h⟩
 | n + 1 => by
  obtain ⟨i1, i2⟩ := eqRx_self n
  refine ⟨fun t h => ?_, fun l h => ?_⟩
  ·
   obtain ⟨k0, k1, k2, s, l⟩ := t
   rw [laws_eqRx.g, i2 l (by simp at h; omega)]
   simp
  ·
   cases l with
   | nil => rw [laws_eqRx.go]
   | cons x l =>
    simp at h
    rw [laws_eqRx.go, i1 x (by omega), i2 l (by omega)]
    rfl

mutual
def rxGrp : S31 → Int
 | ⟨k, _, _, _, l⟩ => rxGrpL l (if k = 6 then 1 else 0)
def rxGrpL : List S31 → Int → Int
 | [], a => a
 | x :: l, a => rxGrpL l (wrap64 (a + rxGrp x))
end
theorem grp_ev : ∀ (n : Nat) (t : S31), SizeOf.sizeOf t ≤ n → rxFine t → Ev (fun k => spec_l05Groups.f k t.f0 t.f1 t.f2 t.f3 t.f4) (rxGrp t)
 | 0, t, h, _ => by cases t; simp at h
 | n + 1, ⟨k0, k1, k2, s, l⟩, h, hf => by
  have ih := grp_ev n
  have hl : SizeOf.sizeOf l ≤ n := by simp at h; omega
  rw [rxFine] at hf
  obtain ⟨_, hlen, hfl⟩ := hf
  have loop : ∀ d i : Nat, i + d = l.length → ∀ a, Ev (fun k => spec_l05Groups.l0 k a (i : Int) k0 k1 k2 s l) (rxGrpL (l.drop i) a) := by
   intro d
   induction d with
   | zero =>
    intro i hi a
    rw [List.drop_eq_nil_of_le (by omega), rxGrpL]
    exact Ev.step (fun k => spec_l05Groups.l0.eq_2 _ _ _ _ _ _ _ k) (Ev_neg (by omega) (Ev_some _))
   | succ d ihd =>
    intro i hi a
    have hlt : i < l.length := by omega
    rw [List.drop_eq_getElem_cons hlt, rxGrpL]
    refine Ev.step (fun k => spec_l05Groups.l0.eq_2 _ _ _ _ _ _ _ k) (Ev_pos (by omega) (Ev_pos (by omega) ?_))
    rw [rx_rd l i hlt, rx_w i (by omega)]
    exact Ev.bind (ih l[i] (by have := List.sizeOf_lt_of_mem (List.getElem_mem hlt); omega) (rxFineL_at l hfl _ (List.getElem_mem hlt))) (ihd (i + 1) (by omega) _)
  rw [rxGrp]
  refine Ev.step (fun k => spec_l05Groups.f.eq_2 _ _ _ _ _ k) ?_
  by_cases h6 : k0 = 6
  ·
   rw [if_pos h6]
   exact Ev_pos h6 (Ev.step (fun k => spec_l05Groups.j0.eq_2 _ _ _ _ _ _ k) (loop l.length 0 (by omega) _))
  ·
   rw [if_neg h6]
   exact Ev_neg h6 (Ev.step (fun k => spec_l05Groups.j0.eq_2 _ _ _ _ _ _ k) (loop l.length 0 (by omega) _))
mutual
def rxIn (lo hi : Int) : S31 → Prop
 | ⟨k, a, _, _, l⟩ => (k = 6 → lo ≤ a ∧ a < hi) ∧ rxInL lo hi l
def rxInL (lo hi : Int) : List S31 → Prop
 | [] => True
 | x :: l => rxIn lo hi x ∧ rxInL lo hi l
end
theorem rxIn_mono {lo hi lo' hi' : Int} (h1 : lo' ≤ lo) (h2 : hi ≤ hi') : ∀ N : Nat, (∀ t : S31, SizeOf.sizeOf t ≤ N → rxIn lo hi t → rxIn lo' hi' t) ∧ (∀ l : List S31, SizeOf.sizeOf l ≤ N → rxInL lo hi l → rxInL lo' hi' l) := by
 intro N
 induction N with
 | zero => exact ⟨fun t h => by cases t; simp at h, fun l h => by cases l <;> simp at h⟩
 | succ N ih =>
  constructor
  ·
   rintro ⟨k, a, m, s, l⟩ h hh
   rw [rxIn] at hh ⊢
   exact ⟨fun hk => by have := hh.1 hk; omega, ih.2 l (by simp at h; omega) hh.2⟩
  ·
   intro l h hh
   cases l with
   | nil => trivial
   | cons x l =>
    rw [rxInL] at hh ⊢
    exact ⟨ih.1 x (by simp at h; omega) hh.1, ih.2 l (by simp at h; omega) hh.2⟩
theorem w_next {next : Int} (h1 : 1 ≤ next) (h : next ≤ 9) : wrap64 (next + 1) = next + 1 := by unfold wrap64; omega
theorem rxChk_next {k n m : Int} {s : ByteArray} {len next x : Int} (h : rxChk k n m s len next = some x) (h1 : 1 ≤ next) (h2 : next ≤ 10) : x ≤ 10 ∧ ((k = 6 ∧ n = next ∧ x = next + 1) ∨ (k ≠ 6 ∧ x = next)) := by
 unfold rxChk at h
 have no : ∀ {y : Int}, (none : Option Int) = some y → False := fun h => by simp at h
 have same : ∀ {y : Int}, some next = some y → k ≠ 6 → y ≤ 10 ∧ ((k = 6 ∧ n = next ∧ y = next + 1) ∨ (k ≠ 6 ∧ y = next)) := fun h hk => by
  have h_ := Option.some.inj h
  subst h_
  exact ⟨h2, .inr ⟨hk, rfl⟩⟩
 by_cases c1 : k ≠ 3 ∧ ¬ s.toList = []
 ·
  rw [if_pos c1] at h; exact (no h).elim
 rw [if_neg c1] at h
 clear c1
 by_cases c2 : k ≠ 9 ∧ m ≠ 0
 ·
  rw [if_pos c2] at h; exact (no h).elim
 rw [if_neg c2] at h
 clear c2
 by_cases c3 : k ≠ 1 ∧ k ≠ 6 ∧ k ≠ 9 ∧ n ≠ 0
 ·
  rw [if_pos c3] at h; exact (no h).elim
 rw [if_neg c3] at h
 clear c3
 by_cases k1 : k = 1
 ·
  rw [if_pos k1] at h
  split at h
  ·
   refine same h ?_; clear h same no; omega
  ·
   exact (no h).elim
 rw [if_neg k1] at h
 by_cases k2 : k = 2 ∨ k = 4 ∨ k = 5
 ·
  rw [if_pos k2] at h
  split at h
  ·
   refine same h ?_; clear h same no; omega
  ·
   exact (no h).elim
 rw [if_neg k2] at h
 by_cases k3 : k = 3
 ·
  rw [if_pos k3] at h
  split at h
  ·
   refine same h ?_; clear h same no; omega
  ·
   exact (no h).elim
 rw [if_neg k3] at h
 by_cases k6 : k = 6
 ·
  rw [if_pos k6] at h
  by_cases hc : n = next ∧ next ≤ 9 ∧ len = 1
  ·
   rw [if_pos hc, w_next h1 hc.2.1] at h
   have h_ := Option.some.inj h
   subst h_
   exact ⟨by omega, .inl ⟨k6, hc.1, rfl⟩⟩
  ·
   rw [if_neg hc] at h; exact (no h).elim
 rw [if_neg k6] at h
 by_cases k7 : k = 7
 ·
  rw [if_pos k7] at h; exact same h k6
 rw [if_neg k7] at h
 by_cases k8 : k = 8
 ·
  rw [if_pos k8] at h
  split at h
  ·
   exact same h k6
  ·
   exact (no h).elim
 rw [if_neg k8] at h
 by_cases k9 : k = 9
 ·
  rw [if_pos k9] at h
  split at h
  ·
   exact same h k6
  ·
   exact (no h).elim
 rw [if_neg k9] at h
 exact (no h).elim
theorem rxRightL_neg : ∀ (l : List S31) (x : Int), ¬ x > 0 → rxRightL l x = x
 | [], x, _ => by rw [rxRightL]
 | _ :: _, x, h => by rw [rxRightL, if_neg h]
theorem right_in : ∀ N : Nat, (∀ t : S31, SizeOf.sizeOf t ≤ N → ∀ next : Int, 1 ≤ next → next ≤ 10 → rxRight t next > 0 → next ≤ rxRight t next ∧ rxRight t next ≤ 10 ∧ rxIn next (rxRight t next) t ∧ rxGrp t = rxRight t next - next) ∧
  (∀ l : List S31, SizeOf.sizeOf l ≤ N → ∀ next : Int, 1 ≤ next → next ≤ 10 → rxRightL l next > 0 → next ≤ rxRightL l next ∧ rxRightL l next ≤ 10 ∧ rxInL next (rxRightL l next) l ∧ ∀ a : Int, 0 ≤ a → a ≤ 1000 + next → rxGrpL l a = a + (rxRightL l next - next)) := by
 intro N
 induction N with
 | zero => exact ⟨fun t h => by cases t; simp at h, fun l h => by cases l <;> simp at h⟩
 | succ N ih =>
  constructor
  ·
   rintro ⟨k, a, m, s, l⟩ h next h1 h2 hr
   rw [rxRight] at hr ⊢
   rw [rxGrp]
   rcases hc : rxChk k a m s l.length next with _ | x
   ·
    rw [hc] at hr; exact absurd hr (by show ¬ ((-1 : Int) > 0); decide)
   ·
    rw [hc] at hr
    dsimp only at hr ⊢
    obtain ⟨hx, hcase⟩ := rxChk_next hc h1 h2
    obtain ⟨e1, e2, e3, e4⟩ := ih.2 l (by simp at h; omega) x (by omega) hx hr
    rcases hcase with ⟨hk, ha, hxn⟩ | ⟨hk, hxn⟩
    ·
     refine ⟨by omega, e2, ?_, by rw [if_pos hk, e4 1 (by omega) (by omega)]; omega⟩
     rw [rxIn]
     exact ⟨fun _ => by omega, (rxIn_mono (by omega) (Int.le_refl _) _).2 l (Nat.le_refl _) e3⟩
    ·
     refine ⟨by omega, e2, ?_, by rw [if_neg hk, e4 0 (by omega) (by omega)]; omega⟩
     rw [rxIn]
     exact ⟨fun h_ => absurd h_ hk, by rw [← hxn]; exact e3⟩
  ·
   intro l h next h1 h2 hr
   cases l with
   | nil =>
    rw [rxRightL]
    exact ⟨Int.le_refl _, h2, trivial, fun a _ _ => by rw [rxGrpL]; omega⟩
   | cons x l =>
    rw [rxRightL, if_pos (by omega)] at hr ⊢
    have hp : rxRight x next > 0 := by
     by_cases hp : rxRight x next > 0
     ·
      exact hp
     ·
      rw [rxRightL_neg l _ hp] at hr; exact absurd hr hp
    obtain ⟨e1, e2, e3, e4⟩ := ih.1 x (by simp at h; omega) next h1 h2 hp
    obtain ⟨g1, g2, g3, g4⟩ := ih.2 l (by simp at h; omega) _ (by omega) e2 hr
    refine ⟨by omega, g2, ?_, fun a ha hb => ?_⟩
    ·
     rw [rxInL]
     exact ⟨(rxIn_mono (Int.le_refl _) g1 _).1 x (Nat.le_refl _) e3, (rxIn_mono e1 (Int.le_refl _) _).2 l (Nat.le_refl _) g3⟩
    ·
     rw [rxGrpL, e4, show wrap64 (a + (rxRight x next - next)) = a + (rxRight x next - next) by unfold wrap64; omega]
     rw [g4 _ (by omega) (by omega)]; omega

def ndG (lo hi : Int) (ns : List S85) : Prop := ∀ x ∈ ns, x.f0 = 6 → lo ≤ x.f1 ∧ x.f1 < hi
theorem ndG_add {lo hi : Int} {ns : List S85} (h : ndG lo hi ns) (x : S85) (hx : x.f0 = 6 → lo ≤ x.f1 ∧ x.f1 < hi) : ndG lo hi (ns ++ [x]) := fun y hy => by
 rw [List.mem_append, List.mem_singleton] at hy
 rcases hy with hy | rfl
 ·
  exact h y hy
 ·
  exact hx
theorem mkOpt_G {lo hi : Int} (a : Nat) : ∀ (c rest : Nat) (ns : List S85), ndG lo hi ns → ndG lo hi (mkOpt a c rest ns).1 := by
 intro c
 induction c with
 | zero => intro rest ns h; exact h
 | succ c ih => intro rest ns h; rw [mkOpt]; exact ih _ _ (ndG_add (ndG_add h _ (fun h => by simp [nd0, nd2] at h)) _ (fun h => by simp [nd0, nd2] at h))
theorem mkTimes_G {lo hi : Int} (a : Nat) : ∀ (c rest : Nat) (ns : List S85), ndG lo hi ns → ndG lo hi (mkTimes a c rest ns).1 := by
 intro c
 induction c with
 | zero => intro rest ns h; exact h
 | succ c ih => intro rest ns h; rw [mkTimes]; exact ih _ _ (ndG_add h _ (fun h => by simp [nd0, nd2] at h))
theorem mkRep_G {lo hi : Int} (a : Nat) (n m : Int) (ns : List S85) (h : ndG lo hi ns) : ndG lo hi (mkRep a n m ns).1 := by
 unfold mkRep
 by_cases c : m < 0
 ·
  rw [if_pos c]; exact mkTimes_G _ _ _ _ (ndG_add (ndG_add h _ (fun h => by simp [nd0, nd2] at h)) _ (fun h => by simp [nd0, nd2] at h))
 ·
  rw [if_neg c]; exact mkTimes_G _ _ _ _ (mkOpt_G _ _ _ _ (ndG_add h _ (fun h => by simp [nd0, nd2] at h)))
theorem mk_G {lo hi : Int} : ∀ (N : Nat),
  (∀ x : S31, SizeOf.sizeOf x ≤ N → rxIn lo hi x → ∀ ns : List S85, ndG lo hi ns → ndG lo hi (mk x ns).1) ∧
  (∀ l : List S31, SizeOf.sizeOf l ≤ N → rxInL lo hi l → ∀ ns : List S85, ndG lo hi ns → ndG lo hi (mkHd l ns).1 ∧ ∀ kd, kd = 7 ∨ kd = 8 → ndG lo hi (mkL kd l ns).1) := by
 intro N
 induction N with
 | zero =>
  refine ⟨fun x hx => ?_, fun l hl => ?_⟩
  ·
   cases x; simp at hx
  ·
   cases l <;> simp at hl
 | succ N ih =>
  refine ⟨?_, ?_⟩
  ·
   rintro ⟨k, a, m, s, l⟩ hx hw ns h
   have hl : SizeOf.sizeOf l ≤ N := by simp at hx; omega
   rw [rxIn] at hw
   have hh := (ih.2 l hl hw.2 ns h)
   rw [mk]
   by_cases c6 : k = 6
   ·
    simp only [if_pos c6]; exact ndG_add hh.1 _ (fun _ => hw.1 c6)
   by_cases c7 : k = 7 ∨ k = 8
   ·
    simp only [if_neg c6, if_pos c7]
    by_cases ce : l.isEmpty = true
    ·
     rw [if_pos ce]; exact ndG_add h _ (fun h => by simp [nd0, nd2] at h)
    ·
     rw [if_neg ce]; exact hh.2 k c7
   by_cases c9 : k = 9
   ·
    simp only [if_neg c6, if_neg c7, if_pos c9]; exact mkRep_G _ _ _ _ hh.1
   ·
    simp only [if_neg c6, if_neg c7, if_neg c9]; exact ndG_add h _ (fun h => absurd h c6)
  ·
   intro l hl hw ns h
   cases l with
   | nil => exact ⟨h, fun kd hkd => by rw [mkL]; exact h⟩
   | cons x l =>
    rw [rxInL] at hw
    have hx2 : SizeOf.sizeOf x ≤ N := by simp at hl; omega
    have hl2 : SizeOf.sizeOf l ≤ N := by simp at hl; omega
    refine ⟨by rw [mkHd]; exact ih.1 x hx2 hw.1 ns h, fun kd hkd => ?_⟩
    rw [mkL]
    by_cases ce : l.isEmpty = true
    ·
     simp only [if_pos ce]; exact ih.1 x hx2 hw.1 ns h
    ·
     simp only [if_neg ce]; exact ndG_add (ih.1 x hx2 hw.1 _ ((ih.2 l hl2 hw.2 ns h).2 kd hkd)) _ (fun h => by simp [nd2] at h; omega)

theorem mk_Gr (x : S31) (gs : Nat) (hr : rxRight x 1 > 0) (hg : rxGrp x = (gs : Int)) : ∀ (q : Nat) (y : S85), (mk x []).1[q]? = some y → y.f0 = 6 → 0 ≤ y.f1 ∧ 2 * y.f1 + 1 < ((2 * gs + 2 : Nat) : Int) := by
 intro q y hy h6
 obtain ⟨_, _, h3, h4⟩ := (right_in _).1 x (Nat.le_refl _) 1 (by decide) (by decide) hr
 have h7 := (mk_G (lo := 1) (hi := rxRight x 1) _).1 x (Nat.le_refl _) h3 [] (fun z hz => by simp at hz) y (List.mem_of_getElem? hy) h6
 omega

theorem eqIntS_go (a : List Int) (ha : (a.length : Int) ≤ 281474976710656) (d : Nat) : ∀ i : Int, 0 ≤ i → i ≤ (a.length : Int) → (a.length : Int) - i = d → Ev (fun k => laws_eqIntS.l0 k a a i) true := by
 induction d with
 | zero =>
  intro i h0 h1 h2
  exact Ev.step (fun k => laws_eqIntS.l0.eq_2 a a i k) (Ev_neg (by omega) (Ev_some _))
 | succ d ih =>
  intro i h0 h1 h2
  have hw : wrap64 (i + 1) = i + 1 := wrap64_id (by omega) (by omega)
  have e := ih (i + 1) (by omega) (by omega) (by omega)
  rw [← hw] at e
  exact Ev.step (fun k => laws_eqIntS.l0.eq_2 a a i k) (Ev_pos (by omega) (Ev_pos h0 (Ev_pos (by omega) (Ev_pos rfl e))))
theorem eqIntS_self (a : List Int) (ha : (a.length : Int) ≤ 281474976710656) : Ev (fun k => laws_eqIntS.f k a a) true :=
 Ev_pos rfl (eqIntS_go a ha a.length 0 (by omega) (by omega) (by omega))
def marksI : Nat → Int → List Int
 | 0, _ => []
 | n + 1, k => k :: marksI n (k + 1)
theorem markIntS_go : ∀ (suf pre : List Int) (k : Int), 0 ≤ k → k + (suf.length : Int) ≤ 4611686018427387904 → (pre.length : Int) + (suf.length : Int) ≤ 281474976710656 →
  Ev (fun n => laws_markIntS.l0 n (pre ++ suf) k (pre.length : Int)) (k + (suf.length : Int), pre ++ marksI suf.length k) := by
 intro suf
 induction suf with
 | nil =>
  intro pre k h0 h1 h2
  simp only [List.length_nil, marksI, List.append_nil]
  refine Ev.step (fun n => laws_markIntS.l0.eq_2 pre k _ n) (Ev_neg (by omega) (Ev_eq (Ev_some _) (by simp)))
 | cons x suf ih =>
  intro pre k h0 h1 h2
  simp only [List.length_cons] at h1 h2
  have e := ih (pre ++ [k]) (k + 1) (by omega) (by omega) (by simp; omega)
  have hw : wrap64 ((pre.length : Int) + 1) = ((pre ++ [k]).length : Int) := by rw [wrap64_id (by omega) (by omega)]; simp
  have hk : wrap64 (k + 1) = k + 1 := wrap64_id (by omega) (by omega)
  rw [← hw, ← hk] at e
  have hs : (pre ++ x :: suf).set ((pre.length : Int)).toNat k = (pre ++ [k]) ++ suf := by simp
  rw [← hs] at e
  refine Ev.step (fun n => laws_markIntS.l0.eq_2 (pre ++ x :: suf) k _ n) (Ev_pos (by simp; omega) (Ev_pos (by omega) (Ev_eq e ?_)))
  rw [hk]
  simp only [List.length_cons, marksI]
  exact Prod.ext (by omega) (by simp)
theorem markIntS_ev (l : List Int) (k : Int) (h0 : 0 ≤ k) (h1 : k + (l.length : Int) ≤ 4611686018427387904) (h2 : (l.length : Int) ≤ 281474976710656) : Ev (fun n => laws_markIntS.f n l k) (k + (l.length : Int), marksI l.length k) := by
 have e := markIntS_go l [] k h0 h1 (by simpa using h2)
 unfold laws_markIntS.f
 simpa using e
theorem heldIntS_go : ∀ (d : Nat) (pre : List Int) (k : Int), 0 ≤ k → k + (d : Int) ≤ 4611686018427387904 → (pre.length : Int) + (d : Int) ≤ 281474976710656 →
  Ev (fun n => laws_heldIntS.l0 n (pre ++ marksI d k) k (pre.length : Int)) (k + (d : Int)) := by
 intro d
 induction d with
 | zero =>
  intro pre k h0 h1 h2
  refine Ev.step (fun n => laws_heldIntS.l0.eq_2 _ k _ n) (Ev_neg (by simp [marksI]) (Ev_eq (Ev_some _) (by simp)))
 | succ d ih =>
  intro pre k h0 h1 h2
  have e := ih (pre ++ [k]) (k + 1) (by omega) (by omega) (by simp; omega)
  have hw : wrap64 ((pre.length : Int) + 1) = ((pre ++ [k]).length : Int) := by rw [wrap64_id (by omega) (by omega)]; simp
  have hk : wrap64 (k + 1) = k + 1 := wrap64_id (by omega) (by omega)
  rw [← hw, ← hk] at e
  have hs : (pre ++ [k]) ++ marksI d (wrap64 (k + 1)) = pre ++ marksI (d + 1) k := by rw [hk]; simp [marksI]
  rw [hs] at e
  refine Ev.step (fun n => laws_heldIntS.l0.eq_2 _ k _ n) (Ev_pos (by simp [marksI]; omega) (Ev_pos (by omega) (Ev_pos ?_ (Ev_eq e (by rw [hk]; omega)))))
  simp only [marksI]
  exact rd_append_len pre _ _
theorem heldIntS_ev (d : Nat) (k : Int) (h0 : 0 ≤ k) (h1 : k + (d : Int) ≤ 4611686018427387904) (h2 : (d : Int) ≤ 281474976710656) : Ev (fun n => laws_heldIntS.f n (marksI d k) k) (k + (d : Int)) := by
 have e := heldIntS_go d [] k h0 h1 (by simpa using h2)
 unfold laws_heldIntS.f
 simpa using e

theorem rxRightL_pos : ∀ (l : List S31) (x : Int), rxRightL l x > 0 → x > 0
 | [], x, h => by rwa [rxRightL] at h
 | y :: l, x, h => by
  rw [rxRightL] at h
  by_cases c : x > 0
  ·
   exact c
  ·
   rw [if_neg c] at h; exact h
theorem chk_ok {k n m : Int} {s : ByteArray} {l : List S31} {next x : Int} (h : rxChk k n m s l.length next = some x) (hn : 0 < next) (hs : s.size ≤ 1048576) (hl : okBL l = true) : okB ⟨k, n, m, s, l⟩ = true := by
 have none : ∀ {c : Prop} [Decidable c] {A : Option Int}, (if c then none else A) = some x → A = some x := fun {c _ A} h => by
  by_cases hc : c
  ·
   rw [if_pos hc] at h; simp at h
  ·
   rwa [if_neg hc] at h
 unfold rxChk at h
 have h := none (none (none h))
 have key : (1 ≤ k ∧ k ≤ 9) ∧ (k = 6 ∨ k = 9 → l.length = 1) ∧ (k = 9 → 0 ≤ n ∧ n ≤ 20 ∧ (m < 0 ∨ n ≤ m ∧ m ≤ 20)) ∧ (k = 8 → 1 ≤ l.length) ∧ (k = 6 → 1 ≤ n ∧ n ≤ 9) := by
  by_cases e1 : k = 1
  ·
   subst e1; exact ⟨by decide, fun h => by omega, fun h => by omega, fun h => by omega, fun h => by omega⟩
  rw [if_neg e1] at h
  by_cases e2 : k = 2 ∨ k = 4 ∨ k = 5
  ·
   exact ⟨by omega, fun h => by omega, fun h => by omega, fun h => by omega, fun h => by omega⟩
  rw [if_neg e2] at h
  by_cases e3 : k = 3
  ·
   exact ⟨by omega, fun h => by omega, fun h => by omega, fun h => by omega, fun h => by omega⟩
  rw [if_neg e3] at h
  by_cases e6 : k = 6
  ·
   rw [if_pos e6] at h
   by_cases c : n = next ∧ next ≤ 9 ∧ (l.length : Int) = 1
   ·
    exact ⟨by omega, fun _ => by omega, fun h => by omega, fun h => by omega, fun _ => by omega⟩
   ·
    rw [if_neg c] at h; simp at h
  rw [if_neg e6] at h
  by_cases e7 : k = 7
  ·
   exact ⟨by omega, fun h => by omega, fun h => by omega, fun h => by omega, fun h => by omega⟩
  rw [if_neg e7] at h
  by_cases e8 : k = 8
  ·
   rw [if_pos e8] at h
   by_cases c : (2 : Int) ≤ (l.length : Int)
   ·
    exact ⟨by omega, fun h => by omega, fun h => by omega, fun h => by omega, fun h => by omega⟩
   ·
    rw [if_neg c] at h; simp at h
  rw [if_neg e8] at h
  by_cases e9 : k = 9
  ·
   rw [if_pos e9] at h
   by_cases c : (l.length : Int) = 1 ∧ 0 ≤ n ∧ n ≤ 20 ∧ -1 ≤ m ∧ m ≤ 20 ∧ (0 ≤ m → n ≤ m)
   ·
    exact ⟨by omega, fun h => by omega, fun h => by omega, fun h => by omega, fun h => by omega⟩
   ·
    rw [if_neg c] at h; simp at h
  ·
   rw [if_neg e9] at h; simp at h
 obtain ⟨k1, k2, k3, k4, k5⟩ := key
 rw [okB]
 simp only [Bool.and_eq_true, Bool.or_eq_true, Bool.not_eq_true', decide_eq_true_eq, decide_eq_false_iff_not]
 refine ⟨k1, ?_, ?_, ?_, ?_, by omega, hl⟩
 ·
  by_cases c : k = 6 ∨ k = 9
  ·
   exact .inr (k2 c)
  ·
   exact .inl c
 ·
  by_cases c : k = 9
  ·
   exact .inr (k3 c)
  ·
   exact .inl c
 ·
  by_cases c : k = 8
  ·
   exact .inr (k4 c)
  ·
   exact .inl c
 ·
  by_cases c : k = 6
  ·
   exact .inr (k5 c)
  ·
   exact .inl c
theorem right_okB : ∀ (N : Nat), (∀ t : S31, SizeOf.sizeOf t ≤ N → rxFine t → ∀ next : Int, 0 < next → rxRight t next > 0 → okB t = true) ∧ (∀ l : List S31, SizeOf.sizeOf l ≤ N → rxFineL l → ∀ next : Int, 0 < next → rxRightL l next > 0 → okBL l = true) := by
 intro N
 induction N with
 | zero =>
  refine ⟨fun x hx => ?_, fun l hl => ?_⟩
  ·
   cases x; simp at hx
  ·
   cases l <;> simp at hl
 | succ N ih =>
  refine ⟨?_, ?_⟩
  ·
   rintro ⟨k, n, m, s, l⟩ hx hf next hn h
   have hl : SizeOf.sizeOf l ≤ N := by simp at hx; omega
   rw [rxFine] at hf
   rw [rxRight] at h
   cases hc : rxChk k n m s l.length next with
   | none => rw [hc] at h; simp at h
   | some x =>
    rw [hc] at h
    simp only at h
    exact chk_ok hc hn hf.1 (ih.2 l hl hf.2.2 x (rxRightL_pos l x h) h)
  ·
   intro l hl hf next hn h
   cases l with
   | nil => rfl
   | cons y l =>
    rw [rxFineL] at hf
    rw [rxRightL, if_pos hn] at h
    have hy : SizeOf.sizeOf y ≤ N := by simp at hl; omega
    have hl2 : SizeOf.sizeOf l ≤ N := by simp at hl; omega
    have hp := rxRightL_pos l _ h
    rw [okBL, ih.1 y hy hf.1 next hn hp, ih.2 l hl2 hf.2 _ hp h]
    rfl
theorem rxSz_cnt : ∀ (N : Nat), (∀ t : S31, SizeOf.sizeOf t ≤ N → rxSz t = (cnt t : Int)) ∧ (∀ l : List S31, SizeOf.sizeOf l ≤ N → rxSzL l = (cntL l : Int)) := by
 intro N
 induction N with
 | zero =>
  refine ⟨fun x hx => ?_, fun l hl => ?_⟩
  ·
   cases x; simp at hx
  ·
   cases l <;> simp at hl
 | succ N ih =>
  refine ⟨?_, ?_⟩
  ·
   rintro ⟨k, n, m, s, l⟩ hx
   rw [rxSz, cnt, ih.2 l (by simp at hx; omega)]
   omega
  ·
   intro l hl
   cases l with
   | nil => rw [rxSzL, cntL]; rfl
   | cons y l =>
    simp at hl
    rw [rxSzL, cntL, ih.1 y (by omega), ih.2 l (by omega)]
    omega
theorem right_good (t : S31) (hf : rxFine t) (h : (impl_looker.g t 0 0 false).2.2.2 = false) : okB t = true ∧ cnt t ≤ 2000 := by
 obtain ⟨m1, m2⟩ := look_main _ t (Nat.le_refl _) hf 0 0 (by omega) (by omega) (by omega) (by omega)
 by_cases c : rxGood t 0 0
 ·
  unfold rxGood at c
  have h1 := (rxSz_cnt _).1 t (Nat.le_refl _)
  exact ⟨(right_okB _).1 t (Nat.le_refl _) hf 1 (by omega) (by simpa using c.2.1), by omega⟩
 ·
  rw [m2 c] at h
  exact absurd h (by simp)
def codeM (t : S31) (T : ByteArray) : Int := if (T.size : Int) > 65536 then 2 else if (impl_looker.g t 0 0 false).2.2.2 = false then (if (T.size : Int) > 120 then 14 else 0) else 1
theorem specCode_ev (t : S31) (hf : rxFine t) (T : ByteArray) : Ev (fun k => spec_l06Code.f k t.f0 t.f1 t.f2 t.f3 t.f4 T) (codeM t T) := by
 unfold codeM
 by_cases c : (T.size : Int) > 65536
 ·
  rw [if_pos c]; exact Ev_pos c (Ev_some _)
 ·
  rw [if_neg c]
  refine Ev_neg c (Ev.bind (RxOK_ev t hf) ?_)
  by_cases h : (impl_looker.g t 0 0 false).2.2.2 = false
  ·
   rw [if_pos h, h]
   refine Ev_pos rfl ?_
   by_cases c2 : (T.size : Int) > 120
   ·
    exact Ev_pos c2 (Ev_eq (Ev_some _) (if_pos c2).symm)
   ·
    exact Ev_neg c2 (Ev_eq (Ev_some _) (if_neg c2).symm)
  ·
   rw [if_neg h]
   have h2 : (impl_looker.g t 0 0 false).2.2.2 = true := by simpa using h
   rw [h2]
   exact Ev_neg (by simp) (Ev_some _)
theorem long_ev (T : ByteArray) : Ev (fun k => impl_long.f k [T]) (if (T.size : Int) > 65536 then 2 else 0) := by
 have s0 : ∀ k, impl_long.l0 (k + 1) [T] 1 0 = if (T.size : Int) > 65536 then some 2 else impl_long.l0 k [T] 1 1 := fun k => by
  simp only [impl_long.l0]
  have : rdOf ByteArray.empty [T] 0 = T := rfl
  rw [this]
  by_cases h : (T.size : Int) > 65536 <;> simp [wrap64, h]
 have s1 : ∀ k, impl_long.l0 (k + 1) [T] 1 1 = some 0 := fun k => by simp [impl_long.l0]
 refine ⟨2, fun k hk => ?_⟩
 obtain ⟨k, rfl⟩ : ∃ m, k = m + 2 := ⟨k - 2, by omega⟩
 show impl_long.l0 (k + 1 + 1) [T] 1 0 = _
 rw [s0]
 by_cases h : (T.size : Int) > 65536
 ·
  rw [if_pos h, if_pos h]
 ·
  rw [if_neg h, if_neg h, s1]
theorem first_three (a b c : Int) : Ev (fun k => impl_first.f k [a, b, c]) (if a = 0 then (if b = 0 then c else b) else a) := by
 have s0 : ∀ k, impl_first.l0 (k + 1) [a, b, c] 3 0 = if a = 0 then impl_first.l0 k [a, b, c] 3 1 else some a := fun k => by
  simp only [impl_first.l0]
  by_cases h : a = 0 <;> simp [rd, wrap64, h]
 have s1 : ∀ k, impl_first.l0 (k + 1) [a, b, c] 3 1 = if b = 0 then impl_first.l0 k [a, b, c] 3 2 else some b := fun k => by
  simp only [impl_first.l0]
  by_cases h : b = 0 <;> simp [rd, wrap64, h]
 have s2 : ∀ k, impl_first.l0 (k + 1) [a, b, c] 3 2 = if c = 0 then impl_first.l0 k [a, b, c] 3 3 else some c := fun k => by
  simp only [impl_first.l0]
  by_cases h : c = 0 <;> simp [rd, wrap64, h]
 have s3 : ∀ k, impl_first.l0 (k + 1) [a, b, c] 3 3 = some 0 := fun k => by simp [impl_first.l0]
 refine ⟨4, fun k hk => ?_⟩
 obtain ⟨k, rfl⟩ : ∃ m, k = m + 4 := ⟨k - 4, by omega⟩
 show impl_first.l0 (k + 3 + 1) [a, b, c] 3 0 = _
 rw [s0]
 by_cases ha : a = 0
 ·
  rw [if_pos ha, if_pos ha, s1]
  by_cases hb : b = 0
  ·
   rw [if_pos hb, if_pos hb, s2]
   by_cases hc : c = 0
   ·
    rw [if_pos hc, s3, hc]
   ·
    rw [if_neg hc]
  ·
   rw [if_neg hb, if_neg hb]
 ·
  rw [if_neg ha, if_neg ha]
theorem implCode_ev (t : S31) (T : ByteArray) : Ev (fun k => impl_matchCode.f k t.f0 t.f1 t.f2 t.f3 t.f4 T) (codeM t T) := by
 obtain ⟨k0, k1, k2, s, l⟩ := t
 show Ev (fun k => impl_matchCode.f k k0 k1 k2 s l T) (codeM ⟨k0, k1, k2, s, l⟩ T)
 obtain ⟨t, et⟩ : ∃ t : S31, t = ⟨k0, k1, k2, s, l⟩ := ⟨_, rfl⟩
 rw [← et]
 refine Ev.bind (long_ev T) (Ev_bindc (show impl_RxOK.f k0 k1 k2 s l = some (!(impl_looker.g t 0 0 false).2.2.2) from by rw [et]; rfl) (Ev_bindc (unlessOf _ _) (Ev_bindc (unlessOf _ _) (Ev.bind (first_three _ _ _) (Ev_eq (Ev_some _) ?_)))))
 unfold codeM
 by_cases c : (T.size : Int) > 65536
 ·
  rw [if_pos c, if_pos c]; rfl
 ·
  rw [if_neg c, if_neg c, if_pos rfl]
  by_cases h : (impl_looker.g t 0 0 false).2.2.2 = false
  ·
   rw [h]
   simp only [Bool.not_false, if_true]
   by_cases c2 : (T.size : Int) > 120
   ·
    rw [if_neg (by simpa using c2), if_pos c2]
   ·
    rw [if_pos (by simp; omega), if_neg c2]
  ·
   have h2 : (impl_looker.g t 0 0 false).2.2.2 = true := by simpa using h
   rw [h2]
   simp

theorem spTimes_len {a rest : Mt} {sa sr : Spf} (h1 : ∀ i j out, (sa i j out).length = out.length) (h2 : ∀ i j out, (sr i j out).length = out.length) : ∀ (n i j : Nat) (out : List Int), (spTimes a rest sa sr n i j out).length = out.length := by
 intro n
 induction n with
 | zero => intro i j out; rw [spTimes, h2]
 | succ n ih =>
  intro i j out
  rw [spTimes]
  split
  ·
   rw [ih, h1]
  ·
   rfl
theorem spStarF_len {a : Mt} {sa : Spf} (h1 : ∀ i j out, (sa i j out).length = out.length) : ∀ (n i j : Nat) (out : List Int), (spStarF a sa n i j out).length = out.length := by
 intro n
 induction n with
 | zero => intro i j out; rw [spStarF]
 | succ n ih =>
  intro i j out
  rw [spStarF]
  split
  ·
   split
   ·
    rw [ih, h1]
   ·
    rfl
  ·
   rfl
theorem spOpt_len {a : Mt} {sa : Spf} (h1 : ∀ i j out, (sa i j out).length = out.length) : ∀ (n i j : Nat) (out : List Int), (spOpt a sa n i j out).length = out.length := by
 intro n
 induction n with
 | zero => intro i j out; rw [spOpt]
 | succ n ih =>
  intro i j out
  rw [spOpt]
  split
  ·
   split
   ·
    rw [ih, h1]
   ·
    rfl
  ·
   rfl
theorem sp_len (tx : Nat → Int) (n : Nat) : ∀ N : Nat, (∀ x : S31, SizeOf.sizeOf x ≤ N → ∀ i j out, (sp tx n x i j out).length = out.length) ∧ (∀ l : List S31, SizeOf.sizeOf l ≤ N → ∀ i j out, (spHd tx n l i j out).length = out.length ∧ (spCat tx n l i j out).length = out.length ∧ (spAlt tx n l i j out).length = out.length) := by
 intro N
 induction N with
 | zero => exact ⟨fun t h => by cases t; simp at h, fun l h => by cases l <;> simp at h⟩
 | succ N ih =>
  constructor
  ·
   rintro ⟨k, a, m, s, l⟩ h i j out
   have hl := ih.2 l (by simp at h; omega)
   rw [sp]
   dsimp only
   split
   ·
    rw [(hl _ _ _).1, List.length_set, List.length_set]
   split
   ·
    exact (hl _ _ _).2.1
   split
   ·
    exact (hl _ _ _).2.2
   split
   ·
    refine spTimes_len (fun i j out => (hl i j out).1) (fun i j out => ?_) _ _ _ _
    unfold spTail
    split
    ·
     exact spStarF_len (fun i j out => (hl i j out).1) _ _ _ _
    ·
     exact spOpt_len (fun i j out => (hl i j out).1) _ _ _ _
   ·
    rfl
  ·
   intro l h i j out
   cases l with
   | nil => rw [spHd, spCat, spAlt]; exact ⟨rfl, rfl, rfl⟩
   | cons x l =>
    simp at h
    have hx := ih.1 x (by omega)
    have hl := ih.2 l (by omega)
    rw [spHd, spCat, spAlt]
    refine ⟨hx _ _ _, ?_, ?_⟩
    ·
     dsimp only
     split
     ·
      rw [(hl _ _ _).2.1, hx]
     ·
      rfl
    ·
     dsimp only
     split
     ·
      exact hx _ _ _
     ·
      exact (hl _ _ _).2.2
theorem findL_len (tx : Nat → Int) (x : S31) (M : Mt) (gs n p : Nat) : (findL M (sp tx n x) gs n p).length ≤ 2 * gs + 2 := by
 unfold findL
 split
 ·
  rw [(sp_len tx n _).1 x (Nat.le_refl _)]; simp
 ·
  simp
theorem sz_cnt : ∀ (n : Nat), (∀ t : S24, SizeOf.sizeOf t ≤ n → rxLim t → ∀ left : Int, 0 ≤ left → left ≤ 1048576 → 0 ≤ laws_szRx.g t left → laws_szRx.g t left + (cnt (laws_toRx.g t) : Int) ≤ left + 1) ∧
  (∀ l : List S24, SizeOf.sizeOf l ≤ n → rxLimL l → ∀ left : Int, 0 ≤ left → left ≤ 1048576 → 0 ≤ laws_szRx.go l left → laws_szRx.go l left + (cntL (laws_toRx.go l) : Int) ≤ left + (l.length : Int))
 | 0 => ⟨fun t h => by cases t; simp at h, fun l h => by cases l <;> simp at h⟩
 | n + 1 => by
  obtain ⟨i1, i2⟩ := sz_cnt n
  refine ⟨fun t h hL left h0 h1 hp => ?_, fun l h hL left h0 h1 hp => ?_⟩
  ·
   obtain ⟨k0, k1, k2, s, l⟩ := t
   rw [rxLim] at hL
   obtain ⟨hs, hlen, hll⟩ := hL
   rw [laws_szRx.g] at hp ⊢
   have w1 : wrap64 (left - (s.size : Int)) = left - (s.size : Int) := wrap64_id (by omega) (by omega)
   rw [w1] at hp ⊢
   by_cases c1 : left - (s.size : Int) < 0
   ·
    rw [if_pos c1] at hp; omega
   rw [if_neg c1] at hp ⊢
   have w2 : wrap64 (left - (s.size : Int) - (l.length : Int)) = left - (s.size : Int) - (l.length : Int) := wrap64_id (by omega) (by omega)
   rw [w2] at hp ⊢
   by_cases c2 : left - (s.size : Int) - (l.length : Int) < 0
   ·
    rw [if_pos c2] at hp; omega
   rw [if_neg c2] at hp ⊢
   have q := i2 l (by simp at h; omega) hll _ (by omega) (by omega) hp
   rw [laws_toRx.g, cnt]
   omega
  ·
   cases l with
   | nil => rw [laws_szRx.go, laws_toRx.go, cntL]; simp
   | cons x l =>
    rw [rxLimL] at hL
    rw [laws_szRx.go] at hp ⊢
    by_cases c : laws_szRx.g x left < 0
    ·
     rw [if_pos c] at hp; omega
    rw [if_neg c] at hp ⊢
    simp at h
    have p1 := i1 x (by omega) hL.1 left h0 h1 (by omega)
    have pc : 1 ≤ cnt (laws_toRx.g x) := by cases x; rw [laws_toRx.g, cnt]; omega
    have q := i2 l (by omega) hL.2 _ (by omega) (by omega) hp
    rw [laws_toRx.go, cntL, List.length_cons]
    omega
theorem mk_sum : ∀ (n : Nat), (∀ t : S31, SizeOf.sizeOf t ≤ n → ∀ k : Int, 0 ≤ k → k + 4 * (cnt t : Int) ≤ 4611686018427387904 → mkRx t k = k + 4 * (cnt t : Int)) ∧ (∀ l : List S31, SizeOf.sizeOf l ≤ n → ∀ k : Int, 0 ≤ k → k + 4 * (cntL l : Int) ≤ 4611686018427387904 → mkRxL l k = k + 4 * (cntL l : Int))
 | 0 => ⟨fun t h => by cases t; simp at h, fun l h => by cases l <;> simp at h⟩
 | n + 1 => by
  obtain ⟨i1, i2⟩ := mk_sum n
  refine ⟨fun t h k h0 h1 => ?_, fun l h k h0 h1 => ?_⟩
  ·
   obtain ⟨k0, k1, k2, s, l⟩ := t
   rw [cnt] at h1 ⊢
   rw [mkRx, wrap64_id (x := k + 1) (by omega) (by omega), wrap64_id (x := k + 1 + 1) (by omega) (by omega), wrap64_id (x := k + 1 + 1 + 1) (by omega) (by omega), wrap64_id (x := k + 1 + 1 + 1 + 1) (by omega) (by omega), i2 l (by simp at h; omega) _ (by omega) (by omega)]
   omega
  ·
   cases l with
   | nil => rw [mkRxL, cntL]; simp
   | cons x l =>
    simp at h
    rw [cntL] at h1 ⊢
    rw [mkRxL, i1 x (by omega) k h0 (by omega), i2 l (by omega) _ (by omega) (by omega)]
    omega
theorem fine_lenB : ∀ (n : Nat), (∀ t : S31, SizeOf.sizeOf t ≤ n → rxFine t → lenB t = true) ∧ (∀ l : List S31, SizeOf.sizeOf l ≤ n → rxFineL l → lenBL l = true)
 | 0 => ⟨fun t h => by cases t; simp at h, fun l h => by cases l <;> simp at h⟩
 | n + 1 => by
  obtain ⟨i1, i2⟩ := fine_lenB n
  refine ⟨fun t h hf => ?_, fun l h hf => ?_⟩
  ·
   obtain ⟨k0, k1, k2, s, l⟩ := t
   rw [rxFine] at hf
   rw [lenB, i2 l (by simp at h; omega) hf.2.2, decide_eq_true (by omega)]
   rfl
  ·
   cases l with
   | nil => rw [lenBL]
   | cons x l =>
    simp at h
    rw [rxFineL] at hf
    rw [lenBL, i1 x (by omega) hf.1, i2 l (by omega) hf.2]
    rfl
theorem rxInL_mem {lo hi : Int} : ∀ (l : List S31), rxInL lo hi l → ∀ y ∈ l, rxIn lo hi y
 | [], _, y, hy => by simp at hy
 | x :: l, h, y, hy => by
  rw [rxInL] at h
  rcases List.mem_cons.1 hy with rfl | hy
  ·
   exact h.1
  ·
   exact rxInL_mem l h.2 y hy
theorem ad_Gr (x : S31) (gs : Nat) (hr : rxRight x 1 > 0) (hg : rxGrp x = (gs : Int)) : grI (ad x []) gs = true := grI_iff.2 fun q y ks hy h6 => by
 obtain ⟨_, _, h3, h4⟩ := (right_in _).1 x (Nat.le_refl _) 1 (by decide) (by decide) hr
 have h7 := (ad_all (P := fun y => rxIn 1 (rxRight x 1) y) (fun k a m s l h z hz => by rw [rxIn] at h; exact rxInL_mem l h.2 z hz) _).1 x (Nat.le_refl _) h3 [] (fun v hv => by simp at hv) (y, ks) (List.mem_of_getElem? hy)
 obtain ⟨k, a, m, s, l⟩ := y
 dsimp only at h7 h6 ⊢
 rw [rxIn] at h7
 have := h7.1 h6
 omega
theorem code_good (t : S31) (hf : rxFine t) (T : ByteArray) (c0 : codeM t T = 0) : (okB t = true ∧ cnt t ≤ 2000 ∧ T.size ≤ 120) ∧ ∃ gs : Nat, gs ≤ 10 ∧ rxGrp t = (gs : Int) ∧ (impl_looker.g t 0 0 false).2.2.1 = (gs : Int) ∧ grB (mk t []).1 gs = true ∧ grI (ad t []) gs = true := by
 have hT : ¬ (T.size : Int) > 65536 ∧ (impl_looker.g t 0 0 false).2.2.2 = false ∧ ¬ (T.size : Int) > 120 := by
  unfold codeM at c0
  by_cases a : (T.size : Int) > 65536
  ·
   rw [if_pos a] at c0; exact absurd c0 (by decide)
  ·
   rw [if_neg a] at c0
   by_cases b : (impl_looker.g t 0 0 false).2.2.2 = false
   ·
    rw [if_pos b] at c0
    by_cases c : (T.size : Int) > 120
    ·
     rw [if_pos c] at c0; exact absurd c0 (by decide)
    ·
     exact ⟨a, b, c⟩
   ·
    rw [if_neg b] at c0; exact absurd c0 (by decide)
 obtain ⟨g1, g2⟩ := right_good t hf hT.2.1
 obtain ⟨m1, m2⟩ := look_main _ t (Nat.le_refl _) hf 0 0 (by omega) (by omega) (by omega) (by omega)
 by_cases hg : rxGood t 0 0
 ·
  obtain ⟨q1, _⟩ := m1 hg
  have hr : rxRight t 1 > 0 := by have := hg.2.1; simpa using this
  obtain ⟨p1, p2, _, p4⟩ := (right_in _).1 t (Nat.le_refl _) 1 (by omega) (by omega) hr
  refine ⟨⟨g1, g2, by omega⟩, (rxRight t 1 - 1).toNat, by omega, by omega, ?_, grB_iff.2 (mk_Gr t _ hr (by omega)), ad_Gr t _ hr (by omega)⟩
  rw [q1]
  show rxRight t (0 + 1) - 1 = _
  rw [show (0 : Int) + 1 = 1 by decide]
  omega
 ·
  have hb := m2 hg
  rw [hT.2.1] at hb
  exact absurd hb (by simp)
theorem specFind_ev (t : S31) (hf : rxFine t) (T : ByteArray) (i : Int) : ∃ r : List Int × Int, r.1.length ≤ 22 ∧ Ev (fun k => spec_Find.f k t.f0 t.f1 t.f2 t.f3 t.f4 T i) r ∧ Ev (fun k => impl_Find.f k t.f0 t.f1 t.f2 t.f3 t.f4 T i) r := by
 have e1 := specCode_ev t hf T
 have e2 := implCode_ev t T
 have ht : (⟨t.f0, t.f1, t.f2, t.f3, t.f4⟩ : S31) = t := by cases t; rfl
 have fin : ∀ (b1 : Bool) (r : List Int × Int), b1 = decide (0 ≤ i ∧ i ≤ (T.size : Int)) → (∀ c2 : Int, c2 = (if codeM t T = 0 then (if b1 = true then 0 else 5) else codeM t T) → (if c2 = 0 then (impl_groupsOf.f t.f0 t.f1 t.f2 t.f3 t.f4).bind fun g => (if (okB ⟨t.f0, t.f1, t.f2, t.f3, t.f4⟩ = true ∧ cnt ⟨t.f0, t.f1, t.f2, t.f3, t.f4⟩ ≤ 2000 ∧ T.size ≤ 120) ∧ (0 ≤ i ∧ i ≤ (T.size : Int)) ∧ (0 ≤ g ∧ g ≤ 1000) ∧ grI (ad ⟨t.f0, t.f1, t.f2, t.f3, t.f4⟩ []) g.toNat = true then (if findL (mat (fun i => bt T (i : Int)) T.size ⟨t.f0, t.f1, t.f2, t.f3, t.f4⟩) (sp (fun i => bt T (i : Int)) T.size ⟨t.f0, t.f1, t.f2, t.f3, t.f4⟩) g.toNat T.size i.toNat = [] then some (([] : List Int), (6 : Int)) else some (findL (mat (fun i => bt T (i : Int)) T.size ⟨t.f0, t.f1, t.f2, t.f3, t.f4⟩) (sp (fun i => bt T (i : Int)) T.size ⟨t.f0, t.f1, t.f2, t.f3, t.f4⟩) g.toNat T.size i.toNat, 0)) else none) else some ([], c2)) = some r) → Ev (fun k => impl_Find.f k t.f0 t.f1 t.f2 t.f3 t.f4 T i) r := by
  intro b1 r hb h
  refine Ev.bind e2 (Ev_bindc (a := b1) ?_ (Ev_bindc (unlessOf _ _) (Ev.bind (first_two _ _) (Ev_const (h _ ?_)))))
  ·
   rw [hb]; exact within_ev _ _ _
  ·
   rfl
 by_cases c0 : codeM t T = 0
 ·
  obtain ⟨g1, gs, h10, h1, h2, h3, h4⟩ := code_good t hf T c0
  by_cases c : 0 ≤ i ∧ i ≤ (T.size : Int)
  ·
   obtain ⟨r, hr⟩ : ∃ r_, r_ = findL (mat (fun i => bt T (i : Int)) T.size t) (sp (fun i => bt T (i : Int)) T.size t) gs T.size i.toNat := ⟨_, rfl⟩
   have hlen : r.length ≤ 22 := by rw [hr]; exact Nat.le_trans (findL_len _ t _ gs T.size i.toNat) (by omega)
   refine ⟨if r = [] then ([], 6) else (r, 0), by split; exact Nat.zero_le _; exact hlen, ?_, fin true _ (decide_eq_true c).symm ?_⟩
   ·
    refine Ev.bind e1 (Ev_pos c0 (Ev_neg (by omega) (Ev_neg (by omega) (Ev.bind (grp_ev _ t (Nat.le_refl _) hf) (Ev_pos ?_ ?_)))))
    ·
     rw [ht, h1, Int.toNat_natCast]; exact ⟨g1, ⟨by omega, by omega⟩, h3⟩
    ·
     rw [ht, h1, Int.toNat_natCast, ← hr]
     by_cases e : r = []
     ·
      rw [if_pos e, if_pos e]; exact Ev_some _
     ·
      rw [if_neg e, if_neg e]; exact Ev_some _
   ·
    intro c2 hc2
    rw [if_pos c0, if_pos rfl] at hc2
    have hgo : impl_groupsOf.f t.f0 t.f1 t.f2 t.f3 t.f4 = some (gs : Int) := by unfold impl_groupsOf.f; rw [ht, h2]
    rw [if_pos hc2, hgo, Option.bind_some, ht, Int.toNat_natCast, if_pos ⟨g1, c, ⟨by omega, by omega⟩, h4⟩, ← hr]
    by_cases e : r = []
    ·
     rw [if_pos e, if_pos e]
    ·
     rw [if_neg e, if_neg e]
  ·
   refine ⟨([], 5), Nat.zero_le _, ?_, fin false _ (decide_eq_false c).symm ?_⟩
   ·
    refine Ev.bind e1 (Ev_pos c0 ?_)
    by_cases a : i < 0
    ·
     exact Ev_pos a (Ev_some _)
    ·
     exact Ev_neg a (Ev_pos (by omega) (Ev_some _))
   ·
    intro c2 hc2
    rw [if_pos c0] at hc2
    have h3 : c2 = 5 := hc2
    rw [if_neg (by omega), h3]
 ·
  refine ⟨([], codeM t T), Nat.zero_le _, Ev.bind e1 (Ev_neg c0 (Ev_some _)), fin (decide (0 ≤ i ∧ i ≤ (T.size : Int))) _ rfl ?_⟩
  intro c2 hc2
  rw [if_neg c0] at hc2
  rw [if_neg (by omega), hc2]
theorem FnExactFind (a0 : Int) (a1 : Int) (a2 : Int) (a3 : ByteArray) (g3 : a3.size ≤ Go.maxLen) (l : List S24) (g4 : ∀ y ∈ l, rxLim y) (hl : l.length ≤ 9223372036854775807) (T : ByteArray) (i : Int) (hs : ¬ laws_szRx.g ⟨a0, a1, a2, a3, l⟩ 1048576 < 0) :
  ∃ (k : Nat) (y4 : List S31) (q7 : List Int) (q8 m20 m23 : Int) (x24 : List Int), ¬ m20 < 0 ∧ ¬ m23 < 0 ∧ laws_toRx.f a0 a1 a2 a3 l = some (a0, a1, a2, a3, y4) ∧ spec_Find.f k a0 a1 a2 a3 y4 T i = some (q7, q8) ∧ impl_Find.f k a0 a1 a2 a3 y4 T i = some (q7, q8) ∧ laws_eqIntS.f k q7 q7 = some true ∧ laws_eqRx.f a0 a1 a2 a3 y4 a0 a1 a2 a3 y4 = some true ∧ laws_markRx.f a0 a1 a2 a3 y4 1 = some m20 ∧ laws_markIntS.f k q7 1 = some (m23, x24) ∧ laws_heldIntS.f k x24 1 = some m23 := by
 have hL : rxLim ⟨a0, a1, a2, a3, l⟩ := rxLim_mk g3 hl g4
 obtain ⟨_, h2, h3⟩ := (sz_fine _).1 ⟨a0, a1, a2, a3, l⟩ (Nat.le_refl _) hL 1048576 (by omega) (by omega) (by omega)
 have hcn := (sz_cnt _).1 ⟨a0, a1, a2, a3, l⟩ (Nat.le_refl _) hL 1048576 (by omega) (by omega) (by omega)
 rw [laws_toRx.ok, Bool.and_eq_true, decide_eq_true_eq] at h2
 rw [laws_toRx.g] at h3 hcn
 rw [cnt] at hcn
 have hfl := h3
 rw [rxFine] at hfl
 have ht : laws_toRx.f a0 a1 a2 a3 l = some (a0, a1, a2, a3, laws_toRx.go l) := by
  unfold laws_toRx.f
  rw [if_pos h2]
 have he := (eqRx_self _).1 ⟨a0, a1, a2, a3, laws_toRx.go l⟩ (Nat.le_refl _)
 have hm := (mk_sum _).2 (laws_toRx.go l) (Nat.le_refl _) 1 (by omega) (by omega)
 have hmk : laws_markRx.f a0 a1 a2 a3 (laws_toRx.go l) 1 = some (1 + 4 * (cntL (laws_toRx.go l) : Int)) := by
  unfold laws_markRx.f
  rw [if_pos ⟨(fine_lenB _).2 _ (Nat.le_refl _) hfl.2.2, by omega⟩, hm]
 obtain ⟨⟨q7, q8⟩, hq, s1, s2⟩ := specFind_ev ⟨a0, a1, a2, a3, laws_toRx.go l⟩ h3 T i
 dsimp only at hq
 obtain ⟨k1, h1⟩ := s1
 obtain ⟨k2, h2'⟩ := s2
 obtain ⟨k3, h3'⟩ := eqIntS_self q7 (by omega)
 obtain ⟨k4, h4'⟩ := markIntS_ev q7 1 (by omega) (by omega) (by omega)
 obtain ⟨k5, h5'⟩ := heldIntS_ev q7.length 1 (by omega) (by omega) (by omega)
 refine ⟨max k1 (max k2 (max k3 (max k4 k5))), laws_toRx.go l, q7, q8, _, _, _, by omega, ?_, ht, h1 _ (by omega), h2' _ (by omega), h3' _ (by omega), ?_, hmk, h4' _ (by omega), h5' _ (by omega)⟩
 ·
  omega
 ·
  show some _ = some _
  rw [he]

end Go.Proofs.Ytlpabbcgichaoaa.Pure
