/- FnExactDiskRun: the plain law. No conditions. -/
import Derived.Test.YtfclobfoghbblaaPFnExactDiskRunx7
import Derived.Test.YtfclobfoghbblaaHandFnExactDiskRun
import Derived.OpenShut
namespace Go.Proofs.Ytfclobfoghbblaa.Pure
open Go.RowKit Go.Proofs.Ytfclobfoghbblaa.PFnExactDiskRun Go.Proofs.YtfclobfoghbblaaW.PrintWords Go.Proofs.YtfclobfoghbblaaW.PrintLast Go.Proofs.YtfclobfoghbblaaW.PrintMore
set_option linter.unusedVariables false
set_option linter.unusedSimpArgs false

theorem Ev_pos {α : Type} {c : Prop} [Decidable c] {A B : Nat → Option α} {r : α} (h : c) (e : Ev A r) : Ev (fun k => if c then A k else B k) r := by
  simpa only [if_pos h] using e
theorem Ev_neg {α : Type} {c : Prop} [Decidable c] {A B : Nat → Option α} {r : α} (h : ¬ c) (e : Ev B r) : Ev (fun k => if c then A k else B k) r := by
  simpa only [if_neg h] using e
theorem Ev_some {α : Type} (r : α) : Ev (fun _ => some r) r := Ev.now r
theorem Ev_const {α : Type} {x : Option α} {r : α} (h : x = some r) : Ev (fun _ => x) r := ⟨0, fun _ _ => h⟩
theorem Ev_eq {α : Type} {A : Nat → Option α} {r q : α} (h : Ev A r) (e : r = q) : Ev A q := e ▸ h
theorem Ev_bindc {α β : Type} {x : Option α} {f : Nat → α → Option β} {a : α} {r : β} (h : x = some a) (k : Ev (fun n => f n a) r) : Ev (fun n => x.bind (f n)) r := Ev.bind (g := fun _ => x) (Ev_const h) k
theorem wrap64_id {x : Int} (h0 : -9223372036854775808 ≤ x) (h1 : x ≤ 9223372036854775807) : wrap64 x = x := by
  unfold wrap64; omega
theorem rd_append_len (p : List Int) (x : Int) (l : List Int) : rd (p ++ x :: l) (p.length : Int) = x := by
  unfold rd
  simp [List.getD]
theorem eqByteS_go (a : List Int) (ha : (a.length : Int) ≤ 281474976710656) (d : Nat) : ∀ i : Int, 0 ≤ i → i ≤ (a.length : Int) → (a.length : Int) - i = d → Ev (fun k => laws_eqByteS.l0 k a a i) true := by
  induction d with
  | zero =>
    intro i h0 h1 hd
    exact Ev.step (fun k => laws_eqByteS.l0.eq_2 a a i k) (Ev_neg (by omega) (Ev_some _))
  | succ d ih =>
    intro i h0 h1 hd
    have e := ih (i + 1) (by omega) (by omega) (by omega)
    have hw : wrap64 (i + 1) = i + 1 := wrap64_id (by omega) (by omega)
    rw [← hw] at e
    exact Ev.step (fun k => laws_eqByteS.l0.eq_2 a a i k) (Ev_pos (by omega) (Ev_pos h0 (Ev_pos (by omega) (Ev_pos rfl e))))
theorem eqByteS_self (a : List Int) (ha : (a.length : Int) ≤ 281474976710656) : Ev (fun k => laws_eqByteS.f k a a) true :=
  Ev_pos rfl (eqByteS_go a ha a.length 0 (by omega) (by omega) (by omega))

theorem rd_mid (p q : List Int) (x : Int) (n : Nat) (h : n = p.length) : rd (p ++ x :: q) (n : Int) = x := by
  subst h
  unfold rd
  simp [List.getD]
theorem toByteS_go : ∀ (suf pre zs : List Int), zs.length = suf.length → (pre.length : Int) + (suf.length : Int) ≤ 281474976710656 →
    Ev (fun k => laws_toByteS.l0 k (pre ++ suf) (pre ++ zs) (pre.length : Int)) (pre ++ suf) := by
  intro suf
  induction suf with
  | nil =>
    intro pre zs hz h
    have : zs = [] := List.eq_nil_of_length_eq_zero (by simpa using hz)
    subst this
    exact Ev.step (fun k => laws_toByteS.l0.eq_2 _ _ _ k) (Ev_neg (by simp) (Ev_some _))
  | cons x suf ih =>
    intro pre zs hz h
    cases zs with
    | nil => simp at hz
    | cons z zs =>
      simp only [List.length_cons] at hz h
      have e := ih (pre ++ [x]) zs (by omega) (by simp; omega)
      have hw : wrap64 ((pre.length : Int) + 1) = ((pre ++ [x]).length : Int) := by rw [wrap64_id (by omega) (by omega)]; simp
      have h1 : (pre ++ [x]) ++ suf = pre ++ x :: suf := by simp
      have h2 : (pre ++ [x]) ++ zs = (pre ++ z :: zs).set ((pre.length : Int)).toNat (rd (pre ++ x :: suf) (pre.length : Int)) := by
        rw [rd_mid pre suf x pre.length rfl]; simp
      rw [← hw, h1, h2] at e
      exact Ev.step (fun k => laws_toByteS.l0.eq_2 _ _ _ k) (Ev_pos (by simp; omega) (Ev_pos (by omega) (Ev_pos (by simp; omega) e)))
theorem toByteS_ev (l : List Int) (h : (l.length : Int) ≤ 281474976710656) : Ev (fun k => laws_toByteS.f k l) l := by
  have e := toByteS_go l [] (List.replicate l.length 0) (by simp) (by simpa using h)
  exact Ev_pos (by omega) (Ev_pos (by omega) (by simpa using e))

def marks : Nat → Int → List Int
  | 0, _ => []
  | n + 1, k => (k % 256) :: marks n (k + 1)
theorem markByteS_go : ∀ (suf pre : List Int) (k : Int), 0 ≤ k → k + (suf.length : Int) ≤ 4611686018427387904 → (pre.length : Int) + (suf.length : Int) ≤ 281474976710656 →
    Ev (fun n => laws_markByteS.l0 n (pre ++ suf) k (pre.length : Int)) (k + (suf.length : Int), pre ++ marks suf.length k) := by
  intro suf
  induction suf with
  | nil =>
    intro pre k h0 h1 h2
    simp only [List.length_nil, marks, List.append_nil]
    refine Ev.step (fun n => laws_markByteS.l0.eq_2 pre k _ n) (Ev_neg (by omega) (Ev_eq (Ev_some _) (by simp)))
  | cons x suf ih =>
    intro pre k h0 h1 h2
    simp only [List.length_cons] at h1 h2
    have e := ih (pre ++ [k % 256]) (k + 1) (by omega) (by omega) (by simp; omega)
    have hw : wrap64 ((pre.length : Int) + 1) = ((pre ++ [k % 256]).length : Int) := by rw [wrap64_id (by omega) (by omega)]; simp
    have hk : wrap64 (k + 1) = k + 1 := wrap64_id (by omega) (by omega)
    rw [← hw, ← hk] at e
    have hs : (pre ++ x :: suf).set ((pre.length : Int)).toNat (k % 256) = (pre ++ [k % 256]) ++ suf := by simp
    rw [← hs] at e
    refine Ev.step (fun n => laws_markByteS.l0.eq_2 (pre ++ x :: suf) k _ n) (Ev_pos (by simp; omega) (Ev_pos (by omega) (Ev_eq e ?_)))
    rw [hk]
    simp only [List.length_cons, marks]
    exact Prod.ext (by omega) (by simp)
theorem markByteS_ev (l : List Int) (k : Int) (h0 : 0 ≤ k) (h1 : k + (l.length : Int) ≤ 4611686018427387904) (h2 : (l.length : Int) ≤ 281474976710656) : Ev (fun n => laws_markByteS.f n l k) (k + (l.length : Int), marks l.length k) := by
  have e := markByteS_go l [] k h0 h1 (by simpa using h2)
  unfold laws_markByteS.f
  simpa using e
theorem heldByteS_go : ∀ (d : Nat) (pre : List Int) (k : Int), 0 ≤ k → k + (d : Int) ≤ 4611686018427387904 → (pre.length : Int) + (d : Int) ≤ 281474976710656 →
    Ev (fun n => laws_heldByteS.l0 n (pre ++ marks d k) k (pre.length : Int)) (k + (d : Int)) := by
  intro d
  induction d with
  | zero =>
    intro pre k h0 h1 h2
    refine Ev.step (fun n => laws_heldByteS.l0.eq_2 _ k _ n) (Ev_neg (by simp [marks]) (Ev_eq (Ev_some _) (by simp)))
  | succ d ih =>
    intro pre k h0 h1 h2
    have e := ih (pre ++ [k % 256]) (k + 1) (by omega) (by omega) (by simp; omega)
    have hw : wrap64 ((pre.length : Int) + 1) = ((pre ++ [k % 256]).length : Int) := by rw [wrap64_id (by omega) (by omega)]; simp
    have hk : wrap64 (k + 1) = k + 1 := wrap64_id (by omega) (by omega)
    rw [← hw, ← hk] at e
    have hs : (pre ++ [k % 256]) ++ marks d (wrap64 (k + 1)) = pre ++ marks (d + 1) k := by rw [hk]; simp [marks]
    rw [hs] at e
    refine Ev.step (fun n => laws_heldByteS.l0.eq_2 _ k _ n) (Ev_pos (by simp [marks]; omega) (Ev_pos (by omega) (Ev_pos ?_ (Ev_eq e (by rw [hk]; omega)))))
    simp only [marks]
    exact rd_append_len pre _ _
theorem heldByteS_ev (d : Nat) (k : Int) (h0 : 0 ≤ k) (h1 : k + (d : Int) ≤ 4611686018427387904) (h2 : (d : Int) ≤ 281474976710656) : Ev (fun n => laws_heldByteS.f n (marks d k) k) (k + (d : Int)) := by
  have e := heldByteS_go d [] k h0 h1 (by simpa using h2)
  unfold laws_heldByteS.f
  simpa using e

theorem rdL_len {ls : List (List Int)} {b : Nat} (hb : ∀ r ∈ ls, r.length ≤ b) (i : Int) : (rd_L1 ls i).length ≤ b := by
  unfold rd_L1
  by_cases h : i.toNat < ls.length
  · simp only [List.getD, List.getElem?_eq_getElem h, Option.getD_some]
    exact hb _ (List.getElem_mem h)
  · simp [List.getD, List.getElem?_eq_none (Nat.le_of_not_lt h)]
theorem eqByteSS_go (a : List (List Int)) (ha : (a.length : Int) ≤ 281474976710656) (hr : ∀ r ∈ a, r.length ≤ 281474976710656) (d : Nat) : ∀ i : Int, 0 ≤ i → i ≤ (a.length : Int) → (a.length : Int) - i = d → Ev (fun k => laws_eqByteSS.l0 k a a i) true := by
  induction d with
  | zero =>
    intro i h0 h1 hd
    exact Ev.step (fun k => laws_eqByteSS.l0.eq_2 a a i k) (Ev_neg (by omega) (Ev_some _))
  | succ d ih =>
    intro i h0 h1 hd
    have e := ih (i + 1) (by omega) (by omega) (by omega)
    have hw : wrap64 (i + 1) = i + 1 := wrap64_id (by omega) (by omega)
    rw [← hw] at e
    have hl := rdL_len hr i
    exact Ev.step (fun k => laws_eqByteSS.l0.eq_2 a a i k) (Ev_pos (by omega) (Ev_pos h0 (Ev_pos (by omega) (Ev.bind (eqByteS_self _ (by omega)) (Ev_pos rfl e)))))
theorem eqByteSS_self (a : List (List Int)) (ha : (a.length : Int) ≤ 281474976710656) (hr : ∀ r ∈ a, r.length ≤ 281474976710656) : Ev (fun k => laws_eqByteSS.f k a a) true :=
  Ev_pos rfl (eqByteSS_go a ha hr a.length 0 (by omega) (by omega) (by omega))
/-- What the marking leaves. -/
def markRows : List (List Int) → Int → List (List Int)
  | [], _ => []
  | r :: rs, k => marks r.length k :: markRows rs (k + (r.length : Int))
theorem flat_row {ls : List (List Int)} : ∀ r ∈ ls, r.length ≤ ls.flatten.length := by
  induction ls with
  | nil => intro r hr; cases hr
  | cons x xs ih =>
    intro r hr
    simp only [List.flatten_cons, List.length_append]
    rcases List.mem_cons.1 hr with rfl | h
    · omega
    · have := ih r h; omega
theorem getD_mid (pre suf : List (List Int)) (r : List Int) : (pre ++ r :: suf).getD ((pre.length : Int)).toNat [] = r := by simp [List.getD]
theorem rdL_mid' (pre suf : List (List Int)) (r : List Int) : rd_L1 (pre ++ r :: suf) (pre.length : Int) = r := by
  unfold rd_L1
  simp [List.getD]
theorem markByteSS_go : ∀ (suf pre : List (List Int)) (k : Int), 0 ≤ k → k + (suf.flatten.length : Int) ≤ 4611686018427387904 → (suf.flatten.length : Int) ≤ 281474976710656 → (pre.length : Int) + (suf.length : Int) ≤ 281474976710656 →
    Ev (fun n => laws_markByteSS.l0 n (pre ++ suf) k (pre.length : Int)) (k + (suf.flatten.length : Int), pre ++ markRows suf k) := by
  intro suf
  induction suf with
  | nil =>
    intro pre k h0 h1 hm h2
    refine Ev.step (fun n => laws_markByteSS.l0.eq_2 _ k _ n) (Ev_neg (by simp) (Ev_eq (Ev_some _) (by simp [markRows])))
  | cons r suf ih =>
    intro pre k h0 h1 hm h2
    simp only [List.length_cons, List.flatten_cons, List.length_append] at h1 h2 hm
    have e := ih (pre ++ [marks r.length k]) (k + (r.length : Int)) (by omega) (by omega) (by omega) (by simp; omega)
    have hw : wrap64 ((pre.length : Int) + 1) = ((pre ++ [marks r.length k]).length : Int) := by rw [wrap64_id (by omega) (by omega)]; simp
    rw [← hw] at e
    have hs : (pre ++ r :: suf).set ((pre.length : Int)).toNat (marks r.length k) = (pre ++ [marks r.length k]) ++ suf := by simp
    rw [← hs] at e
    have hg := getD_mid pre suf r
    refine Ev.step (fun n => laws_markByteSS.l0.eq_2 (pre ++ r :: suf) k _ n) (Ev_pos (by simp; omega) (Ev_pos (by omega) ?_))
    rw [hg]
    refine Ev.bind (markByteS_ev r k h0 (by omega) (by omega)) (Ev_eq e ?_)
    simp only [List.flatten_cons, List.length_append, markRows]
    exact Prod.ext (by simp; omega) (by simp)
theorem markByteSS_ev (ls : List (List Int)) (k : Int) (h0 : 0 ≤ k) (h1 : k + (ls.flatten.length : Int) ≤ 4611686018427387904) (hm : (ls.flatten.length : Int) ≤ 281474976710656) (h2 : (ls.length : Int) ≤ 281474976710656) : Ev (fun n => laws_markByteSS.f n ls k) (k + (ls.flatten.length : Int), markRows ls k) := by
  have e := markByteSS_go ls [] k h0 h1 hm (by simpa using h2)
  unfold laws_markByteSS.f
  simpa using e

theorem heldByteSS_go : ∀ (suf pre : List (List Int)) (k : Int), 0 ≤ k → k + (suf.flatten.length : Int) ≤ 4611686018427387904 → (suf.flatten.length : Int) ≤ 281474976710656 → (pre.length : Int) + (suf.length : Int) ≤ 281474976710656 →
    Ev (fun n => laws_heldByteSS.l0 n (pre ++ markRows suf k) k (pre.length : Int)) (k + (suf.flatten.length : Int)) := by
  intro suf
  induction suf with
  | nil =>
    intro pre k h0 h1 hm h2
    refine Ev.step (fun n => laws_heldByteSS.l0.eq_2 _ k _ n) (Ev_neg (by simp [markRows]) (Ev_eq (Ev_some _) (by simp)))
  | cons r suf ih =>
    intro pre k h0 h1 hm h2
    simp only [List.length_cons, List.flatten_cons, List.length_append] at h1 h2 hm
    have e := ih (pre ++ [marks r.length k]) (k + (r.length : Int)) (by omega) (by omega) (by omega) (by simp; omega)
    have hw : wrap64 ((pre.length : Int) + 1) = ((pre ++ [marks r.length k]).length : Int) := by rw [wrap64_id (by omega) (by omega)]; simp
    rw [← hw] at e
    have hs : (pre ++ [marks r.length k]) ++ markRows suf (k + (r.length : Int)) = pre ++ markRows (r :: suf) k := by simp [markRows]
    rw [hs] at e
    refine Ev.step (fun n => laws_heldByteSS.l0.eq_2 _ k _ n) (Ev_pos (by simp [markRows]; omega) (Ev_pos (by omega) ?_))
    have hg : rd_L1 (pre ++ markRows (r :: suf) k) (pre.length : Int) = marks r.length k := rdL_mid' pre _ _
    rw [hg]
    refine Ev.bind (heldByteS_ev r.length k h0 (by omega) (by omega)) (Ev_neg (by omega) (Ev_eq e ?_))
    simp only [List.flatten_cons, List.length_append]
    omega
theorem heldByteSS_ev (ls : List (List Int)) (k : Int) (h0 : 0 ≤ k) (h1 : k + (ls.flatten.length : Int) ≤ 4611686018427387904) (hm : (ls.flatten.length : Int) ≤ 281474976710656) (h2 : (ls.length : Int) ≤ 281474976710656) : Ev (fun n => laws_heldByteSS.f n (markRows ls k) k) (k + (ls.flatten.length : Int)) := by
  have e := heldByteSS_go ls [] k h0 h1 hm (by simpa using h2)
  unfold laws_heldByteSS.f
  simpa using e

theorem rdL_mid (p q : List (List Int)) (x : List Int) : rd_L1 (p ++ x :: q) (p.length : Int) = x := by
  unfold rd_L1
  simp [List.getD]
theorem concat_one (ls : List (List Int)) (hb : (ls.flatten.length : Int) < 140737488355328) (r : List Int) (hc : (ls.length : Int) < 140737488355328) : ∀ (suf pre : List (List Int)) (s : Int), ls = pre ++ suf → s = (pre.flatten.length : Int) →
    Ev (fun k => (slices_Grow_byte_byte.f ([] : List Int) (ls.flatten.length : Int)).bind fun t => slices_Concat_byte_byte.l1 k t ls (ls.length : Int) 0) r → Ev (fun k => slices_Concat_byte_byte.l0 k ls s ls (ls.length : Int) (pre.length : Int)) r := by
  intro suf
  induction suf with
  | nil =>
    intro pre s hs hsum h
    refine Ev.step (fun k => slices_Concat_byte_byte.l0.eq_2 _ _ _ _ _ k) (Ev_neg (by rw [hs]; simp) ?_)
    have : s = (ls.flatten.length : Int) := by rw [hsum, hs]; simp
    rw [this]
    exact h
  | cons x suf ih =>
    intro pre s hs hsum h
    have e := ih (pre ++ [x]) (s + (x.length : Int)) (by rw [hs]; simp) (by rw [hsum]; simp) h
    have hln : (ls.length : Int) = pre.length + 1 + suf.length := by rw [hs]; simp; omega
    have hfl : (ls.flatten.length : Int) = pre.flatten.length + x.length + suf.flatten.length := by rw [hs]; simp [List.flatten_append]; omega
    have hr : rd_L1 ls (pre.length : Int) = x := by rw [hs]; exact rdL_mid pre suf x
    have hw := Aside0.mk (show wrap64 (s + (x.length : Int)) = s + (x.length : Int) from wrap64_id (by omega) (by omega))
    have hw1 : wrap64 ((pre.length : Int) + 1) = ((pre ++ [x]).length : Int) := by rw [wrap64_id (by omega) (by omega)]; simp
    rw [← hw1] at e
    refine Ev.step (fun k => slices_Concat_byte_byte.l0.eq_2 _ _ _ _ _ k) (Ev_pos (by omega) (Ev_pos (by omega) (Ev_pos (by omega) ?_)))
    rw [hr, hw.out]
    exact Ev_neg (by omega) e
theorem concat_two (ls : List (List Int)) (hb : (ls.flatten.length : Int) < 140737488355328) (hc : (ls.length : Int) < 140737488355328) : ∀ (suf pre : List (List Int)), ls = pre ++ suf →
    Ev (fun k => slices_Concat_byte_byte.l1 k pre.flatten ls (ls.length : Int) (pre.length : Int)) ls.flatten := by
  intro suf
  induction suf with
  | nil =>
    intro pre hs
    refine Ev.step (fun k => slices_Concat_byte_byte.l1.eq_2 _ _ _ _ k) (Ev_neg (by rw [hs]; simp) (Ev_eq (Ev_some _) (by rw [hs]; simp)))
  | cons x suf ih =>
    intro pre hs
    have e := ih (pre ++ [x]) (by rw [hs]; simp)
    have hln : (ls.length : Int) = pre.length + 1 + suf.length := by rw [hs]; simp; omega
    have hfl : (ls.flatten.length : Int) = pre.flatten.length + x.length + suf.flatten.length := by rw [hs]; simp [List.flatten_append]; omega
    have hr : rd_L1 ls (pre.length : Int) = x := by rw [hs]; exact rdL_mid pre suf x
    have hw1 : wrap64 ((pre.length : Int) + 1) = ((pre ++ [x]).length : Int) := by rw [wrap64_id (by omega) (by omega)]; simp
    rw [← hw1, List.flatten_append, List.flatten_cons, List.flatten_nil, List.append_nil] at e
    refine Ev.step (fun k => slices_Concat_byte_byte.l1.eq_2 _ _ _ _ k) (Ev_pos (by omega) (Ev_pos (by omega) (Ev_pos (by omega) ?_)))
    rw [hr]
    exact Ev_pos (by omega) e
theorem concat_ev (ls : List (List Int)) (hb : (ls.flatten.length : Int) < 140737488355328) (hc : (ls.length : Int) < 140737488355328) : Ev (fun k => slices_Concat_byte_byte.f k ls) ls.flatten := by
  refine concat_one ls hb _ hc ls [] 0 rfl rfl (Ev_bindc (a := []) ?_ (concat_two ls hb hc ls [] rfl))
  unfold slices_Grow_byte_byte.f
  rw [if_pos ⟨by omega, hb⟩]

theorem clone_ok (l : List Int) (h : (l.length : Int) ≤ 4194304) : slices_Clone_byte_byte.f l = some l := by
  unfold slices_Clone_byte_byte.f
  rw [if_pos (by omega)]

theorem first_two (a b : Int) : Ev (fun k => impl_first.f k [a, b]) (if a = 0 then b else a) := by
  have s0 : ∀ k, impl_first.l0 (k + 1) [a, b] 2 0 = if a = 0 then impl_first.l0 k [a, b] 2 1 else some a := fun k => by
    simp only [impl_first.l0]
    by_cases h : a = 0 <;> simp [rd, wrap64, h]
  have s1 : ∀ k, impl_first.l0 (k + 1) [a, b] 2 1 = if b = 0 then impl_first.l0 k [a, b] 2 2 else some b := fun k => by
    simp only [impl_first.l0]
    by_cases h : b = 0 <;> simp [rd, wrap64, h]
  have s2 : ∀ k, impl_first.l0 (k + 1) [a, b] 2 2 = some 0 := fun k => by simp [impl_first.l0]
  refine ⟨3, fun k hk => ?_⟩
  obtain ⟨k, rfl⟩ : ∃ m, k = m + 3 := ⟨k - 3, by omega⟩
  show impl_first.l0 (k + 2 + 1) [a, b] 2 0 = _
  rw [s0]
  by_cases ha : a = 0
  · rw [if_pos ha, if_pos ha, s1]
    by_cases hb : b = 0
    · rw [if_pos hb, s2, hb]
    · rw [if_neg hb]
  · rw [if_neg ha, if_neg ha]

theorem specBytes_go (l : List Int) : ∀ (suf pre : List (List Int)) (s : List Int), (s.length : Int) + (suf.flatten.length : Int) ≤ 4194304 → (pre.length : Int) + suf.length ≤ 1048576 → Ev (fun k => spec_l02Bytes.l0 k s (pre.length : Int) l (pre ++ suf)) (s ++ suf.flatten) := by
  intro suf
  induction suf with
  | nil =>
    intro pre s h1 h2
    exact Ev.step (fun k => spec_l02Bytes.l0.eq_2 _ _ _ _ k) (Ev_neg (by simp) (Ev_eq (Ev_some _) (by simp)))
  | cons r suf ih =>
    intro pre s h1 h2
    simp only [List.length_cons, List.flatten_cons, List.length_append] at h1 h2
    have hg : rd_L1 (pre ++ r :: suf) (pre.length : Int) = r := rdL_mid' pre _ _
    have e := ih (pre ++ [r]) (s ++ r) (by simp only [List.length_append]; omega) (by simp; omega)
    have hw : wrap64 ((pre.length : Int) + 1) = ((pre ++ [r]).length : Int) := by rw [wrap64_id (by omega) (by omega)]; simp
    rw [show (pre ++ [r]) ++ suf = pre ++ r :: suf by simp, ← hw] at e
    refine Ev.step (fun k => spec_l02Bytes.l0.eq_2 _ _ _ _ k) (Ev_pos (by simp; omega) (Ev_pos (by omega) ?_))
    rw [hg]
    exact Ev_pos (by omega) (Ev_eq e (by simp))

/-- What is left behind a crash. -/
def crashOf (l : List Int) (ls : List (List Int)) (a t : Nat) : List Int := l ++ ((ls.take a).flatten ++ (ls.getD a []).take t)
def crashRest (a t i : Nat) (suf : List (List Int)) : List Int := if i ≤ a then (suf.take (a - i)).flatten ++ (suf.getD (a - i) []).take t else []
theorem mn_nat (a b : Nat) : mn (a : Int) (b : Int) = ((min a b : Nat) : Int) := by unfold mn; split <;> omega
theorem specCrash_go (a t : Nat) (l : List Int) : ∀ (suf pre : List (List Int)) (s : List Int), (s.length : Int) + (suf.flatten.length : Int) ≤ 4194304 → (pre.length : Int) + suf.length ≤ 1048576 →
    Ev (fun k => spec_l02Crash.l0 k (a : Int) (t : Int) s (pre.length : Int) l (pre ++ suf)) (s ++ crashRest a t pre.length suf, []) := by
  intro suf
  induction suf with
  | nil =>
    intro pre s h1 h2
    exact Ev.step (fun k => spec_l02Crash.l0.eq_2 _ _ _ _ _ _ k) (Ev_neg (by simp) (Ev_eq (Ev_some _) (by simp [crashRest])))
  | cons r suf ih =>
    intro pre s h1 h2
    simp only [List.length_cons, List.flatten_cons, List.length_append] at h1 h2
    have hg : rd_L1 (pre ++ r :: suf) (pre.length : Int) = r := rdL_mid' pre _ _
    have hw : wrap64 ((pre.length : Int) + 1) = ((pre ++ [r]).length : Int) := by rw [wrap64_id (by omega) (by omega)]; simp
    have hlen : ((pre ++ r :: suf).length : Int) = pre.length + suf.length + 1 := by simp; omega
    have nx : ∀ s' : List Int, (s'.length : Int) ≤ s.length + r.length → Ev (fun k => spec_l02Crash.l0 k (a : Int) (t : Int) s' (wrap64 ((pre.length : Int) + 1)) l (pre ++ r :: suf)) (s' ++ crashRest a t (pre ++ [r]).length suf, []) := by
      intro s' hs'
      have e := ih (pre ++ [r]) s' (by omega) (by simp; omega)
      rw [show (pre ++ [r]) ++ suf = pre ++ r :: suf by simp, ← hw] at e
      exact e
    have hl1 : (pre ++ [r]).length = pre.length + 1 := by simp
    refine Ev.step (fun k => spec_l02Crash.l0.eq_2 _ _ _ _ _ _ k) (Ev_pos (by omega) ?_)
    rw [hg]
    by_cases c1 : pre.length < a
    · refine Ev_pos (by omega) (Ev_pos (by omega) (Ev_pos (by omega) (Ev_eq (nx (s ++ r) (by simp)) ?_)))
      rw [hl1]
      unfold crashRest
      rw [if_pos (by omega), if_pos (by omega), show a - pre.length = (a - (pre.length + 1)) + 1 by omega]
      simp
    · by_cases c2 : pre.length = a
      · have hmn := mn_nat t r.length
        refine Ev_neg (by omega) (Ev_pos (by omega) (Ev_pos (by omega) ?_))
        rw [hmn]
        have htk : r.take ((min t r.length : Nat) : Int).toNat = r.take t := by
          rw [Int.toNat_natCast]
          rcases Nat.le_total t r.length with h | h
          · rw [Nat.min_eq_left h]
          · rw [Nat.min_eq_right h, List.take_of_length_le (Nat.le_refl _), List.take_of_length_le h]
        rw [htk]
        refine Ev_pos (by omega) (Ev_pos (by omega) (Ev_pos (by rw [List.length_take]; omega) (Ev_eq (nx (s ++ r.take t) (by simp; omega)) ?_)))
        rw [hl1]
        unfold crashRest
        rw [if_neg (by omega), if_pos (by omega), show a - pre.length = 0 by omega]
        simp
      · refine Ev_neg (by omega) (Ev_neg (by omega) (Ev_eq (nx s (by omega)) ?_))
        rw [hl1]
        unfold crashRest
        rw [if_neg (by omega), if_neg (by omega)]
theorem specCrash_ev (l : List Int) (ls : List (List Int)) (a t : Nat) (h : (l.length : Int) + ls.length + ls.flatten.length ≤ 1048576) : Ev (fun k => spec_l02Crash.f k l ls (a : Int) (t : Int)) (crashOf l ls a t, []) := by
  refine Ev_bindc rfl (Ev_pos (by simp only [List.length_nil]; omega) (Ev_eq (specCrash_go a t l ls [] ([] ++ l) (by simp only [List.nil_append]; omega) (by simp; omega)) ?_))
  simp [crashOf, crashRest]
theorem implCrash_ev (l : List Int) (ls : List (List Int)) (a t : Nat) (h : (l.length : Int) + ls.length + ls.flatten.length ≤ 1048576) : Ev (fun k => impl_Disk_crash.f k l ls (a : Int) (t : Int)) (crashOf l ls a t, []) := by
  have hm := mn_nat a ls.length
  have htk : ls.take (min a ls.length) = ls.take a := by
    rcases Nat.le_total a ls.length with h | h
    · rw [Nat.min_eq_left h]
    · rw [Nat.min_eq_right h, List.take_of_length_le (Nat.le_refl _), List.take_of_length_le h]
  have hfl : ∀ (ls : List (List Int)) (a : Nat), (ls.take a).flatten.length ≤ ls.flatten.length := by
    intro ls
    induction ls with
    | nil => intro a; simp
    | cons x xs ih =>
      intro a
      cases a with
      | zero => simp
      | succ a => simp only [List.take_succ_cons, List.flatten_cons, List.length_append]; have := ih a; omega
  have hfa := hfl ls a
  refine Ev_bindc (clone_ok l (by omega)) ?_
  rw [hm]
  refine Ev_pos (by omega) (Ev_pos (by omega) ?_)
  rw [Int.toNat_natCast, htk]
  refine Ev.bind (concat_ev (ls.take a) (by omega) (by rw [List.length_take]; omega)) (Ev_pos (by omega) (Ev_bindc rfl ?_))
  by_cases c : a < ls.length
  · have hr : rd_L1 ls ((min a ls.length : Nat) : Int) = ls.getD a [] := by
      unfold rd_L1
      rw [Int.toNat_natCast, Nat.min_eq_left (by omega)]
    have hrow : (ls.getD a []).length ≤ ls.flatten.length := by
      rw [List.getD_eq_getElem?_getD, List.getElem?_eq_getElem c]
      exact flat_row _ (List.getElem_mem c)
    refine Ev_pos (by omega) ?_
    rw [hr, mn_nat]
    refine Ev_pos (by omega) (Ev_pos (by omega) ?_)
    have htk2 : (ls.getD a []).take ((min t (ls.getD a []).length : Nat) : Int).toNat = (ls.getD a []).take t := by
      rw [Int.toNat_natCast]
      rcases Nat.le_total t (ls.getD a []).length with h | h
      · rw [Nat.min_eq_left h]
      · rw [Nat.min_eq_right h, List.take_of_length_le (Nat.le_refl _), List.take_of_length_le h]
    rw [htk2]
    refine Ev_pos (by rw [List.length_take, List.length_append]; omega) (Ev_eq (Ev_some _) ?_)
    simp [crashOf]
  · refine Ev_neg (by omega) (Ev_eq (Ev_some _) ?_)
    rw [crashOf, List.getD_eq_getElem?_getD, List.getElem?_eq_none (by omega)]
    simp
theorem crash_len (l : List Int) (ls : List (List Int)) (a t : Nat) : (crashOf l ls a t).length ≤ l.length + ls.flatten.length := by
  unfold crashOf
  rw [List.length_append, List.length_append]
  have key : ∀ (ls : List (List Int)) (a : Nat), (ls.take a).flatten.length + (ls.getD a []).length ≤ ls.flatten.length := by
    intro ls
    induction ls with
    | nil => intro a; simp
    | cons x xs ih =>
      intro a
      cases a with
      | zero => simp
      | succ a => simp only [List.take_succ_cons, List.flatten_cons, List.length_append, List.getD_cons_succ]; have := ih a; omega
  have := key ls a
  rw [List.length_take]
  omega

/-- The sizes together. -/
theorem specSize_go (l : List Int) : ∀ (suf pre : List (List Int)) (s : Int), 0 ≤ s → s + (suf.flatten.length : Int) ≤ 4611686018427387904 → (pre.length : Int) + suf.length ≤ 1048576 → Ev (fun k => spec_l02Size.l0 k s (pre.length : Int) l (pre ++ suf)) (s + (suf.flatten.length : Int)) := by
  intro suf
  induction suf with
  | nil =>
    intro pre s h0 h1 h2
    exact Ev.step (fun k => spec_l02Size.l0.eq_2 _ _ _ _ k) (Ev_neg (by simp) (Ev_eq (Ev_some _) (by simp)))
  | cons r suf ih =>
    intro pre s h0 h1 h2
    simp only [List.length_cons, List.flatten_cons, List.length_append] at h1 h2
    have hg : rd_L1 (pre ++ r :: suf) (pre.length : Int) = r := rdL_mid' pre _ _
    have e := ih (pre ++ [r]) (s + (r.length : Int)) (by omega) (by omega) (by simp; omega)
    have hw : wrap64 ((pre.length : Int) + 1) = ((pre ++ [r]).length : Int) := by rw [wrap64_id (by omega) (by omega)]; simp
    have hw2 := Aside0.mk (show wrap64 (s + (r.length : Int)) = s + (r.length : Int) from wrap64_id (by omega) (by omega))
    rw [show (pre ++ [r]) ++ suf = pre ++ r :: suf by simp, ← hw] at e
    refine Ev.step (fun k => spec_l02Size.l0.eq_2 _ _ _ _ k) (Ev_pos (by simp; omega) (Ev_pos (by omega) ?_))
    rw [hg, hw2.out]
    exact Ev_eq e (by simp only [List.flatten_cons, List.length_append]; omega)
theorem implSize_go (L : List (List Int)) (n : Int) (hn : n = (L.length : Int)) : ∀ (suf pre : List (List Int)) (s : Int), L = pre ++ suf → 0 ≤ s → s + (suf.flatten.length : Int) ≤ 4611686018427387904 → (pre.length : Int) + suf.length ≤ 1048576 → Ev (fun k => impl_Disk_size.l0 k s L n (pre.length : Int)) (s + (suf.flatten.length : Int)) := by
  intro suf
  induction suf with
  | nil =>
    intro pre s hL h0 h1 h2
    exact Ev.step (fun k => impl_Disk_size.l0.eq_2 _ _ _ _ k) (Ev_neg (by rw [hn, hL]; simp) (Ev_eq (Ev_some _) (by simp)))
  | cons r suf ih =>
    intro pre s hL h0 h1 h2
    simp only [List.length_cons, List.flatten_cons, List.length_append] at h1 h2
    have hg : rd_L1 L (pre.length : Int) = r := by rw [hL]; exact rdL_mid' pre _ _
    have hLl : (L.length : Int) = pre.length + suf.length + 1 := by rw [hL]; simp; omega
    have e := ih (pre ++ [r]) (s + (r.length : Int)) (by rw [hL]; simp) (by omega) (by omega) (by simp; omega)
    have hw : wrap64 ((pre.length : Int) + 1) = ((pre ++ [r]).length : Int) := by rw [wrap64_id (by omega) (by omega)]; simp
    have hw2 := Aside0.mk (show wrap64 (s + (r.length : Int)) = s + (r.length : Int) from wrap64_id (by omega) (by omega))
    rw [← hw] at e
    refine Ev.step (fun k => impl_Disk_size.l0.eq_2 _ _ _ _ k) (Ev_pos (by omega) (Ev_pos (by omega) (Ev_pos (by omega) ?_)))
    rw [hg, hw2.out]
    exact Ev_eq e (by simp only [List.flatten_cons, List.length_append]; omega)

theorem szByteS_ev (l : List Int) (hl : l.length ≤ 9223372036854775807) (a : Int) (h0 : 0 ≤ a) (h1 : a ≤ 1048576) : laws_szByteS.f l a = some (if a - (l.length : Int) < 0 then -1 else a - (l.length : Int)) := by
  unfold laws_szByteS.f
  rw [wrap64_id (by omega) (by omega)]
  split <;> rfl

theorem eqIntS_go (a : List Int) (ha : (a.length : Int) ≤ 281474976710656) (d : Nat) : ∀ i : Int, 0 ≤ i → i ≤ (a.length : Int) → (a.length : Int) - i = d → Ev (fun k => laws_eqIntS.l0 k a a i) true := by
  induction d with
  | zero =>
    intro i h0 h1 h2
    exact Ev.step (fun k => laws_eqIntS.l0.eq_2 a a i k) (Ev_neg (by omega) (Ev_some _))
  | succ d ih =>
    intro i h0 h1 h2
    have hw : wrap64 (i + 1) = i + 1 := wrap64_id (by omega) (by omega)
    have e := ih (i + 1) (by omega) (by omega) (by omega)
    rw [← hw] at e
    exact Ev.step (fun k => laws_eqIntS.l0.eq_2 a a i k) (Ev_pos (by omega) (Ev_pos h0 (Ev_pos (by omega) (Ev_pos rfl e))))
theorem eqIntS_self (a : List Int) (ha : (a.length : Int) ≤ 281474976710656) : Ev (fun k => laws_eqIntS.f k a a) true :=
  Ev_pos rfl (eqIntS_go a ha a.length 0 (by omega) (by omega) (by omega))
def marksI : Nat → Int → List Int
  | 0, _ => []
  | n + 1, k => k :: marksI n (k + 1)
theorem markIntS_go : ∀ (suf pre : List Int) (k : Int), 0 ≤ k → k + (suf.length : Int) ≤ 4611686018427387904 → (pre.length : Int) + (suf.length : Int) ≤ 281474976710656 →
    Ev (fun n => laws_markIntS.l0 n (pre ++ suf) k (pre.length : Int)) (k + (suf.length : Int), pre ++ marksI suf.length k) := by
  intro suf
  induction suf with
  | nil =>
    intro pre k h0 h1 h2
    simp only [List.length_nil, marksI, List.append_nil]
    refine Ev.step (fun n => laws_markIntS.l0.eq_2 pre k _ n) (Ev_neg (by omega) (Ev_eq (Ev_some _) (by simp)))
  | cons x suf ih =>
    intro pre k h0 h1 h2
    simp only [List.length_cons] at h1 h2
    have e := ih (pre ++ [k]) (k + 1) (by omega) (by omega) (by simp; omega)
    have hw : wrap64 ((pre.length : Int) + 1) = ((pre ++ [k]).length : Int) := by rw [wrap64_id (by omega) (by omega)]; simp
    have hk : wrap64 (k + 1) = k + 1 := wrap64_id (by omega) (by omega)
    rw [← hw, ← hk] at e
    have hs : (pre ++ x :: suf).set ((pre.length : Int)).toNat k = (pre ++ [k]) ++ suf := by simp
    rw [← hs] at e
    refine Ev.step (fun n => laws_markIntS.l0.eq_2 (pre ++ x :: suf) k _ n) (Ev_pos (by simp; omega) (Ev_pos (by omega) (Ev_eq e ?_)))
    rw [hk]
    simp only [List.length_cons, marksI]
    exact Prod.ext (by omega) (by simp)
theorem markIntS_ev (l : List Int) (k : Int) (h0 : 0 ≤ k) (h1 : k + (l.length : Int) ≤ 4611686018427387904) (h2 : (l.length : Int) ≤ 281474976710656) : Ev (fun n => laws_markIntS.f n l k) (k + (l.length : Int), marksI l.length k) := by
  have e := markIntS_go l [] k h0 h1 (by simpa using h2)
  unfold laws_markIntS.f
  simpa using e
theorem heldIntS_go : ∀ (d : Nat) (pre : List Int) (k : Int), 0 ≤ k → k + (d : Int) ≤ 4611686018427387904 → (pre.length : Int) + (d : Int) ≤ 281474976710656 →
    Ev (fun n => laws_heldIntS.l0 n (pre ++ marksI d k) k (pre.length : Int)) (k + (d : Int)) := by
  intro d
  induction d with
  | zero =>
    intro pre k h0 h1 h2
    refine Ev.step (fun n => laws_heldIntS.l0.eq_2 _ k _ n) (Ev_neg (by simp [marksI]) (Ev_eq (Ev_some _) (by simp)))
  | succ d ih =>
    intro pre k h0 h1 h2
    have e := ih (pre ++ [k]) (k + 1) (by omega) (by omega) (by simp; omega)
    have hw : wrap64 ((pre.length : Int) + 1) = ((pre ++ [k]).length : Int) := by rw [wrap64_id (by omega) (by omega)]; simp
    have hk : wrap64 (k + 1) = k + 1 := wrap64_id (by omega) (by omega)
    rw [← hw, ← hk] at e
    have hs : (pre ++ [k]) ++ marksI d (wrap64 (k + 1)) = pre ++ marksI (d + 1) k := by rw [hk]; simp [marksI]
    rw [hs] at e
    refine Ev.step (fun n => laws_heldIntS.l0.eq_2 _ k _ n) (Ev_pos (by simp [marksI]; omega) (Ev_pos (by omega) (Ev_pos ?_ (Ev_eq e (by rw [hk]; omega)))))
    simp only [marksI]
    exact rd_append_len pre _ _
theorem heldIntS_ev (d : Nat) (k : Int) (h0 : 0 ≤ k) (h1 : k + (d : Int) ≤ 4611686018427387904) (h2 : (d : Int) ≤ 281474976710656) : Ev (fun n => laws_heldIntS.f n (marksI d k) k) (k + (d : Int)) := by
  have e := heldIntS_go d [] k h0 h1 (by simpa using h2)
  unfold laws_heldIntS.f
  simpa using e

theorem eqDisk_self (l : List Int) (ls : List (List Int)) (h : (l.length : Int) ≤ 1048576) (h2 : (ls.length : Int) ≤ 1048576) (hr : ∀ r ∈ ls, r.length ≤ 1048576) : Ev (fun k => laws_eqDisk.f k l ls l ls) true :=
  Ev.bind (eqByteS_self l (by omega)) (Ev_pos rfl (Ev.bind (eqByteSS_self ls (by omega) (fun r hr2 => by have := hr r hr2; omega)) (Ev_pos rfl (Ev_some _))))
theorem markDisk_at (l : List Int) (ls : List (List Int)) (m : Int) (h0 : 0 ≤ m) (hm : m ≤ 1048576) (h : (l.length : Int) + ls.length + ls.flatten.length ≤ 1048576) : Ev (fun k => laws_markDisk.f k l ls m) (m + (l.length : Int) + (ls.flatten.length : Int), marks l.length m, markRows ls (m + (l.length : Int))) :=
  Ev.bind (markByteS_ev l m (by omega) (by omega) (by omega)) (Ev.bind (markByteSS_ev ls (m + (l.length : Int)) (by omega) (by omega) (by omega) (by omega)) (Ev_some _))
theorem heldDisk_at (l : List Int) (ls : List (List Int)) (m : Int) (h0 : 0 ≤ m) (hm : m ≤ 1048576) (h : (l.length : Int) + ls.length + ls.flatten.length ≤ 1048576) : Ev (fun k => laws_heldDisk.f k (marks l.length m) (markRows ls (m + (l.length : Int))) m) (m + (l.length : Int) + (ls.flatten.length : Int)) :=
  Ev.bind (heldByteS_ev l.length m (by omega) (by omega) (by omega)) (Ev_neg (by omega) (Ev.bind (heldByteSS_ev ls (m + (l.length : Int)) (by omega) (by omega) (by omega) (by omega)) (Ev_neg (by omega) (Ev_some _))))

def to100 (x : S126) : S100 := ⟨x.f0, x.f1, x.f2, x.f3⟩
def bts : List S126 → Nat
  | [] => 0
  | x :: xs => x.f3.length + bts xs
def btt : List S100 → Nat
  | [] => 0
  | x :: xs => x.f3.length + btt xs
theorem bts_mem : ∀ (l : List S126), ∀ x ∈ l, x.f3.length ≤ bts l
  | [] => by simp
  | y :: l => by
    intro x hx
    simp only [bts, List.mem_cons] at hx ⊢
    rcases hx with rfl | hx
    · omega
    · have := bts_mem l x hx; omega
theorem btt_map : ∀ (l : List S126), btt (l.map to100) = bts l
  | [] => rfl
  | x :: l => by simp only [List.map_cons, btt, bts, btt_map l]; rfl
theorem rd126 (pre suf : List S126) (x : S126) : rd_T126 (pre ++ x :: suf) (pre.length : Int) = x := by simp [rd_T126, List.getD]
theorem rd100 (pre suf : List S100) (x : S100) : rd_T100 (pre ++ x :: suf) (pre.length : Int) = x := by simp [rd_T100, List.getD]
theorem szDiskActS_go : ∀ (suf pre : List S126) (a : Int), (∀ r ∈ suf, r.f3.length ≤ 9223372036854775807) → 0 ≤ a → a ≤ 1048576 → (pre.length : Int) + suf.length ≤ 1048576 →
    ∃ z, Ev (fun k => laws_szDiskActS.l0 k (pre ++ suf) a (pre.length : Int)) z ∧ (z < 0 ∨ (0 ≤ z ∧ z = a - (bts suf : Int))) := by
  intro suf
  induction suf with
  | nil =>
    intro pre a hr h0 h1 h2
    exact ⟨a, Ev.step (fun k => laws_szDiskActS.l0.eq_2 _ _ _ k) (Ev_neg (by simp) (Ev_some _)), .inr ⟨h0, by simp [bts]⟩⟩
  | cons r suf ih =>
    intro pre a hr h0 h1 h2
    simp only [List.length_cons] at h2
    have hrl := hr r (by simp)
    have hg := rd126 pre suf r
    have es : laws_szDiskAct.f r.f0 r.f1 r.f2 r.f3 a = some (if a - (r.f3.length : Int) < 0 then -1 else a - (r.f3.length : Int)) := by
      unfold laws_szDiskAct.f
      rw [szByteS_ev r.f3 hrl a h0 h1]
      simp only [Option.bind_some]
      by_cases hq : a - (r.f3.length : Int) < 0
      · rw [if_pos hq]; rfl
      · rw [if_neg hq, if_neg hq]
    have st : ∀ q, Ev (fun k => if (if a - (r.f3.length : Int) < 0 then -1 else a - (r.f3.length : Int)) < 0 then some (-1) else laws_szDiskActS.l0 k (pre ++ r :: suf) (if a - (r.f3.length : Int) < 0 then -1 else a - (r.f3.length : Int)) (wrap64 ((pre.length : Int) + 1))) q → Ev (fun k => laws_szDiskActS.l0 k (pre ++ r :: suf) a (pre.length : Int)) q := by
      intro q h
      refine Ev.step (fun k => laws_szDiskActS.l0.eq_2 _ _ _ k) (Ev_pos (by simp; omega) (Ev_pos (by omega) ?_))
      rw [hg]
      exact Ev_bindc es h
    by_cases hn : a - (r.f3.length : Int) < 0
    · exact ⟨-1, st _ (Ev_pos (by rw [if_pos hn]; omega) (Ev_some _)), .inl (by omega)⟩
    · obtain ⟨z, e, hz⟩ := ih (pre ++ [r]) (a - (r.f3.length : Int)) (fun x hx => hr x (by simp [hx])) (by omega) (by omega) (by simp; omega)
      have hw : wrap64 ((pre.length : Int) + 1) = ((pre ++ [r]).length : Int) := by rw [wrap64_id (by omega) (by omega)]; simp
      have hs : (pre ++ [r]) ++ suf = pre ++ r :: suf := by simp
      rw [hs, ← hw] at e
      refine ⟨z, st _ ?_, hz.imp id (fun h => ⟨h.1, by simp only [bts]; omega⟩)⟩
      rw [if_neg hn]
      exact Ev_neg hn e
theorem szDiskActS_ev (ls : List S126) (hl : ls.length ≤ 9223372036854775807) (hr : ∀ r ∈ ls, r.f3.length ≤ 9223372036854775807) (a : Int) (h0 : 0 ≤ a) (h1 : a ≤ 1048576) : ∃ z, Ev (fun k => laws_szDiskActS.f k ls a) z ∧ (z < 0 ∨ (0 ≤ z ∧ z = a - (ls.length : Int) - (bts ls : Int))) := by
  have hw : wrap64 (a - (ls.length : Int)) = a - (ls.length : Int) := wrap64_id (by omega) (by omega)
  by_cases hn : a - (ls.length : Int) < 0
  · refine ⟨-1, ?_, .inl (by omega)⟩
    unfold laws_szDiskActS.f
    rw [hw]
    exact Ev_pos hn (Ev_some _)
  · obtain ⟨z, e, hz⟩ := szDiskActS_go ls [] (a - (ls.length : Int)) hr (by omega) (by omega) (by simp; omega)
    refine ⟨z, ?_, hz⟩
    unfold laws_szDiskActS.f
    rw [hw]
    exact Ev_neg hn (by simpa using e)
theorem toDiskActS_go : ∀ (suf pre : List S126) (d : Nat), (∀ r ∈ suf, r.f3.length ≤ 1048576) → (pre.length : Int) + suf.length ≤ 1048576 → d = suf.length →
    Ev (fun k => laws_toDiskActS.l0 k (pre ++ suf) (pre.map to100 ++ List.replicate d z100) (pre.length : Int)) ((pre ++ suf).map to100) := by
  intro suf
  induction suf with
  | nil =>
    intro pre d hr h2 hd
    obtain rfl : d = 0 := hd
    exact Ev.step (fun k => laws_toDiskActS.l0.eq_2 _ _ _ k) (Ev_neg (by simp) (Ev_eq (Ev_some _) (by simp)))
  | cons r suf ih =>
    intro pre d hr h2 hd
    simp only [List.length_cons] at h2 hd
    subst hd
    have hrl := hr r (by simp)
    have hg := rd126 pre suf r
    have e := ih (pre ++ [r]) suf.length (fun x hx => hr x (by simp [hx])) (by simp; omega) rfl
    have hw : wrap64 ((pre.length : Int) + 1) = ((pre ++ [r]).length : Int) := by rw [wrap64_id (by omega) (by omega)]; simp
    have hs : (pre ++ [r]) ++ suf = pre ++ r :: suf := by simp
    have hs2 : (pre.map to100 ++ List.replicate (suf.length + 1) z100).set ((pre.length : Int)).toNat (to100 r) = (pre ++ [r]).map to100 ++ List.replicate suf.length z100 := by
      simp [List.replicate_succ, List.set_append]
    rw [hs, ← hs2, ← hw] at e
    refine Ev.step (fun k => laws_toDiskActS.l0.eq_2 _ _ _ k) (Ev_pos (by simp; omega) (Ev_pos (by omega) ?_))
    rw [hg]
    refine Ev.bind (g := fun k => laws_toDiskAct.f k r.f0 r.f1 r.f2 r.f3) (Ev.bind (toByteS_ev r.f3 (by omega)) (Ev_some _)) (Ev_pos (by simp; omega) ?_)
    exact e
theorem toDiskActS_ev (ls : List S126) (hl : (ls.length : Int) ≤ 1048576) (hr : ∀ r ∈ ls, r.f3.length ≤ 1048576) : Ev (fun k => laws_toDiskActS.f k ls) (ls.map to100) := by
  have e := toDiskActS_go ls [] ls.length hr (by simpa using hl) rfl
  refine Ev_pos (by omega) (Ev_pos (by omega) ?_)
  simpa using e
theorem eqDiskActS_go : ∀ (suf pre : List S100), (∀ r ∈ suf, r.f3.length ≤ 1048576) → (pre.length : Int) + suf.length ≤ 1048576 → Ev (fun k => laws_eqDiskActS.l0 k (pre ++ suf) (pre ++ suf) (pre.length : Int)) true := by
  intro suf
  induction suf with
  | nil =>
    intro pre hr h2
    exact Ev.step (fun k => laws_eqDiskActS.l0.eq_2 _ _ _ k) (Ev_neg (by simp) (Ev_some _))
  | cons r suf ih =>
    intro pre hr h2
    simp only [List.length_cons] at h2
    have hrl := hr r (by simp)
    have hg := rd100 pre suf r
    have e := ih (pre ++ [r]) (fun x hx => hr x (by simp [hx])) (by simp; omega)
    have hw : wrap64 ((pre.length : Int) + 1) = ((pre ++ [r]).length : Int) := by rw [wrap64_id (by omega) (by omega)]; simp
    have hs : (pre ++ [r]) ++ suf = pre ++ r :: suf := by simp
    rw [hs, ← hw] at e
    refine Ev.step (fun k => laws_eqDiskActS.l0.eq_2 _ _ _ k) (Ev_pos (by simp; omega) (Ev_pos (by omega) (Ev_pos (by simp; omega) ?_)))
    rw [hg]
    exact Ev.bind (g := fun k => laws_eqDiskAct.f k r.f0 r.f1 r.f2 r.f3 r.f0 r.f1 r.f2 r.f3) (Ev_pos rfl (Ev_pos rfl (Ev_pos rfl (Ev.bind (eqByteS_self r.f3 (by omega)) (Ev_pos rfl (Ev_some _)))))) (Ev_pos rfl e)
theorem eqDiskActS_self (ls : List S100) (hl : (ls.length : Int) ≤ 1048576) (hr : ∀ r ∈ ls, r.f3.length ≤ 1048576) : Ev (fun k => laws_eqDiskActS.f k ls ls) true := by
  have e := eqDiskActS_go ls [] hr (by simpa using hl)
  refine Ev_pos rfl ?_
  simpa using e
theorem markDiskActS_go : ∀ (suf pre : List S100) (k : Int), 0 ≤ k → (pre.length : Int) + suf.length ≤ 1048576 → k + 3 * (suf.length : Int) + btt suf ≤ 4611686018427387904 → (btt suf : Int) ≤ 1048576 →
    ∃ x, Ev (fun n => laws_markDiskActS.l0 n (pre ++ suf) k (pre.length : Int)) (k + 3 * (suf.length : Int) + btt suf, x) := by
  intro suf
  induction suf with
  | nil =>
    intro pre k h0 h1 h2 h3
    exact ⟨_, Ev.step (fun n => laws_markDiskActS.l0.eq_2 _ k _ n) (Ev_neg (by simp) (Ev_eq (Ev_some _) (Prod.ext (by simp [btt]) rfl)))⟩
  | cons r suf ih =>
    intro pre k h0 h1 h2 h3
    simp only [List.length_cons, btt] at h1 h2 h3
    have hk1 : wrap64 (k + 1) = k + 1 := wrap64_id (by omega) (by omega)
    have hk2 : wrap64 (k + 1 + 1) = k + 1 + 1 := wrap64_id (by omega) (by omega)
    have hk3 : wrap64 (k + 1 + 1 + 1) = k + 1 + 1 + 1 := wrap64_id (by omega) (by omega)
    obtain ⟨x, e⟩ := ih (pre ++ [⟨k, k + 1, k + 1 + 1, marks r.f3.length (k + 1 + 1 + 1)⟩]) (k + 1 + 1 + 1 + (r.f3.length : Int)) (by omega) (by simp; omega) (by omega) (by omega)
    have hw : wrap64 ((pre.length : Int) + 1) = ((pre ++ [(⟨k, k + 1, k + 1 + 1, marks r.f3.length (k + 1 + 1 + 1)⟩ : S100)]).length : Int) := by rw [wrap64_id (by omega) (by omega)]; simp
    have hs : (pre ++ r :: suf).set ((pre.length : Int)).toNat (⟨k, k + 1, k + 1 + 1, marks r.f3.length (k + 1 + 1 + 1)⟩ : S100) = (pre ++ [⟨k, k + 1, k + 1 + 1, marks r.f3.length (k + 1 + 1 + 1)⟩]) ++ suf := by simp
    have hg : (pre ++ r :: suf).getD ((pre.length : Int)).toNat z100 = r := by simp [List.getD]
    rw [← hw, ← hs] at e
    refine ⟨x, Ev.step (fun n => laws_markDiskActS.l0.eq_2 (pre ++ r :: suf) k _ n) (Ev_pos (by simp; omega) (Ev_pos (by omega) ?_))⟩
    rw [hg, hk1, hk2, hk3]
    refine Ev.bind (markByteS_ev r.f3 (k + 1 + 1 + 1) (by omega) (by omega) (by omega)) (Ev_eq e (Prod.ext ?_ rfl))
    simp only [List.length_cons, btt]
    omega
theorem markDiskActS_ev (ls : List S100) (h1 : (ls.length : Int) ≤ 1048576) (h3 : (btt ls : Int) ≤ 1048576) : ∃ m x, Ev (fun n => laws_markDiskActS.f n ls 1) (m, x) ∧ 0 ≤ m := by
  obtain ⟨x, e⟩ := markDiskActS_go ls [] 1 (by omega) (by simpa using h1) (by omega) h3
  exact ⟨_, x, e, by omega⟩

theorem unlessOf (b : Bool) (c : Int) : impl_unless.f b c = some (if b = true then 0 else c) := by unfold impl_unless.f; split <;> rfl
theorem withinOf (a t : Int) : impl_within.f a 0 t = some (decide (0 ≤ a ∧ a ≤ t)) := by
  unfold impl_within.f
  by_cases h : 0 ≤ a
  · rw [if_pos h]; simp [h]
  · rw [if_neg h]; simp [h]
theorem inOf (a t : Int) : spec_l02In.f a 0 t = some (decide (0 ≤ a ∧ a ≤ t)) := by
  unfold spec_l02In.f
  by_cases h : 0 ≤ a
  · rw [if_pos h]; simp [h]
  · rw [if_neg h]; simp [h]
theorem implBytes_ev (s : List Int) (p : List (List Int)) (h : (s.length : Int) + p.flatten.length ≤ 1048576) (h2 : (p.length : Int) ≤ 1048576) : Ev (fun k => impl_Disk_bytes.f k s p) (s ++ p.flatten) :=
  Ev_bindc (clone_ok s (by omega)) (Ev.bind (concat_ev p (by omega) (by omega)) (Ev_pos (by omega) (Ev_some _)))
theorem specBytes_ev (s : List Int) (p : List (List Int)) (h : (s.length : Int) + p.flatten.length ≤ 1048576) (h2 : (p.length : Int) ≤ 1048576) : Ev (fun k => spec_l02Bytes.f k s p) (s ++ p.flatten) := by
  have e := specBytes_go s p [] s (by omega) (by simpa using h2)
  refine Ev_bindc rfl (Ev_pos (by simp; omega) ?_)
  simpa using e
theorem both_act (x : S100) (s : List Int) (p : List (List Int)) (h : (s.length : Int) + p.flatten.length ≤ 8192) (h2 : (p.length : Int) ≤ 1000) (h3 : (x.f3.length : Int) ≤ 1048576) :
    ∃ c s' p', Ev (fun k => impl_Disk_act.f k s p x.f0 x.f1 x.f2 x.f3) (c, s', p') ∧ Ev (fun k => spec_l02Act.f k s p x.f0 x.f1 x.f2 x.f3) (s', p', c) ∧ (s'.length : Int) + p'.flatten.length ≤ 8192 ∧ (p'.length : Int) ≤ p.length + 1 := by
  by_cases c1 : x.f0 = 1
  · have ez := implSize_go p _ rfl p [] (s.length : Int) rfl (by omega) (by omega) (by simp; omega)
    have ez2 := specSize_go s p [] (s.length : Int) (by omega) (by omega) (by simp; omega)
    have hw : wrap64 ((s.length : Int) + (p.flatten.length : Int) + (x.f3.length : Int)) = (s.length : Int) + (p.flatten.length : Int) + (x.f3.length : Int) := wrap64_id (by omega) (by omega)
    have hw2 : wrap64 (8192 - ((s.length : Int) + (p.flatten.length : Int))) = 8192 - ((s.length : Int) + (p.flatten.length : Int)) := wrap64_id (by omega) (by omega)
    by_cases c2 : (s.length : Int) + (p.flatten.length : Int) + (x.f3.length : Int) > 8192
    · exact ⟨7, s, p, Ev_pos c1 (Ev.bind (g := fun k => impl_Disk_size.f k s p) ez (Ev_pos (by rw [hw]; exact c2) (Ev_some _))), Ev_pos c1 (Ev.bind (g := fun k => spec_l02Size.f k s p) ez2 (Ev_pos (by rw [hw2]; omega) (Ev_some _))), h, by omega⟩
    · refine ⟨0, s, p ++ [x.f3], Ev_pos c1 (Ev.bind (g := fun k => impl_Disk_size.f k s p) ez (Ev_neg (by rw [hw]; exact c2) (Ev_bindc (clone_ok x.f3 (by omega)) (Ev_pos (by omega) (Ev_some _))))), Ev_pos c1 (Ev.bind (g := fun k => spec_l02Size.f k s p) ez2 (Ev_neg (by rw [hw2]; omega) (Ev_bindc rfl (Ev_pos (by simp only [List.length_nil]; omega) (Ev_bindc rfl (Ev_bindc rfl (Ev_pos (by simp; omega) (Ev_pos (by simp; omega) (Ev_eq (Ev_some _) (by simp)))))))))), by simp only [List.flatten_append, List.length_append, List.flatten_cons, List.flatten_nil, List.append_nil]; omega, by simp; try omega⟩
  · by_cases c2 : x.f0 = 2
    · exact ⟨0, s ++ p.flatten, [], Ev_neg c1 (Ev_pos c2 (Ev.bind (implBytes_ev s p (by omega) (by omega)) (Ev_some _))), Ev_neg c1 (Ev_pos c2 (Ev.bind (specBytes_ev s p (by omega) (by omega)) (Ev_some _))), by simp only [List.length_append, List.flatten_nil, List.length_nil]; omega, by simp; try omega⟩
    · by_cases c3 : x.f0 = 3
      · by_cases d1 : x.f1 < 0
        · exact ⟨5, s, p, Ev_neg c1 (Ev_neg c2 (Ev_pos c3 (Ev_pos d1 (Ev_some _)))), Ev_neg c1 (Ev_neg c2 (Ev_pos c3 (Ev_pos d1 (Ev_some _)))), h, by omega⟩
        · by_cases d2 : x.f2 < 0
          · exact ⟨5, s, p, Ev_neg c1 (Ev_neg c2 (Ev_pos c3 (Ev_neg d1 (Ev_pos d2 (Ev_some _))))), Ev_neg c1 (Ev_neg c2 (Ev_pos c3 (Ev_neg d1 (Ev_pos d2 (Ev_some _))))), h, by omega⟩
          · obtain ⟨a, ha⟩ := Int.eq_ofNat_of_zero_le (Int.not_lt.1 d1)
            obtain ⟨t, ht⟩ := Int.eq_ofNat_of_zero_le (Int.not_lt.1 d2)
            have e1 := implCrash_ev s p a t (by omega)
            have e2 := specCrash_ev s p a t (by omega)
            rw [← ha, ← ht] at e1 e2
            have := crash_len s p a t
            exact ⟨0, crashOf s p a t, [], Ev_neg c1 (Ev_neg c2 (Ev_pos c3 (Ev_neg d1 (Ev_neg d2 (Ev.bind e1 (Ev_some _)))))), Ev_neg c1 (Ev_neg c2 (Ev_pos c3 (Ev_neg d1 (Ev_neg d2 (Ev.bind e2 (Ev_some _)))))), by simp only [List.flatten_nil, List.length_nil]; omega, by simp; try omega⟩
      · by_cases c4 : x.f0 = 4
        · have ez := implSize_go p _ rfl p [] (s.length : Int) rfl (by omega) (by omega) (by simp; omega)
          have eb := implBytes_ev s p (by omega) (by omega)
          have eb2 := specBytes_ev s p (by omega) (by omega)
          have hl : ((s ++ p.flatten).length : Int) = (s.length : Int) + (p.flatten.length : Int) := by simp
          by_cases d : 0 ≤ x.f1 ∧ x.f1 ≤ (s.length : Int) + (p.flatten.length : Int)
          · refine ⟨0, (s ++ p.flatten).take x.f1.toNat, [], Ev_neg c1 (Ev_neg c2 (Ev_neg c3 (Ev_pos c4 (Ev.bind (g := fun k => impl_Disk_size.f k s p) ez (Ev_bindc (withinOf _ _) (Ev_pos (decide_eq_true d) (Ev.bind eb (Ev_pos d.1 (Ev_pos (by rw [hl]; exact d.2) (Ev_some _)))))))))), Ev_neg c1 (Ev_neg c2 (Ev_neg c3 (Ev_pos c4 (Ev.bind eb2 (Ev_bindc (inOf _ _) (Ev_pos (decide_eq_true ⟨d.1, by rw [hl]; exact d.2⟩) (Ev_pos d.1 (Ev_pos (by rw [hl]; exact d.2) (Ev_some _))))))))), ?_, by simp; try omega⟩
            rw [List.length_take]
            simp only [List.flatten_nil, List.length_nil, List.length_append]
            omega
          · refine ⟨5, s, p, Ev_neg c1 (Ev_neg c2 (Ev_neg c3 (Ev_pos c4 (Ev.bind (g := fun k => impl_Disk_size.f k s p) ez (Ev_bindc (withinOf _ _) (Ev_neg ?_ (Ev_some _))))))), Ev_neg c1 (Ev_neg c2 (Ev_neg c3 (Ev_pos c4 (Ev.bind eb2 (Ev_bindc (inOf _ _) (Ev_neg ?_ (Ev_some _))))))), h, by omega⟩
            · rw [decide_eq_true_iff]; exact d
            · rw [decide_eq_true_iff, hl]; exact d
        · exact ⟨3, s, p, Ev_neg c1 (Ev_neg c2 (Ev_neg c3 (Ev_neg c4 (Ev_some _)))), Ev_neg c1 (Ev_neg c2 (Ev_neg c3 (Ev_neg c4 (Ev_some _)))), h, by omega⟩
theorem both_run_go : ∀ (suf pre : List S100) (c s : List Int) (p : List (List Int)), (s.length : Int) + p.flatten.length ≤ 8192 → p.length ≤ pre.length → c.length = pre.length → (pre.length : Int) + suf.length ≤ 200 → (∀ x ∈ suf, x.f3.length ≤ 1048576) →
    ∃ c' s' p', Ev (fun k => impl_DiskRun.l0 k (pre ++ suf) (pre.length : Int) c s p) (c', s', p', 0) ∧ Ev (fun k => spec_DiskRun.l0 k (pre ++ suf) (pre.length : Int) c s p) (c', s', p', 0) ∧ (s'.length : Int) + p'.flatten.length ≤ 8192 ∧ (p'.length : Int) ≤ 200 ∧ (c'.length : Int) ≤ 200 := by
  intro suf
  induction suf with
  | nil =>
    intro pre c s p h hp hc hn hr
    exact ⟨c, s, p, Ev.step (fun k => impl_DiskRun.l0.eq_2 _ _ _ _ _ k) (Ev_neg (by simp) (Ev_some _)), Ev.step (fun k => spec_DiskRun.l0.eq_2 _ _ _ _ _ k) (Ev_neg (by simp) (Ev_some _)), h, by simp at hn; omega, by simp at hn; omega⟩
  | cons x suf ih =>
    intro pre c s p h hp hc hn hr
    simp only [List.length_cons] at hn
    have hx := hr x (by simp)
    obtain ⟨v, s1, p1, e1, e2, h1, h2⟩ := both_act x s p h (by omega) (by omega)
    obtain ⟨c', s', p', f1, f2, h3, h4, h5⟩ := ih (pre ++ [x]) (c ++ [v]) s1 p1 h1 (by simp; omega) (by simp; omega) (by simp; omega) (fun y hy => hr y (by simp [hy]))
    have hg := rd100 pre suf x
    have hw : wrap64 ((pre.length : Int) + 1) = ((pre ++ [x]).length : Int) := by rw [wrap64_id (by omega) (by omega)]; simp
    have hs : (pre ++ [x]) ++ suf = pre ++ x :: suf := by simp
    rw [hs, ← hw] at f1 f2
    refine ⟨c', s', p', Ev.step (fun k => impl_DiskRun.l0.eq_2 _ _ _ _ _ k) (Ev_pos (by simp; omega) (Ev_pos (by omega) ?_)), Ev.step (fun k => spec_DiskRun.l0.eq_2 _ _ _ _ _ k) (Ev_pos (by simp; omega) (Ev_pos (by omega) ?_)), h3, h4, h5⟩
    · rw [hg]
      exact Ev.bind e1 (Ev_pos (by omega) f1)
    · rw [hg]
      exact Ev.bind e2 (Ev_pos (by omega) f2)
theorem both_run (l : List S100) (hl : (l.length : Int) ≤ 1048576) (hr : ∀ x ∈ l, x.f3.length ≤ 1048576) :
    ∃ c s p v, Ev (fun k => impl_DiskRun.f k l) (c, s, p, v) ∧ Ev (fun k => spec_DiskRun.f k l) (c, s, p, v) ∧ (s.length : Int) + p.flatten.length ≤ 8192 ∧ (p.length : Int) ≤ 200 ∧ (c.length : Int) ≤ 200 := by
  have hlong : impl_longList.f (l.length : Int) = some (if (l.length : Int) ≤ 4096 then 0 else 2) := by
    unfold impl_longList.f
    rw [unlessOf]
    simp
  by_cases h1 : (l.length : Int) ≤ 4096
  · by_cases h2 : (l.length : Int) ≤ 200
    · obtain ⟨c', s', p', f1, f2, h3, h4, h5⟩ := both_run_go l [] [] [] [] (by simp) (by simp) rfl (by simpa using h2) hr
      refine ⟨c', s', p', 0, Ev_bindc hlong (Ev_bindc (unlessOf _ _) (Ev.bind (first_two _ _) (Ev_pos ?_ f1))), Ev_neg (by omega) (Ev_neg (by omega) f2), h3, h4, h5⟩
      rw [if_pos h1, if_pos rfl, if_pos (decide_eq_true h2)]
    · refine ⟨[], [], [], 7, Ev_bindc hlong (Ev_bindc (unlessOf _ _) (Ev.bind (a := 7) (Ev_eq (first_two _ _) ?_) (Ev_neg (by decide) (Ev_some _)))), Ev_neg (by omega) (Ev_pos (by omega) (Ev_some _)), by simp, by simp, by simp; try omega⟩
      rw [if_pos h1, if_pos rfl, if_neg (by simpa using h2)]
  · refine ⟨[], [], [], 2, Ev_bindc hlong (Ev_bindc (unlessOf _ _) (Ev.bind (a := 2) (Ev_eq (first_two _ _) ?_) (Ev_neg (by decide) (Ev_some _)))), Ev_pos (by omega) (Ev_some _), by simp, by simp, by simp; try omega⟩
    rw [if_neg h1, if_neg (by decide)]

theorem FnExactDiskRun (l : List S126) (hl : l.length ≤ 9223372036854775807) (hr : ∀ r ∈ l, r.f3.length ≤ 9223372036854775807) : ∃ (k : Nat) (z : Int), laws_szDiskActS.f k l 1048576 = some z ∧ (z < 0 ∨ ∃ (y : List S100) (q1 q2 : List Int) (q3 : List (List Int)) (q4 m : Int) (x : List S100) (m2 : Int) (x2 : List Int) (m3 : Int) (x3 : List Int) (x4 : List (List Int)), 0 ≤ z ∧ 0 ≤ m ∧ 0 ≤ m2 ∧ 0 ≤ m3 ∧
    laws_toDiskActS.f k l = some y ∧ spec_DiskRun.f k y = some (q1, q2, q3, q4) ∧ impl_DiskRun.f k y = some (q1, q2, q3, q4) ∧ laws_eqIntS.f k q1 q1 = some true ∧ laws_eqDisk.f k q2 q3 q2 q3 = some true ∧ laws_eqDiskActS.f k y y = some true ∧ laws_markDiskActS.f k y 1 = some (m, x) ∧ laws_markIntS.f k q1 1 = some (m2, x2) ∧ laws_markDisk.f k q2 q3 m2 = some (m3, x3, x4) ∧ laws_heldIntS.f k x2 1 = some m2 ∧ laws_heldDisk.f k x3 x4 m2 = some m3) := by
  obtain ⟨z, ⟨k0, e0⟩, hz⟩ := szDiskActS_ev l hl hr 1048576 (by omega) (by omega)
  rcases hz with hz | ⟨hz, hb⟩
  · exact ⟨k0, z, e0 _ (by omega), .inl hz⟩
  · have hr2 : ∀ r ∈ l, r.f3.length ≤ 1048576 := fun r h => by have := bts_mem l r h; omega
    have hr3 : ∀ r ∈ l.map to100, r.f3.length ≤ 1048576 := by
      intro r h
      obtain ⟨x, hx, rfl⟩ := List.mem_map.1 h
      exact hr2 x hx
    have hbt := btt_map l
    obtain ⟨c, s, p, v, ⟨k1, e1⟩, ⟨k2, e2⟩, h1, h2, h3⟩ := both_run (l.map to100) (by simp; omega) hr3
    obtain ⟨k3, e3⟩ := toDiskActS_ev l (by omega) hr2
    obtain ⟨k4, e4⟩ := eqIntS_self c (by omega)
    obtain ⟨k5, e5⟩ := eqDisk_self s p (by omega) (by omega) (fun r h => by have := flat_row r h; omega)
    obtain ⟨k6, e6⟩ := eqDiskActS_self (l.map to100) (by simp; omega) hr3
    obtain ⟨m, x, ⟨k7, e7⟩, hm⟩ := markDiskActS_ev (l.map to100) (by simp; omega) (by omega)
    obtain ⟨k8, e8⟩ := markIntS_ev c 1 (by omega) (by omega) (by omega)
    obtain ⟨k9, e9⟩ := markDisk_at s p (1 + (c.length : Int)) (by omega) (by omega) (by omega)
    obtain ⟨k10, e10⟩ := heldIntS_ev c.length 1 (by omega) (by omega) (by omega)
    obtain ⟨k11, e11⟩ := heldDisk_at s p (1 + (c.length : Int)) (by omega) (by omega) (by omega)
    exact ⟨k0 + k1 + k2 + k3 + k4 + k5 + k6 + k7 + k8 + k9 + k10 + k11, z, e0 _ (by omega), .inr ⟨_, _, _, _, _, _, _, _, _, _, _, _, by omega, hm, by omega, by omega, e3 _ (by omega), e2 _ (by omega), e1 _ (by omega), e4 _ (by omega), e5 _ (by omega), e6 _ (by omega), e7 _ (by omega), e8 _ (by omega), e9 _ (by omega), e10 _ (by omega), e11 _ (by omega)⟩⟩

end Go.Proofs.Ytfclobfoghbblaa.Pure
