/- FnExactFeed, the plain law: the two ways through the chunks agree. No conditions. -/
import Derived.Test.YtkiknhljomobpaaPFnExactFeedx5
import Derived.Test.YtkiknhljomobpaaHandFnExactFeed
import Derived.OpenShut
namespace Go.Proofs.Ytkiknhljomobpaa.Pure
open Go.RowKit Go.Proofs.Ytkiknhljomobpaa.PFnExactFeed Go.Proofs.YtkiknhljomobpaaW.PrintWords Go.Proofs.YtkiknhljomobpaaW.PrintLast Go.Proofs.YtkiknhljomobpaaW.PrintMore
set_option linter.unusedVariables false
set_option linter.unusedSimpArgs false

theorem Ev_pos {α : Type} {c : Prop} [Decidable c] {A B : Nat → Option α} {r : α} (h : c) (e : Ev A r) : Ev (fun k => if c then A k else B k) r := by
  simpa only [if_pos h] using e
theorem Ev_neg {α : Type} {c : Prop} [Decidable c] {A B : Nat → Option α} {r : α} (h : ¬ c) (e : Ev B r) : Ev (fun k => if c then A k else B k) r := by
  simpa only [if_neg h] using e
theorem Ev_some {α : Type} (r : α) : Ev (fun _ => some r) r := Ev.now r
theorem Ev_const {α : Type} {x : Option α} {r : α} (h : x = some r) : Ev (fun _ => x) r := ⟨0, fun _ _ => h⟩
theorem Ev_eq {α : Type} {A : Nat → Option α} {r q : α} (h : Ev A r) (e : r = q) : Ev A q := e ▸ h
theorem Ev_bindc {α β : Type} {x : Option α} {f : Nat → α → Option β} {a : α} {r : β} (h : x = some a) (k : Ev (fun n => f n a) r) : Ev (fun n => x.bind (f n)) r := Ev.bind (g := fun _ => x) (Ev_const h) k
theorem wrap64_id {x : Int} (h0 : -9223372036854775808 ≤ x) (h1 : x ≤ 9223372036854775807) : wrap64 x = x := by
  unfold wrap64; omega
theorem int_bounds {x : Int} (h : (Lit.int .i64 x).wf = true) : -9223372036854775808 ≤ x ∧ x < 9223372036854775808 := by
  have := Go.bounds_i64 h
  omega
theorem u8_bounds {l : List Int} (h : ∀ x ∈ l, (Lit.int .u8 x).wf = true) : ∀ x ∈ l, 0 ≤ x ∧ x < 256 := by
  intro x hx
  have := Go.bounds_u8 (h x hx)
  omega

theorem rd_cons0 (x : Int) (l : List Int) : rd (x :: l) 0 = x := rfl
theorem rd_append_len (p : List Int) (x : Int) (l : List Int) : rd (p ++ x :: l) (p.length : Int) = x := by
  unfold rd
  simp [List.getD]
theorem eqByteS_go (a : List Int) (ha : (a.length : Int) ≤ 281474976710656) (d : Nat) : ∀ i : Int, 0 ≤ i → i ≤ (a.length : Int) → (a.length : Int) - i = d → Ev (fun k => laws_eqByteS.l0 k a a i) true := by
  induction d with
  | zero =>
    intro i h0 h1 hd
    exact Ev.step (fun k => laws_eqByteS.l0.eq_2 a a i k) (Ev_neg (by omega) (Ev_some _))
  | succ d ih =>
    intro i h0 h1 hd
    have e := ih (i + 1) (by omega) (by omega) (by omega)
    have hw : wrap64 (i + 1) = i + 1 := wrap64_id (by omega) (by omega)
    rw [← hw] at e
    exact Ev.step (fun k => laws_eqByteS.l0.eq_2 a a i k) (Ev_pos (by omega) (Ev_pos h0 (Ev_pos (by omega) (Ev_pos rfl e))))
theorem eqByteS_self (a : List Int) (ha : (a.length : Int) ≤ 281474976710656) : Ev (fun k => laws_eqByteS.f k a a) true :=
  Ev_pos rfl (eqByteS_go a ha a.length 0 (by omega) (by omega) (by omega))

theorem rd_mid (p q : List Int) (x : Int) (n : Nat) (h : n = p.length) : rd (p ++ x :: q) (n : Int) = x := by
  subst h
  unfold rd
  simp [List.getD]
theorem toByteS_go : ∀ (suf pre zs : List Int), zs.length = suf.length → (pre.length : Int) + (suf.length : Int) ≤ 281474976710656 →
    Ev (fun k => laws_toByteS.l0 k (pre ++ suf) (pre ++ zs) (pre.length : Int)) (pre ++ suf) := by
  intro suf
  induction suf with
  | nil =>
    intro pre zs hz h
    have : zs = [] := List.eq_nil_of_length_eq_zero (by simpa using hz)
    subst this
    exact Ev.step (fun k => laws_toByteS.l0.eq_2 _ _ _ k) (Ev_neg (by simp) (Ev_some _))
  | cons x suf ih =>
    intro pre zs hz h
    cases zs with
    | nil => simp at hz
    | cons z zs =>
      simp only [List.length_cons] at hz h
      have e := ih (pre ++ [x]) zs (by omega) (by simp; omega)
      have hw : wrap64 ((pre.length : Int) + 1) = ((pre ++ [x]).length : Int) := by rw [wrap64_id (by omega) (by omega)]; simp
      have h1 : (pre ++ [x]) ++ suf = pre ++ x :: suf := by simp
      have h2 : (pre ++ [x]) ++ zs = (pre ++ z :: zs).set ((pre.length : Int)).toNat (rd (pre ++ x :: suf) (pre.length : Int)) := by
        rw [rd_mid pre suf x pre.length rfl]; simp
      rw [← hw, h1, h2] at e
      exact Ev.step (fun k => laws_toByteS.l0.eq_2 _ _ _ k) (Ev_pos (by simp; omega) (Ev_pos (by omega) (Ev_pos (by simp; omega) e)))
theorem toByteS_ev (l : List Int) (h : (l.length : Int) ≤ 281474976710656) : Ev (fun k => laws_toByteS.f k l) l := by
  have e := toByteS_go l [] (List.replicate l.length 0) (by simp) (by simpa using h)
  exact Ev_pos (by omega) (Ev_pos (by omega) (by simpa using e))

def marks : Nat → Int → List Int
  | 0, _ => []
  | n + 1, k => (k % 256) :: marks n (k + 1)
theorem marks_len : ∀ (n : Nat) (k : Int), (marks n k).length = n
  | 0, _ => rfl
  | n + 1, k => by simp [marks, marks_len n]
theorem marks_u8 : ∀ (n : Nat) (k : Int), ∀ x ∈ marks n k, 0 ≤ x ∧ x < 256
  | 0, _ => by simp [marks]
  | n + 1, k => by
    intro x hx
    simp only [marks, List.mem_cons] at hx
    rcases hx with rfl | hx
    · omega
    · exact marks_u8 n (k + 1) x hx
theorem markByteS_go : ∀ (suf pre : List Int) (k : Int), 0 ≤ k → k + (suf.length : Int) ≤ 4611686018427387904 → (pre.length : Int) + (suf.length : Int) ≤ 281474976710656 →
    Ev (fun n => laws_markByteS.l0 n (pre ++ suf) k (pre.length : Int)) (k + (suf.length : Int), pre ++ marks suf.length k) := by
  intro suf
  induction suf with
  | nil =>
    intro pre k h0 h1 h2
    simp only [List.length_nil, marks, List.append_nil]
    refine Ev.step (fun n => laws_markByteS.l0.eq_2 pre k _ n) (Ev_neg (by omega) (Ev_eq (Ev_some _) (by simp)))
  | cons x suf ih =>
    intro pre k h0 h1 h2
    simp only [List.length_cons] at h1 h2
    have e := ih (pre ++ [k % 256]) (k + 1) (by omega) (by omega) (by simp; omega)
    have hw : wrap64 ((pre.length : Int) + 1) = ((pre ++ [k % 256]).length : Int) := by rw [wrap64_id (by omega) (by omega)]; simp
    have hk : wrap64 (k + 1) = k + 1 := wrap64_id (by omega) (by omega)
    rw [← hw, ← hk] at e
    have hs : (pre ++ x :: suf).set ((pre.length : Int)).toNat (k % 256) = (pre ++ [k % 256]) ++ suf := by simp
    rw [← hs] at e
    refine Ev.step (fun n => laws_markByteS.l0.eq_2 (pre ++ x :: suf) k _ n) (Ev_pos (by simp; omega) (Ev_pos (by omega) (Ev_eq e ?_)))
    rw [hk]
    simp only [List.length_cons, marks]
    exact Prod.ext (by omega) (by simp)
theorem markByteS_ev (l : List Int) (k : Int) (h0 : 0 ≤ k) (h1 : k + (l.length : Int) ≤ 4611686018427387904) (h2 : (l.length : Int) ≤ 281474976710656) : Ev (fun n => laws_markByteS.f n l k) (k + (l.length : Int), marks l.length k) := by
  have e := markByteS_go l [] k h0 h1 (by simpa using h2)
  unfold laws_markByteS.f
  simpa using e
theorem heldByteS_go : ∀ (d : Nat) (pre : List Int) (k : Int), 0 ≤ k → k + (d : Int) ≤ 4611686018427387904 → (pre.length : Int) + (d : Int) ≤ 281474976710656 →
    Ev (fun n => laws_heldByteS.l0 n (pre ++ marks d k) k (pre.length : Int)) (k + (d : Int)) := by
  intro d
  induction d with
  | zero =>
    intro pre k h0 h1 h2
    refine Ev.step (fun n => laws_heldByteS.l0.eq_2 _ k _ n) (Ev_neg (by simp [marks]) (Ev_eq (Ev_some _) (by simp)))
  | succ d ih =>
    intro pre k h0 h1 h2
    have e := ih (pre ++ [k % 256]) (k + 1) (by omega) (by omega) (by simp; omega)
    have hw : wrap64 ((pre.length : Int) + 1) = ((pre ++ [k % 256]).length : Int) := by rw [wrap64_id (by omega) (by omega)]; simp
    have hk : wrap64 (k + 1) = k + 1 := wrap64_id (by omega) (by omega)
    rw [← hw, ← hk] at e
    have hs : (pre ++ [k % 256]) ++ marks d (wrap64 (k + 1)) = pre ++ marks (d + 1) k := by rw [hk]; simp [marks]
    rw [hs] at e
    refine Ev.step (fun n => laws_heldByteS.l0.eq_2 _ k _ n) (Ev_pos (by simp [marks]; omega) (Ev_pos (by omega) (Ev_pos ?_ (Ev_eq e (by rw [hk]; omega)))))
    simp only [marks]
    exact rd_append_len pre _ _
theorem heldByteS_ev (d : Nat) (k : Int) (h0 : 0 ≤ k) (h1 : k + (d : Int) ≤ 4611686018427387904) (h2 : (d : Int) ≤ 281474976710656) : Ev (fun n => laws_heldByteS.f n (marks d k) k) (k + (d : Int)) := by
  have e := heldByteS_go d [] k h0 h1 (by simpa using h2)
  unfold laws_heldByteS.f
  simpa using e

theorem rdL_at (ls : List (List Int)) (i : Nat) (h : i < ls.length) : rd_L2 ls (i : Int) = ls[i] := by
  unfold rd_L2
  simp [List.getD, h]
theorem rdL_len {ls : List (List Int)} {b : Nat} (hb : ∀ r ∈ ls, r.length ≤ b) (i : Int) : (rd_L2 ls i).length ≤ b := by
  unfold rd_L2
  by_cases h : i.toNat < ls.length
  · simp only [List.getD, List.getElem?_eq_getElem h, Option.getD_some]
    exact hb _ (List.getElem_mem h)
  · simp [List.getD, List.getElem?_eq_none (Nat.le_of_not_lt h)]
theorem eqByteSS_go (a : List (List Int)) (ha : (a.length : Int) ≤ 281474976710656) (hr : ∀ r ∈ a, r.length ≤ 281474976710656) (d : Nat) : ∀ i : Int, 0 ≤ i → i ≤ (a.length : Int) → (a.length : Int) - i = d → Ev (fun k => laws_eqByteSS.l0 k a a i) true := by
  induction d with
  | zero =>
    intro i h0 h1 hd
    exact Ev.step (fun k => laws_eqByteSS.l0.eq_2 a a i k) (Ev_neg (by omega) (Ev_some _))
  | succ d ih =>
    intro i h0 h1 hd
    have e := ih (i + 1) (by omega) (by omega) (by omega)
    have hw : wrap64 (i + 1) = i + 1 := wrap64_id (by omega) (by omega)
    rw [← hw] at e
    have hl := rdL_len hr i
    exact Ev.step (fun k => laws_eqByteSS.l0.eq_2 a a i k) (Ev_pos (by omega) (Ev_pos h0 (Ev_pos (by omega) (Ev.bind (eqByteS_self _ (by omega)) (Ev_pos rfl e)))))
theorem eqByteSS_self (a : List (List Int)) (ha : (a.length : Int) ≤ 281474976710656) (hr : ∀ r ∈ a, r.length ≤ 281474976710656) : Ev (fun k => laws_eqByteSS.f k a a) true :=
  Ev_pos rfl (eqByteSS_go a ha hr a.length 0 (by omega) (by omega) (by omega))
/-- What the marking leaves. -/
def markRows : List (List Int) → Int → List (List Int)
  | [], _ => []
  | r :: rs, k => marks r.length k :: markRows rs (k + (r.length : Int))
theorem flat_row {ls : List (List Int)} : ∀ r ∈ ls, r.length ≤ ls.flatten.length := by
  induction ls with
  | nil => intro r hr; cases hr
  | cons x xs ih =>
    intro r hr
    simp only [List.flatten_cons, List.length_append]
    rcases List.mem_cons.1 hr with rfl | h
    · omega
    · have := ih r h; omega
theorem getD_mid (pre suf : List (List Int)) (r : List Int) : (pre ++ r :: suf).getD ((pre.length : Int)).toNat [] = r := by simp [List.getD]
theorem rdL_mid' (pre suf : List (List Int)) (r : List Int) : rd_L2 (pre ++ r :: suf) (pre.length : Int) = r := by
  unfold rd_L2
  simp [List.getD]
theorem markByteSS_go : ∀ (suf pre : List (List Int)) (k : Int), 0 ≤ k → k + (suf.flatten.length : Int) ≤ 4611686018427387904 → (suf.flatten.length : Int) ≤ 281474976710656 → (pre.length : Int) + (suf.length : Int) ≤ 281474976710656 →
    Ev (fun n => laws_markByteSS.l0 n (pre ++ suf) k (pre.length : Int)) (k + (suf.flatten.length : Int), pre ++ markRows suf k) := by
  intro suf
  induction suf with
  | nil =>
    intro pre k h0 h1 hm h2
    refine Ev.step (fun n => laws_markByteSS.l0.eq_2 _ k _ n) (Ev_neg (by simp) (Ev_eq (Ev_some _) (by simp [markRows])))
  | cons r suf ih =>
    intro pre k h0 h1 hm h2
    simp only [List.length_cons, List.flatten_cons, List.length_append] at h1 h2 hm
    have e := ih (pre ++ [marks r.length k]) (k + (r.length : Int)) (by omega) (by omega) (by omega) (by simp; omega)
    have hw : wrap64 ((pre.length : Int) + 1) = ((pre ++ [marks r.length k]).length : Int) := by rw [wrap64_id (by omega) (by omega)]; simp
    rw [← hw] at e
    have hs : (pre ++ r :: suf).set ((pre.length : Int)).toNat (marks r.length k) = (pre ++ [marks r.length k]) ++ suf := by simp
    rw [← hs] at e
    have hg := getD_mid pre suf r
    refine Ev.step (fun n => laws_markByteSS.l0.eq_2 (pre ++ r :: suf) k _ n) (Ev_pos (by simp; omega) (Ev_pos (by omega) ?_))
    rw [hg]
    refine Ev.bind (markByteS_ev r k h0 (by omega) (by omega)) (Ev_eq e ?_)
    simp only [List.flatten_cons, List.length_append, markRows]
    exact Prod.ext (by simp; omega) (by simp)
theorem markByteSS_ev (ls : List (List Int)) (k : Int) (h0 : 0 ≤ k) (h1 : k + (ls.flatten.length : Int) ≤ 4611686018427387904) (hm : (ls.flatten.length : Int) ≤ 281474976710656) (h2 : (ls.length : Int) ≤ 281474976710656) : Ev (fun n => laws_markByteSS.f n ls k) (k + (ls.flatten.length : Int), markRows ls k) := by
  have e := markByteSS_go ls [] k h0 h1 hm (by simpa using h2)
  unfold laws_markByteSS.f
  simpa using e

theorem heldByteSS_go : ∀ (suf pre : List (List Int)) (k : Int), 0 ≤ k → k + (suf.flatten.length : Int) ≤ 4611686018427387904 → (suf.flatten.length : Int) ≤ 281474976710656 → (pre.length : Int) + (suf.length : Int) ≤ 281474976710656 →
    Ev (fun n => laws_heldByteSS.l0 n (pre ++ markRows suf k) k (pre.length : Int)) (k + (suf.flatten.length : Int)) := by
  intro suf
  induction suf with
  | nil =>
    intro pre k h0 h1 hm h2
    refine Ev.step (fun n => laws_heldByteSS.l0.eq_2 _ k _ n) (Ev_neg (by simp [markRows]) (Ev_eq (Ev_some _) (by simp)))
  | cons r suf ih =>
    intro pre k h0 h1 hm h2
    simp only [List.length_cons, List.flatten_cons, List.length_append] at h1 h2 hm
    have e := ih (pre ++ [marks r.length k]) (k + (r.length : Int)) (by omega) (by omega) (by omega) (by simp; omega)
    have hw : wrap64 ((pre.length : Int) + 1) = ((pre ++ [marks r.length k]).length : Int) := by rw [wrap64_id (by omega) (by omega)]; simp
    rw [← hw] at e
    have hs : (pre ++ [marks r.length k]) ++ markRows suf (k + (r.length : Int)) = pre ++ markRows (r :: suf) k := by simp [markRows]
    rw [hs] at e
    refine Ev.step (fun n => laws_heldByteSS.l0.eq_2 _ k _ n) (Ev_pos (by simp [markRows]; omega) (Ev_pos (by omega) ?_))
    have hg : rd_L2 (pre ++ markRows (r :: suf) k) (pre.length : Int) = marks r.length k := rdL_mid' pre _ _
    rw [hg]
    refine Ev.bind (heldByteS_ev r.length k h0 (by omega) (by omega)) (Ev_neg (by omega) (Ev_eq e ?_))
    simp only [List.flatten_cons, List.length_append]
    omega
theorem heldByteSS_ev (ls : List (List Int)) (k : Int) (h0 : 0 ≤ k) (h1 : k + (ls.flatten.length : Int) ≤ 4611686018427387904) (hm : (ls.flatten.length : Int) ≤ 281474976710656) (h2 : (ls.length : Int) ≤ 281474976710656) : Ev (fun n => laws_heldByteSS.f n (markRows ls k) k) (k + (ls.flatten.length : Int)) := by
  have e := heldByteSS_go ls [] k h0 h1 hm (by simpa using h2)
  unfold laws_heldByteSS.f
  simpa using e

theorem szByteS_ev (l : List Int) (hl : l.length ≤ 9223372036854775807) (a : Int) (h0 : 0 ≤ a) (h1 : a ≤ 1048576) : laws_szByteS.f l a = some (if a - (l.length : Int) < 0 then -1 else a - (l.length : Int)) := by
  unfold laws_szByteS.f
  rw [wrap64_id (by omega) (by omega)]
  split <;> rfl
theorem rdL_max {ls : List (List Int)} (hr : ∀ r ∈ ls, r.length ≤ 9223372036854775807) (i : Int) : (rd_L2 ls i).length ≤ 9223372036854775807 := rdL_len hr i
theorem szByteSS_go : ∀ (suf pre : List (List Int)) (a : Int), (∀ r ∈ suf, r.length ≤ 9223372036854775807) → 0 ≤ a → a ≤ 1048576 → (pre.length : Int) + suf.length ≤ 1048576 →
    ∃ z, Ev (fun k => laws_szByteSS.l0 k (pre ++ suf) a (pre.length : Int)) z ∧ (z < 0 ∨ (0 ≤ z ∧ z = a - (suf.flatten.length : Int))) := by
  intro suf
  induction suf with
  | nil =>
    intro pre a hr h0 h1 h2
    exact ⟨a, Ev.step (fun k => laws_szByteSS.l0.eq_2 _ _ _ k) (Ev_neg (by simp) (Ev_some _)), .inr ⟨h0, by simp⟩⟩
  | cons r suf ih =>
    intro pre a hr h0 h1 h2
    simp only [List.length_cons] at h2
    have hrl := hr r (by simp)
    have es := szByteS_ev r hrl a h0 h1
    have hg : rd_L2 (pre ++ r :: suf) (pre.length : Int) = r := rdL_mid' pre _ _
    have st : ∀ q, Ev (fun k => if (if a - (r.length : Int) < 0 then -1 else a - (r.length : Int)) < 0 then some (-1) else laws_szByteSS.l0 k (pre ++ r :: suf) (if a - (r.length : Int) < 0 then -1 else a - (r.length : Int)) (wrap64 ((pre.length : Int) + 1))) q → Ev (fun k => laws_szByteSS.l0 k (pre ++ r :: suf) a (pre.length : Int)) q := by
      intro q h
      refine Ev.step (fun k => laws_szByteSS.l0.eq_2 _ _ _ k) (Ev_pos (by simp; omega) (Ev_pos (by omega) ?_))
      rw [hg]
      exact Ev_bindc es h
    by_cases hn : a - (r.length : Int) < 0
    · exact ⟨-1, st _ (Ev_pos (by rw [if_pos hn]; omega) (Ev_some _)), .inl (by omega)⟩
    · obtain ⟨z, e, hz⟩ := ih (pre ++ [r]) (a - (r.length : Int)) (fun x hx => hr x (by simp [hx])) (by omega) (by omega) (by simp; omega)
      have hw : wrap64 ((pre.length : Int) + 1) = ((pre ++ [r]).length : Int) := by rw [wrap64_id (by omega) (by omega)]; simp
      have hs : (pre ++ [r]) ++ suf = pre ++ r :: suf := by simp
      rw [hs, ← hw] at e
      refine ⟨z, st _ ?_, hz.imp id (fun h => ⟨h.1, by simp only [List.flatten_cons, List.length_append]; omega⟩)⟩
      rw [if_neg hn]
      exact Ev_neg hn e
theorem szByteSS_ev (ls : List (List Int)) (hl : ls.length ≤ 9223372036854775807) (hr : ∀ r ∈ ls, r.length ≤ 9223372036854775807) (a : Int) (h0 : 0 ≤ a) (h1 : a ≤ 1048576) : ∃ z, Ev (fun k => laws_szByteSS.f k ls a) z ∧ (z < 0 ∨ (0 ≤ z ∧ z = a - (ls.length : Int) - (ls.flatten.length : Int))) := by
  have hw : wrap64 (a - (ls.length : Int)) = a - (ls.length : Int) := wrap64_id (by omega) (by omega)
  by_cases hn : a - (ls.length : Int) < 0
  · refine ⟨-1, ?_, .inl (by omega)⟩
    unfold laws_szByteSS.f
    rw [hw]
    exact Ev_pos hn (Ev_some _)
  · obtain ⟨z, e, hz⟩ := szByteSS_go ls [] (a - (ls.length : Int)) hr (by omega) (by omega) (by simp; omega)
    refine ⟨z, ?_, hz⟩
    unfold laws_szByteSS.f
    rw [hw]
    exact Ev_neg hn (by simpa using e)
theorem toByteSS_go : ∀ (suf pre : List (List Int)) (d : Nat), (∀ r ∈ suf, r.length ≤ 1048576) → (pre.length : Int) + suf.length ≤ 1048576 → d = suf.length →
    Ev (fun k => laws_toByteSS.l0 k (pre ++ suf) (pre ++ List.replicate d []) (pre.length : Int)) (pre ++ suf) := by
  intro suf
  induction suf with
  | nil =>
    intro pre d hr h2 hd
    obtain rfl : d = 0 := hd
    exact Ev.step (fun k => laws_toByteSS.l0.eq_2 _ _ _ k) (Ev_neg (by simp) (Ev_some _))
  | cons r suf ih =>
    intro pre d hr h2 hd
    simp only [List.length_cons] at h2 hd
    subst hd
    have hrl := hr r (by simp)
    have hg : rd_L2 (pre ++ r :: suf) (pre.length : Int) = r := rdL_mid' pre _ _
    have e := ih (pre ++ [r]) suf.length (fun x hx => hr x (by simp [hx])) (by simp; omega) rfl
    have hw : wrap64 ((pre.length : Int) + 1) = ((pre ++ [r]).length : Int) := by rw [wrap64_id (by omega) (by omega)]; simp
    have hs : (pre ++ [r]) ++ suf = pre ++ r :: suf := by simp
    have hs2 : (pre ++ List.replicate (suf.length + 1) ([] : List Int)).set ((pre.length : Int)).toNat r = (pre ++ [r]) ++ List.replicate suf.length [] := by simp [List.replicate_succ]
    rw [hs, ← hs2, ← hw] at e
    refine Ev.step (fun k => laws_toByteSS.l0.eq_2 _ _ _ k) (Ev_pos (by simp; omega) (Ev_pos (by omega) ?_))
    rw [hg]
    exact Ev.bind (toByteS_ev r (by omega)) (Ev_pos (by simp; omega) e)
theorem toByteSS_ev (ls : List (List Int)) (hl : (ls.length : Int) ≤ 1048576) (hr : ∀ r ∈ ls, r.length ≤ 1048576) : Ev (fun k => laws_toByteSS.f k ls) ls := by
  have e := toByteSS_go ls [] ls.length hr (by simpa using hl) rfl
  refine Ev_pos (by omega) (Ev_pos (by omega) ?_)
  rw [Int.toNat_natCast]
  simpa using e

theorem bits_xor_nat (k : IntKind) (j : Nat) (hj : j ≤ k.bits) (hk : ∀ n : Int, 0 ≤ n → n < 2 ^ j → k.wrap n = n) (a b : Nat) (ha : a < 2 ^ j) (hb : b < 2 ^ j) : Go.bits .xor k (a : Int) (b : Int) = ((a ^^^ b : Nat) : Int) := by
  have hp : 2 ^ j ≤ 2 ^ k.bits := Nat.pow_le_pow_right (by decide) hj
  have ha' : a % 2 ^ k.bits = a := Nat.mod_eq_of_lt (Nat.lt_of_lt_of_le ha hp)
  have hb' : b % 2 ^ k.bits = b := Nat.mod_eq_of_lt (Nat.lt_of_lt_of_le hb hp)
  have cast : ∀ n : Nat, n < 2 ^ j → ((n : Nat) : Int) < 2 ^ j := fun n h => by exact_mod_cast h
  simp only [Go.bits, BitVec.ofInt_natCast, BitVec.toNat_xor, BitVec.toNat_ofNat, ha', hb']
  exact hk _ (Int.natCast_nonneg _) (cast _ (Nat.xor_lt_two_pow ha hb))
theorem wraps_u32 (n : Int) (h₀ : 0 ≤ n) (h₁ : n < 2 ^ 32) : IntKind.u32.wrap n = n := by rw [IntKind.wrap_u32]; omega
theorem wraps_i64b (n : Int) (h₀ : 0 ≤ n) (h₁ : n < 2 ^ 63) : IntKind.i64.wrap n = n := by rw [IntKind.wrap_i64]; omega
theorem xor_u32 (a b : Nat) (ha : a < 4294967296) (hb : b < 4294967296) : Go.bits .xor .u32 (a : Int) (b : Int) = ((a ^^^ b : Nat) : Int) := bits_xor_nat .u32 32 (by decide) wraps_u32 a b ha hb
theorem xor_i64 (a b : Nat) (ha : a < 4294967296) (hb : b < 4294967296) : Go.bits .xor .i64 (a : Int) (b : Int) = ((a ^^^ b : Nat) : Int) := bits_xor_nat .i64 63 (by decide) wraps_i64b a b (by omega) (by omega)
theorem and1_u32 (a : Nat) (ha : a < 4294967296) : Go.bits .and .u32 (a : Int) 1 = (a : Int) % 2 := by
  have e := bits_mask .u32 32 (by decide) wraps_u32 1 (by decide) (a : Int) (by omega) (by omega)
  simpa using e
/-- One bit of the sum shifted out. -/
def crcBit (c : Nat) : Nat := if c % 2 = 1 then (c / 2) ^^^ 3988292384 else c / 2
def crcBits : Nat → Nat → Nat
  | 0, c => c
  | n + 1, c => crcBits n (crcBit c)
def crcL : List Int → Nat → Nat
  | [], c => c
  | x :: l, c => crcL l (crcBits 8 (c ^^^ x.toNat))
/-- The check sum of bytes. -/
def crcOf (l : List Int) : Nat := crcL l 4294967295 ^^^ 4294967295
theorem xor_lt32 {a b : Nat} (ha : a < 4294967296) (hb : b < 4294967296) : a ^^^ b < 4294967296 := Nat.xor_lt_two_pow (n := 32) ha hb
theorem crcBit_lt {c : Nat} (h : c < 4294967296) : crcBit c < 4294967296 := by
  unfold crcBit
  split
  · exact xor_lt32 (by omega) (by omega)
  · omega
theorem crcBits_lt : ∀ (n : Nat) {c : Nat}, c < 4294967296 → crcBits n c < 4294967296
  | 0, _, h => h
  | n + 1, _, h => crcBits_lt n (crcBit_lt h)
theorem crcL_lt : ∀ (l : List Int) {c : Nat}, (∀ x ∈ l, 0 ≤ x ∧ x < 256) → c < 4294967296 → crcL l c < 4294967296
  | [], _, _, h => h
  | x :: l, _, hl, h => crcL_lt l (fun y hy => hl y (by simp [hy])) (crcBits_lt 8 (xor_lt32 h (by have := hl x (by simp); omega)))
theorem crcOf_lt (l : List Int) (hl : ∀ x ∈ l, 0 ≤ x ∧ x < 256) : crcOf l < 4294967296 := xor_lt32 (crcL_lt l hl (by omega)) (by omega)
theorem rd_midc (p q : List Int) (x : Int) : rd (p ++ x :: q) (p.length : Int) = x := by
  unfold rd
  simp [List.getD]
theorem spec_crc_bits (l : List Int) (r : Int) (i : Int) (d : Nat) : ∀ (j : Int) (c : Nat), 0 ≤ j → 8 - j = d → c < 4294967296 → Ev (fun k => spec_l01Crc.l0 k l (crcBits d c : Nat) (wrap64 (i + 1))) r → Ev (fun k => spec_l01Crc.l1 k l (c : Int) i j) r := by
  induction d with
  | zero =>
    intro j c h0 hd hc e
    exact Ev.step (fun k => spec_l01Crc.l1.eq_2 _ _ _ _ k) (Ev_neg (by omega) e)
  | succ d ih =>
    intro j c h0 hd hc e
    have e2 := ih (j + 1) (crcBit c) (by omega) (by omega) (crcBit_lt hc) e
    have hj := Aside0.mk (show wrap64 (j + 1) = j + 1 from wrap64_id (by omega) (by omega))
    have ht : Int.tmod (c : Int) 2 = ((c % 2 : Nat) : Int) := by rw [Int.tmod_eq_emod_of_nonneg (by omega)]; omega
    have hq : wrap64 (Int.tdiv (c : Int) 2) = ((c / 2 : Nat) : Int) := by rw [Int.tdiv_eq_ediv_of_nonneg (by omega), wrap64_id (by omega) (by omega)]; omega
    refine Ev.step (fun k => spec_l01Crc.l1.eq_2 _ _ _ _ k) (Ev_pos (by omega) ?_)
    rw [ht, hq, hj.out]
    unfold crcBit at e2
    by_cases h : c % 2 = 1
    · rw [if_pos h] at e2
      rw [show (3988292384 : Int) = ((3988292384 : Nat) : Int) from rfl, xor_i64 _ _ (by omega) (by omega)]
      exact Ev_pos (by omega) e2
    · rw [if_neg h] at e2
      exact Ev_neg (by omega) e2
theorem spec_crc_go (l : List Int) (hl : ∀ x ∈ l, 0 ≤ x ∧ x < 256) (hlen : (l.length : Int) ≤ 281474976710656) : ∀ (suf pre : List Int) (c : Nat), l = pre ++ suf → c < 4294967296 → Ev (fun k => spec_l01Crc.l0 k l (c : Int) (pre.length : Int)) ((crcL suf c ^^^ 4294967295 : Nat) : Int) := by
  intro suf
  induction suf with
  | nil =>
    intro pre c hs hc
    refine Ev.step (fun k => spec_l01Crc.l0.eq_2 _ _ _ k) (Ev_neg (by rw [hs]; simp) (Ev_eq (Ev_some _) ?_))
    rw [show (4294967295 : Int) = ((4294967295 : Nat) : Int) from rfl, xor_i64 _ _ hc (by omega)]
    rfl
  | cons x suf ih =>
    intro pre c hs hc
    have hx := hl x (by rw [hs]; simp)
    have hln : (l.length : Int) = pre.length + 1 + suf.length := by rw [hs]; simp; omega
    have hr : rd l (pre.length : Int) = x := by rw [hs]; exact rd_midc pre suf x
    obtain ⟨b, rfl⟩ := Int.eq_ofNat_of_zero_le hx.1
    have hcb : c ^^^ b < 4294967296 := xor_lt32 hc (by omega)
    have e := ih (pre ++ [(b : Int)]) (crcBits 8 (c ^^^ b)) (by rw [hs]; simp) (crcBits_lt 8 hcb)
    have hw : wrap64 ((pre.length : Int) + 1) = ((pre ++ [(b : Int)]).length : Int) := by rw [wrap64_id (by omega) (by omega)]; simp
    rw [← hw] at e
    refine Ev.step (fun k => spec_l01Crc.l0.eq_2 _ _ _ k) (Ev_pos (by omega) (Ev_pos (by omega) ?_))
    rw [hr, wrap64_id (x := (b : Int)) (by omega) (by omega), xor_i64 _ _ hc (by omega)]
    exact spec_crc_bits l _ _ 8 0 _ (by omega) (by omega) hcb e
theorem l01Crc_ev (l : List Int) (hl : ∀ x ∈ l, 0 ≤ x ∧ x < 256) (hlen : (l.length : Int) ≤ 281474976710656) : Ev (fun k => spec_l01Crc.f k l) (crcOf l : Int) :=
  spec_crc_go l hl hlen l [] 4294967295 rfl (by omega)
theorem impl_crc_bits (l : List Int) (r n : Int) (i : Int) (d : Nat) : ∀ (j : Int) (c : Nat), 0 ≤ j → 8 - j = d → c < 4294967296 → Ev (fun k => impl_crc.l0 k (crcBits d c : Nat) l n (wrap64 (i + 1))) r → Ev (fun k => impl_crc.l1 k (c : Int) l n i j) r := by
  induction d with
  | zero =>
    intro j c h0 hd hc e
    exact Ev.step (fun k => impl_crc.l1.eq_2 _ _ _ _ _ k) (Ev_neg (by omega) e)
  | succ d ih =>
    intro j c h0 hd hc e
    have e2 := ih (j + 1) (crcBit c) (by omega) (by omega) (crcBit_lt hc) e
    have hj := Aside0.mk (show wrap64 (j + 1) = j + 1 from wrap64_id (by omega) (by omega))
    have hq : (c : Int) / 2 = ((c / 2 : Nat) : Int) := by omega
    refine Ev.step (fun k => impl_crc.l1.eq_2 _ _ _ _ _ k) (Ev_pos (by omega) ?_)
    rw [and1_u32 c hc, hq, hj.out]
    unfold crcBit at e2
    by_cases h : c % 2 = 1
    · rw [if_pos h] at e2
      rw [show (3988292384 : Int) = ((3988292384 : Nat) : Int) from rfl, xor_u32 _ _ (by omega) (by omega)]
      exact Ev_pos (by omega) e2
    · rw [if_neg h] at e2
      exact Ev_neg (by omega) e2
theorem impl_crc_go (l : List Int) (hl : ∀ x ∈ l, 0 ≤ x ∧ x < 256) (hlen : (l.length : Int) ≤ 281474976710656) : ∀ (suf pre : List Int) (c : Nat), l = pre ++ suf → c < 4294967296 → Ev (fun k => impl_crc.l0 k (c : Int) l (l.length : Int) (pre.length : Int)) ((crcL suf c ^^^ 4294967295 : Nat) : Int) := by
  intro suf
  induction suf with
  | nil =>
    intro pre c hs hc
    refine Ev.step (fun k => impl_crc.l0.eq_2 _ _ _ _ k) (Ev_neg (by rw [hs]; simp) (Ev_eq (Ev_some _) ?_))
    rw [show (4294967295 : Int) = ((4294967295 : Nat) : Int) from rfl, xor_u32 _ _ (by omega) hc, Nat.xor_comm]
    rfl
  | cons x suf ih =>
    intro pre c hs hc
    have hx := hl x (by rw [hs]; simp)
    have hln : (l.length : Int) = pre.length + 1 + suf.length := by rw [hs]; simp; omega
    have hr : rd l (pre.length : Int) = x := by rw [hs]; exact rd_midc pre suf x
    obtain ⟨b, rfl⟩ := Int.eq_ofNat_of_zero_le hx.1
    have hcb : c ^^^ b < 4294967296 := xor_lt32 hc (by omega)
    have e := ih (pre ++ [(b : Int)]) (crcBits 8 (c ^^^ b)) (by rw [hs]; simp) (crcBits_lt 8 hcb)
    have hw : wrap64 ((pre.length : Int) + 1) = ((pre ++ [(b : Int)]).length : Int) := by rw [wrap64_id (by omega) (by omega)]; simp
    rw [← hw] at e
    refine Ev.step (fun k => impl_crc.l0.eq_2 _ _ _ _ k) (Ev_pos (by omega) (Ev_pos (by omega) (Ev_pos (by omega) ?_)))
    rw [hr, show (b : Int) % 4294967296 = (b : Int) by omega, xor_u32 _ _ hc (by omega)]
    exact impl_crc_bits l _ _ _ 8 0 _ (by omega) (by omega) hcb e
theorem crc_ev (l : List Int) (hl : ∀ x ∈ l, 0 ≤ x ∧ x < 256) (hlen : (l.length : Int) ≤ 281474976710656) : Ev (fun k => impl_crc.f k l) (crcOf l : Int) :=
  impl_crc_go l hl hlen l [] 4294967295 rfl (by omega)

/-- Four bytes of a number, the lowest first. -/
def fourOf (n : Nat) : List Int := [((n % 256 : Nat) : Int), ((n / 256 % 256 : Nat) : Int), ((n / 65536 % 256 : Nat) : Int), ((n / 16777216 % 256 : Nat) : Int)]
theorem fourOf_len (n : Nat) : (fourOf n).length = 4 := rfl
theorem fourOf_u8 (n : Nat) : ∀ x ∈ fourOf n, 0 ≤ x ∧ x < 256 := by
  intro x hx
  simp only [fourOf, List.mem_cons, List.not_mem_nil, or_false] at hx
  rcases hx with rfl | rfl | rfl | rfl <;> omega
theorem sumBytes_ev (l : List Int) (hl : ∀ x ∈ l, 0 ≤ x ∧ x < 256) (hlen : (l.length : Int) ≤ 281474976710656) : Ev (fun k => impl_sumBytes.f k l) (fourOf (crcOf l)) := by
  refine Ev.bind (crc_ev l hl hlen) (Ev_eq (Ev_some _) ?_)
  unfold fourOf
  rw [show (crcOf l : Int) % 256 = ((crcOf l % 256 : Nat) : Int) by omega, show (crcOf l : Int) / 256 % 256 = ((crcOf l / 256 % 256 : Nat) : Int) by omega, show (crcOf l : Int) / 65536 % 256 = ((crcOf l / 65536 % 256 : Nat) : Int) by omega, show (crcOf l : Int) / 16777216 % 256 = ((crcOf l / 16777216 % 256 : Nat) : Int) by omega]
theorem four_ev (n : Nat) (hn : n < 4294967296) : spec_l01Four.f (n : Int) = some (fourOf n) := by
  unfold spec_l01Four.f fourOf
  have t (a : Int) (h : 0 ≤ a) : Int.tmod a 256 % 256 = a % 256 := by rw [Int.tmod_eq_emod_of_nonneg h]; omega
  rw [Int.tdiv_eq_ediv_of_nonneg (by omega), Int.tdiv_eq_ediv_of_nonneg (by omega), Int.tdiv_eq_ediv_of_nonneg (by omega), wrap64_id (x := (n : Int) / 256) (by omega) (by omega), wrap64_id (x := (n : Int) / 65536) (by omega) (by omega), wrap64_id (x := (n : Int) / 16777216) (by omega) (by omega), t _ (by omega), t _ (by omega), t _ (by omega), t _ (by omega)]
  rw [show (n : Int) % 256 = ((n % 256 : Nat) : Int) by omega, show (n : Int) / 256 % 256 = ((n / 256 % 256 : Nat) : Int) by omega, show (n : Int) / 65536 % 256 = ((n / 65536 % 256 : Nat) : Int) by omega, show (n : Int) / 16777216 % 256 = ((n / 16777216 % 256 : Nat) : Int) by omega]

/-- A number's bytes read, i bytes of it read already (n), fuel bytes still let in: the number and how many bytes it has, 0 where there is none, -1 where the bytes end in it. -/
def rdn : Nat → Nat → Int → List Int → Int × Int
  | 0, _, _, _ => (0, 0)
  | _ + 1, _, _, [] => (0, -1)
  | f + 1, i, n, c :: l => if c < 128 then (if 0 < i ∧ c = 0 then (0, 0) else (n + c * 128 ^ i, (i : Int) + 1)) else rdn f (i + 1) (n + (c - 128) * 128 ^ i) l
theorem rdn_range : ∀ (f i : Nat) (n : Int) (l : List Int), (rdn f i n l).2 = 0 ∨ (rdn f i n l).2 = -1 ∨ (1 ≤ (rdn f i n l).2 ∧ (rdn f i n l).2 ≤ i + l.length ∧ (rdn f i n l).2 ≤ i + f)
  | 0, _, _, _ => by simp [rdn]
  | _ + 1, _, _, [] => by simp [rdn]
  | f + 1, i, n, c :: l => by
    simp only [rdn, List.length_cons]
    split
    · split
      · simp
      · simp; omega
    · have := rdn_range f (i + 1) (n + (c - 128) * 128 ^ i) l
      omega
theorem rdn_lo : ∀ (f i : Nat) (n : Int) (l : List Int), (rdn f i n l).2 ≤ 0 → (rdn f i n l).1 = 0
  | 0, _, _, _ => by simp [rdn]
  | _ + 1, _, _, [] => by simp [rdn]
  | f + 1, i, n, c :: l => by
    simp only [rdn]
    split
    · split
      · simp
      · simp; omega
    · exact rdn_lo f (i + 1) _ l
theorem rdn_nonneg : ∀ (f i : Nat) (n : Int) (l : List Int), 0 ≤ n → (∀ x ∈ l, 0 ≤ x ∧ x < 256) → 0 ≤ (rdn f i n l).1
  | 0, _, _, _ => by simp [rdn]
  | _ + 1, _, _, [] => by simp [rdn]
  | f + 1, i, n, c :: l => by
    intro hn hl
    have hc := hl c (by simp)
    have hp : (0 : Int) ≤ 128 ^ i := Int.pow_nonneg (by decide)
    simp only [rdn]
    split
    · split
      · simp
      · have := Int.mul_nonneg hc.1 hp
        simp only
        omega
    · have := Int.mul_nonneg (show 0 ≤ c - 128 by omega) hp
      exact rdn_nonneg f (i + 1) _ l (by omega) (fun x hx => hl x (by simp [hx]))
/-- The number that is read fits 63 bits. -/
theorem rdn_lt : ∀ (f i : Nat) (n : Int) (l : List Int), 0 ≤ n → n < 128 ^ i → (∀ x ∈ l, 0 ≤ x ∧ x < 256) → (rdn f i n l).1 < 128 ^ (i + f)
  | 0, i, n, l, h0, h1, _ => by
    simp only [rdn]
    exact Int.pow_pos (by decide)
  | f + 1, i, n, [], h0, h1, _ => by
    simp only [rdn]
    exact Int.pow_pos (by decide)
  | f + 1, i, n, c :: l, h0, h1, hl => by
    have hc := hl c (by simp)
    have hp : (0 : Int) < 128 ^ i := Int.pow_pos (by decide)
    have hq : (128 : Int) ^ (i + 1) ≤ 128 ^ (i + (f + 1)) := by
      rw [show i + (f + 1) = (i + 1) + f by omega, Int.pow_add (128 : Int) (i + 1) f]
      have : (1 : Int) ≤ 128 ^ f := Int.pow_pos (by decide)
      have hr : (0 : Int) ≤ 128 ^ (i + 1) := Int.pow_nonneg (by decide)
      have := Int.mul_le_mul_of_nonneg_left this hr
      rwa [Int.mul_one] at this
    have hs : (128 : Int) ^ (i + 1) = 128 * 128 ^ i := by rw [Int.pow_succ]; omega
    simp only [rdn]
    split
    · split
      · exact Int.lt_of_lt_of_le (by omega) hq
      · have : c * 128 ^ i ≤ 127 * 128 ^ i := Int.mul_le_mul_of_nonneg_right (by omega) (by omega)
        simp only
        omega
    · have h2 : (c - 128) * 128 ^ i ≤ 127 * 128 ^ i := Int.mul_le_mul_of_nonneg_right (by omega) (by omega)
      have h3 := Int.mul_nonneg (show 0 ≤ c - 128 by omega) (show (0 : Int) ≤ 128 ^ i by omega)
      have := rdn_lt f (i + 1) (n + (c - 128) * 128 ^ i) l (by omega) (by omega) (fun x hx => hl x (by simp [hx]))
      rw [show i + (f + 1) = i + 1 + f by omega]
      exact this
theorem pow128 (i : Nat) : (128 : Int) ^ i = 2 ^ (7 * i) := by rw [Int.pow_mul]; rfl
theorem wraps_i64 (n : Int) (h₀ : 0 ≤ n) (h₁ : n < 2 ^ 63) : IntKind.i64.wrap n = n := by rw [IntKind.wrap_i64]; omega
theorem or_join (n c : Int) (i : Nat) (hi : i ≤ 8) (h0 : 0 ≤ n) (h1 : n < 128 ^ i) (hc0 : 0 ≤ c) (hc1 : c < 128) : Go.bits .or .i64 n (shl .i64 (wrap64 c) (wrap64 (7 * (i : Int)))) = n + c * 128 ^ i := by
  rw [wrap64_id (x := c) (by omega) (by omega), wrap64_id (x := 7 * (i : Int)) (by omega) (by omega)]
  have hm : min (7 * (i : Int)).toNat IntKind.i64.bits = 7 * i := by
    have : IntKind.i64.bits = 64 := rfl
    omega
  have hp : (128 : Int) ^ i ≤ 72057594037927936 := by
    have : (128 : Int) ^ i ≤ 128 ^ 8 := by exact_mod_cast Nat.pow_le_pow_right (by decide : 0 < 128) hi
    omega
  have hp0 : (0 : Int) < 128 ^ i := Int.pow_pos (by decide)
  have hc2 : c * 128 ^ i ≤ 127 * 128 ^ i := Int.mul_le_mul_of_nonneg_right (by omega) (by omega)
  have hc3 := Int.mul_nonneg hc0 (Int.le_of_lt hp0)
  unfold shl
  rw [hm, ← pow128, wraps_i64 _ hc3 (by omega)]
  obtain ⟨a, rfl⟩ := Int.eq_ofNat_of_zero_le h0
  obtain ⟨b, rfl⟩ := Int.eq_ofNat_of_zero_le hc0
  have ha : a < 2 ^ (7 * i) := by rw [pow128] at h1; exact_mod_cast h1
  have hb : (b : Int) * 128 ^ i = ((2 ^ (7 * i) * b : Nat) : Int) := by rw [pow128]; push_cast; rw [Int.mul_comm]
  rw [hb] at hc2 ⊢
  have h8 : (2 : Nat) ^ (7 * i) ≤ 72057594037927936 := by
    have : (2 : Nat) ^ (7 * i) ≤ 2 ^ 56 := Nat.pow_le_pow_right (by decide) (by omega)
    omega
  have e := (bits_nat .i64 63 (by decide) wraps_i64 a (2 ^ (7 * i) * b) (by omega) (by omega)).2
  rw [e, Nat.or_comm, ← Nat.two_pow_add_eq_or_of_lt ha b]
  push_cast
  omega
theorem and127 (c : Int) (h0 : 0 ≤ c) (h1 : c < 256) : Go.bits .and .u8 c 127 = c % 128 := bits_mask .u8 8 (by decide) wraps_u8 7 (by decide) c h0 h1
theorem readNumber_go (l : List Int) (hl : ∀ x ∈ l, 0 ≤ x ∧ x < 256) : ∀ (f i : Nat) (n : Int) (pre suf : List Int), i + f = 9 → l = pre ++ suf → pre.length = i → 0 ≤ n → n < 128 ^ i → Ev (fun k => impl_readNumber.l0 k l n (i : Int)) (rdn f i n suf) := by
  intro f
  induction f with
  | zero =>
    intro i n pre suf hf hs hp h0 h1
    exact Ev.step (fun k => impl_readNumber.l0.eq_2 _ _ _ k) (Ev_neg (by omega) (Ev_some _))
  | succ f ih =>
    intro i n pre suf hf hs hp h0 h1
    cases suf with
    | nil =>
      refine Ev.step (fun k => impl_readNumber.l0.eq_2 _ _ _ k) (Ev_pos (by omega) (Ev_pos (by rw [hs]; simp [hp]) (Ev_some _)))
    | cons c suf =>
      have hc := hl c (by rw [hs]; simp)
      have hlen : (l.length : Int) = (i : Int) + 1 + suf.length := by rw [hs]; simp [hp]; omega
      have hr : rd l (i : Int) = c := by
        rw [hs]; unfold rd; simp [List.getD, ← hp]
      have h7 := Aside0.mk (show wrap64 (7 * (i : Int)) = 7 * (i : Int) from wrap64_id (by omega) (by omega))
      have hi1 := Aside0.mk (show wrap64 ((i : Int) + 1) = ((i + 1 : Nat) : Int) by rw [wrap64_id (by omega) (by omega)]; rfl)
      refine Ev.step (fun k => impl_readNumber.l0.eq_2 _ _ _ k) (Ev_pos (by omega) (Ev_neg (by omega) (Ev_pos (by omega) (Ev_pos (by omega) (Ev_pos (by rw [h7.out]; omega) ?_)))))
      rw [hr, and127 c hc.1 hc.2]
      by_cases h128 : c < 128
      · have hj := Aside0.mk (or_join n (c % 128) i (by omega) h0 h1 (by omega) (by omega))
        rw [hj.out, hi1.out, show c % 128 = c by omega]
        refine Ev_pos h128 ?_
        simp only [rdn, if_pos h128]
        by_cases hz : (i : Int) > 0
        · refine Ev_pos hz ?_
          by_cases hc0 : c = 0
          · exact Ev_pos hc0 (Ev_eq (Ev_some _) (by rw [if_pos ⟨by omega, hc0⟩]))
          · exact Ev_neg hc0 (Ev_eq (Ev_some _) (by rw [if_neg (by omega)]; rfl))
        · exact Ev_neg hz (Ev_eq (Ev_some _) (by rw [if_neg (by omega)]; rfl))
      · have hj := Aside0.mk (or_join n (c % 128) i (by omega) h0 h1 (by omega) (by omega))
        rw [hj.out, hi1.out, show c % 128 = c - 128 by omega]
        refine Ev_neg h128 ?_
        simp only [rdn, if_neg h128]
        have hp0 : (0 : Int) < 128 ^ i := Int.pow_pos (by decide)
        have h2 : (c - 128) * 128 ^ i ≤ 127 * 128 ^ i := Int.mul_le_mul_of_nonneg_right (by omega) (by omega)
        have h3 := Int.mul_nonneg (show 0 ≤ c - 128 by omega) (show (0 : Int) ≤ 128 ^ i by omega)
        have hs2 : (128 : Int) ^ (i + 1) = 128 * 128 ^ i := by rw [Int.pow_succ]; omega
        exact ih (i + 1) _ (pre ++ [c]) suf (by omega) (by rw [hs]; simp) (by simp [hp]) (by omega) (by omega)
theorem readNumber_ev (l : List Int) (hl : ∀ x ∈ l, 0 ≤ x ∧ x < 256) : Ev (fun k => impl_readNumber.f k l) (rdn 9 0 0 l) :=
  readNumber_go l hl 9 0 0 [] l rfl rfl rfl (by omega) (by decide)

/-- What the reference's reader answers at a place, out of the number and its size. -/
def getOf (at_ : Int) (r : Int × Int) : Int × Int × Int := if 0 < r.2 then (r.1, at_ + r.2, 0) else if r.2 = 0 then (0, 0, 2) else (0, 0, 1)
theorem getOf_pos (j : Int) (r : Int × Int) (h : 0 < r.2) : getOf j r = (r.1, j + r.2, 0) := if_pos h
theorem getOf_neg (j : Int) (r : Int × Int) (h : ¬ 0 < r.2) : getOf j r = if r.2 = 0 then (0, 0, 2) else (0, 0, 1) := if_neg h
theorem l01Get_go (l : List Int) (hl : ∀ x ∈ l, 0 ≤ x ∧ x < 256) (hlen : (l.length : Int) ≤ 281474976710656) (j : Nat) : ∀ (f i : Nat) (n u : Int) (pre suf : List Int), i + f = 9 → l = pre ++ suf → pre.length = j + i → 0 ≤ n → n < 128 ^ i → (i < 9 → u = 128 ^ i) → Ev (fun k => spec_l01Get.l0 k l (j : Int) n u (i : Int)) (getOf j (rdn f i n suf)) := by
  intro f
  induction f with
  | zero =>
    intro i n u pre suf hf hs hp h0 h1 hu
    exact Ev.step (fun k => spec_l01Get.l0.eq_2 _ _ _ _ _ k) (Ev_neg (by omega) (Ev_some _))
  | succ f ih =>
    intro i n u pre suf hf hs hp h0 h1 hu
    have hu := hu (by omega)
    subst hu
    have hln : (l.length : Int) = (j : Int) + i + suf.length := by rw [hs]; simp [hp]
    have hw := Aside0.mk (show wrap64 ((j : Int) + (i : Int)) = (j : Int) + (i : Int) from wrap64_id (by omega) (by omega))
    cases suf with
    | nil =>
      refine Ev.step (fun k => spec_l01Get.l0.eq_2 _ _ _ _ _ k) (Ev_pos (by omega) (Ev_pos (by rw [hw.out, hln]; simp) (Ev_some _)))
    | cons c suf =>
      have hc := hl c (by rw [hs]; simp)
      have hr : rd l ((j : Int) + (i : Int)) = c := by
        rw [hs]; unfold rd
        have : ((j : Int) + (i : Int)).toNat = pre.length := by omega
        rw [this]; simp [List.getD]
      simp only [List.length_cons] at hln
      have hi1 := Aside0.mk (show wrap64 ((i : Int) + 1) = ((i + 1 : Nat) : Int) from by rw [wrap64_id (by omega) (by omega)]; rfl)
      have hc64 := Aside0.mk (show wrap64 c = c from wrap64_id (by omega) (by omega))
      have ht := Aside0.mk (show Int.tmod c 128 = c % 128 from Int.tmod_eq_emod_of_nonneg hc.1)
      have hp8 : (128 : Int) ^ i ≤ 72057594037927936 := by
        have : (128 : Int) ^ i ≤ 128 ^ 8 := by exact_mod_cast Nat.pow_le_pow_right (by decide : 0 < 128) (by omega)
        omega
      have hp0 : (0 : Int) < 128 ^ i := Int.pow_pos (by decide)
      have hm0 : (c % 128) * 128 ^ i ≤ 127 * 128 ^ i := Int.mul_le_mul_of_nonneg_right (by omega) (by omega)
      have hm1 := Int.mul_nonneg (show 0 ≤ c % 128 by omega) (Int.le_of_lt hp0)
      have hw1 := Aside0.mk (show wrap64 ((c % 128) * 128 ^ i) = (c % 128) * 128 ^ i from wrap64_id (by omega) (by omega))
      have hw2 := Aside0.mk (show wrap64 (n + (c % 128) * 128 ^ i) = n + (c % 128) * 128 ^ i from wrap64_id (by omega) (by omega))
      refine Ev.step (fun k => spec_l01Get.l0.eq_2 _ _ _ _ _ k) (Ev_pos (by omega) (Ev_neg (by rw [hw.out]; omega) (Ev_pos (by rw [hw.out]; omega) (Ev_pos (by rw [hw.out]; omega) ?_))))
      rw [hw.out, hr, hc64.out, ht.out, hw1.out, hw2.out]
      have hjw := Aside0.mk (show wrap64 ((j : Int) + (i : Int) + 1) = (j : Int) + ((i : Int) + 1) from by rw [wrap64_id (by omega) (by omega)]; omega)
      by_cases h128 : c < 128
      · refine Ev_pos h128 ?_
        rw [show c % 128 = c by omega]
        simp only [rdn, if_pos h128]
        by_cases hz : (i : Int) > 0
        · refine Ev_pos hz (Ev.step (fun k => spec_l01Get.j1.eq_2 _ _ _ _ k) ?_)
          by_cases hc0 : c = 0
          · exact Ev_pos (by simp [hc0]) (Ev_eq (Ev_some _) (by rw [if_pos ⟨by omega, hc0⟩]; rfl))
          · refine Ev_neg (by simp [hc0]) (Ev_eq (Ev_some _) ?_)
            rw [if_neg (by omega), hw.out, hjw.out]
            unfold getOf
            rw [if_pos (by simp only; omega)]
        · refine Ev_neg hz (Ev.step (fun k => spec_l01Get.j1.eq_2 _ _ _ _ k) (Ev_neg (by decide) (Ev_eq (Ev_some _) ?_)))
          rw [if_neg (by omega), hw.out, hjw.out]
          unfold getOf
          rw [if_pos (by simp only; omega)]
      · refine Ev_neg h128 ?_
        rw [show c % 128 = c - 128 by omega] at hm0 hm1 ⊢
        simp only [rdn, if_neg h128]
        have hs2 : (128 : Int) ^ (i + 1) = 128 * 128 ^ i := by rw [Int.pow_succ]; omega
        rw [hi1.out]
        by_cases h8 : (i : Int) < 8
        · refine Ev_pos h8 (ih (i + 1) _ _ (pre ++ [c]) suf (by omega) (by rw [hs]; simp) (by simp [hp]; omega) (by omega) (by omega) (fun _ => ?_))
          have hp7 : (128 : Int) ^ i ≤ 562949953421312 := by
            have : (128 : Int) ^ i ≤ 128 ^ 7 := by exact_mod_cast Nat.pow_le_pow_right (by decide : 0 < 128) (by omega)
            omega
          rw [wrap64_id (by omega) (by omega), hs2]
          omega
        · exact Ev_neg h8 (ih (i + 1) _ _ (pre ++ [c]) suf (by omega) (by rw [hs]; simp) (by simp [hp]; omega) (by omega) (by omega) (fun _ => by omega))
theorem l01Get_ev (l : List Int) (hl : ∀ x ∈ l, 0 ≤ x ∧ x < 256) (hlen : (l.length : Int) ≤ 281474976710656) (j : Nat) (hj : j ≤ l.length) : Ev (fun k => spec_l01Get.f k l (j : Int)) (getOf j (rdn 9 0 0 (l.drop j))) :=
  l01Get_go l hl hlen j 9 0 0 1 (l.take j) (l.drop j) rfl (List.take_append_drop j l).symm (by simp; omega) (by omega) (by decide) (fun _ => rfl)

theorem equal_go (n : Int) : ∀ (s t pre1 pre2 : List Int), s.length = t.length → pre1.length = pre2.length → n = (pre1.length : Int) + s.length → n ≤ 281474976710656 → Ev (fun k => slices_Equal_byte_byte.l0 k (pre1 ++ s) (pre2 ++ t) n (pre1.length : Int)) (decide (s = t)) := by
  intro s
  induction s with
  | nil =>
    intro t pre1 pre2 h1 h2 h3 h4
    have : t = [] := List.eq_nil_of_length_eq_zero (by simpa using h1.symm)
    subst this
    exact Ev.step (fun k => slices_Equal_byte_byte.l0.eq_2 _ _ _ _ k) (Ev_neg (by simp at h3; omega) (Ev_eq (Ev_some _) (by simp)))
  | cons x s ih =>
    intro t pre1 pre2 h1 h2 h3 h4
    cases t with
    | nil => simp at h1
    | cons y t =>
      simp only [List.length_cons] at h1 h3
      have e := ih t (pre1 ++ [x]) (pre2 ++ [y]) (by omega) (by simp [h2]) (by simp; omega) h4
      have hw : wrap64 ((pre1.length : Int) + 1) = ((pre1 ++ [x]).length : Int) := by rw [wrap64_id (by omega) (by omega)]; simp
      rw [← hw, show (pre1 ++ [x]) ++ s = pre1 ++ x :: s by simp, show (pre2 ++ [y]) ++ t = pre2 ++ y :: t by simp] at e
      have r1 : rd (pre1 ++ x :: s) (pre1.length : Int) = x := by unfold rd; simp [List.getD]
      have r2 : rd (pre2 ++ y :: t) (pre1.length : Int) = y := by rw [h2]; unfold rd; simp [List.getD]
      refine Ev.step (fun k => slices_Equal_byte_byte.l0.eq_2 _ _ _ _ k) (Ev_pos (by omega) (Ev_pos (by omega) (Ev_pos (by simp; omega) (Ev_pos (by simp; omega) ?_))))
      rw [r1, r2]
      by_cases hxy : x = y
      · exact Ev_pos hxy (Ev_eq e (by simp [hxy]))
      · exact Ev_neg hxy (Ev_eq (Ev_some _) (by simp [hxy]))
theorem equal_ev (s t : List Int) (hl : (s.length : Int) ≤ 281474976710656) : Ev (fun k => slices_Equal_byte_byte.f k s t) (decide (s = t)) := by
  by_cases h : s.length = t.length
  · exact Ev_pos (by omega) (equal_go _ s t [] [] h rfl (by simp) hl)
  · exact Ev_neg (by omega) (Ev_eq (Ev_some _) (by symm; rw [decide_eq_false_iff_not]; intro e; exact h (by rw [e])))

/-- The frame with which bytes begin: its payload, how many bytes it has (0: it is not whole), a code. -/
def rdFrame (b : List Int) : List Int × Int × Int :=
  if (rdn 9 0 0 b).2 < 0 then ([], 0, 0) else if (rdn 9 0 0 b).2 = 0 then ([], 0, 3) else if (rdn 9 0 0 b).1 > 4096 then ([], 0, 5) else
  if (b.length : Int) < (rdn 9 0 0 b).2 + (rdn 9 0 0 b).1 + 4 then ([], 0, 0) else
  if (b.take ((rdn 9 0 0 b).2 + (rdn 9 0 0 b).1 + 4).toNat).drop ((rdn 9 0 0 b).2 + (rdn 9 0 0 b).1).toNat = fourOf (crcOf ((b.take ((rdn 9 0 0 b).2 + (rdn 9 0 0 b).1).toNat).drop (rdn 9 0 0 b).2.toNat)) then ((b.take ((rdn 9 0 0 b).2 + (rdn 9 0 0 b).1).toNat).drop (rdn 9 0 0 b).2.toNat, (rdn 9 0 0 b).2 + (rdn 9 0 0 b).1 + 4, 0) else ([], 0, 8)
theorem readFrame_ev (b : List Int) (hb : ∀ x ∈ b, 0 ≤ x ∧ x < 256) (hlen : (b.length : Int) < 140737488355328) : Ev (fun k => impl_readFrame.f k b) (rdFrame b) := by
  have e1 := readNumber_ev b hb
  have hr := rdn_range 9 0 0 b
  have hn := rdn_nonneg 9 0 0 b (by omega) hb
  refine Ev.bind e1 ?_
  unfold rdFrame
  generalize rdn 9 0 0 b = r at hr hn ⊢
  obtain ⟨n, s⟩ := r
  simp only at hr hn ⊢
  by_cases h1 : s < 0
  · rw [if_pos h1]; exact Ev_pos h1 (Ev_some _)
  rw [if_neg h1]
  refine Ev_neg h1 ?_
  by_cases h2 : s = 0
  · rw [if_pos h2]; exact Ev_pos h2 (Ev_some _)
  rw [if_neg h2]
  refine Ev_neg h2 ?_
  by_cases h3 : n > 4096
  · rw [if_pos h3]; exact Ev_pos h3 (Ev_some _)
  rw [if_neg h3]
  refine Ev_neg h3 ?_
  have w1 := Aside0.mk (show wrap64 (s + n) = s + n from wrap64_id (by omega) (by omega))
  have w2 := Aside0.mk (show wrap64 (s + n + 4) = s + n + 4 from wrap64_id (by omega) (by omega))
  rw [w1.out, w2.out]
  by_cases h4 : (b.length : Int) < s + n + 4
  · rw [if_pos h4]; exact Ev_pos h4 (Ev_some _)
  rw [if_neg h4]
  refine Ev_neg h4 (Ev_pos (by omega) (Ev_pos (by omega) (Ev_pos (by omega) (Ev_pos (by omega) (Ev_pos (by omega) (Ev_pos (by omega) ?_))))))
  have hp : ∀ x ∈ (b.take (s + n).toNat).drop s.toNat, 0 ≤ x ∧ x < 256 := fun x hx => hb x (List.mem_of_mem_take (List.mem_of_mem_drop hx))
  refine Ev.bind (sumBytes_ev _ hp (by simp; omega)) (Ev.bind (equal_ev _ _ (by simp; omega)) ?_)
  by_cases h5 : (b.take (s + n + 4).toNat).drop (s + n).toNat = fourOf (crcOf ((b.take (s + n).toNat).drop s.toNat))
  · rw [if_pos h5]
    refine Ev_pos (decide_eq_true h5) (Ev_bindc ?_ (Ev_some _))
    unfold slices_Clone_byte_byte.f
    rw [if_pos (by simp; omega)]
  · rw [if_neg h5]
    exact Ev_neg (by simpa using h5) (Ev_some _)

theorem rdFrame_size (b : List Int) (hb : ∀ x ∈ b, 0 ≤ x ∧ x < 256) : ((rdFrame b).2.2 = 0 ∧ (rdFrame b).2.1 = 0) ∨ ((rdFrame b).2.2 = 0 ∧ 5 ≤ (rdFrame b).2.1 ∧ (rdFrame b).2.1 ≤ b.length ∧ ((rdFrame b).1.length : Int) + 5 ≤ (rdFrame b).2.1) ∨ (rdFrame b).2.2 = 3 ∨ (rdFrame b).2.2 = 5 ∨ (rdFrame b).2.2 = 8 := by
  have hr := rdn_range 9 0 0 b
  have hn := rdn_nonneg 9 0 0 b (by omega) hb
  unfold rdFrame
  generalize rdn 9 0 0 b = r at hr hn ⊢
  obtain ⟨n, s⟩ := r
  simp only at hr hn ⊢
  by_cases h1 : s < 0
  · rw [if_pos h1]; exact .inl ⟨rfl, rfl⟩
  rw [if_neg h1]
  by_cases h2 : s = 0
  · rw [if_pos h2]; exact .inr (.inr (.inl rfl))
  rw [if_neg h2]
  by_cases h3 : n > 4096
  · rw [if_pos h3]; exact .inr (.inr (.inr (.inl rfl)))
  rw [if_neg h3]
  by_cases h4 : (b.length : Int) < s + n + 4
  · rw [if_pos h4]; exact .inl ⟨rfl, rfl⟩
  rw [if_neg h4]
  by_cases h5 : (b.take (s + n + 4).toNat).drop (s + n).toNat = fourOf (crcOf ((b.take (s + n).toNat).drop s.toNat))
  · rw [if_pos h5]
    refine .inr (.inl ⟨rfl, ?_, ?_, ?_⟩) <;> simp only [List.length_drop, List.length_take] <;> omega
  · rw [if_neg h5]; exact .inr (.inr (.inr (.inr rfl)))
/-- The specification's comparing of the sum. -/
theorem next_go (l p s : List Int) (m j : Int) (hlen : (l.length : Int) ≤ 281474976710656) (hs : s.length = 4) (h0 : 0 ≤ j + m) (hm : 0 ≤ m) (hj : 0 ≤ j) (hl : j + m + 4 ≤ l.length) : ∀ (d i : Nat), i + d = 4 → (l.drop (j + m).toNat).take i = s.take i →
    Ev (fun k => spec_l01Next.l0 k l m j p s (i : Int)) (if (l.drop (j + m).toNat).take 4 = s then (p, j + m + 4, 0) else ([], 0, 8)) := by
  have w0 : wrap64 (j + m) = j + m := wrap64_id (by omega) (by omega)
  have w4 : wrap64 (j + m + 4) = j + m + 4 := wrap64_id (by omega) (by omega)
  intro d
  induction d with
  | zero =>
    intro i hi he
    obtain rfl : i = 4 := by omega
    refine Ev.step (fun k => spec_l01Next.l0.eq_2 l m j p s _ k) (Ev_neg (by omega) (Ev_eq (Ev_some _) ?_))
    rw [if_pos (by rw [he]; exact List.take_of_length_le (by omega)), w0, w4]
  | succ d ih =>
    intro i hi he
    have hw : wrap64 (wrap64 (j + m) + (i : Int)) = j + m + (i : Int) := by rw [w0, wrap64_id (by omega) (by omega)]
    have hw1 : wrap64 ((i : Int) + 1) = ((i + 1 : Nat) : Int) := by rw [wrap64_id (by omega) (by omega)]; omega
    refine Ev.step (fun k => spec_l01Next.l0.eq_2 l m j p s _ k) (Ev_pos (by omega) ?_)
    rw [hw]
    refine Ev_pos (by omega) (Ev_pos (by omega) (Ev_pos (by omega) (Ev_pos (by omega) ?_)))
    have a1 : rd l (j + m + (i : Int)) = l[(j + m).toNat + i]'(by omega) := by
      unfold rd
      rw [show (j + m + (i : Int)).toNat = (j + m).toNat + i by omega]
      simp [List.getD, show (j + m).toNat + i < l.length by omega]
    have a2 : rd s (i : Int) = s[i]'(by omega) := by
      unfold rd
      simp [List.getD, show i < s.length by omega]
    have b1 : (l.drop (j + m).toNat).take (i + 1) = (l.drop (j + m).toNat).take i ++ [l[(j + m).toNat + i]'(by omega)] := by
      rw [List.take_succ_eq_append_getElem (by simp; omega)]
      simp
    have b2 : s.take (i + 1) = s.take i ++ [s[i]'(by omega)] := by rw [List.take_succ_eq_append_getElem (by omega)]
    by_cases hc : rd l (j + m + (i : Int)) = rd s (i : Int)
    · refine Ev_pos hc ?_
      rw [hw1]
      exact ih (i + 1) (by omega) (by rw [b1, b2, he, ← a1, ← a2, hc])
    · refine Ev_neg hc (Ev_eq (Ev_some _) ?_)
      rw [if_neg]
      intro hh
      have h2 : (l.drop (j + m).toNat).take (i + 1) = s.take (i + 1) := by rw [← hh, List.take_take, Nat.min_eq_left (by omega)]
      rw [b1, b2, he] at h2
      have h3 := List.append_cancel_left h2
      injection h3 with h3
      exact hc (by rw [a1, a2, h3])
def nextOf (j : Int) (r : List Int × Int × Int) : List Int × Int × Int := if r.2.2 = 0 then (if r.2.1 = 0 then ([], 0, 1) else (r.1, j + r.2.1, 0)) else ([], 0, r.2.2)
theorem next_ev (l : List Int) (hl : ∀ x ∈ l, 0 ≤ x ∧ x < 256) (hlen : (l.length : Int) ≤ 65536) (j : Nat) (hj : j ≤ l.length) : Ev (fun k => spec_l01Next.f k l (j : Int)) (nextOf j (rdFrame (l.drop j))) := by
  have hb : ∀ x ∈ l.drop j, 0 ≤ x ∧ x < 256 := fun x hx => hl x (List.mem_of_mem_drop hx)
  have e1 := l01Get_ev l hl (by omega) j hj
  have hr := rdn_range 9 0 0 (l.drop j)
  have hn := rdn_nonneg 9 0 0 (l.drop j) (by omega) hb
  refine Ev.bind e1 ?_
  unfold rdFrame
  have hdl : (l.drop j).length = l.length - j := List.length_drop
  generalize rdn 9 0 0 (l.drop j) = r at hr hn ⊢
  obtain ⟨n, s⟩ := r
  simp only at hr hn ⊢
  by_cases h1 : s < 0
  · rw [if_pos h1, getOf_neg _ _ (by simp only; omega), if_neg (by simp only; omega)]
    exact Ev_pos rfl (Ev_some _)
  rw [if_neg h1]
  by_cases h2 : s = 0
  · rw [if_pos h2, getOf_neg _ _ (by simp only; omega), if_pos h2]
    exact Ev_neg (by decide) (Ev_pos rfl (Ev_some _))
  rw [if_neg h2, getOf_pos _ _ (by simp only; omega)]
  refine Ev_neg (by simp) (Ev_neg (by simp) ?_)
  dsimp only
  by_cases h3 : n > 4096
  · rw [if_pos h3]; exact Ev_pos h3 (Ev_some _)
  rw [if_neg h3]
  refine Ev_neg h3 ?_
  have w1 := Aside0.mk (show wrap64 ((j : Int) + s + n) = (j : Int) + s + n from wrap64_id (by omega) (by omega))
  have w2 := Aside0.mk (show wrap64 ((j : Int) + s + n + 4) = (j : Int) + s + n + 4 from wrap64_id (by omega) (by omega))
  rw [w1.out, w2.out]
  by_cases h4 : ((l.drop j).length : Int) < s + n + 4
  · rw [if_pos h4]; exact Ev_pos (by omega) (Ev_some _)
  rw [if_neg h4]
  refine Ev_neg (by omega) (Ev_bindc rfl (Ev_pos (by omega) (Ev_pos (by omega) (Ev_pos (by omega) (Ev_pos ?_ (Ev_bindc rfl ?_))))))
  · simp only [List.length_nil, List.length_drop, List.length_take]; omega
  have hpay : ([] : List Int) ++ (l.take ((j : Int) + s + n).toNat).drop ((j : Int) + s).toNat = ((l.drop j).take (s + n).toNat).drop s.toNat := by
    rw [List.nil_append, List.take_drop, List.drop_drop]
    congr 2 <;> omega
  rw [hpay]
  have hp : ∀ x ∈ ((l.drop j).take (s + n).toNat).drop s.toNat, 0 ≤ x ∧ x < 256 := fun x hx => hb x (List.mem_of_mem_take (List.mem_of_mem_drop hx))
  have hcl := crcOf_lt _ hp
  refine Ev.bind (l01Crc_ev _ hp (by simp only [List.length_drop, List.length_take]; omega)) (Ev_bindc (four_ev _ hcl) ?_)
  have e4 := next_go l (((l.drop j).take (s + n).toNat).drop s.toNat) (fourOf (crcOf (((l.drop j).take (s + n).toNat).drop s.toNat))) n ((j : Int) + s) (by omega) (fourOf_len _) (by omega) hn (by omega) (by omega) 4 0 rfl rfl
  refine Ev_eq e4 ?_
  have hsum : (l.drop ((j : Int) + s + n).toNat).take 4 = ((l.drop j).take (s + n + 4).toNat).drop (s + n).toNat := by
    rw [List.drop_take, List.drop_drop, show (s + n + 4).toNat - (s + n).toNat = 4 by omega, show j + (s + n).toNat = ((j : Int) + s + n).toNat by omega]
  rw [hsum]
  by_cases h5 : ((l.drop j).take (s + n + 4).toNat).drop (s + n).toNat = fourOf (crcOf (((l.drop j).take (s + n).toNat).drop s.toNat))
  · rw [if_pos h5, if_pos h5]
    unfold nextOf
    rw [if_pos rfl, if_neg (by simp only; omega)]
    simp only [Prod.mk.injEq, true_and, and_true]
    omega
  · rw [if_neg h5, if_neg h5]; rfl
theorem drop_all (l : List Int) : rdFrame (l.drop l.length) = ([], 0, 0) := by rw [List.drop_length]; rfl
/-- The two ways through frames side by side. -/
theorem both_frames (l : List Int) (hl : ∀ x ∈ l, 0 ≤ x ∧ x < 256) (hlen : (l.length : Int) ≤ 65536) : ∀ (d j : Nat) (acc : List (List Int)), j ≤ l.length → l.length - j ≤ d → (acc.flatten.length : Int) + acc.length ≤ j →
    (∃ (out : List (List Int)) (at_ : Nat), at_ ≤ l.length ∧ (out.flatten.length : Int) + out.length ≤ l.length ∧ Ev (fun k => impl_unframe.l0 k l acc (j : Int)) (out, (at_ : Int), 0) ∧ Ev (fun k => spec_l01All.l0 k l acc (j : Int)) (out, (at_ : Int), 0)) ∨
    (∃ (out : List (List Int)) (at_ c : Int), c ≠ 0 ∧ Ev (fun k => impl_unframe.l0 k l acc (j : Int)) ([], at_, c) ∧ Ev (fun k => spec_l01All.l0 k l acc (j : Int)) (out, at_, c)) := by
  intro d
  induction d with
  | zero =>
    intro j acc hj hd hacc
    obtain rfl : j = l.length := by omega
    refine .inl ⟨acc, l.length, Nat.le_refl _, by omega, ?_, ?_⟩
    · refine Ev.step (fun k => impl_unframe.l0.eq_2 l acc _ k) (Ev_pos (by omega) (Ev_pos (by omega) ?_))
      rw [Int.toNat_natCast]
      refine Ev.bind (readFrame_ev _ (fun x hx => hl x (List.mem_of_mem_drop hx)) (by simp)) ?_
      rw [drop_all]
      exact Ev_pos rfl (Ev_pos rfl (Ev_some _))
    · exact Ev.step (fun k => spec_l01All.l0.eq_2 l acc _ k) (Ev_neg (by omega) (Ev_some _))
  | succ d ih =>
    intro j acc hj hd hacc
    by_cases hjl : j = l.length
    · exact by
        subst hjl
        refine .inl ⟨acc, l.length, Nat.le_refl _, by omega, ?_, ?_⟩
        · refine Ev.step (fun k => impl_unframe.l0.eq_2 l acc _ k) (Ev_pos (by omega) (Ev_pos (by omega) ?_))
          rw [Int.toNat_natCast]
          refine Ev.bind (readFrame_ev _ (fun x hx => hl x (List.mem_of_mem_drop hx)) (by simp)) ?_
          rw [drop_all]
          exact Ev_pos rfl (Ev_pos rfl (Ev_some _))
        · exact Ev.step (fun k => spec_l01All.l0.eq_2 l acc _ k) (Ev_neg (by omega) (Ev_some _))
    have hb : ∀ x ∈ l.drop j, 0 ≤ x ∧ x < 256 := fun x hx => hl x (List.mem_of_mem_drop hx)
    have f1 := readFrame_ev (l.drop j) hb (by simp; omega)
    have f2 := next_ev l hl hlen j hj
    have hs := rdFrame_size (l.drop j) hb
    have hdl : (l.drop j).length = l.length - j := List.length_drop
    have i1 : ∀ r, Ev (fun k => (impl_readFrame.f k (l.drop j)).bind fun bt135 => (if bt135.2.2 = 0 then (if bt135.2.1 = 0 then (some (acc, (j : Int), 0)) else (if acc.length < 5864062014805 then (impl_unframe.l0 k l (acc ++ [bt135.1]) (wrap64 ((j : Int) + bt135.2.1))) else (none))) else (some (([] : List (List Int)), (j : Int), bt135.2.2)))) r → Ev (fun k => impl_unframe.l0 k l acc (j : Int)) r := by
      intro r h
      refine Ev.step (fun k => impl_unframe.l0.eq_2 l acc _ k) (Ev_pos (by omega) (Ev_pos (by omega) ?_))
      rw [Int.toNat_natCast]
      exact h
    have i2 : ∀ r, Ev (fun k => (spec_l01Next.f k l (j : Int)).bind fun bt188 => (if bt188.2.2 = 1 then (some (acc, (j : Int), 0)) else (if bt188.2.2 = 0 then (if acc.length < 5864062014805 then (spec_l01All.l0 k l (acc ++ [bt188.1]) bt188.2.1) else (none)) else (some (acc, (j : Int), bt188.2.2))))) r → Ev (fun k => spec_l01All.l0 k l acc (j : Int)) r :=
      fun r h => Ev.step (fun k => spec_l01All.l0.eq_2 l acc _ k) (Ev_pos (by omega) h)
    generalize rdFrame (l.drop j) = r at f1 f2 hs
    obtain ⟨p, s, c⟩ := r
    simp only at hs
    rcases hs with ⟨rfl, rfl⟩ | ⟨rfl, h5, h6, h7⟩ | hc
    · exact .inl ⟨acc, j, hj, by omega, i1 _ (Ev.bind f1 (Ev_pos rfl (Ev_pos rfl (Ev_some _)))), i2 _ (Ev.bind f2 (Ev_pos rfl (Ev_some _)))⟩
    · obtain ⟨s, rfl⟩ := Int.eq_ofNat_of_zero_le (show 0 ≤ s by omega)
      have hf2 : nextOf (j : Int) (p, (s : Int), 0) = (p, ((j + s : Nat) : Int), 0) := by
        unfold nextOf
        rw [if_pos rfl, if_neg (by simp only; omega)]
        rw [Int.natCast_add]
      rw [hf2] at f2
      have hw : wrap64 ((j : Int) + (s : Int)) = ((j + s : Nat) : Int) := by rw [wrap64_id (by omega) (by omega)]; omega
      have hx := ih (j + s) (acc ++ [p]) (by omega) (by omega) (by simp only [List.flatten_append, List.flatten_cons, List.flatten_nil, List.length_append, List.length_cons, List.length_nil]; omega)
      have k1 : ∀ r, Ev (fun k => impl_unframe.l0 k l (acc ++ [p]) ((j + s : Nat) : Int)) r → Ev (fun k => impl_unframe.l0 k l acc (j : Int)) r := by
        intro r h
        refine i1 r (Ev.bind f1 (Ev_pos rfl (Ev_neg (by simp only; omega) (Ev_pos (by omega) ?_))))
        simp only
        rw [hw]
        exact h
      have k2 : ∀ r, Ev (fun k => spec_l01All.l0 k l (acc ++ [p]) ((j + s : Nat) : Int)) r → Ev (fun k => spec_l01All.l0 k l acc (j : Int)) r :=
        fun r h => i2 r (Ev.bind f2 (Ev_neg (by simp) (Ev_pos rfl (Ev_pos (by omega) h))))
      rcases hx with ⟨out, a, h1, h2, h3, h4⟩ | ⟨out, a, c, h1, h2, h3⟩
      · exact .inl ⟨out, a, h1, h2, k1 _ h3, k2 _ h4⟩
      · exact .inr ⟨out, a, c, h1, k1 _ h2, k2 _ h3⟩
    · have hc0 : c ≠ 0 := by omega
      have hf2 : nextOf (j : Int) (p, s, c) = ([], 0, c) := by unfold nextOf; rw [if_neg hc0]
      rw [hf2] at f2
      exact .inr ⟨acc, j, c, hc0, i1 _ (Ev.bind f1 (Ev_neg hc0 (Ev_some _))), i2 _ (Ev.bind f2 (Ev_neg (by simp only; omega) (Ev_neg hc0 (Ev_some _))))⟩

theorem clone_ok (l : List Int) (h : (l.length : Int) ≤ 4194304) : slices_Clone_byte_byte.f l = some l := by
  unfold slices_Clone_byte_byte.f
  rw [if_pos (by omega)]
/-- The two ways through the chunks side by side. -/
theorem feed_go (ch : List (List Int)) (hch : ∀ c ∈ ch, (∀ x ∈ c, 0 ≤ x ∧ x < 256) ∧ (c.length : Int) ≤ 1048576) (hlen : (ch.length : Int) ≤ 4096) : ∀ (suf pre : List (List Int)) (held : List Int) (out : List (List Int)), ch = pre ++ suf →
    (∀ x ∈ held, 0 ≤ x ∧ x < 256) → (held.length : Int) ≤ 65536 → (out.flatten.length : Int) + out.length ≤ pre.length * 65536 →
    ∃ (o : List (List Int)) (r : List Int) (c : Int), (o.flatten.length : Int) + o.length ≤ 268435456 ∧ (r.length : Int) ≤ 65536 ∧
      Ev (fun k => impl_Feed.l0 k held out ch (ch.length : Int) (pre.length : Int)) (o, r, c) ∧ Ev (fun k => spec_Feed.l0 k ch [] out held (pre.length : Int)) (o, r, c) := by
  intro suf
  induction suf with
  | nil =>
    intro pre held out hs hb hl ho
    have hpl : (ch.length : Int) = pre.length := by rw [hs]; simp
    refine ⟨out, held, 0, by omega, hl, ?_, ?_⟩
    · exact Ev.step (fun k => impl_Feed.l0.eq_2 held out ch _ _ k) (Ev_neg (by omega) (Ev_some _))
    · exact Ev.step (fun k => spec_Feed.l0.eq_2 ch [] out held _ k) (Ev_neg (by omega) (Ev_some _))
  | cons c suf ih =>
    intro pre held out hs hb hl ho
    have hpl : (ch.length : Int) = pre.length + 1 + suf.length := by rw [hs]; simp; omega
    obtain ⟨hcb, hcl⟩ := hch c (by rw [hs]; simp)
    have hr : rd_L2 ch (pre.length : Int) = c := by rw [hs]; exact rdL_mid' pre _ _
    have hw := Aside0.mk (show wrap64 ((held.length : Int) + (c.length : Int)) = (held.length : Int) + (c.length : Int) from wrap64_id (by omega) (by omega))
    have hw1 : wrap64 ((pre.length : Int) + 1) = ((pre ++ [c]).length : Int) := by rw [wrap64_id (by omega) (by omega)]; simp
    by_cases hm : (held.length : Int) + (c.length : Int) > 65536
    · refine ⟨[], [], 7, by simp, by simp, ?_, ?_⟩
      · refine Ev.step (fun k => impl_Feed.l0.eq_2 held out ch _ _ k) (Ev_pos (by omega) (Ev_pos (by omega) (Ev_pos (by omega) ?_)))
        rw [hr, hw.out]
        exact Ev_pos hm (Ev_some _)
      · refine Ev.step (fun k => spec_Feed.l0.eq_2 ch [] out held _ k) (Ev_pos (by omega) (Ev_pos (by omega) ?_))
        rw [hr, hw.out]
        exact Ev_pos hm (Ev_some _)
    · have hyb : ∀ x ∈ held ++ c, 0 ≤ x ∧ x < 256 := fun x hx => (List.mem_append.1 hx).elim (hb x) (hcb x)
      have hyl : ((held ++ c).length : Int) = held.length + c.length := by simp
      have i1 : ∀ r, Ev (fun k => (impl_unframe.f k (held ++ c)).bind fun bt => (if bt.2.2 = 0 then (if out.length + bt.1.length < 5864062014805 then (if 0 ≤ bt.2.1 then (if bt.2.1 ≤ ((held ++ c).length : Int) then ((slices_Clone_byte_byte.f ((held ++ c).drop (bt.2.1 : Int).toNat)).bind fun t => (impl_Feed.l0 k t (out ++ bt.1) ch (ch.length : Int) (wrap64 ((pre.length : Int) + 1)))) else (none)) else (none)) else (none)) else (some (([] : List (List Int)), ([] : List Int), bt.2.2)))) r →
          Ev (fun k => impl_Feed.l0 k held out ch (ch.length : Int) (pre.length : Int)) r := by
        intro r h
        refine Ev.step (fun k => impl_Feed.l0.eq_2 held out ch _ _ k) (Ev_pos (by omega) (Ev_pos (by omega) (Ev_pos (by omega) ?_)))
        rw [hr, hw.out]
        exact Ev_neg (by omega) (Ev_pos (by omega) (Ev_bindc rfl h))
      have i2 : ∀ r, Ev (fun k => (spec_l01All.f k (held ++ c)).bind fun bt => (if bt.2.2 = 0 then (if out.length + bt.1.length < 5864062014805 then ((some (([] : List Int) : List Int)).bind fun y => (if 0 ≤ bt.2.1 then (if bt.2.1 ≤ ((held ++ c).length : Int) then ((some ((held ++ c).drop (bt.2.1 : Int).toNat : List Int)).bind fun y2 => (if y.length + y2.length < 140737488355328 then (spec_Feed.l0 k ch [] (out ++ bt.1) (y ++ y2) (wrap64 ((pre.length : Int) + 1))) else (none))) else (none)) else (none))) else (none)) else (some (([] : List (List Int)), (([] : List Int)), bt.2.2)))) r →
          Ev (fun k => spec_Feed.l0 k ch [] out held (pre.length : Int)) r := by
        intro r h
        refine Ev.step (fun k => spec_Feed.l0.eq_2 ch [] out held _ k) (Ev_pos (by omega) (Ev_pos (by omega) ?_))
        rw [hr, hw.out]
        exact Ev_neg (by omega) (Ev_pos (by omega) (Ev_bindc rfl h))
      rcases both_frames (held ++ c) hyb (by omega) (held ++ c).length 0 [] (by omega) (by omega) (by simp) with ⟨own, a, h1, h2, h3, h4⟩ | ⟨own, a, cd, h1, h2, h3⟩
      · have e := ih (pre ++ [c]) ((held ++ c).drop a) (out ++ own) (by rw [hs]; simp) (fun x hx => hyb x (List.mem_of_mem_drop hx)) (by rw [List.length_drop]; omega) (by
          simp only [List.flatten_append, List.length_append, List.length_cons, List.length_nil]
          omega)
        obtain ⟨o, r, cd, k1, k2, k3, k4⟩ := e
        rw [← hw1] at k3 k4
        refine ⟨o, r, cd, k1, k2, i1 _ (Ev.bind (g := fun k => impl_unframe.f k (held ++ c)) h3 (Ev_pos rfl (Ev_pos (by dsimp only; omega) (Ev_pos (by dsimp only; omega) (Ev_pos (by dsimp only; omega) (Ev_bindc (clone_ok _ (by dsimp only; rw [List.length_drop]; omega)) ?_)))))),
          i2 _ (Ev.bind (g := fun k => spec_l01All.f k (held ++ c)) h4 (Ev_pos rfl (Ev_pos (by dsimp only; omega) (Ev_bindc rfl (Ev_pos (by dsimp only; omega) (Ev_pos (by dsimp only; omega) (Ev_bindc rfl (Ev_pos (by dsimp only; simp only [List.length_nil, List.length_drop]; omega) ?_))))))))⟩
        · simp only [Int.toNat_natCast]
          exact k3
        · simp only [Int.toNat_natCast, List.nil_append]
          exact k4
      · exact ⟨[], [], cd, by simp, by simp, i1 _ (Ev.bind (g := fun k => impl_unframe.f k (held ++ c)) h2 (Ev_neg h1 (Ev_some _))), i2 _ (Ev.bind (g := fun k => spec_l01All.f k (held ++ c)) h3 (Ev_neg h1 (Ev_some _)))⟩
theorem first_two (a b : Int) : Ev (fun k => impl_first.f k [a, b]) (if a = 0 then b else a) := by
  have s0 : ∀ k, impl_first.l0 (k + 1) [a, b] 2 0 = if a = 0 then impl_first.l0 k [a, b] 2 1 else some a := fun k => by
    simp only [impl_first.l0]
    by_cases h : a = 0 <;> simp [rd, wrap64, h]
  have s1 : ∀ k, impl_first.l0 (k + 1) [a, b] 2 1 = if b = 0 then impl_first.l0 k [a, b] 2 2 else some b := fun k => by
    simp only [impl_first.l0]
    by_cases h : b = 0 <;> simp [rd, wrap64, h]
  have s2 : ∀ k, impl_first.l0 (k + 1) [a, b] 2 2 = some 0 := fun k => by simp [impl_first.l0]
  refine ⟨3, fun k hk => ?_⟩
  obtain ⟨k, rfl⟩ : ∃ m, k = m + 3 := ⟨k - 3, by omega⟩
  show impl_first.l0 (k + 2 + 1) [a, b] 2 0 = _
  rw [s0]
  by_cases ha : a = 0
  · rw [if_pos ha, if_pos ha, s1]
    by_cases hb : b = 0
    · rw [if_pos hb, s2, hb]
    · rw [if_neg hb]
  · rw [if_neg ha, if_neg ha]
theorem both_feed (l : List Int) (hl : ∀ x ∈ l, 0 ≤ x ∧ x < 256) (hll : (l.length : Int) ≤ 1048576) (ch : List (List Int)) (hch : ∀ c ∈ ch, (∀ x ∈ c, 0 ≤ x ∧ x < 256) ∧ (c.length : Int) ≤ 1048576) :
    ∃ (o : List (List Int)) (r : List Int) (c : Int), (o.flatten.length : Int) + o.length ≤ 268435456 ∧ (r.length : Int) ≤ 65536 ∧ Ev (fun k => impl_Feed.f k l ch) (o, r, c) ∧ Ev (fun k => spec_Feed.f k l ch) (o, r, c) := by
  have hL : impl_longBytes.f l = some (if (l.length : Int) ≤ 65536 then 0 else 2) := by
    unfold impl_longBytes.f impl_unless.f
    by_cases h : (l.length : Int) ≤ 65536 <;> simp [h]
  have hM : impl_longList.f (ch.length : Int) = some (if (ch.length : Int) ≤ 4096 then 0 else 2) := by
    unfold impl_longList.f impl_unless.f
    by_cases h : (ch.length : Int) ≤ 4096 <;> simp [h]
  have spec_e : ∀ b, Ev (fun k => spec_Feed.j0 k l ch [] b) (if b = true then ([], [], 2) else ([], [], 2)) ∨ True := fun _ => .inr trivial
  clear spec_e
  have j1 : Ev (fun k => spec_Feed.j0 k l ch [] true) ([], [], 2) := Ev.step (fun k => spec_Feed.j0.eq_2 l ch [] true k) (Ev_pos rfl (Ev_some _))
  by_cases h1 : (l.length : Int) ≤ 65536
  · rw [if_pos h1] at hL
    by_cases h2 : (ch.length : Int) ≤ 4096
    · rw [if_pos h2] at hM
      obtain ⟨o, r, c, b1, b2, e1, e2⟩ := feed_go ch hch h2 ch [] l [] rfl hl h1 (by simp)
      refine ⟨o, r, c, b1, b2, Ev_bindc hL (Ev_bindc hM (Ev.bind (first_two 0 0) (Ev_pos rfl (Ev_bindc (clone_ok l (by omega)) e1)))), Ev_bindc rfl (Ev_neg (by omega) ?_)⟩
      rw [decide_eq_false (show ¬ (ch.length : Int) > 4096 by omega)]
      exact Ev.step (fun k => spec_Feed.j0.eq_2 l ch [] false k) (Ev_neg (by simp) (Ev_bindc rfl (Ev_pos (by simp only [List.length_nil]; omega) (by rw [List.nil_append]; exact e2))))
    · rw [if_neg h2] at hM
      refine ⟨[], [], 2, by simp, by simp, Ev_bindc hL (Ev_bindc hM (Ev.bind (first_two 0 2) (Ev_neg (by simp) (Ev_some _)))), Ev_bindc rfl (Ev_neg (by omega) ?_)⟩
      rw [decide_eq_true (show (ch.length : Int) > 4096 by omega)]
      exact j1
  · rw [if_neg h1] at hL
    exact ⟨[], [], 2, by simp, by simp, Ev_bindc hL (Ev_bindc hM (Ev.bind (first_two 2 _) (Ev_neg (by simp) (Ev_some _)))), Ev_bindc rfl (Ev_pos (by omega) j1)⟩
theorem FnExactFeed (l : List Int) (hl : ∀ x ∈ l, (Lit.int .u8 x).wf = true) (h : ¬ l.length > 1048576) (ch : List (List Int)) (hc : ∀ c ∈ ch, ∀ x ∈ c, (Lit.int .u8 x).wf = true) (hm : ch.length ≤ 9223372036854775807) (hmr : ∀ r ∈ ch, r.length ≤ 9223372036854775807) :
    ∃ (k : Nat) (z : Int), laws_szByteSS.f k ch 1048576 = some z ∧ (z < 0 ∨ ∃ (o : List (List Int)) (r : List Int) (c m : Int) (x : List Int) (m2 : Int) (x2 : List (List Int)) (m3 : Int) (x3 : List (List Int)) (m4 : Int) (x4 : List Int), ¬ z < 0 ∧ ¬ m < 0 ∧ ¬ m2 < 0 ∧ ¬ m3 < 0 ∧ ¬ m4 < 0 ∧
      laws_toByteS.f k l = some l ∧ laws_toByteSS.f k ch = some ch ∧ spec_Feed.f k l ch = some (o, r, c) ∧ impl_Feed.f k l ch = some (o, r, c) ∧ laws_eqByteSS.f k o o = some true ∧ laws_eqByteS.f k r r = some true ∧ laws_eqByteS.f k l l = some true ∧ laws_eqByteSS.f k ch ch = some true ∧
      laws_markByteS.f k l 1 = some (m, x) ∧ laws_markByteSS.f k ch m = some (m2, x2) ∧ laws_markByteSS.f k o 1 = some (m3, x3) ∧ laws_markByteS.f k r m3 = some (m4, x4) ∧ laws_heldByteSS.f k x3 1 = some m3 ∧ laws_heldByteS.f k x4 m3 = some m4) := by
  have hl := u8_bounds hl
  obtain ⟨z, ⟨k0, e0⟩, hz⟩ := szByteSS_ev ch hm hmr 1048576 (by omega) (by omega)
  by_cases hz0 : z < 0
  · exact ⟨k0, z, e0 _ (Nat.le_refl _), .inl hz0⟩
  have hsz : (ch.length : Int) + ch.flatten.length ≤ 1048576 := by
    rcases hz with hz | hz
    · exact absurd hz hz0
    · omega
  have hrow : ∀ c ∈ ch, (c.length : Int) ≤ 1048576 := fun c hc2 => by have := flat_row c hc2; omega
  obtain ⟨o, r, c, b1, b2, ⟨k1, e1⟩, ⟨k2, e2⟩⟩ := both_feed l hl (by omega) ch (fun c hc2 => ⟨u8_bounds (hc c hc2), hrow c hc2⟩)
  have hro : ∀ c ∈ o, c.length ≤ 281474976710656 := fun c hc2 => by have := flat_row c hc2; omega
  obtain ⟨k3, e3⟩ := toByteS_ev l (by omega)
  obtain ⟨k4, e4⟩ := toByteSS_ev ch (by omega) (fun c hc2 => by have := hrow c hc2; omega)
  obtain ⟨k5, e5⟩ := eqByteSS_self o (by omega) hro
  obtain ⟨k6, e6⟩ := eqByteS_self r (by omega)
  obtain ⟨k7, e7⟩ := eqByteS_self l (by omega)
  obtain ⟨k8, e8⟩ := eqByteSS_self ch (by omega) (fun c hc2 => by have := hrow c hc2; omega)
  obtain ⟨k9, e9⟩ := markByteS_ev l 1 (by omega) (by omega) (by omega)
  obtain ⟨k10, e10⟩ := markByteSS_ev ch (1 + (l.length : Int)) (by omega) (by omega) (by omega) (by omega)
  obtain ⟨k11, e11⟩ := markByteSS_ev o 1 (by omega) (by omega) (by omega) (by omega)
  obtain ⟨k12, e12⟩ := markByteS_ev r (1 + (o.flatten.length : Int)) (by omega) (by omega) (by omega)
  obtain ⟨k13, e13⟩ := heldByteSS_ev o 1 (by omega) (by omega) (by omega) (by omega)
  obtain ⟨k14, e14⟩ := heldByteS_ev r.length (1 + (o.flatten.length : Int)) (by omega) (by omega) (by omega)
  refine ⟨k0 + k1 + k2 + k3 + k4 + k5 + k6 + k7 + k8 + k9 + k10 + k11 + k12 + k13 + k14, z, e0 _ (by omega), .inr ⟨o, r, c, _, _, _, _, _, _, _, _, hz0, by omega, by omega, by omega, by omega, e3 _ (by omega), e4 _ (by omega), e2 _ (by omega), e1 _ (by omega), e5 _ (by omega), e6 _ (by omega), e7 _ (by omega), e8 _ (by omega), e9 _ (by omega), e10 _ (by omega), e11 _ (by omega), e12 _ (by omega), e13 _ (by omega), e14 _ (by omega)⟩⟩

end Go.Proofs.Ytkiknhljomobpaa.Pure
