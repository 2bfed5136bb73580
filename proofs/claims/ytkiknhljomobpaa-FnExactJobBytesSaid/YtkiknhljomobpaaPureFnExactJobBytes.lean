/- JobBytes: both sides give the bytes of the job field by field. -/
import Derived.Test.YtkiknhljomobpaaPFnExactJobBytesx5
import Derived.OpenShut
namespace Go.Proofs.Ytkiknhljomobpaa.Pure
open Go.RowKit Go.Proofs.Ytkiknhljomobpaa.PFnExactJobBytes Go.Proofs.YtkiknhljomobpaaW.PrintWords Go.Proofs.YtkiknhljomobpaaW.PrintLast Go.Proofs.YtkiknhljomobpaaW.PrintMore
set_option linter.unusedVariables false
set_option linter.unusedSimpArgs false

theorem Ev_pos {α : Type} {c : Prop} [Decidable c] {A B : Nat → Option α} {r : α} (h : c) (e : Ev A r) : Ev (fun k => if c then A k else B k) r := by
  simpa only [if_pos h] using e
theorem Ev_neg {α : Type} {c : Prop} [Decidable c] {A B : Nat → Option α} {r : α} (h : ¬ c) (e : Ev B r) : Ev (fun k => if c then A k else B k) r := by
  simpa only [if_neg h] using e
theorem Ev_some {α : Type} (r : α) : Ev (fun _ => some r) r := Ev.now r
theorem Ev_const {α : Type} {x : Option α} {r : α} (h : x = some r) : Ev (fun _ => x) r := ⟨0, fun _ _ => h⟩
theorem Ev_eq {α : Type} {A : Nat → Option α} {r q : α} (h : Ev A r) (e : r = q) : Ev A q := e ▸ h
theorem Ev_bindc {α β : Type} {x : Option α} {f : Nat → α → Option β} {a : α} {r : β} (h : x = some a) (k : Ev (fun n => f n a) r) : Ev (fun n => x.bind (f n)) r := Ev.bind (g := fun _ => x) (Ev_const h) k
theorem wrap64_id {x : Int} (h0 : -9223372036854775808 ≤ x) (h1 : x ≤ 9223372036854775807) : wrap64 x = x := by
  unfold wrap64; omega
theorem int_bounds {x : Int} (h : (Lit.int .i64 x).wf = true) : -9223372036854775808 ≤ x ∧ x < 9223372036854775808 := by
  have := Go.bounds_i64 h
  omega
theorem u8_bounds {l : List Int} (h : ∀ x ∈ l, (Lit.int .u8 x).wf = true) : ∀ x ∈ l, 0 ≤ x ∧ x < 256 := by
  intro x hx
  have := Go.bounds_u8 (h x hx)
  omega

theorem rd_cons0 (x : Int) (l : List Int) : rd (x :: l) 0 = x := rfl
theorem rd_append_len (p : List Int) (x : Int) (l : List Int) : rd (p ++ x :: l) (p.length : Int) = x := by
  unfold rd
  simp [List.getD]
theorem eqByteS_go (a : List Int) (ha : (a.length : Int) ≤ 281474976710656) (d : Nat) : ∀ i : Int, 0 ≤ i → i ≤ (a.length : Int) → (a.length : Int) - i = d → Ev (fun k => laws_eqByteS.l0 k a a i) true := by
  induction d with
  | zero =>
    intro i h0 h1 hd
    exact Ev.step (fun k => laws_eqByteS.l0.eq_2 a a i k) (Ev_neg (by omega) (Ev_some _))
  | succ d ih =>
    intro i h0 h1 hd
    have e := ih (i + 1) (by omega) (by omega) (by omega)
    have hw : wrap64 (i + 1) = i + 1 := wrap64_id (by omega) (by omega)
    rw [← hw] at e
    exact Ev.step (fun k => laws_eqByteS.l0.eq_2 a a i k) (Ev_pos (by omega) (Ev_pos h0 (Ev_pos (by omega) (Ev_pos rfl e))))
theorem eqByteS_self (a : List Int) (ha : (a.length : Int) ≤ 281474976710656) : Ev (fun k => laws_eqByteS.f k a a) true :=
  Ev_pos rfl (eqByteS_go a ha a.length 0 (by omega) (by omega) (by omega))

def marks : Nat → Int → List Int
  | 0, _ => []
  | n + 1, k => (k % 256) :: marks n (k + 1)
theorem marks_len : ∀ (n : Nat) (k : Int), (marks n k).length = n
  | 0, _ => rfl
  | n + 1, k => by simp [marks, marks_len n]
theorem marks_u8 : ∀ (n : Nat) (k : Int), ∀ x ∈ marks n k, 0 ≤ x ∧ x < 256
  | 0, _ => by simp [marks]
  | n + 1, k => by
    intro x hx
    simp only [marks, List.mem_cons] at hx
    rcases hx with rfl | hx
    · omega
    · exact marks_u8 n (k + 1) x hx
theorem markByteS_go : ∀ (suf pre : List Int) (k : Int), 0 ≤ k → k + (suf.length : Int) ≤ 4611686018427387904 → (pre.length : Int) + (suf.length : Int) ≤ 281474976710656 →
    Ev (fun n => laws_markByteS.l0 n (pre ++ suf) k (pre.length : Int)) (k + (suf.length : Int), pre ++ marks suf.length k) := by
  intro suf
  induction suf with
  | nil =>
    intro pre k h0 h1 h2
    simp only [List.length_nil, marks, List.append_nil]
    refine Ev.step (fun n => laws_markByteS.l0.eq_2 pre k _ n) (Ev_neg (by omega) (Ev_eq (Ev_some _) (by simp)))
  | cons x suf ih =>
    intro pre k h0 h1 h2
    simp only [List.length_cons] at h1 h2
    have e := ih (pre ++ [k % 256]) (k + 1) (by omega) (by omega) (by simp; omega)
    have hw : wrap64 ((pre.length : Int) + 1) = ((pre ++ [k % 256]).length : Int) := by rw [wrap64_id (by omega) (by omega)]; simp
    have hk : wrap64 (k + 1) = k + 1 := wrap64_id (by omega) (by omega)
    rw [← hw, ← hk] at e
    have hs : (pre ++ x :: suf).set ((pre.length : Int)).toNat (k % 256) = (pre ++ [k % 256]) ++ suf := by simp
    rw [← hs] at e
    refine Ev.step (fun n => laws_markByteS.l0.eq_2 (pre ++ x :: suf) k _ n) (Ev_pos (by simp; omega) (Ev_pos (by omega) (Ev_eq e ?_)))
    rw [hk]
    simp only [List.length_cons, marks]
    exact Prod.ext (by omega) (by simp)
theorem markByteS_ev (l : List Int) (k : Int) (h0 : 0 ≤ k) (h1 : k + (l.length : Int) ≤ 4611686018427387904) (h2 : (l.length : Int) ≤ 281474976710656) : Ev (fun n => laws_markByteS.f n l k) (k + (l.length : Int), marks l.length k) := by
  have e := markByteS_go l [] k h0 h1 (by simpa using h2)
  unfold laws_markByteS.f
  simpa using e
theorem heldByteS_go : ∀ (d : Nat) (pre : List Int) (k : Int), 0 ≤ k → k + (d : Int) ≤ 4611686018427387904 → (pre.length : Int) + (d : Int) ≤ 281474976710656 →
    Ev (fun n => laws_heldByteS.l0 n (pre ++ marks d k) k (pre.length : Int)) (k + (d : Int)) := by
  intro d
  induction d with
  | zero =>
    intro pre k h0 h1 h2
    refine Ev.step (fun n => laws_heldByteS.l0.eq_2 _ k _ n) (Ev_neg (by simp [marks]) (Ev_eq (Ev_some _) (by simp)))
  | succ d ih =>
    intro pre k h0 h1 h2
    have e := ih (pre ++ [k % 256]) (k + 1) (by omega) (by omega) (by simp; omega)
    have hw : wrap64 ((pre.length : Int) + 1) = ((pre ++ [k % 256]).length : Int) := by rw [wrap64_id (by omega) (by omega)]; simp
    have hk : wrap64 (k + 1) = k + 1 := wrap64_id (by omega) (by omega)
    rw [← hw, ← hk] at e
    have hs : (pre ++ [k % 256]) ++ marks d (wrap64 (k + 1)) = pre ++ marks (d + 1) k := by rw [hk]; simp [marks]
    rw [hs] at e
    refine Ev.step (fun n => laws_heldByteS.l0.eq_2 _ k _ n) (Ev_pos (by simp [marks]; omega) (Ev_pos (by omega) (Ev_pos ?_ (Ev_eq e (by rw [hk]; omega)))))
    simp only [marks]
    exact rd_append_len pre _ _
theorem heldByteS_ev (d : Nat) (k : Int) (h0 : 0 ≤ k) (h1 : k + (d : Int) ≤ 4611686018427387904) (h2 : (d : Int) ≤ 281474976710656) : Ev (fun n => laws_heldByteS.f n (marks d k) k) (k + (d : Int)) := by
  have e := heldByteS_go d [] k h0 h1 (by simpa using h2)
  unfold laws_heldByteS.f
  simpa using e

def put (n : Nat) : List Int := if h : 128 ≤ n then ((n % 128 + 128 : Nat) : Int) :: put (n / 128) else [(n : Int)]
termination_by n
decreasing_by omega
theorem put_small {n : Nat} (h : n < 128) : put n = [(n : Int)] := by rw [put]; simp; omega
theorem put_big {n : Nat} (h : 128 ≤ n) : put n = ((n % 128 + 128 : Nat) : Int) :: put (n / 128) := by rw [put]; simp [h]
theorem put_pos (n : Nat) : 1 ≤ (put n).length := by rw [put]; split <;> simp
theorem put_len : ∀ (j n : Nat), n < 128 ^ (j + 1) → (put n).length ≤ j + 1
  | 0, n, h => by rw [put_small (by simpa using h)]; simp
  | j + 1, n, h => by
    by_cases hn : 128 ≤ n
    · rw [put_big hn]
      have := put_len j (n / 128) (by rw [Nat.div_lt_iff_lt_mul (by omega)]; rw [Nat.pow_succ] at h; exact h)
      simp only [List.length_cons]
      omega
    · rw [put_small (by omega)]
      simp
theorem put_len9 {n : Nat} (h : n < 9223372036854775808) : (put n).length ≤ 9 := put_len 8 n (by omega)
theorem put_u8 (n : Nat) : ∀ x ∈ put n, 0 ≤ x ∧ x < 256 := by
  induction n using Nat.strongRecOn with
  | _ n ih =>
    by_cases hn : 128 ≤ n
    · rw [put_big hn]
      intro x hx
      simp only [List.mem_cons] at hx
      rcases hx with rfl | hx
      · omega
      · exact ih (n / 128) (by omega) x hx
    · rw [put_small (by omega)]
      intro x hx
      simp only [List.mem_cons, List.not_mem_nil, or_false] at hx
      omega
theorem or128 (y : Int) (h0 : 0 ≤ y) (h1 : y < 128) : Go.bits .or .u8 y 128 = y + 128 := by
  obtain ⟨a, rfl⟩ := Int.eq_ofNat_of_zero_le h0
  have : a < 128 := by omega
  rw [show (128 : Int) = ((128 : Nat) : Int) from rfl, (bits_nat .u8 8 (by decide) wraps_u8 a 128 (by omega) (by omega)).2]
  have : a ||| 128 = a + 128 := by
    have h := Nat.two_pow_add_eq_or_of_lt (i := 7) (b := a) (by omega) 1
    rw [Nat.or_comm]
    simp at h
    omega
  rw [this]
  rfl
theorem number_go (n : Nat) : ∀ acc : List Int, n < 9223372036854775808 → (acc.length : Int) + 10 ≤ 140737488355328 - (put n).length → Ev (fun k => impl_number.l0 k (n : Int) acc) (acc ++ put n) := by
  induction n using Nat.strongRecOn with
  | _ n ih =>
    intro acc hn hl
    by_cases h : 128 ≤ n
    · have hp := put_big h
      rw [hp] at hl ⊢
      simp only [List.length_cons] at hl
      have e := ih (n / 128) (by omega) (acc ++ [((n % 128 + 128 : Nat) : Int)]) (by omega) (by simp; omega)
      have h1 : wrap64 (Int.tdiv (n : Int) 128) = ((n / 128 : Nat) : Int) := by rw [Int.tdiv_eq_ediv_of_nonneg (by omega), wrap64_id (by omega) (by omega)]; omega
      have h2 : (wrap64 ((Int.tmod (n : Int) 128) + 128)) % 256 = ((n % 128 + 128 : Nat) : Int) := by rw [Int.tmod_eq_emod_of_nonneg (by omega), wrap64_id (by omega) (by omega)]; omega
      rw [← h1, ← h2] at e
      refine Ev.step (fun k => impl_number.l0.eq_2 (n : Int) acc k) (Ev_pos (by omega) (Ev_pos (by omega) (Ev_eq e ?_)))
      rw [h2]
      simp
    · rw [put_small (by omega)] at hl ⊢
      refine Ev.step (fun k => impl_number.l0.eq_2 (n : Int) acc k) (Ev_neg (by omega) (Ev_pos (by omega) (Ev_eq (Ev_some _) ?_)))
      rw [show (n : Int) % 256 = (n : Int) by omega]
theorem number_ev {n : Nat} (hn : n < 9223372036854775808) : Ev (fun k => impl_number.f k (n : Int)) (put n) := by
  have := put_len9 hn
  exact number_go n [] hn (by simp; omega)
theorem l01Put_go (n : Nat) : ∀ acc : List Int, n < 9223372036854775808 → (acc.length : Int) + 10 ≤ 140737488355328 - (put n).length → Ev (fun k => spec_l01Put.l0 k (n : Int) acc) (acc ++ put n) := by
  induction n using Nat.strongRecOn with
  | _ n ih =>
    intro acc hn hl
    by_cases h : 128 ≤ n
    · have hp := put_big h
      rw [hp] at hl ⊢
      simp only [List.length_cons] at hl
      have e := ih (n / 128) (by omega) (acc ++ [((n % 128 + 128 : Nat) : Int)]) (by omega) (by simp; omega)
      have h1 : wrap64 (Int.tdiv (n : Int) 128) = ((n / 128 : Nat) : Int) := by rw [Int.tdiv_eq_ediv_of_nonneg (by omega), wrap64_id (by omega) (by omega)]; omega
      have h2 : Go.bits .or .u8 ((Int.tmod (n : Int) 128) % 256) 128 = ((n % 128 + 128 : Nat) : Int) := by rw [Int.tmod_eq_emod_of_nonneg (by omega), or128 _ (by omega) (by omega)]; omega
      rw [← h1, ← h2] at e
      refine Ev.step (fun k => spec_l01Put.l0.eq_2 (n : Int) acc k) (Ev_pos (by omega) (Ev_pos (by omega) (Ev_eq e ?_)))
      rw [h2]
      simp
    · rw [put_small (by omega)] at hl ⊢
      refine Ev.step (fun k => spec_l01Put.l0.eq_2 (n : Int) acc k) (Ev_neg (by omega) (Ev_pos (by omega) (Ev_eq (Ev_some _) ?_)))
      rw [show (n : Int) % 256 = (n : Int) by omega]
theorem l01Put_ev {n : Nat} (hn : n < 9223372036854775808) : Ev (fun k => spec_l01Put.f k (n : Int)) (put n) := by
  have := put_len9 hn
  exact l01Put_go n [] hn (by simp; omega)

theorem rdL_mid (p q : List (List Int)) (x : List Int) : rd_L1 (p ++ x :: q) (p.length : Int) = x := by
  unfold rd_L1
  simp [List.getD]
theorem concat_one (ls : List (List Int)) (hb : (ls.flatten.length : Int) < 140737488355328) (r : List Int) (hc : (ls.length : Int) < 140737488355328) : ∀ (suf pre : List (List Int)) (s : Int), ls = pre ++ suf → s = (pre.flatten.length : Int) →
    Ev (fun k => (slices_Grow_byte_byte.f ([] : List Int) (ls.flatten.length : Int)).bind fun t => slices_Concat_byte_byte.l1 k t ls (ls.length : Int) 0) r → Ev (fun k => slices_Concat_byte_byte.l0 k ls s ls (ls.length : Int) (pre.length : Int)) r := by
  intro suf
  induction suf with
  | nil =>
    intro pre s hs hsum h
    refine Ev.step (fun k => slices_Concat_byte_byte.l0.eq_2 _ _ _ _ _ k) (Ev_neg (by rw [hs]; simp) ?_)
    have : s = (ls.flatten.length : Int) := by rw [hsum, hs]; simp
    rw [this]
    exact h
  | cons x suf ih =>
    intro pre s hs hsum h
    have e := ih (pre ++ [x]) (s + (x.length : Int)) (by rw [hs]; simp) (by rw [hsum]; simp) h
    have hln : (ls.length : Int) = pre.length + 1 + suf.length := by rw [hs]; simp; omega
    have hfl : (ls.flatten.length : Int) = pre.flatten.length + x.length + suf.flatten.length := by rw [hs]; simp [List.flatten_append]; omega
    have hr : rd_L1 ls (pre.length : Int) = x := by rw [hs]; exact rdL_mid pre suf x
    have hw := Aside0.mk (show wrap64 (s + (x.length : Int)) = s + (x.length : Int) from wrap64_id (by omega) (by omega))
    have hw1 : wrap64 ((pre.length : Int) + 1) = ((pre ++ [x]).length : Int) := by rw [wrap64_id (by omega) (by omega)]; simp
    rw [← hw1] at e
    refine Ev.step (fun k => slices_Concat_byte_byte.l0.eq_2 _ _ _ _ _ k) (Ev_pos (by omega) (Ev_pos (by omega) (Ev_pos (by omega) ?_)))
    rw [hr, hw.out]
    exact Ev_neg (by omega) e
theorem concat_two (ls : List (List Int)) (hb : (ls.flatten.length : Int) < 140737488355328) (hc : (ls.length : Int) < 140737488355328) : ∀ (suf pre : List (List Int)), ls = pre ++ suf →
    Ev (fun k => slices_Concat_byte_byte.l1 k pre.flatten ls (ls.length : Int) (pre.length : Int)) ls.flatten := by
  intro suf
  induction suf with
  | nil =>
    intro pre hs
    refine Ev.step (fun k => slices_Concat_byte_byte.l1.eq_2 _ _ _ _ k) (Ev_neg (by rw [hs]; simp) (Ev_eq (Ev_some _) (by rw [hs]; simp)))
  | cons x suf ih =>
    intro pre hs
    have e := ih (pre ++ [x]) (by rw [hs]; simp)
    have hln : (ls.length : Int) = pre.length + 1 + suf.length := by rw [hs]; simp; omega
    have hfl : (ls.flatten.length : Int) = pre.flatten.length + x.length + suf.flatten.length := by rw [hs]; simp [List.flatten_append]; omega
    have hr : rd_L1 ls (pre.length : Int) = x := by rw [hs]; exact rdL_mid pre suf x
    have hw1 : wrap64 ((pre.length : Int) + 1) = ((pre ++ [x]).length : Int) := by rw [wrap64_id (by omega) (by omega)]; simp
    rw [← hw1, List.flatten_append, List.flatten_cons, List.flatten_nil, List.append_nil] at e
    refine Ev.step (fun k => slices_Concat_byte_byte.l1.eq_2 _ _ _ _ k) (Ev_pos (by omega) (Ev_pos (by omega) (Ev_pos (by omega) ?_)))
    rw [hr]
    exact Ev_pos (by omega) e
theorem concat_ev (ls : List (List Int)) (hb : (ls.flatten.length : Int) < 140737488355328) (hc : (ls.length : Int) < 140737488355328) : Ev (fun k => slices_Concat_byte_byte.f k ls) ls.flatten := by
  refine concat_one ls hb _ hc ls [] 0 rfl rfl (Ev_bindc (a := []) ?_ (concat_two ls hb hc ls [] rfl))
  unfold slices_Grow_byte_byte.f
  rw [if_pos ⟨by omega, hb⟩]

def txt (t : ByteArray) : List Int := put t.size ++ bytesOf t
theorem text_ev (t : ByteArray) (h : t.size ≤ 4000) : Ev (fun k => impl_textBytes.f k t) (txt t) := by
  have := put_len9 (n := t.size) (by omega)
  exact Ev.bind (number_ev (by omega)) (Ev_pos (by omega) (Ev_some _))
theorem l09Text_ev (t : ByteArray) (h : t.size ≤ 4000) : Ev (fun k => spec_l09Text.f k t) (txt t) := by
  have := put_len9 (n := t.size) (by omega)
  exact Ev.bind (l01Put_ev (by omega)) (Ev_pos (by omega) (Ev_some _))
theorem txt_len (t : ByteArray) (h : t.size ≤ 4000) : (txt t).length ≤ 4009 := by
  have := put_len9 (n := t.size) (by omega)
  simp only [txt, List.length_append, bytesOf_length]
  omega
def flagOf (e q : Bool) : Int := (if e = true then 1 else 0) + (if q = true then 2 else 0)
def jobL (c s v : Nat) (f sc t : ByteArray) (e q : Bool) : List Int := [put c, put s, txt f, put v, txt sc, txt t, [flagOf e q]].flatten
theorem jobL_len {c s v : Nat} {f sc t : ByteArray} (e q : Bool) (hc : c ≤ 1000000) (hs : s ≤ 1000000) (hv : v ≤ 1000000) (hf : f.size ≤ 4000) (hsc : sc.size ≤ 4000) (ht : t.size ≤ 4000) : (jobL c s v f sc t e q).length ≤ 20000 := by
  have h1 := put_len9 (n := c) (by omega)
  have h2 := put_len9 (n := s) (by omega)
  have h3 := put_len9 (n := v) (by omega)
  have h4 := txt_len f hf
  have h5 := txt_len sc hsc
  have h6 := txt_len t ht
  simp only [jobL, List.flatten_cons, List.flatten_nil, List.length_append, List.length_cons, List.length_nil]
  omega
theorem bytes_ev {c s v : Nat} {f sc t : ByteArray} (e q : Bool) (hc : c ≤ 1000000) (hs : s ≤ 1000000) (hv : v ≤ 1000000) (hf : f.size ≤ 4000) (hsc : sc.size ≤ 4000) (ht : t.size ≤ 4000) : Ev (fun k => impl_Job_bytes.f k (c : Int) (s : Int) f (v : Int) sc t e q) (jobL c s v f sc t e q) := by
  have hl := jobL_len e q hc hs hv hf hsc ht
  have last : ∀ z : Int, z = flagOf e q → Ev (fun k => impl_Job_bytes.j1 k z (c : Int) (s : Int) f (v : Int) sc t e q) (jobL c s v f sc t e q) := by
    rintro z rfl
    refine Ev.step (fun k => impl_Job_bytes.j1.eq_2 _ _ _ _ _ _ _ _ _ k) ?_
    refine Ev.bind (number_ev (by omega)) (Ev.bind (number_ev (by omega)) (Ev.bind (text_ev f hf) (Ev.bind (number_ev (by omega)) (Ev.bind (text_ev sc hsc) (Ev.bind (text_ev t ht) ?_)))))
    have hl2 : ([put c, put s, txt f, put v, txt sc, txt t, [flagOf e q]].flatten).length ≤ 20000 := hl
    exact Ev.bind (concat_ev [put c, put s, txt f, put v, txt sc, txt t, [flagOf e q]] (by omega) (by simp)) (Ev_some _)
  have mid : ∀ z : Int, z = (if e = true then 1 else 0) → Ev (fun k => impl_Job_bytes.j0 k z (c : Int) (s : Int) f (v : Int) sc t e q) (jobL c s v f sc t e q) := by
    rintro z rfl
    refine Ev.step (fun k => impl_Job_bytes.j0.eq_2 _ _ _ _ _ _ _ _ _ k) ?_
    by_cases hq : q = true
    · exact Ev_pos hq (last _ (by subst hq; cases e <;> decide))
    · exact Ev_neg hq (last _ (by simp only [Bool.not_eq_true] at hq; subst hq; cases e <;> decide))
  by_cases he : e = true
  · exact Ev_pos he (mid _ (by rw [if_pos he]; rfl))
  · exact Ev_neg he (mid _ (by rw [if_neg he]))
theorem l09Bytes_ev {c s v : Nat} {f sc t : ByteArray} (e q : Bool) (hc : c ≤ 1000000) (hs : s ≤ 1000000) (hv : v ≤ 1000000) (hf : f.size ≤ 4000) (hsc : sc.size ≤ 4000) (ht : t.size ≤ 4000) : Ev (fun k => spec_l09Bytes.f k (c : Int) (s : Int) f (v : Int) sc t e q) (jobL c s v f sc t e q) := by
  have h1 := put_len9 (n := c) (by omega)
  have h2 := put_len9 (n := s) (by omega)
  have h3 := put_len9 (n := v) (by omega)
  have h4 := txt_len f hf
  have h5 := txt_len sc hsc
  have h6 := txt_len t ht
  have hE : spec_l09Flag.f e = some (if e = true then 1 else 0) := by unfold spec_l09Flag.f; split <;> rfl
  have hQ : spec_l09Flag.f q = some (if q = true then 1 else 0) := by unfold spec_l09Flag.f; split <;> rfl
  refine Ev.bind (l01Put_ev (by omega)) (Ev.bind (l01Put_ev (by omega)) (Ev_pos (by omega) (Ev_bindc rfl (Ev.bind (l09Text_ev f hf) (Ev_pos (by simp only [List.length_append]; omega) (Ev_bindc rfl (Ev.bind (l01Put_ev (by omega)) (Ev_pos (by simp only [List.length_append]; omega) (Ev_bindc rfl (Ev.bind (l09Text_ev sc hsc) (Ev_pos (by simp only [List.length_append]; omega) (Ev_bindc rfl ?_))))))))))))
  refine Ev.bind (l09Text_ev t ht) (Ev_pos (by simp only [List.length_append]; omega) (Ev_bindc rfl (Ev_bindc hE (Ev_bindc hQ (Ev_pos (by simp only [List.length_append]; omega) (Ev_eq (Ev_some _) ?_))))))
  have : (wrap64 ((if e = true then 1 else 0) + wrap64 (2 * (if q = true then 1 else 0)))) % 256 = flagOf e q := by cases e <;> cases q <;> kernel_rfl
  rw [this]
  simp [jobL, List.append_assoc]
theorem within_ev (a b c : Int) : impl_within.f a b c = some (decide (b ≤ a ∧ a ≤ c)) := by
  unfold impl_within.f
  by_cases h : b ≤ a
  · rw [if_pos h]; simp [h]
  · rw [if_neg h]; simp [h]
theorem l02In_ev (a b c : Int) : spec_l02In.f a b c = some (decide (b ≤ a ∧ a ≤ c)) := by
  unfold spec_l02In.f
  by_cases h : b ≤ a
  · rw [if_pos h]; simp [h]
  · rw [if_neg h]; simp [h]
def good (c s v : Int) (f sc t : ByteArray) : Prop := (1 ≤ c ∧ c ≤ 1000000) ∧ (1 ≤ s ∧ s ≤ 1000000) ∧ (0 ≤ v ∧ v ≤ 1000000) ∧ f.size ≤ 40 ∧ sc.size ≤ 2000 ∧ t.size ≤ 2000
instance (c s v : Int) (f sc t : ByteArray) : Decidable (good c s v f sc t) := by unfold good; infer_instance
theorem jobOK_ev (c s v : Int) (f sc t : ByteArray) (e q : Bool) : impl_jobOK.f c s f v sc t e q = some (decide (good c s v f sc t)) := by
  unfold impl_jobOK.f impl_isCount.f impl_isTerm.f
  simp only [within_ev, Option.bind_some, decide_eq_true_eq]
  repeat' split
  all_goals first | (refine congrArg some (decide_eq_decide.2 ?_); unfold good; omega) | (refine congrArg some (Eq.symm (decide_eq_false ?_)); unfold good; omega)
theorem l09Job_ev (c s v : Int) (f sc t : ByteArray) (e q : Bool) : spec_l09Job.f c s f v sc t e q = some (decide (good c s v f sc t)) := by
  unfold spec_l09Job.f
  simp only [l02In_ev, Option.bind_some, decide_eq_true_eq]
  repeat' split
  all_goals first | (refine congrArg some (decide_eq_decide.2 ?_); unfold good; omega) | (refine congrArg some (Eq.symm (decide_eq_false ?_)); unfold good; omega)
theorem both_job (c s v : Int) (f sc t : ByteArray) (e q : Bool) : ∃ l n, Ev (fun k => impl_JobBytes.f k c s f v sc t e q) (l, n) ∧ Ev (fun k => spec_JobBytes.f k c s f v sc t e q) (l, n) ∧ l.length ≤ 20000 := by
  by_cases h : good c s v f sc t
  · have hg := h
    obtain ⟨h1, h2, h3, h4, h5, h6⟩ := h
    obtain ⟨c, rfl⟩ := Int.eq_ofNat_of_zero_le (show 0 ≤ c by omega)
    obtain ⟨s, rfl⟩ := Int.eq_ofNat_of_zero_le (show 0 ≤ s by omega)
    obtain ⟨v, rfl⟩ := Int.eq_ofNat_of_zero_le (show 0 ≤ v by omega)
    refine ⟨jobL c s v f sc t e q, 0, ?_, ?_, jobL_len e q (by omega) (by omega) (by omega) (by omega) (by omega) (by omega)⟩
    · exact Ev_bindc (jobOK_ev _ _ _ _ _ _ _ _) (Ev_pos (decide_eq_true hg) (Ev.bind (bytes_ev e q (by omega) (by omega) (by omega) (by omega) (by omega) (by omega)) (Ev_some _)))
    · exact Ev_bindc (l09Job_ev _ _ _ _ _ _ _ _) (Ev_pos (decide_eq_true hg) (Ev.bind (l09Bytes_ev e q (by omega) (by omega) (by omega) (by omega) (by omega) (by omega)) (Ev_some _)))
  · exact ⟨[], 1, Ev_bindc (jobOK_ev _ _ _ _ _ _ _ _) (Ev_neg (by simpa using h) (Ev_some _)), Ev_bindc (l09Job_ev _ _ _ _ _ _ _ _) (Ev_neg (by simpa using h) (Ev_some _)), by simp⟩
theorem FnExactJobBytes (c : Int) (_ : (Lit.int .i64 c).wf = true) (s : Int) (_ : (Lit.int .i64 s).wf = true) (f : ByteArray) (_ : f.size ≤ Go.maxLen) (v : Int) (_ : (Lit.int .i64 v).wf = true) (sc : ByteArray) (_ : sc.size ≤ Go.maxLen) (t : ByteArray) (_ : t.size ≤ Go.maxLen) (e : Bool) (q : Bool) : ∃ k, laws_FnExactJobBytes.f k c s f v sc t e q = some true := by
  refine Ev.rounds ?_
  have sz : ∃ z, laws_szJob.f c s f v sc t e q 1048576 = some z := by unfold laws_szJob.f; split; exact ⟨_, rfl⟩; split; exact ⟨_, rfl⟩; split; exact ⟨_, rfl⟩; exact ⟨_, rfl⟩
  obtain ⟨z, hz⟩ := sz
  by_cases h0 : z < 0
  · exact Ev_bindc hz (Ev_pos h0 (Ev_some _))
  · obtain ⟨l, n, h1, h2, h3⟩ := both_job c s v f sc t e q
    have ht : laws_toJob.f c s f v sc t e q = some (c, s, f, v, sc, t, e, q) := rfl
    have her := eqByteS_self l (by omega)
    refine Ev_bindc hz (Ev_neg h0 (Ev_bindc ht (Ev.bind h2 (Ev_bindc ht (Ev.bind h1 (Ev.bind her (Ev_pos rfl ?_)))))))
    refine Ev.step (fun k => laws_FnExactJobBytes.j0.eq_2 _ _ _ _ _ _ _ _ _ _ _ _ k) (Ev_neg (by simp) (Ev.bind (markByteS_ev l 1 (by omega) (by omega) (by omega)) (Ev.bind (heldByteS_ev l.length 1 (by omega) (by omega) (by omega)) (Ev_neg (by omega) (Ev_pos rfl (Ev_bindc ht (Ev.bind h1 (Ev.bind her (Ev_pos rfl ?_)))))))))
    exact Ev.step (fun k => laws_FnExactJobBytes.j1.eq_2 _ _ _ k) (Ev_neg (by simp) (Ev.bind (heldByteS_ev l.length 1 (by omega) (by omega) (by omega)) (Ev_neg (by omega) (Ev_pos rfl (Ev_some _)))))

end Go.Proofs.Ytkiknhljomobpaa.Pure
