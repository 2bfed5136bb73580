/- FnExactPutNumber: for every integer the program's PutNumber and the reference's answer the same bytes and code, in memory of their own. No conditions. -/
import Derived.Test.YtjblpjfiiinjbaaPFnExactPutNumberx2
import Derived.OpenShut
namespace Go.Proofs.Ytjblpjfiiinjbaa.Pure
open Go.RowKit Go.Proofs.Ytjblpjfiiinjbaa.PFnExactPutNumber Go.Proofs.YtjblpjfiiinjbaaW.PrintWords Go.Proofs.YtjblpjfiiinjbaaW.PrintLast Go.Proofs.YtjblpjfiiinjbaaW.PrintMore
set_option linter.unusedVariables false
set_option linter.unusedSimpArgs false

theorem Ev_pos {α : Type} {c : Prop} [Decidable c] {A B : Nat → Option α} {r : α} (h : c) (e : Ev A r) : Ev (fun k => if c then A k else B k) r := by
  simpa only [if_pos h] using e
theorem Ev_neg {α : Type} {c : Prop} [Decidable c] {A B : Nat → Option α} {r : α} (h : ¬ c) (e : Ev B r) : Ev (fun k => if c then A k else B k) r := by
  simpa only [if_neg h] using e
theorem Ev_some {α : Type} (r : α) : Ev (fun _ => some r) r := Ev.now r
theorem Ev_const {α : Type} {x : Option α} {r : α} (h : x = some r) : Ev (fun _ => x) r := ⟨0, fun _ _ => h⟩
theorem Ev_eq {α : Type} {A : Nat → Option α} {r q : α} (h : Ev A r) (e : r = q) : Ev A q := e ▸ h
theorem Ev_bindc {α β : Type} {x : Option α} {f : Nat → α → Option β} {a : α} {r : β} (h : x = some a) (k : Ev (fun n => f n a) r) : Ev (fun n => x.bind (f n)) r := Ev.bind (g := fun _ => x) (Ev_const h) k
theorem wrap64_id {x : Int} (h0 : -9223372036854775808 ≤ x) (h1 : x ≤ 9223372036854775807) : wrap64 x = x := by
  unfold wrap64; omega
theorem int_bounds {x : Int} (h : (Lit.int .i64 x).wf = true) : -9223372036854775808 ≤ x ∧ x < 9223372036854775808 := by
  have := Go.bounds_i64 h
  omega
theorem u8_bounds {l : List Int} (h : ∀ x ∈ l, (Lit.int .u8 x).wf = true) : ∀ x ∈ l, 0 ≤ x ∧ x < 256 := by
  intro x hx
  have := Go.bounds_u8 (h x hx)
  omega

theorem rd_cons0 (x : Int) (l : List Int) : rd (x :: l) 0 = x := rfl
theorem rd_append_len (p : List Int) (x : Int) (l : List Int) : rd (p ++ x :: l) (p.length : Int) = x := by
  unfold rd
  simp [List.getD]
theorem eqByteS_go (a : List Int) (ha : (a.length : Int) ≤ 281474976710656) (d : Nat) : ∀ i : Int, 0 ≤ i → i ≤ (a.length : Int) → (a.length : Int) - i = d → Ev (fun k => laws_eqByteS.l0 k a a i) true := by
  induction d with
  | zero =>
    intro i h0 h1 hd
    exact Ev.step (fun k => laws_eqByteS.l0.eq_2 a a i k) (Ev_neg (by omega) (Ev_some _))
  | succ d ih =>
    intro i h0 h1 hd
    have e := ih (i + 1) (by omega) (by omega) (by omega)
    have hw : wrap64 (i + 1) = i + 1 := wrap64_id (by omega) (by omega)
    rw [← hw] at e
    exact Ev.step (fun k => laws_eqByteS.l0.eq_2 a a i k) (Ev_pos (by omega) (Ev_pos h0 (Ev_pos (by omega) (Ev_pos rfl e))))
theorem eqByteS_self (a : List Int) (ha : (a.length : Int) ≤ 281474976710656) : Ev (fun k => laws_eqByteS.f k a a) true :=
  Ev_pos rfl (eqByteS_go a ha a.length 0 (by omega) (by omega) (by omega))

def marks : Nat → Int → List Int
  | 0, _ => []
  | n + 1, k => (k % 256) :: marks n (k + 1)
theorem marks_len : ∀ (n : Nat) (k : Int), (marks n k).length = n
  | 0, _ => rfl
  | n + 1, k => by simp [marks, marks_len n]
theorem marks_u8 : ∀ (n : Nat) (k : Int), ∀ x ∈ marks n k, 0 ≤ x ∧ x < 256
  | 0, _ => by simp [marks]
  | n + 1, k => by
    intro x hx
    simp only [marks, List.mem_cons] at hx
    rcases hx with rfl | hx
    · omega
    · exact marks_u8 n (k + 1) x hx
theorem markByteS_go : ∀ (suf pre : List Int) (k : Int), 0 ≤ k → k + (suf.length : Int) ≤ 4611686018427387904 → (pre.length : Int) + (suf.length : Int) ≤ 281474976710656 →
    Ev (fun n => laws_markByteS.l0 n (pre ++ suf) k (pre.length : Int)) (k + (suf.length : Int), pre ++ marks suf.length k) := by
  intro suf
  induction suf with
  | nil =>
    intro pre k h0 h1 h2
    simp only [List.length_nil, marks, List.append_nil]
    refine Ev.step (fun n => laws_markByteS.l0.eq_2 pre k _ n) (Ev_neg (by omega) (Ev_eq (Ev_some _) (by simp)))
  | cons x suf ih =>
    intro pre k h0 h1 h2
    simp only [List.length_cons] at h1 h2
    have e := ih (pre ++ [k % 256]) (k + 1) (by omega) (by omega) (by simp; omega)
    have hw : wrap64 ((pre.length : Int) + 1) = ((pre ++ [k % 256]).length : Int) := by rw [wrap64_id (by omega) (by omega)]; simp
    have hk : wrap64 (k + 1) = k + 1 := wrap64_id (by omega) (by omega)
    rw [← hw, ← hk] at e
    have hs : (pre ++ x :: suf).set ((pre.length : Int)).toNat (k % 256) = (pre ++ [k % 256]) ++ suf := by simp
    rw [← hs] at e
    refine Ev.step (fun n => laws_markByteS.l0.eq_2 (pre ++ x :: suf) k _ n) (Ev_pos (by simp; omega) (Ev_pos (by omega) (Ev_eq e ?_)))
    rw [hk]
    simp only [List.length_cons, marks]
    exact Prod.ext (by omega) (by simp)
theorem markByteS_ev (l : List Int) (k : Int) (h0 : 0 ≤ k) (h1 : k + (l.length : Int) ≤ 4611686018427387904) (h2 : (l.length : Int) ≤ 281474976710656) : Ev (fun n => laws_markByteS.f n l k) (k + (l.length : Int), marks l.length k) := by
  have e := markByteS_go l [] k h0 h1 (by simpa using h2)
  unfold laws_markByteS.f
  simpa using e
theorem heldByteS_go : ∀ (d : Nat) (pre : List Int) (k : Int), 0 ≤ k → k + (d : Int) ≤ 4611686018427387904 → (pre.length : Int) + (d : Int) ≤ 281474976710656 →
    Ev (fun n => laws_heldByteS.l0 n (pre ++ marks d k) k (pre.length : Int)) (k + (d : Int)) := by
  intro d
  induction d with
  | zero =>
    intro pre k h0 h1 h2
    refine Ev.step (fun n => laws_heldByteS.l0.eq_2 _ k _ n) (Ev_neg (by simp [marks]) (Ev_eq (Ev_some _) (by simp)))
  | succ d ih =>
    intro pre k h0 h1 h2
    have e := ih (pre ++ [k % 256]) (k + 1) (by omega) (by omega) (by simp; omega)
    have hw : wrap64 ((pre.length : Int) + 1) = ((pre ++ [k % 256]).length : Int) := by rw [wrap64_id (by omega) (by omega)]; simp
    have hk : wrap64 (k + 1) = k + 1 := wrap64_id (by omega) (by omega)
    rw [← hw, ← hk] at e
    have hs : (pre ++ [k % 256]) ++ marks d (wrap64 (k + 1)) = pre ++ marks (d + 1) k := by rw [hk]; simp [marks]
    rw [hs] at e
    refine Ev.step (fun n => laws_heldByteS.l0.eq_2 _ k _ n) (Ev_pos (by simp [marks]; omega) (Ev_pos (by omega) (Ev_pos ?_ (Ev_eq e (by rw [hk]; omega)))))
    simp only [marks]
    exact rd_append_len pre _ _
theorem heldByteS_ev (d : Nat) (k : Int) (h0 : 0 ≤ k) (h1 : k + (d : Int) ≤ 4611686018427387904) (h2 : (d : Int) ≤ 281474976710656) : Ev (fun n => laws_heldByteS.f n (marks d k) k) (k + (d : Int)) := by
  have e := heldByteS_go d [] k h0 h1 (by simpa using h2)
  unfold laws_heldByteS.f
  simpa using e

def put (n : Nat) : List Int := if h : 128 ≤ n then ((n % 128 + 128 : Nat) : Int) :: put (n / 128) else [(n : Int)]
termination_by n
decreasing_by omega
theorem put_small {n : Nat} (h : n < 128) : put n = [(n : Int)] := by rw [put]; simp; omega
theorem put_big {n : Nat} (h : 128 ≤ n) : put n = ((n % 128 + 128 : Nat) : Int) :: put (n / 128) := by rw [put]; simp [h]
theorem put_pos (n : Nat) : 1 ≤ (put n).length := by rw [put]; split <;> simp
theorem put_len : ∀ (j n : Nat), n < 128 ^ (j + 1) → (put n).length ≤ j + 1
  | 0, n, h => by rw [put_small (by simpa using h)]; simp
  | j + 1, n, h => by
    by_cases hn : 128 ≤ n
    · rw [put_big hn]
      have := put_len j (n / 128) (by rw [Nat.div_lt_iff_lt_mul (by omega)]; rw [Nat.pow_succ] at h; exact h)
      simp only [List.length_cons]
      omega
    · rw [put_small (by omega)]
      simp
theorem put_len9 {n : Nat} (h : n < 9223372036854775808) : (put n).length ≤ 9 := put_len 8 n (by omega)
theorem put_u8 (n : Nat) : ∀ x ∈ put n, 0 ≤ x ∧ x < 256 := by
  induction n using Nat.strongRecOn with
  | _ n ih =>
    by_cases hn : 128 ≤ n
    · rw [put_big hn]
      intro x hx
      simp only [List.mem_cons] at hx
      rcases hx with rfl | hx
      · omega
      · exact ih (n / 128) (by omega) x hx
    · rw [put_small (by omega)]
      intro x hx
      simp only [List.mem_cons, List.not_mem_nil, or_false] at hx
      omega
theorem or128 (y : Int) (h0 : 0 ≤ y) (h1 : y < 128) : Go.bits .or .u8 y 128 = y + 128 := by
  obtain ⟨a, rfl⟩ := Int.eq_ofNat_of_zero_le h0
  have : a < 128 := by omega
  rw [show (128 : Int) = ((128 : Nat) : Int) from rfl, (bits_nat .u8 8 (by decide) wraps_u8 a 128 (by omega) (by omega)).2]
  have : a ||| 128 = a + 128 := by
    have h := Nat.two_pow_add_eq_or_of_lt (i := 7) (b := a) (by omega) 1
    rw [Nat.or_comm]
    simp at h
    omega
  rw [this]
  rfl
theorem number_go (n : Nat) : ∀ acc : List Int, n < 9223372036854775808 → (acc.length : Int) + 10 ≤ 140737488355328 - (put n).length → Ev (fun k => impl_number.l0 k (n : Int) acc) (acc ++ put n) := by
  induction n using Nat.strongRecOn with
  | _ n ih =>
    intro acc hn hl
    by_cases h : 128 ≤ n
    · have hp := put_big h
      rw [hp] at hl ⊢
      simp only [List.length_cons] at hl
      have e := ih (n / 128) (by omega) (acc ++ [((n % 128 + 128 : Nat) : Int)]) (by omega) (by simp; omega)
      have h1 : wrap64 (Int.tdiv (n : Int) 128) = ((n / 128 : Nat) : Int) := by rw [Int.tdiv_eq_ediv_of_nonneg (by omega), wrap64_id (by omega) (by omega)]; omega
      have h2 : (wrap64 ((Int.tmod (n : Int) 128) + 128)) % 256 = ((n % 128 + 128 : Nat) : Int) := by rw [Int.tmod_eq_emod_of_nonneg (by omega), wrap64_id (by omega) (by omega)]; omega
      rw [← h1, ← h2] at e
      refine Ev.step (fun k => impl_number.l0.eq_2 (n : Int) acc k) (Ev_pos (by omega) (Ev_pos (by omega) (Ev_eq e ?_)))
      rw [h2]
      simp
    · rw [put_small (by omega)] at hl ⊢
      refine Ev.step (fun k => impl_number.l0.eq_2 (n : Int) acc k) (Ev_neg (by omega) (Ev_pos (by omega) (Ev_eq (Ev_some _) ?_)))
      rw [show (n : Int) % 256 = (n : Int) by omega]
theorem number_ev {n : Nat} (hn : n < 9223372036854775808) : Ev (fun k => impl_number.f k (n : Int)) (put n) := by
  have := put_len9 hn
  exact number_go n [] hn (by simp; omega)
theorem l01Put_go (n : Nat) : ∀ acc : List Int, n < 9223372036854775808 → (acc.length : Int) + 10 ≤ 140737488355328 - (put n).length → Ev (fun k => spec_l01Put.l0 k (n : Int) acc) (acc ++ put n) := by
  induction n using Nat.strongRecOn with
  | _ n ih =>
    intro acc hn hl
    by_cases h : 128 ≤ n
    · have hp := put_big h
      rw [hp] at hl ⊢
      simp only [List.length_cons] at hl
      have e := ih (n / 128) (by omega) (acc ++ [((n % 128 + 128 : Nat) : Int)]) (by omega) (by simp; omega)
      have h1 : wrap64 (Int.tdiv (n : Int) 128) = ((n / 128 : Nat) : Int) := by rw [Int.tdiv_eq_ediv_of_nonneg (by omega), wrap64_id (by omega) (by omega)]; omega
      have h2 : Go.bits .or .u8 ((Int.tmod (n : Int) 128) % 256) 128 = ((n % 128 + 128 : Nat) : Int) := by rw [Int.tmod_eq_emod_of_nonneg (by omega), or128 _ (by omega) (by omega)]; omega
      rw [← h1, ← h2] at e
      refine Ev.step (fun k => spec_l01Put.l0.eq_2 (n : Int) acc k) (Ev_pos (by omega) (Ev_pos (by omega) (Ev_eq e ?_)))
      rw [h2]
      simp
    · rw [put_small (by omega)] at hl ⊢
      refine Ev.step (fun k => spec_l01Put.l0.eq_2 (n : Int) acc k) (Ev_neg (by omega) (Ev_pos (by omega) (Ev_eq (Ev_some _) ?_)))
      rw [show (n : Int) % 256 = (n : Int) by omega]
theorem l01Put_ev {n : Nat} (hn : n < 9223372036854775808) : Ev (fun k => spec_l01Put.f k (n : Int)) (put n) := by
  have := put_len9 hn
  exact l01Put_go n [] hn (by simp; omega)

theorem putNumber_spec (x : Int) (h : -9223372036854775808 ≤ x ∧ x < 9223372036854775808) : ∃ l c, Ev (fun k => impl_PutNumber.f k x) (l, c) ∧ Ev (fun k => spec_PutNumber.f k x) (l, c) ∧ l.length ≤ 9 := by
  by_cases hx : x < 0
  · exact ⟨[], 5, Ev_pos hx (Ev_some _), Ev_pos hx (Ev_some _), by simp⟩
  · obtain ⟨n, rfl⟩ := Int.eq_ofNat_of_zero_le (a := x) (by omega)
    have hn : n < 9223372036854775808 := by omega
    exact ⟨put n, 0, Ev_neg hx (Ev.bind (number_ev hn) (Ev_some _)), Ev_neg hx (Ev.bind (l01Put_ev hn) (Ev_some _)), put_len9 hn⟩
theorem FnExactPutNumber : laws_FnExactPutNumber.Pure := by
  intro x hx
  obtain ⟨l, c, h1, h2, h3⟩ := putNumber_spec x (int_bounds hx)
  refine Ev.rounds ?_
  refine Ev.bind h2 (Ev.bind h1 (Ev.bind (eqByteS_self l (by omega)) (Ev_pos rfl ?_)))
  refine Ev.step (fun k => laws_FnExactPutNumber.j0.eq_2 _ _ _ _ _ k) (Ev_neg (by simp) ?_)
  refine Ev.bind (markByteS_ev l 1 (by omega) (by omega) (by omega)) (Ev.bind (heldByteS_ev l.length 1 (by omega) (by omega) (by omega)) (Ev_neg (by omega) (Ev_pos rfl ?_)))
  refine Ev.bind h1 (Ev.bind (eqByteS_self l (by omega)) (Ev_pos rfl ?_))
  refine Ev.step (fun k => laws_FnExactPutNumber.j1.eq_2 _ _ _ k) (Ev_neg (by simp) ?_)
  exact Ev.bind (heldByteS_ev l.length 1 (by omega) (by omega) (by omega)) (Ev_neg (by omega) (Ev_pos rfl (Ev_some _)))

end Go.Proofs.Ytjblpjfiiinjbaa.Pure
