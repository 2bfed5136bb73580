/- FnNumbers: a number is read back from its bytes, wherever they stand, and from fewer of them it is not. No conditions. -/
import Derived.Test.YtjblpjfiiinjbaaPFnNumbersx2
import Derived.OpenShut
namespace Go.Proofs.Ytjblpjfiiinjbaa.Pure
open Go.RowKit Go.Proofs.Ytjblpjfiiinjbaa.PFnNumbers Go.Proofs.YtjblpjfiiinjbaaW.PrintWords Go.Proofs.YtjblpjfiiinjbaaW.PrintLast Go.Proofs.YtjblpjfiiinjbaaW.PrintMore
set_option linter.unusedVariables false
set_option linter.unusedSimpArgs false

theorem Ev_pos {α : Type} {c : Prop} [Decidable c] {A B : Nat → Option α} {r : α} (h : c) (e : Ev A r) : Ev (fun k => if c then A k else B k) r := by
  simpa only [if_pos h] using e
theorem Ev_neg {α : Type} {c : Prop} [Decidable c] {A B : Nat → Option α} {r : α} (h : ¬ c) (e : Ev B r) : Ev (fun k => if c then A k else B k) r := by
  simpa only [if_neg h] using e
theorem Ev_some {α : Type} (r : α) : Ev (fun _ => some r) r := Ev.now r
theorem Ev_const {α : Type} {x : Option α} {r : α} (h : x = some r) : Ev (fun _ => x) r := ⟨0, fun _ _ => h⟩
theorem Ev_eq {α : Type} {A : Nat → Option α} {r q : α} (h : Ev A r) (e : r = q) : Ev A q := e ▸ h
theorem Ev_bindc {α β : Type} {x : Option α} {f : Nat → α → Option β} {a : α} {r : β} (h : x = some a) (k : Ev (fun n => f n a) r) : Ev (fun n => x.bind (f n)) r := Ev.bind (g := fun _ => x) (Ev_const h) k
theorem wrap64_id {x : Int} (h0 : -9223372036854775808 ≤ x) (h1 : x ≤ 9223372036854775807) : wrap64 x = x := by
  unfold wrap64; omega
theorem int_bounds {x : Int} (h : (Lit.int .i64 x).wf = true) : -9223372036854775808 ≤ x ∧ x < 9223372036854775808 := by
  have := Go.bounds_i64 h
  omega
theorem u8_bounds {l : List Int} (h : ∀ x ∈ l, (Lit.int .u8 x).wf = true) : ∀ x ∈ l, 0 ≤ x ∧ x < 256 := by
  intro x hx
  have := Go.bounds_u8 (h x hx)
  omega

def put (n : Nat) : List Int := if h : 128 ≤ n then ((n % 128 + 128 : Nat) : Int) :: put (n / 128) else [(n : Int)]
termination_by n
decreasing_by omega
theorem put_small {n : Nat} (h : n < 128) : put n = [(n : Int)] := by rw [put]; simp; omega
theorem put_big {n : Nat} (h : 128 ≤ n) : put n = ((n % 128 + 128 : Nat) : Int) :: put (n / 128) := by rw [put]; simp [h]
theorem put_pos (n : Nat) : 1 ≤ (put n).length := by rw [put]; split <;> simp
theorem put_len : ∀ (j n : Nat), n < 128 ^ (j + 1) → (put n).length ≤ j + 1
  | 0, n, h => by rw [put_small (by simpa using h)]; simp
  | j + 1, n, h => by
    by_cases hn : 128 ≤ n
    · rw [put_big hn]
      have := put_len j (n / 128) (by rw [Nat.div_lt_iff_lt_mul (by omega)]; rw [Nat.pow_succ] at h; exact h)
      simp only [List.length_cons]
      omega
    · rw [put_small (by omega)]
      simp
theorem put_len9 {n : Nat} (h : n < 9223372036854775808) : (put n).length ≤ 9 := put_len 8 n (by omega)
theorem put_u8 (n : Nat) : ∀ x ∈ put n, 0 ≤ x ∧ x < 256 := by
  induction n using Nat.strongRecOn with
  | _ n ih =>
    by_cases hn : 128 ≤ n
    · rw [put_big hn]
      intro x hx
      simp only [List.mem_cons] at hx
      rcases hx with rfl | hx
      · omega
      · exact ih (n / 128) (by omega) x hx
    · rw [put_small (by omega)]
      intro x hx
      simp only [List.mem_cons, List.not_mem_nil, or_false] at hx
      omega
theorem or128 (y : Int) (h0 : 0 ≤ y) (h1 : y < 128) : Go.bits .or .u8 y 128 = y + 128 := by
  obtain ⟨a, rfl⟩ := Int.eq_ofNat_of_zero_le h0
  have : a < 128 := by omega
  rw [show (128 : Int) = ((128 : Nat) : Int) from rfl, (bits_nat .u8 8 (by decide) wraps_u8 a 128 (by omega) (by omega)).2]
  have : a ||| 128 = a + 128 := by
    have h := Nat.two_pow_add_eq_or_of_lt (i := 7) (b := a) (by omega) 1
    rw [Nat.or_comm]
    simp at h
    omega
  rw [this]
  rfl
theorem number_go (n : Nat) : ∀ acc : List Int, n < 9223372036854775808 → (acc.length : Int) + 10 ≤ 140737488355328 - (put n).length → Ev (fun k => impl_number.l0 k (n : Int) acc) (acc ++ put n) := by
  induction n using Nat.strongRecOn with
  | _ n ih =>
    intro acc hn hl
    by_cases h : 128 ≤ n
    · have hp := put_big h
      rw [hp] at hl ⊢
      simp only [List.length_cons] at hl
      have e := ih (n / 128) (by omega) (acc ++ [((n % 128 + 128 : Nat) : Int)]) (by omega) (by simp; omega)
      have h1 : wrap64 (Int.tdiv (n : Int) 128) = ((n / 128 : Nat) : Int) := by rw [Int.tdiv_eq_ediv_of_nonneg (by omega), wrap64_id (by omega) (by omega)]; omega
      have h2 : (wrap64 ((Int.tmod (n : Int) 128) + 128)) % 256 = ((n % 128 + 128 : Nat) : Int) := by rw [Int.tmod_eq_emod_of_nonneg (by omega), wrap64_id (by omega) (by omega)]; omega
      rw [← h1, ← h2] at e
      refine Ev.step (fun k => impl_number.l0.eq_2 (n : Int) acc k) (Ev_pos (by omega) (Ev_pos (by omega) (Ev_eq e ?_)))
      rw [h2]
      simp
    · rw [put_small (by omega)] at hl ⊢
      refine Ev.step (fun k => impl_number.l0.eq_2 (n : Int) acc k) (Ev_neg (by omega) (Ev_pos (by omega) (Ev_eq (Ev_some _) ?_)))
      rw [show (n : Int) % 256 = (n : Int) by omega]
theorem number_ev {n : Nat} (hn : n < 9223372036854775808) : Ev (fun k => impl_number.f k (n : Int)) (put n) := by
  have := put_len9 hn
  exact number_go n [] hn (by simp; omega)
theorem l01Put_go (n : Nat) : ∀ acc : List Int, n < 9223372036854775808 → (acc.length : Int) + 10 ≤ 140737488355328 - (put n).length → Ev (fun k => spec_l01Put.l0 k (n : Int) acc) (acc ++ put n) := by
  induction n using Nat.strongRecOn with
  | _ n ih =>
    intro acc hn hl
    by_cases h : 128 ≤ n
    · have hp := put_big h
      rw [hp] at hl ⊢
      simp only [List.length_cons] at hl
      have e := ih (n / 128) (by omega) (acc ++ [((n % 128 + 128 : Nat) : Int)]) (by omega) (by simp; omega)
      have h1 : wrap64 (Int.tdiv (n : Int) 128) = ((n / 128 : Nat) : Int) := by rw [Int.tdiv_eq_ediv_of_nonneg (by omega), wrap64_id (by omega) (by omega)]; omega
      have h2 : Go.bits .or .u8 ((Int.tmod (n : Int) 128) % 256) 128 = ((n % 128 + 128 : Nat) : Int) := by rw [Int.tmod_eq_emod_of_nonneg (by omega), or128 _ (by omega) (by omega)]; omega
      rw [← h1, ← h2] at e
      refine Ev.step (fun k => spec_l01Put.l0.eq_2 (n : Int) acc k) (Ev_pos (by omega) (Ev_pos (by omega) (Ev_eq e ?_)))
      rw [h2]
      simp
    · rw [put_small (by omega)] at hl ⊢
      refine Ev.step (fun k => spec_l01Put.l0.eq_2 (n : Int) acc k) (Ev_neg (by omega) (Ev_pos (by omega) (Ev_eq (Ev_some _) ?_)))
      rw [show (n : Int) % 256 = (n : Int) by omega]
theorem l01Put_ev {n : Nat} (hn : n < 9223372036854775808) : Ev (fun k => spec_l01Put.f k (n : Int)) (put n) := by
  have := put_len9 hn
  exact l01Put_go n [] hn (by simp; omega)

theorem within_ev (a b c : Int) : impl_within.f a b c = some (decide (b ≤ a) && decide (a ≤ c)) := by
  unfold impl_within.f
  by_cases h : b ≤ a <;> simp [h]
theorem unless_ev (b : Bool) (c : Int) : impl_unless.f b c = some (if b = true then 0 else c) := by
  unfold impl_unless.f
  cases b <;> simp
theorem longBytes_ev (l : List Int) : impl_longBytes.f l = some (if (l.length : Int) ≤ 65536 then 0 else 2) := by
  unfold impl_longBytes.f
  rw [unless_ev, Option.bind_some]
  by_cases h : (l.length : Int) ≤ 65536 <;> simp [h]
theorem first2_ev (a b : Int) : Ev (fun k => impl_first.f k [a, b]) (if a = 0 then b else a) := by
  have h2 : wrap64 ((0 : Int) + 1) = 1 := wrap64_id (by omega) (by omega)
  have h3 : wrap64 ((1 : Int) + 1) = 2 := wrap64_id (by omega) (by omega)
  have e2 : Ev (fun k => impl_first.l0 k [a, b] 2 2) 0 := Ev.step (fun k => impl_first.l0.eq_2 _ _ _ k) (Ev_neg (by omega) (Ev_some _))
  have e1 : Ev (fun k => impl_first.l0 k [a, b] 2 1) b := by
    refine Ev.step (fun k => impl_first.l0.eq_2 _ _ _ k) (Ev_pos (by omega) (Ev_pos (by omega) (Ev_pos (by simp) ?_)))
    by_cases hb : b = 0
    · subst hb
      refine Ev_pos rfl ?_
      rw [h3]
      exact e2
    · exact Ev_neg hb (Ev_some _)
  refine Ev.step (g := fun k => impl_first.l0 k [a, b] 2 0) (fun k => impl_first.l0.eq_2 _ _ _ k) (Ev_pos (by omega) (Ev_pos (by omega) (Ev_pos (by simp) ?_)))
  by_cases ha : a = 0
  · subst ha
    refine Ev_pos rfl ?_
    rw [h2]
    simpa using e1
  · rw [if_neg ha]
    exact Ev_neg ha (Ev_some _)

/-- A number's bytes read, i bytes of it read already (n), fuel bytes still let in: the number and how many bytes it has, 0 where there is none, -1 where the bytes end in it. -/
def rdn : Nat → Nat → Int → List Int → Int × Int
  | 0, _, _, _ => (0, 0)
  | _ + 1, _, _, [] => (0, -1)
  | f + 1, i, n, c :: l => if c < 128 then (if 0 < i ∧ c = 0 then (0, 0) else (n + c * 128 ^ i, (i : Int) + 1)) else rdn f (i + 1) (n + (c - 128) * 128 ^ i) l
theorem rdn_range : ∀ (f i : Nat) (n : Int) (l : List Int), (rdn f i n l).2 = 0 ∨ (rdn f i n l).2 = -1 ∨ (1 ≤ (rdn f i n l).2 ∧ (rdn f i n l).2 ≤ i + l.length ∧ (rdn f i n l).2 ≤ i + f)
  | 0, _, _, _ => by simp [rdn]
  | _ + 1, _, _, [] => by simp [rdn]
  | f + 1, i, n, c :: l => by
    simp only [rdn, List.length_cons]
    split
    · split
      · simp
      · simp; omega
    · have := rdn_range f (i + 1) (n + (c - 128) * 128 ^ i) l
      omega
theorem rdn_lo : ∀ (f i : Nat) (n : Int) (l : List Int), (rdn f i n l).2 ≤ 0 → (rdn f i n l).1 = 0
  | 0, _, _, _ => by simp [rdn]
  | _ + 1, _, _, [] => by simp [rdn]
  | f + 1, i, n, c :: l => by
    simp only [rdn]
    split
    · split
      · simp
      · simp; omega
    · exact rdn_lo f (i + 1) _ l
theorem rdn_nonneg : ∀ (f i : Nat) (n : Int) (l : List Int), 0 ≤ n → (∀ x ∈ l, 0 ≤ x ∧ x < 256) → 0 ≤ (rdn f i n l).1
  | 0, _, _, _ => by simp [rdn]
  | _ + 1, _, _, [] => by simp [rdn]
  | f + 1, i, n, c :: l => by
    intro hn hl
    have hc := hl c (by simp)
    have hp : (0 : Int) ≤ 128 ^ i := Int.pow_nonneg (by decide)
    simp only [rdn]
    split
    · split
      · simp
      · have := Int.mul_nonneg hc.1 hp
        simp only
        omega
    · have := Int.mul_nonneg (show 0 ≤ c - 128 by omega) hp
      exact rdn_nonneg f (i + 1) _ l (by omega) (fun x hx => hl x (by simp [hx]))
/-- The number that is read fits 63 bits. -/
theorem rdn_lt : ∀ (f i : Nat) (n : Int) (l : List Int), 0 ≤ n → n < 128 ^ i → (∀ x ∈ l, 0 ≤ x ∧ x < 256) → (rdn f i n l).1 < 128 ^ (i + f)
  | 0, i, n, l, h0, h1, _ => by
    simp only [rdn]
    exact Int.pow_pos (by decide)
  | f + 1, i, n, [], h0, h1, _ => by
    simp only [rdn]
    exact Int.pow_pos (by decide)
  | f + 1, i, n, c :: l, h0, h1, hl => by
    have hc := hl c (by simp)
    have hp : (0 : Int) < 128 ^ i := Int.pow_pos (by decide)
    have hq : (128 : Int) ^ (i + 1) ≤ 128 ^ (i + (f + 1)) := by
      rw [show i + (f + 1) = (i + 1) + f by omega, Int.pow_add (128 : Int) (i + 1) f]
      have : (1 : Int) ≤ 128 ^ f := Int.pow_pos (by decide)
      have hr : (0 : Int) ≤ 128 ^ (i + 1) := Int.pow_nonneg (by decide)
      have := Int.mul_le_mul_of_nonneg_left this hr
      rwa [Int.mul_one] at this
    have hs : (128 : Int) ^ (i + 1) = 128 * 128 ^ i := by rw [Int.pow_succ]; omega
    simp only [rdn]
    split
    · split
      · exact Int.lt_of_lt_of_le (by omega) hq
      · have : c * 128 ^ i ≤ 127 * 128 ^ i := Int.mul_le_mul_of_nonneg_right (by omega) (by omega)
        simp only
        omega
    · have h2 : (c - 128) * 128 ^ i ≤ 127 * 128 ^ i := Int.mul_le_mul_of_nonneg_right (by omega) (by omega)
      have h3 := Int.mul_nonneg (show 0 ≤ c - 128 by omega) (show (0 : Int) ≤ 128 ^ i by omega)
      have := rdn_lt f (i + 1) (n + (c - 128) * 128 ^ i) l (by omega) (by omega) (fun x hx => hl x (by simp [hx]))
      rw [show i + (f + 1) = i + 1 + f by omega]
      exact this
theorem pow128 (i : Nat) : (128 : Int) ^ i = 2 ^ (7 * i) := by rw [Int.pow_mul]; rfl
theorem wraps_i64 (n : Int) (h₀ : 0 ≤ n) (h₁ : n < 2 ^ 63) : IntKind.i64.wrap n = n := by rw [IntKind.wrap_i64]; omega
theorem or_join (n c : Int) (i : Nat) (hi : i ≤ 8) (h0 : 0 ≤ n) (h1 : n < 128 ^ i) (hc0 : 0 ≤ c) (hc1 : c < 128) : Go.bits .or .i64 n (shl .i64 (wrap64 c) (wrap64 (7 * (i : Int)))) = n + c * 128 ^ i := by
  rw [wrap64_id (x := c) (by omega) (by omega), wrap64_id (x := 7 * (i : Int)) (by omega) (by omega)]
  have hm : min (7 * (i : Int)).toNat IntKind.i64.bits = 7 * i := by
    have : IntKind.i64.bits = 64 := rfl
    omega
  have hp : (128 : Int) ^ i ≤ 72057594037927936 := by
    have : (128 : Int) ^ i ≤ 128 ^ 8 := by exact_mod_cast Nat.pow_le_pow_right (by decide : 0 < 128) hi
    omega
  have hp0 : (0 : Int) < 128 ^ i := Int.pow_pos (by decide)
  have hc2 : c * 128 ^ i ≤ 127 * 128 ^ i := Int.mul_le_mul_of_nonneg_right (by omega) (by omega)
  have hc3 := Int.mul_nonneg hc0 (Int.le_of_lt hp0)
  unfold shl
  rw [hm, ← pow128, wraps_i64 _ hc3 (by omega)]
  obtain ⟨a, rfl⟩ := Int.eq_ofNat_of_zero_le h0
  obtain ⟨b, rfl⟩ := Int.eq_ofNat_of_zero_le hc0
  have ha : a < 2 ^ (7 * i) := by rw [pow128] at h1; exact_mod_cast h1
  have hb : (b : Int) * 128 ^ i = ((2 ^ (7 * i) * b : Nat) : Int) := by rw [pow128]; push_cast; rw [Int.mul_comm]
  rw [hb] at hc2 ⊢
  have h8 : (2 : Nat) ^ (7 * i) ≤ 72057594037927936 := by
    have : (2 : Nat) ^ (7 * i) ≤ 2 ^ 56 := Nat.pow_le_pow_right (by decide) (by omega)
    omega
  have e := (bits_nat .i64 63 (by decide) wraps_i64 a (2 ^ (7 * i) * b) (by omega) (by omega)).2
  rw [e, Nat.or_comm, ← Nat.two_pow_add_eq_or_of_lt ha b]
  push_cast
  omega
theorem and127 (c : Int) (h0 : 0 ≤ c) (h1 : c < 256) : Go.bits .and .u8 c 127 = c % 128 := bits_mask .u8 8 (by decide) wraps_u8 7 (by decide) c h0 h1
theorem readNumber_go (l : List Int) (hl : ∀ x ∈ l, 0 ≤ x ∧ x < 256) : ∀ (f i : Nat) (n : Int) (pre suf : List Int), i + f = 9 → l = pre ++ suf → pre.length = i → 0 ≤ n → n < 128 ^ i → Ev (fun k => impl_readNumber.l0 k l n (i : Int)) (rdn f i n suf) := by
  intro f
  induction f with
  | zero =>
    intro i n pre suf hf hs hp h0 h1
    exact Ev.step (fun k => impl_readNumber.l0.eq_2 _ _ _ k) (Ev_neg (by omega) (Ev_some _))
  | succ f ih =>
    intro i n pre suf hf hs hp h0 h1
    cases suf with
    | nil =>
      refine Ev.step (fun k => impl_readNumber.l0.eq_2 _ _ _ k) (Ev_pos (by omega) (Ev_pos (by rw [hs]; simp [hp]) (Ev_some _)))
    | cons c suf =>
      have hc := hl c (by rw [hs]; simp)
      have hlen : (l.length : Int) = (i : Int) + 1 + suf.length := by rw [hs]; simp [hp]; omega
      have hr : rd l (i : Int) = c := by
        rw [hs]; unfold rd; simp [List.getD, ← hp]
      have h7 := Aside0.mk (show wrap64 (7 * (i : Int)) = 7 * (i : Int) from wrap64_id (by omega) (by omega))
      have hi1 := Aside0.mk (show wrap64 ((i : Int) + 1) = ((i + 1 : Nat) : Int) by rw [wrap64_id (by omega) (by omega)]; rfl)
      refine Ev.step (fun k => impl_readNumber.l0.eq_2 _ _ _ k) (Ev_pos (by omega) (Ev_neg (by omega) (Ev_pos (by omega) (Ev_pos (by omega) (Ev_pos (by rw [h7.out]; omega) ?_)))))
      rw [hr, and127 c hc.1 hc.2]
      by_cases h128 : c < 128
      · have hj := Aside0.mk (or_join n (c % 128) i (by omega) h0 h1 (by omega) (by omega))
        rw [hj.out, hi1.out, show c % 128 = c by omega]
        refine Ev_pos h128 ?_
        simp only [rdn, if_pos h128]
        by_cases hz : (i : Int) > 0
        · refine Ev_pos hz ?_
          by_cases hc0 : c = 0
          · exact Ev_pos hc0 (Ev_eq (Ev_some _) (by rw [if_pos ⟨by omega, hc0⟩]))
          · exact Ev_neg hc0 (Ev_eq (Ev_some _) (by rw [if_neg (by omega)]; rfl))
        · exact Ev_neg hz (Ev_eq (Ev_some _) (by rw [if_neg (by omega)]; rfl))
      · have hj := Aside0.mk (or_join n (c % 128) i (by omega) h0 h1 (by omega) (by omega))
        rw [hj.out, hi1.out, show c % 128 = c - 128 by omega]
        refine Ev_neg h128 ?_
        simp only [rdn, if_neg h128]
        have hp0 : (0 : Int) < 128 ^ i := Int.pow_pos (by decide)
        have h2 : (c - 128) * 128 ^ i ≤ 127 * 128 ^ i := Int.mul_le_mul_of_nonneg_right (by omega) (by omega)
        have h3 := Int.mul_nonneg (show 0 ≤ c - 128 by omega) (show (0 : Int) ≤ 128 ^ i by omega)
        have hs2 : (128 : Int) ^ (i + 1) = 128 * 128 ^ i := by rw [Int.pow_succ]; omega
        exact ih (i + 1) _ (pre ++ [c]) suf (by omega) (by rw [hs]; simp) (by simp [hp]) (by omega) (by omega)
theorem readNumber_ev (l : List Int) (hl : ∀ x ∈ l, 0 ≤ x ∧ x < 256) : Ev (fun k => impl_readNumber.f k l) (rdn 9 0 0 l) :=
  readNumber_go l hl 9 0 0 [] l rfl rfl rfl (by omega) (by decide)

theorem rdn_put : ∀ (f i n : Nat) (acc : Int) (l : List Int), n < 128 ^ f → (0 < i → 0 < n) → 0 < f → rdn f i acc (put n ++ l) = (acc + (n : Int) * 128 ^ i, (i : Int) + (put n).length)
  | 0, i, n, acc, l, hn, hz, hf => by omega
  | f + 1, i, n, acc, l, hn, hz, hf => by
    by_cases h : 128 ≤ n
    · rw [put_big h]
      simp only [List.cons_append, rdn, List.length_cons]
      rw [if_neg (by omega), rdn_put f (i + 1) (n / 128) _ l (by rw [Nat.div_lt_iff_lt_mul (by omega)]; rw [Nat.pow_succ] at hn; exact hn) (fun _ => by omega) (by rcases f with _ | f <;> simp at hn ⊢; omega)]
      have e : (n : Int) = ((n / 128 : Nat) : Int) * 128 + ((n % 128 : Nat) : Int) := by omega
      have e2 : (((n % 128 + 128 : Nat) : Int) - 128) = ((n % 128 : Nat) : Int) := by omega
      rw [e2, Int.pow_succ]
      refine Prod.ext ?_ ?_
      · show acc + ((n % 128 : Nat) : Int) * 128 ^ i + ((n / 128 : Nat) : Int) * (128 ^ i * 128) = acc + (n : Int) * 128 ^ i
        conv => rhs; rw [e]
        rw [Int.add_mul, Int.mul_assoc, Int.mul_comm 128 (128 ^ i)]
        omega
      · show ((i + 1 : Nat) : Int) + ((put (n / 128)).length : Int) = (i : Int) + (((put (n / 128)).length + 1 : Nat) : Int)
        omega
    · rw [put_small (by omega)]
      simp only [List.cons_append, List.nil_append, rdn]
      rw [if_pos (by omega), if_neg (by omega)]
      rfl
theorem rdn_short : ∀ (f i n j : Nat) (acc : Int), n < 128 ^ f → j < (put n).length → j < f → rdn f i acc ((put n).take j) = (0, -1)
  | 0, i, n, j, acc, hn, hj, hf => by omega
  | f + 1, i, n, j, acc, hn, hj, hf => by
    cases j with
    | zero => simp [rdn]
    | succ j =>
      by_cases h : 128 ≤ n
      · rw [put_big h] at hj ⊢
        simp only [List.take_succ_cons, rdn, List.length_cons] at hj ⊢
        rw [if_neg (by omega)]
        exact rdn_short f (i + 1) (n / 128) j _ (by rw [Nat.div_lt_iff_lt_mul (by omega)]; rw [Nat.pow_succ] at hn; exact hn) (by omega) (by omega)
      · rw [put_small (by omega)] at hj
        simp at hj

theorem rd_u8 {l : List Int} (h : ∀ x ∈ l, 0 ≤ x ∧ x < 256) (i : Int) : 0 ≤ rd l i ∧ rd l i < 256 := by
  unfold rd
  rw [List.getD_eq_getElem?_getD]
  by_cases hi : i.toNat < l.length
  · rw [List.getElem?_eq_getElem hi]
    exact h _ (List.getElem_mem hi)
  · rw [List.getElem?_eq_none (by omega)]
    decide
theorem at_ev (l : List Int) (hl : ∀ x ∈ l, 0 ≤ x ∧ x < 256) (hlen : (l.length : Int) ≤ 281474976710656) (i n : Int) (hi : 0 ≤ i ∧ i < 1000) (hn : 2 ≤ n) : ∃ v, laws_at.f l i n = some v ∧ 0 ≤ v ∧ v < n := by
  unfold laws_at.f
  rw [if_neg (by omega)]
  by_cases h0 : (l.length : Int) = 0
  · rw [if_pos h0, if_neg (by omega)]
    have e1 : wrap64 (i * 7) = i * 7 := wrap64_id (by omega) (by omega)
    rw [e1, Int.tmod_eq_emod_of_nonneg (by omega)]
    exact ⟨_, rfl, Int.emod_nonneg _ (by omega), Int.emod_lt_of_pos _ (by omega)⟩
  · have e1 : wrap64 (i + 1) = i + 1 := wrap64_id (by omega) (by omega)
    have t1 : Int.tmod i (l.length : Int) = i % (l.length : Int) := Int.tmod_eq_emod_of_nonneg hi.1
    have t2 : Int.tmod (i + 1) (l.length : Int) = (i + 1) % (l.length : Int) := Int.tmod_eq_emod_of_nonneg (by omega)
    have t3 : Int.tdiv i (l.length : Int) = i / (l.length : Int) := Int.tdiv_eq_ediv_of_nonneg hi.1
    have p1 := Int.emod_nonneg i (b := (l.length : Int)) (by omega)
    have p2 := Int.emod_lt_of_pos i (b := (l.length : Int)) (by omega)
    have p3 := Int.emod_nonneg (i + 1) (b := (l.length : Int)) (by omega)
    have p4 := Int.emod_lt_of_pos (i + 1) (b := (l.length : Int)) (by omega)
    have p5 : 0 ≤ i / (l.length : Int) := Int.ediv_nonneg hi.1 (by omega)
    have p6 : i / (l.length : Int) ≤ i := Int.ediv_le_self _ hi.1
    rw [if_neg h0, e1, t1, t2, t3, if_pos p1, if_pos p2, if_pos p3, if_pos p4, if_neg (by omega)]
    have r1 := rd_u8 hl (i % (l.length : Int))
    have r2 := rd_u8 hl ((i + 1) % (l.length : Int))
    generalize rd l (i % (l.length : Int)) = a at r1 ⊢
    generalize rd l ((i + 1) % (l.length : Int)) = b at r2 ⊢
    generalize i / (l.length : Int) = c at p5 p6 ⊢
    rw [wrap64_id (x := a) (by omega) (by omega), wrap64_id (x := b) (by omega) (by omega), wrap64_id (x := c) (by omega) (by omega), wrap64_id (x := a * 31) (by omega) (by omega), wrap64_id (x := a * 31 + b) (by omega) (by omega), wrap64_id (x := a * 31 + b + c) (by omega) (by omega), Int.tmod_eq_emod_of_nonneg (by omega)]
    exact ⟨_, rfl, Int.emod_nonneg _ (by omega), Int.emod_lt_of_pos _ (by omega)⟩

theorem first2_code (a : Bool) (b : Bool) : (if (if a = true then (0 : Int) else 2) = 0 then (if b = true then (0 : Int) else 5) else (if a = true then (0 : Int) else 2)) = if a = true then (if b = true then 0 else 5) else 2 := by
  cases a <;> cases b <;> decide
theorem getNumber_at (l : List Int) (hl : ∀ x ∈ l, 0 ≤ x ∧ x < 256) (hlen : (l.length : Int) ≤ 65536) (j : Nat) (hj : j ≤ l.length) (r : Int × Int) (hr : rdn 9 0 0 (l.drop j) = r) :
    Ev (fun k => impl_GetNumber.f k l (j : Int)) (if r.2 ≤ 0 then (0, 0, 3) else (r.1, (j : Int) + r.2, 0)) := by
  have hd : ∀ x ∈ l.drop j, 0 ≤ x ∧ x < 256 := fun x hx => hl x (List.mem_of_mem_drop hx)
  have hrr := rdn_range 9 0 0 (l.drop j)
  have e1 := readNumber_ev (l.drop j) hd
  have hle : (l.drop j).length ≤ l.length := by simp
  rw [hr] at hrr e1
  refine Ev_bindc (longBytes_ev l) (Ev_bindc (within_ev _ _ _) (Ev_bindc (unless_ev _ _) (Ev.bind (first2_ev _ _) ?_)))
  have e := first2_code (decide ((l.length : Int) ≤ 65536)) (decide (0 ≤ (j : Int)) && decide ((j : Int) ≤ (l.length : Int)))
  simp only [decide_eq_true_eq, Bool.and_eq_true] at e
  simp only [Bool.and_eq_true, decide_eq_true_eq]
  rw [e, if_pos hlen, if_pos ⟨by omega, by omega⟩]
  refine Ev_pos rfl (Ev_pos (by omega) (Ev_pos (by omega) (Ev.bind e1 ?_)))
  by_cases h3 : r.2 ≤ 0
  · exact Ev_eq (Ev_pos h3 (Ev_some _)) (by rw [if_pos h3])
  · exact Ev_eq (Ev_neg h3 (Ev_some _)) (by rw [if_neg h3, wrap64_id (by omega) (by omega)])
theorem FnNumbers : laws_FnNumbers.Pure := by
  intro l m _ _ hl _ hm8 hm
  refine Ev.rounds ?_
  have hl := u8_bounds hl
  have hm := u8_bounds hm
  by_cases h1 : (l.length : Int) > 60000
  · exact Ev_pos h1 (Ev.step (fun k => laws_FnNumbers.j0.eq_2 _ _ _ k) (Ev_pos rfl (Ev_some _)))
  refine Ev_neg h1 (Ev.step (fun k => laws_FnNumbers.j0.eq_2 _ _ _ k) ?_)
  by_cases h2 : (m.length : Int) > 1048576
  · exact Ev_pos (by simpa using h2) (Ev_some _)
  refine Ev_neg (by simpa using h2) ?_
  obtain ⟨a, ha, ha0, ha1⟩ := at_ev m hm (by omega) 0 1000 (by omega) (by omega)
  obtain ⟨b, hb, hb0, hb1⟩ := at_ev m hm (by omega) 1 1000 (by omega) (by omega)
  obtain ⟨c, hc, hc0, hc1⟩ := at_ev m hm (by omega) 2 50 (by omega) (by omega)
  refine Ev_bindc ha (Ev_bindc hb (Ev_bindc hc ?_))
  have q0 := Int.mul_nonneg ha0 hb0
  have q1 : a * b ≤ 999 * 999 := Int.mul_le_mul (by omega) (by omega) hb0 (by omega)
  have q2 := Int.mul_nonneg q0 hc0
  have q3 : a * b * c ≤ 998001 * 49 := Int.mul_le_mul (by omega) (by omega) hc0 (by omega)
  obtain ⟨n, hn⟩ := Int.eq_ofNat_of_zero_le q2
  have hw : wrap64 (wrap64 (a * b) * c) = (n : Int) := by
    rw [wrap64_id (x := a * b) (by omega) (by omega), wrap64_id (by omega) (by omega), hn]
  rw [hw]
  clear hw
  have hn5 : n < 128 ^ 5 := by omega
  have hn9 : n < 9223372036854775808 := by omega
  have hp1 := put_pos n
  have hp9 := put_len9 hn9
  have hp5 := put_len 4 n hn5
  refine Ev.bind (Ev_neg (by omega) (Ev.bind (number_ev hn9) (Ev_some _))) (Ev.bind (Ev_neg (by omega) (Ev.bind (l01Put_ev hn9) (Ev_some _))) ?_)
  refine Ev_bindc rfl (Ev_pos (by simp only [List.length_nil]; omega) (Ev_bindc rfl (Ev_pos (by simp only [List.nil_append]; omega) ?_)))
  have all8 : ∀ x ∈ [] ++ l ++ put n, 0 ≤ x ∧ x < 256 := by
    intro x hx
    simp only [List.nil_append, List.mem_append] at hx
    rcases hx with hx | hx
    · exact hl x hx
    · exact put_u8 n x hx
  have g1 := getNumber_at ([] ++ l ++ put n) all8 (by simp; omega) l.length (by simp) ((n : Int), ((put n).length : Int)) (by
    have e := rdn_put 9 0 n 0 [] (by omega) (by omega) (by omega)
    simpa using e)
  rw [if_neg (by simp only; omega)] at g1
  refine Ev.bind g1 ?_
  have hmn : mn 1 ((put n).length : Int) = 1 := by unfold mn; rw [if_neg (by omega)]
  have hw1 : wrap64 (((put n).length : Int) - 1) = (((put n).length - 1 : Nat) : Int) := by rw [wrap64_id (by omega) (by omega)]; omega
  have hw2 : wrap64 ((l.length : Int) + ((put n).length : Int)) = (l.length : Int) + ((put n).length : Int) := wrap64_id (by omega) (by omega)
  show Ev (fun k => if 0 ≤ wrap64 (((put n).length : Int) - mn 1 ((put n).length : Int)) then _ else _) _
  rw [hmn, hw1, hw2]
  have g2 := getNumber_at ((put n).take ((put n).length - 1)) (fun x hx => put_u8 n x (List.mem_of_mem_take hx)) (by simp; omega) 0 (by omega) (0, -1) (by
    rw [List.drop_zero]
    exact rdn_short 9 0 n _ 0 (by omega) (by omega) (by omega))
  rw [if_pos (by decide)] at g2
  dsimp only
  clear hw1 hw2 hmn
  refine Ev_pos (by omega) (Ev_pos (by omega) (Ev.bind g2 ?_))
  exact Ev_pos rfl (Ev_pos rfl (Ev_pos rfl (Ev_pos rfl (Ev_pos rfl (Ev_some _)))))

end Go.Proofs.Ytjblpjfiiinjbaa.Pure
