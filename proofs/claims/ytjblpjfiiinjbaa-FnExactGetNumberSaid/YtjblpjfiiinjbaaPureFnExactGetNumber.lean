/- FnExactGetNumber: for all bytes and every place the program's GetNumber and the reference's answer alike, and the bytes stay. No conditions. -/
import Derived.Test.YtjblpjfiiinjbaaPFnExactGetNumberx2
import Derived.OpenShut
namespace Go.Proofs.Ytjblpjfiiinjbaa.Pure
open Go.RowKit Go.Proofs.Ytjblpjfiiinjbaa.PFnExactGetNumber Go.Proofs.YtjblpjfiiinjbaaW.PrintWords Go.Proofs.YtjblpjfiiinjbaaW.PrintLast Go.Proofs.YtjblpjfiiinjbaaW.PrintMore
set_option linter.unusedVariables false
set_option linter.unusedSimpArgs false

theorem Ev_pos {α : Type} {c : Prop} [Decidable c] {A B : Nat → Option α} {r : α} (h : c) (e : Ev A r) : Ev (fun k => if c then A k else B k) r := by
  simpa only [if_pos h] using e
theorem Ev_neg {α : Type} {c : Prop} [Decidable c] {A B : Nat → Option α} {r : α} (h : ¬ c) (e : Ev B r) : Ev (fun k => if c then A k else B k) r := by
  simpa only [if_neg h] using e
theorem Ev_some {α : Type} (r : α) : Ev (fun _ => some r) r := Ev.now r
theorem Ev_const {α : Type} {x : Option α} {r : α} (h : x = some r) : Ev (fun _ => x) r := ⟨0, fun _ _ => h⟩
theorem Ev_eq {α : Type} {A : Nat → Option α} {r q : α} (h : Ev A r) (e : r = q) : Ev A q := e ▸ h
theorem Ev_bindc {α β : Type} {x : Option α} {f : Nat → α → Option β} {a : α} {r : β} (h : x = some a) (k : Ev (fun n => f n a) r) : Ev (fun n => x.bind (f n)) r := Ev.bind (g := fun _ => x) (Ev_const h) k
theorem wrap64_id {x : Int} (h0 : -9223372036854775808 ≤ x) (h1 : x ≤ 9223372036854775807) : wrap64 x = x := by
  unfold wrap64; omega
theorem int_bounds {x : Int} (h : (Lit.int .i64 x).wf = true) : -9223372036854775808 ≤ x ∧ x < 9223372036854775808 := by
  have := Go.bounds_i64 h
  omega
theorem u8_bounds {l : List Int} (h : ∀ x ∈ l, (Lit.int .u8 x).wf = true) : ∀ x ∈ l, 0 ≤ x ∧ x < 256 := by
  intro x hx
  have := Go.bounds_u8 (h x hx)
  omega

theorem rd_cons0 (x : Int) (l : List Int) : rd (x :: l) 0 = x := rfl
theorem rd_append_len (p : List Int) (x : Int) (l : List Int) : rd (p ++ x :: l) (p.length : Int) = x := by
  unfold rd
  simp [List.getD]
theorem eqByteS_go (a : List Int) (ha : (a.length : Int) ≤ 281474976710656) (d : Nat) : ∀ i : Int, 0 ≤ i → i ≤ (a.length : Int) → (a.length : Int) - i = d → Ev (fun k => laws_eqByteS.l0 k a a i) true := by
  induction d with
  | zero =>
    intro i h0 h1 hd
    exact Ev.step (fun k => laws_eqByteS.l0.eq_2 a a i k) (Ev_neg (by omega) (Ev_some _))
  | succ d ih =>
    intro i h0 h1 hd
    have e := ih (i + 1) (by omega) (by omega) (by omega)
    have hw : wrap64 (i + 1) = i + 1 := wrap64_id (by omega) (by omega)
    rw [← hw] at e
    exact Ev.step (fun k => laws_eqByteS.l0.eq_2 a a i k) (Ev_pos (by omega) (Ev_pos h0 (Ev_pos (by omega) (Ev_pos rfl e))))
theorem eqByteS_self (a : List Int) (ha : (a.length : Int) ≤ 281474976710656) : Ev (fun k => laws_eqByteS.f k a a) true :=
  Ev_pos rfl (eqByteS_go a ha a.length 0 (by omega) (by omega) (by omega))

theorem rd_mid (p q : List Int) (x : Int) (n : Nat) (h : n = p.length) : rd (p ++ x :: q) (n : Int) = x := by
  subst h
  unfold rd
  simp [List.getD]
theorem toByteS_go : ∀ (suf pre zs : List Int), zs.length = suf.length → (pre.length : Int) + (suf.length : Int) ≤ 281474976710656 →
    Ev (fun k => laws_toByteS.l0 k (pre ++ suf) (pre ++ zs) (pre.length : Int)) (pre ++ suf) := by
  intro suf
  induction suf with
  | nil =>
    intro pre zs hz h
    have : zs = [] := List.eq_nil_of_length_eq_zero (by simpa using hz)
    subst this
    exact Ev.step (fun k => laws_toByteS.l0.eq_2 _ _ _ k) (Ev_neg (by simp) (Ev_some _))
  | cons x suf ih =>
    intro pre zs hz h
    cases zs with
    | nil => simp at hz
    | cons z zs =>
      simp only [List.length_cons] at hz h
      have e := ih (pre ++ [x]) zs (by omega) (by simp; omega)
      have hw : wrap64 ((pre.length : Int) + 1) = ((pre ++ [x]).length : Int) := by rw [wrap64_id (by omega) (by omega)]; simp
      have h1 : (pre ++ [x]) ++ suf = pre ++ x :: suf := by simp
      have h2 : (pre ++ [x]) ++ zs = (pre ++ z :: zs).set ((pre.length : Int)).toNat (rd (pre ++ x :: suf) (pre.length : Int)) := by
        rw [rd_mid pre suf x pre.length rfl]; simp
      rw [← hw, h1, h2] at e
      exact Ev.step (fun k => laws_toByteS.l0.eq_2 _ _ _ k) (Ev_pos (by simp; omega) (Ev_pos (by omega) (Ev_pos (by simp; omega) e)))
theorem toByteS_ev (l : List Int) (h : (l.length : Int) ≤ 281474976710656) : Ev (fun k => laws_toByteS.f k l) l := by
  have e := toByteS_go l [] (List.replicate l.length 0) (by simp) (by simpa using h)
  exact Ev_pos (by omega) (Ev_pos (by omega) (by simpa using e))

theorem within_ev (a b c : Int) : impl_within.f a b c = some (decide (b ≤ a) && decide (a ≤ c)) := by
  unfold impl_within.f
  by_cases h : b ≤ a <;> simp [h]
theorem unless_ev (b : Bool) (c : Int) : impl_unless.f b c = some (if b = true then 0 else c) := by
  unfold impl_unless.f
  cases b <;> simp
theorem longBytes_ev (l : List Int) : impl_longBytes.f l = some (if (l.length : Int) ≤ 65536 then 0 else 2) := by
  unfold impl_longBytes.f
  rw [unless_ev, Option.bind_some]
  by_cases h : (l.length : Int) ≤ 65536 <;> simp [h]
theorem first2_ev (a b : Int) : Ev (fun k => impl_first.f k [a, b]) (if a = 0 then b else a) := by
  have h2 : wrap64 ((0 : Int) + 1) = 1 := wrap64_id (by omega) (by omega)
  have h3 : wrap64 ((1 : Int) + 1) = 2 := wrap64_id (by omega) (by omega)
  have e2 : Ev (fun k => impl_first.l0 k [a, b] 2 2) 0 := Ev.step (fun k => impl_first.l0.eq_2 _ _ _ k) (Ev_neg (by omega) (Ev_some _))
  have e1 : Ev (fun k => impl_first.l0 k [a, b] 2 1) b := by
    refine Ev.step (fun k => impl_first.l0.eq_2 _ _ _ k) (Ev_pos (by omega) (Ev_pos (by omega) (Ev_pos (by simp) ?_)))
    by_cases hb : b = 0
    · subst hb
      refine Ev_pos rfl ?_
      rw [h3]
      exact e2
    · exact Ev_neg hb (Ev_some _)
  refine Ev.step (g := fun k => impl_first.l0 k [a, b] 2 0) (fun k => impl_first.l0.eq_2 _ _ _ k) (Ev_pos (by omega) (Ev_pos (by omega) (Ev_pos (by simp) ?_)))
  by_cases ha : a = 0
  · subst ha
    refine Ev_pos rfl ?_
    rw [h2]
    simpa using e1
  · rw [if_neg ha]
    exact Ev_neg ha (Ev_some _)

/-- A number's bytes read, i bytes of it read already (n), fuel bytes still let in: the number and how many bytes it has, 0 where there is none, -1 where the bytes end in it. -/
def rdn : Nat → Nat → Int → List Int → Int × Int
  | 0, _, _, _ => (0, 0)
  | _ + 1, _, _, [] => (0, -1)
  | f + 1, i, n, c :: l => if c < 128 then (if 0 < i ∧ c = 0 then (0, 0) else (n + c * 128 ^ i, (i : Int) + 1)) else rdn f (i + 1) (n + (c - 128) * 128 ^ i) l
theorem rdn_range : ∀ (f i : Nat) (n : Int) (l : List Int), (rdn f i n l).2 = 0 ∨ (rdn f i n l).2 = -1 ∨ (1 ≤ (rdn f i n l).2 ∧ (rdn f i n l).2 ≤ i + l.length ∧ (rdn f i n l).2 ≤ i + f)
  | 0, _, _, _ => by simp [rdn]
  | _ + 1, _, _, [] => by simp [rdn]
  | f + 1, i, n, c :: l => by
    simp only [rdn, List.length_cons]
    split
    · split
      · simp
      · simp; omega
    · have := rdn_range f (i + 1) (n + (c - 128) * 128 ^ i) l
      omega
theorem rdn_lo : ∀ (f i : Nat) (n : Int) (l : List Int), (rdn f i n l).2 ≤ 0 → (rdn f i n l).1 = 0
  | 0, _, _, _ => by simp [rdn]
  | _ + 1, _, _, [] => by simp [rdn]
  | f + 1, i, n, c :: l => by
    simp only [rdn]
    split
    · split
      · simp
      · simp; omega
    · exact rdn_lo f (i + 1) _ l
theorem rdn_nonneg : ∀ (f i : Nat) (n : Int) (l : List Int), 0 ≤ n → (∀ x ∈ l, 0 ≤ x ∧ x < 256) → 0 ≤ (rdn f i n l).1
  | 0, _, _, _ => by simp [rdn]
  | _ + 1, _, _, [] => by simp [rdn]
  | f + 1, i, n, c :: l => by
    intro hn hl
    have hc := hl c (by simp)
    have hp : (0 : Int) ≤ 128 ^ i := Int.pow_nonneg (by decide)
    simp only [rdn]
    split
    · split
      · simp
      · have := Int.mul_nonneg hc.1 hp
        simp only
        omega
    · have := Int.mul_nonneg (show 0 ≤ c - 128 by omega) hp
      exact rdn_nonneg f (i + 1) _ l (by omega) (fun x hx => hl x (by simp [hx]))
/-- The number that is read fits 63 bits. -/
theorem rdn_lt : ∀ (f i : Nat) (n : Int) (l : List Int), 0 ≤ n → n < 128 ^ i → (∀ x ∈ l, 0 ≤ x ∧ x < 256) → (rdn f i n l).1 < 128 ^ (i + f)
  | 0, i, n, l, h0, h1, _ => by
    simp only [rdn]
    exact Int.pow_pos (by decide)
  | f + 1, i, n, [], h0, h1, _ => by
    simp only [rdn]
    exact Int.pow_pos (by decide)
  | f + 1, i, n, c :: l, h0, h1, hl => by
    have hc := hl c (by simp)
    have hp : (0 : Int) < 128 ^ i := Int.pow_pos (by decide)
    have hq : (128 : Int) ^ (i + 1) ≤ 128 ^ (i + (f + 1)) := by
      rw [show i + (f + 1) = (i + 1) + f by omega, Int.pow_add (128 : Int) (i + 1) f]
      have : (1 : Int) ≤ 128 ^ f := Int.pow_pos (by decide)
      have hr : (0 : Int) ≤ 128 ^ (i + 1) := Int.pow_nonneg (by decide)
      have := Int.mul_le_mul_of_nonneg_left this hr
      rwa [Int.mul_one] at this
    have hs : (128 : Int) ^ (i + 1) = 128 * 128 ^ i := by rw [Int.pow_succ]; omega
    simp only [rdn]
    split
    · split
      · exact Int.lt_of_lt_of_le (by omega) hq
      · have : c * 128 ^ i ≤ 127 * 128 ^ i := Int.mul_le_mul_of_nonneg_right (by omega) (by omega)
        simp only
        omega
    · have h2 : (c - 128) * 128 ^ i ≤ 127 * 128 ^ i := Int.mul_le_mul_of_nonneg_right (by omega) (by omega)
      have h3 := Int.mul_nonneg (show 0 ≤ c - 128 by omega) (show (0 : Int) ≤ 128 ^ i by omega)
      have := rdn_lt f (i + 1) (n + (c - 128) * 128 ^ i) l (by omega) (by omega) (fun x hx => hl x (by simp [hx]))
      rw [show i + (f + 1) = i + 1 + f by omega]
      exact this
theorem pow128 (i : Nat) : (128 : Int) ^ i = 2 ^ (7 * i) := by rw [Int.pow_mul]; rfl
theorem wraps_i64 (n : Int) (h₀ : 0 ≤ n) (h₁ : n < 2 ^ 63) : IntKind.i64.wrap n = n := by rw [IntKind.wrap_i64]; omega
theorem or_join (n c : Int) (i : Nat) (hi : i ≤ 8) (h0 : 0 ≤ n) (h1 : n < 128 ^ i) (hc0 : 0 ≤ c) (hc1 : c < 128) : Go.bits .or .i64 n (shl .i64 (wrap64 c) (wrap64 (7 * (i : Int)))) = n + c * 128 ^ i := by
  rw [wrap64_id (x := c) (by omega) (by omega), wrap64_id (x := 7 * (i : Int)) (by omega) (by omega)]
  have hm : min (7 * (i : Int)).toNat IntKind.i64.bits = 7 * i := by
    have : IntKind.i64.bits = 64 := rfl
    omega
  have hp : (128 : Int) ^ i ≤ 72057594037927936 := by
    have : (128 : Int) ^ i ≤ 128 ^ 8 := by exact_mod_cast Nat.pow_le_pow_right (by decide : 0 < 128) hi
    omega
  have hp0 : (0 : Int) < 128 ^ i := Int.pow_pos (by decide)
  have hc2 : c * 128 ^ i ≤ 127 * 128 ^ i := Int.mul_le_mul_of_nonneg_right (by omega) (by omega)
  have hc3 := Int.mul_nonneg hc0 (Int.le_of_lt hp0)
  unfold shl
  rw [hm, ← pow128, wraps_i64 _ hc3 (by omega)]
  obtain ⟨a, rfl⟩ := Int.eq_ofNat_of_zero_le h0
  obtain ⟨b, rfl⟩ := Int.eq_ofNat_of_zero_le hc0
  have ha : a < 2 ^ (7 * i) := by rw [pow128] at h1; exact_mod_cast h1
  have hb : (b : Int) * 128 ^ i = ((2 ^ (7 * i) * b : Nat) : Int) := by rw [pow128]; push_cast; rw [Int.mul_comm]
  rw [hb] at hc2 ⊢
  have h8 : (2 : Nat) ^ (7 * i) ≤ 72057594037927936 := by
    have : (2 : Nat) ^ (7 * i) ≤ 2 ^ 56 := Nat.pow_le_pow_right (by decide) (by omega)
    omega
  have e := (bits_nat .i64 63 (by decide) wraps_i64 a (2 ^ (7 * i) * b) (by omega) (by omega)).2
  rw [e, Nat.or_comm, ← Nat.two_pow_add_eq_or_of_lt ha b]
  push_cast
  omega
theorem and127 (c : Int) (h0 : 0 ≤ c) (h1 : c < 256) : Go.bits .and .u8 c 127 = c % 128 := bits_mask .u8 8 (by decide) wraps_u8 7 (by decide) c h0 h1
theorem readNumber_go (l : List Int) (hl : ∀ x ∈ l, 0 ≤ x ∧ x < 256) : ∀ (f i : Nat) (n : Int) (pre suf : List Int), i + f = 9 → l = pre ++ suf → pre.length = i → 0 ≤ n → n < 128 ^ i → Ev (fun k => impl_readNumber.l0 k l n (i : Int)) (rdn f i n suf) := by
  intro f
  induction f with
  | zero =>
    intro i n pre suf hf hs hp h0 h1
    exact Ev.step (fun k => impl_readNumber.l0.eq_2 _ _ _ k) (Ev_neg (by omega) (Ev_some _))
  | succ f ih =>
    intro i n pre suf hf hs hp h0 h1
    cases suf with
    | nil =>
      refine Ev.step (fun k => impl_readNumber.l0.eq_2 _ _ _ k) (Ev_pos (by omega) (Ev_pos (by rw [hs]; simp [hp]) (Ev_some _)))
    | cons c suf =>
      have hc := hl c (by rw [hs]; simp)
      have hlen : (l.length : Int) = (i : Int) + 1 + suf.length := by rw [hs]; simp [hp]; omega
      have hr : rd l (i : Int) = c := by
        rw [hs]; unfold rd; simp [List.getD, ← hp]
      have h7 := Aside0.mk (show wrap64 (7 * (i : Int)) = 7 * (i : Int) from wrap64_id (by omega) (by omega))
      have hi1 := Aside0.mk (show wrap64 ((i : Int) + 1) = ((i + 1 : Nat) : Int) by rw [wrap64_id (by omega) (by omega)]; rfl)
      refine Ev.step (fun k => impl_readNumber.l0.eq_2 _ _ _ k) (Ev_pos (by omega) (Ev_neg (by omega) (Ev_pos (by omega) (Ev_pos (by omega) (Ev_pos (by rw [h7.out]; omega) ?_)))))
      rw [hr, and127 c hc.1 hc.2]
      by_cases h128 : c < 128
      · have hj := Aside0.mk (or_join n (c % 128) i (by omega) h0 h1 (by omega) (by omega))
        rw [hj.out, hi1.out, show c % 128 = c by omega]
        refine Ev_pos h128 ?_
        simp only [rdn, if_pos h128]
        by_cases hz : (i : Int) > 0
        · refine Ev_pos hz ?_
          by_cases hc0 : c = 0
          · exact Ev_pos hc0 (Ev_eq (Ev_some _) (by rw [if_pos ⟨by omega, hc0⟩]))
          · exact Ev_neg hc0 (Ev_eq (Ev_some _) (by rw [if_neg (by omega)]; rfl))
        · exact Ev_neg hz (Ev_eq (Ev_some _) (by rw [if_neg (by omega)]; rfl))
      · have hj := Aside0.mk (or_join n (c % 128) i (by omega) h0 h1 (by omega) (by omega))
        rw [hj.out, hi1.out, show c % 128 = c - 128 by omega]
        refine Ev_neg h128 ?_
        simp only [rdn, if_neg h128]
        have hp0 : (0 : Int) < 128 ^ i := Int.pow_pos (by decide)
        have h2 : (c - 128) * 128 ^ i ≤ 127 * 128 ^ i := Int.mul_le_mul_of_nonneg_right (by omega) (by omega)
        have h3 := Int.mul_nonneg (show 0 ≤ c - 128 by omega) (show (0 : Int) ≤ 128 ^ i by omega)
        have hs2 : (128 : Int) ^ (i + 1) = 128 * 128 ^ i := by rw [Int.pow_succ]; omega
        exact ih (i + 1) _ (pre ++ [c]) suf (by omega) (by rw [hs]; simp) (by simp [hp]) (by omega) (by omega)
theorem readNumber_ev (l : List Int) (hl : ∀ x ∈ l, 0 ≤ x ∧ x < 256) : Ev (fun k => impl_readNumber.f k l) (rdn 9 0 0 l) :=
  readNumber_go l hl 9 0 0 [] l rfl rfl rfl (by omega) (by decide)
/-- What the reference's reader answers at a place, out of the number and its size. -/
def getOf (at_ : Int) (r : Int × Int) : Int × Int × Int := if 0 < r.2 then (r.1, at_ + r.2, 0) else if r.2 = 0 then (0, 0, 2) else (0, 0, 1)
theorem getOf_pos (j : Int) (r : Int × Int) (h : 0 < r.2) : getOf j r = (r.1, j + r.2, 0) := if_pos h
theorem getOf_neg (j : Int) (r : Int × Int) (h : ¬ 0 < r.2) : getOf j r = if r.2 = 0 then (0, 0, 2) else (0, 0, 1) := if_neg h
theorem l01Get_go (l : List Int) (hl : ∀ x ∈ l, 0 ≤ x ∧ x < 256) (hlen : (l.length : Int) ≤ 281474976710656) (j : Nat) : ∀ (f i : Nat) (n u : Int) (pre suf : List Int), i + f = 9 → l = pre ++ suf → pre.length = j + i → 0 ≤ n → n < 128 ^ i → (i < 9 → u = 128 ^ i) → Ev (fun k => spec_l01Get.l0 k l (j : Int) n u (i : Int)) (getOf j (rdn f i n suf)) := by
  intro f
  induction f with
  | zero =>
    intro i n u pre suf hf hs hp h0 h1 hu
    exact Ev.step (fun k => spec_l01Get.l0.eq_2 _ _ _ _ _ k) (Ev_neg (by omega) (Ev_some _))
  | succ f ih =>
    intro i n u pre suf hf hs hp h0 h1 hu
    have hu := hu (by omega)
    subst hu
    have hln : (l.length : Int) = (j : Int) + i + suf.length := by rw [hs]; simp [hp]
    have hw := Aside0.mk (show wrap64 ((j : Int) + (i : Int)) = (j : Int) + (i : Int) from wrap64_id (by omega) (by omega))
    cases suf with
    | nil =>
      refine Ev.step (fun k => spec_l01Get.l0.eq_2 _ _ _ _ _ k) (Ev_pos (by omega) (Ev_pos (by rw [hw.out, hln]; simp) (Ev_some _)))
    | cons c suf =>
      have hc := hl c (by rw [hs]; simp)
      have hr : rd l ((j : Int) + (i : Int)) = c := by
        rw [hs]; unfold rd
        have : ((j : Int) + (i : Int)).toNat = pre.length := by omega
        rw [this]; simp [List.getD]
      simp only [List.length_cons] at hln
      have hi1 := Aside0.mk (show wrap64 ((i : Int) + 1) = ((i + 1 : Nat) : Int) from by rw [wrap64_id (by omega) (by omega)]; rfl)
      have hc64 := Aside0.mk (show wrap64 c = c from wrap64_id (by omega) (by omega))
      have ht := Aside0.mk (show Int.tmod c 128 = c % 128 from Int.tmod_eq_emod_of_nonneg hc.1)
      have hp8 : (128 : Int) ^ i ≤ 72057594037927936 := by
        have : (128 : Int) ^ i ≤ 128 ^ 8 := by exact_mod_cast Nat.pow_le_pow_right (by decide : 0 < 128) (by omega)
        omega
      have hp0 : (0 : Int) < 128 ^ i := Int.pow_pos (by decide)
      have hm0 : (c % 128) * 128 ^ i ≤ 127 * 128 ^ i := Int.mul_le_mul_of_nonneg_right (by omega) (by omega)
      have hm1 := Int.mul_nonneg (show 0 ≤ c % 128 by omega) (Int.le_of_lt hp0)
      have hw1 := Aside0.mk (show wrap64 ((c % 128) * 128 ^ i) = (c % 128) * 128 ^ i from wrap64_id (by omega) (by omega))
      have hw2 := Aside0.mk (show wrap64 (n + (c % 128) * 128 ^ i) = n + (c % 128) * 128 ^ i from wrap64_id (by omega) (by omega))
      refine Ev.step (fun k => spec_l01Get.l0.eq_2 _ _ _ _ _ k) (Ev_pos (by omega) (Ev_neg (by rw [hw.out]; omega) (Ev_pos (by rw [hw.out]; omega) (Ev_pos (by rw [hw.out]; omega) ?_))))
      rw [hw.out, hr, hc64.out, ht.out, hw1.out, hw2.out]
      have hjw := Aside0.mk (show wrap64 ((j : Int) + (i : Int) + 1) = (j : Int) + ((i : Int) + 1) from by rw [wrap64_id (by omega) (by omega)]; omega)
      by_cases h128 : c < 128
      · refine Ev_pos h128 ?_
        rw [show c % 128 = c by omega]
        simp only [rdn, if_pos h128]
        by_cases hz : (i : Int) > 0
        · refine Ev_pos hz (Ev.step (fun k => spec_l01Get.j1.eq_2 _ _ _ _ k) ?_)
          by_cases hc0 : c = 0
          · exact Ev_pos (by simp [hc0]) (Ev_eq (Ev_some _) (by rw [if_pos ⟨by omega, hc0⟩]; rfl))
          · refine Ev_neg (by simp [hc0]) (Ev_eq (Ev_some _) ?_)
            rw [if_neg (by omega), hw.out, hjw.out]
            unfold getOf
            rw [if_pos (by simp only; omega)]
        · refine Ev_neg hz (Ev.step (fun k => spec_l01Get.j1.eq_2 _ _ _ _ k) (Ev_neg (by decide) (Ev_eq (Ev_some _) ?_)))
          rw [if_neg (by omega), hw.out, hjw.out]
          unfold getOf
          rw [if_pos (by simp only; omega)]
      · refine Ev_neg h128 ?_
        rw [show c % 128 = c - 128 by omega] at hm0 hm1 ⊢
        simp only [rdn, if_neg h128]
        have hs2 : (128 : Int) ^ (i + 1) = 128 * 128 ^ i := by rw [Int.pow_succ]; omega
        rw [hi1.out]
        by_cases h8 : (i : Int) < 8
        · refine Ev_pos h8 (ih (i + 1) _ _ (pre ++ [c]) suf (by omega) (by rw [hs]; simp) (by simp [hp]; omega) (by omega) (by omega) (fun _ => ?_))
          have hp7 : (128 : Int) ^ i ≤ 562949953421312 := by
            have : (128 : Int) ^ i ≤ 128 ^ 7 := by exact_mod_cast Nat.pow_le_pow_right (by decide : 0 < 128) (by omega)
            omega
          rw [wrap64_id (by omega) (by omega), hs2]
          omega
        · exact Ev_neg h8 (ih (i + 1) _ _ (pre ++ [c]) suf (by omega) (by rw [hs]; simp) (by simp [hp]; omega) (by omega) (by omega) (fun _ => by omega))
theorem l01Get_ev (l : List Int) (hl : ∀ x ∈ l, 0 ≤ x ∧ x < 256) (hlen : (l.length : Int) ≤ 281474976710656) (j : Nat) (hj : j ≤ l.length) : Ev (fun k => spec_l01Get.f k l (j : Int)) (getOf j (rdn 9 0 0 (l.drop j))) :=
  l01Get_go l hl hlen j 9 0 0 1 (l.take j) (l.drop j) rfl (List.take_append_drop j l).symm (by simp; omega) (by omega) (by decide) (fun _ => rfl)

theorem first2_code (a : Bool) (b : Bool) : (if (if a = true then (0 : Int) else 2) = 0 then (if b = true then (0 : Int) else 5) else (if a = true then (0 : Int) else 2)) = if a = true then (if b = true then 0 else 5) else 2 := by
  cases a <;> cases b <;> decide
theorem getNumber_both (l : List Int) (hl : ∀ x ∈ l, 0 ≤ x ∧ x < 256) (hlen : (l.length : Int) ≤ 1048576) (at_ : Int) (hat : -9223372036854775808 ≤ at_ ∧ at_ < 9223372036854775808) :
    ∃ r, Ev (fun k => impl_GetNumber.f k l at_) r ∧ Ev (fun k => spec_GetNumber.f k l at_) r := by
  have impl : ∀ r, Ev (fun k => if (if (l.length : Int) ≤ 65536 then (if 0 ≤ at_ ∧ at_ ≤ (l.length : Int) then (0 : Int) else 5) else 2) = 0 then (if 0 ≤ at_ then (if at_ ≤ (l.length : Int) then ((impl_readNumber.f k (l.drop (at_ : Int).toNat)).bind fun bt121 => (if bt121.2 ≤ 0 then (some ((0 : Int), (0 : Int), (3 : Int))) else (some (bt121.1, wrap64 (at_ + bt121.2), 0)))) else (none)) else (none)) else (some (0, 0, (if (l.length : Int) ≤ 65536 then (if 0 ≤ at_ ∧ at_ ≤ (l.length : Int) then (0 : Int) else 5) else 2)))) r → Ev (fun k => impl_GetNumber.f k l at_) r := by
    intro r hr
    refine Ev_bindc (longBytes_ev l) (Ev_bindc (within_ev _ _ _) (Ev_bindc (unless_ev _ _) (Ev.bind (first2_ev _ _) ?_)))
    have e := first2_code (decide ((l.length : Int) ≤ 65536)) (decide (0 ≤ at_) && decide (at_ ≤ (l.length : Int)))
    simp only [decide_eq_true_eq, Bool.and_eq_true] at e
    simp only [Bool.and_eq_true, decide_eq_true_eq]
    rw [e]
    exact hr
  by_cases h1 : (l.length : Int) > 65536
  · refine ⟨(0, 0, 2), impl _ ?_, Ev_pos h1 (Ev_some _)⟩
    rw [if_neg (by omega)]
    exact Ev_neg (by decide) (Ev_some _)
  · rw [if_pos (by omega)] at impl
    by_cases h2 : 0 ≤ at_ ∧ at_ ≤ (l.length : Int)
    · rw [if_pos h2] at impl
      obtain ⟨j, rfl⟩ := Int.eq_ofNat_of_zero_le h2.1
      have hd : ∀ x ∈ l.drop j, 0 ≤ x ∧ x < 256 := fun x hx => hl x (List.mem_of_mem_drop hx)
      have hr := rdn_range 9 0 0 (l.drop j)
      have e2 := l01Get_ev l hl (by omega) j (by omega)
      have e1 := readNumber_ev (l.drop j) hd
      generalize rdn 9 0 0 (l.drop j) = r at hr e1 e2
      have hle : (l.drop j).length ≤ l.length := by simp
      have sp : ∀ q, Ev (fun k => if (getOf (j : Int) r).2.2 = 0 then some ((getOf (j : Int) r).1, (getOf (j : Int) r).2.1, (0 : Int)) else some (0, 0, 3)) q → Ev (fun k => spec_GetNumber.f k l (j : Int)) q := by
        intro q hq
        refine Ev_neg (by omega) (Ev_neg (by omega) (Ev.step (fun k => spec_GetNumber.j0.eq_2 _ _ _ k) (Ev_neg (by simp; omega) (Ev.bind e2 hq))))
      by_cases h3 : r.2 ≤ 0
      · refine ⟨(0, 0, 3), impl _ (Ev_pos rfl (Ev_pos h2.1 (Ev_pos h2.2 (Ev.bind e1 (Ev_pos h3 (Ev_some _)))))), sp _ (Ev_neg ?_ (Ev_some _))⟩
        rw [getOf_neg _ _ (by omega)]
        by_cases h4 : r.2 = 0 <;> simp [h4]
      · refine ⟨(r.1, (j : Int) + r.2, 0), impl _ (Ev_pos rfl (Ev_pos h2.1 (Ev_pos h2.2 (Ev.bind e1 (Ev_neg h3 (Ev_eq (Ev_some _) ?_)))))), sp _ ?_⟩
        · rw [wrap64_id (by omega) (by omega)]
        · rw [getOf_pos _ _ (by omega)]
          exact Ev_pos rfl (Ev_some _)
    · rw [if_neg h2] at impl
      refine ⟨(0, 0, 5), impl _ (Ev_neg (by decide) (Ev_some _)), Ev_neg h1 ?_⟩
      by_cases h3 : at_ < 0
      · exact Ev_pos h3 (Ev.step (fun k => spec_GetNumber.j0.eq_2 _ _ _ k) (Ev_pos rfl (Ev_some _)))
      · exact Ev_neg h3 (Ev.step (fun k => spec_GetNumber.j0.eq_2 _ _ _ k) (Ev_pos (by simp; omega) (Ev_some _)))
theorem FnExactGetNumber : laws_FnExactGetNumber.Pure := by
  intro l at_ hm _ hl hat
  refine Ev.rounds ?_
  by_cases h : (l.length : Int) > 1048576
  · exact Ev_pos h (Ev_some _)
  · have ht := toByteS_ev l (by omega)
    obtain ⟨r, h1, h2⟩ := getNumber_both l (u8_bounds hl) (by omega) at_ (int_bounds hat)
    refine Ev_neg h (Ev.bind ht (Ev.bind h2 (Ev.bind ht (Ev.bind h1 (Ev_pos rfl (Ev_pos rfl ?_))))))
    exact Ev.step (fun k => laws_FnExactGetNumber.j0.eq_2 _ _ _ k) (Ev_neg (by simp) (Ev.bind ht (Ev.bind (eqByteS_self l (by omega)) (Ev_pos rfl (Ev_some _)))))

end Go.Proofs.Ytjblpjfiiinjbaa.Pure
