/- The program's job read out of bytes is the reference's: in plain numbers and lists, no conditions. -/
import Derived.Test.YtkiknhljomobpaaPFnExactReadJobx2
import Derived.Test.YtkiknhljomobpaaHandFnExactReadJob
import Derived.OpenShut
namespace Go.Proofs.Ytkiknhljomobpaa.Pure
open Go.RowKit Go.Proofs.Ytkiknhljomobpaa.PFnExactReadJob Go.Proofs.YtkiknhljomobpaaW.PrintWords Go.Proofs.YtkiknhljomobpaaW.PrintLast Go.Proofs.YtkiknhljomobpaaW.PrintMore
set_option linter.unusedVariables false
set_option linter.unusedSimpArgs false

theorem Ev_pos {α : Type} {c : Prop} [Decidable c] {A B : Nat → Option α} {r : α} (h : c) (e : Ev A r) : Ev (fun k => if c then A k else B k) r := by
  simpa only [if_pos h] using e
theorem Ev_neg {α : Type} {c : Prop} [Decidable c] {A B : Nat → Option α} {r : α} (h : ¬ c) (e : Ev B r) : Ev (fun k => if c then A k else B k) r := by
  simpa only [if_neg h] using e
theorem Ev_some {α : Type} (r : α) : Ev (fun _ => some r) r := Ev.now r
theorem Ev_const {α : Type} {x : Option α} {r : α} (h : x = some r) : Ev (fun _ => x) r := ⟨0, fun _ _ => h⟩
theorem Ev_eq {α : Type} {A : Nat → Option α} {r q : α} (h : Ev A r) (e : r = q) : Ev A q := e ▸ h
theorem Ev_bindc {α β : Type} {x : Option α} {f : Nat → α → Option β} {a : α} {r : β} (h : x = some a) (k : Ev (fun n => f n a) r) : Ev (fun n => x.bind (f n)) r := Ev.bind (g := fun _ => x) (Ev_const h) k
theorem wrap64_id {x : Int} (h0 : -9223372036854775808 ≤ x) (h1 : x ≤ 9223372036854775807) : wrap64 x = x := by
  unfold wrap64; omega
theorem int_bounds {x : Int} (h : (Lit.int .i64 x).wf = true) : -9223372036854775808 ≤ x ∧ x < 9223372036854775808 := by
  have := Go.bounds_i64 h
  omega
theorem u8_bounds {l : List Int} (h : ∀ x ∈ l, (Lit.int .u8 x).wf = true) : ∀ x ∈ l, 0 ≤ x ∧ x < 256 := by
  intro x hx
  have := Go.bounds_u8 (h x hx)
  omega

theorem rd_cons0 (x : Int) (l : List Int) : rd (x :: l) 0 = x := rfl
theorem rd_append_len (p : List Int) (x : Int) (l : List Int) : rd (p ++ x :: l) (p.length : Int) = x := by
  unfold rd
  simp [List.getD]
theorem eqByteS_go (a : List Int) (ha : (a.length : Int) ≤ 281474976710656) (d : Nat) : ∀ i : Int, 0 ≤ i → i ≤ (a.length : Int) → (a.length : Int) - i = d → Ev (fun k => laws_eqByteS.l0 k a a i) true := by
  induction d with
  | zero =>
    intro i h0 h1 hd
    exact Ev.step (fun k => laws_eqByteS.l0.eq_2 a a i k) (Ev_neg (by omega) (Ev_some _))
  | succ d ih =>
    intro i h0 h1 hd
    have e := ih (i + 1) (by omega) (by omega) (by omega)
    have hw : wrap64 (i + 1) = i + 1 := wrap64_id (by omega) (by omega)
    rw [← hw] at e
    exact Ev.step (fun k => laws_eqByteS.l0.eq_2 a a i k) (Ev_pos (by omega) (Ev_pos h0 (Ev_pos (by omega) (Ev_pos rfl e))))
theorem eqByteS_self (a : List Int) (ha : (a.length : Int) ≤ 281474976710656) : Ev (fun k => laws_eqByteS.f k a a) true :=
  Ev_pos rfl (eqByteS_go a ha a.length 0 (by omega) (by omega) (by omega))

theorem rd_mid (p q : List Int) (x : Int) (n : Nat) (h : n = p.length) : rd (p ++ x :: q) (n : Int) = x := by
  subst h
  unfold rd
  simp [List.getD]
theorem toByteS_go : ∀ (suf pre zs : List Int), zs.length = suf.length → (pre.length : Int) + (suf.length : Int) ≤ 281474976710656 →
    Ev (fun k => laws_toByteS.l0 k (pre ++ suf) (pre ++ zs) (pre.length : Int)) (pre ++ suf) := by
  intro suf
  induction suf with
  | nil =>
    intro pre zs hz h
    have : zs = [] := List.eq_nil_of_length_eq_zero (by simpa using hz)
    subst this
    exact Ev.step (fun k => laws_toByteS.l0.eq_2 _ _ _ k) (Ev_neg (by simp) (Ev_some _))
  | cons x suf ih =>
    intro pre zs hz h
    cases zs with
    | nil => simp at hz
    | cons z zs =>
      simp only [List.length_cons] at hz h
      have e := ih (pre ++ [x]) zs (by omega) (by simp; omega)
      have hw : wrap64 ((pre.length : Int) + 1) = ((pre ++ [x]).length : Int) := by rw [wrap64_id (by omega) (by omega)]; simp
      have h1 : (pre ++ [x]) ++ suf = pre ++ x :: suf := by simp
      have h2 : (pre ++ [x]) ++ zs = (pre ++ z :: zs).set ((pre.length : Int)).toNat (rd (pre ++ x :: suf) (pre.length : Int)) := by
        rw [rd_mid pre suf x pre.length rfl]; simp
      rw [← hw, h1, h2] at e
      exact Ev.step (fun k => laws_toByteS.l0.eq_2 _ _ _ k) (Ev_pos (by simp; omega) (Ev_pos (by omega) (Ev_pos (by simp; omega) e)))
theorem toByteS_ev (l : List Int) (h : (l.length : Int) ≤ 281474976710656) : Ev (fun k => laws_toByteS.f k l) l := by
  have e := toByteS_go l [] (List.replicate l.length 0) (by simp) (by simpa using h)
  exact Ev_pos (by omega) (Ev_pos (by omega) (by simpa using e))

/-- A number's bytes read, i bytes of it read already (n), fuel bytes still let in: the number and how many bytes it has, 0 where there is none, -1 where the bytes end in it. -/
def rdn : Nat → Nat → Int → List Int → Int × Int
  | 0, _, _, _ => (0, 0)
  | _ + 1, _, _, [] => (0, -1)
  | f + 1, i, n, c :: l => if c < 128 then (if 0 < i ∧ c = 0 then (0, 0) else (n + c * 128 ^ i, (i : Int) + 1)) else rdn f (i + 1) (n + (c - 128) * 128 ^ i) l
theorem rdn_range : ∀ (f i : Nat) (n : Int) (l : List Int), (rdn f i n l).2 = 0 ∨ (rdn f i n l).2 = -1 ∨ (1 ≤ (rdn f i n l).2 ∧ (rdn f i n l).2 ≤ i + l.length ∧ (rdn f i n l).2 ≤ i + f)
  | 0, _, _, _ => by simp [rdn]
  | _ + 1, _, _, [] => by simp [rdn]
  | f + 1, i, n, c :: l => by
    simp only [rdn, List.length_cons]
    split
    · split
      · simp
      · simp; omega
    · have := rdn_range f (i + 1) (n + (c - 128) * 128 ^ i) l
      omega
theorem rdn_lo : ∀ (f i : Nat) (n : Int) (l : List Int), (rdn f i n l).2 ≤ 0 → (rdn f i n l).1 = 0
  | 0, _, _, _ => by simp [rdn]
  | _ + 1, _, _, [] => by simp [rdn]
  | f + 1, i, n, c :: l => by
    simp only [rdn]
    split
    · split
      · simp
      · simp; omega
    · exact rdn_lo f (i + 1) _ l
theorem rdn_nonneg : ∀ (f i : Nat) (n : Int) (l : List Int), 0 ≤ n → (∀ x ∈ l, 0 ≤ x ∧ x < 256) → 0 ≤ (rdn f i n l).1
  | 0, _, _, _ => by simp [rdn]
  | _ + 1, _, _, [] => by simp [rdn]
  | f + 1, i, n, c :: l => by
    intro hn hl
    have hc := hl c (by simp)
    have hp : (0 : Int) ≤ 128 ^ i := Int.pow_nonneg (by decide)
    simp only [rdn]
    split
    · split
      · simp
      · have := Int.mul_nonneg hc.1 hp
        simp only
        omega
    · have := Int.mul_nonneg (show 0 ≤ c - 128 by omega) hp
      exact rdn_nonneg f (i + 1) _ l (by omega) (fun x hx => hl x (by simp [hx]))
/-- The number that is read fits 63 bits. -/
theorem rdn_lt : ∀ (f i : Nat) (n : Int) (l : List Int), 0 ≤ n → n < 128 ^ i → (∀ x ∈ l, 0 ≤ x ∧ x < 256) → (rdn f i n l).1 < 128 ^ (i + f)
  | 0, i, n, l, h0, h1, _ => by
    simp only [rdn]
    exact Int.pow_pos (by decide)
  | f + 1, i, n, [], h0, h1, _ => by
    simp only [rdn]
    exact Int.pow_pos (by decide)
  | f + 1, i, n, c :: l, h0, h1, hl => by
    have hc := hl c (by simp)
    have hp : (0 : Int) < 128 ^ i := Int.pow_pos (by decide)
    have hq : (128 : Int) ^ (i + 1) ≤ 128 ^ (i + (f + 1)) := by
      rw [show i + (f + 1) = (i + 1) + f by omega, Int.pow_add (128 : Int) (i + 1) f]
      have : (1 : Int) ≤ 128 ^ f := Int.pow_pos (by decide)
      have hr : (0 : Int) ≤ 128 ^ (i + 1) := Int.pow_nonneg (by decide)
      have := Int.mul_le_mul_of_nonneg_left this hr
      rwa [Int.mul_one] at this
    have hs : (128 : Int) ^ (i + 1) = 128 * 128 ^ i := by rw [Int.pow_succ]; omega
    simp only [rdn]
    split
    · split
      · exact Int.lt_of_lt_of_le (by omega) hq
      · have : c * 128 ^ i ≤ 127 * 128 ^ i := Int.mul_le_mul_of_nonneg_right (by omega) (by omega)
        simp only
        omega
    · have h2 : (c - 128) * 128 ^ i ≤ 127 * 128 ^ i := Int.mul_le_mul_of_nonneg_right (by omega) (by omega)
      have h3 := Int.mul_nonneg (show 0 ≤ c - 128 by omega) (show (0 : Int) ≤ 128 ^ i by omega)
      have := rdn_lt f (i + 1) (n + (c - 128) * 128 ^ i) l (by omega) (by omega) (fun x hx => hl x (by simp [hx]))
      rw [show i + (f + 1) = i + 1 + f by omega]
      exact this
theorem pow128 (i : Nat) : (128 : Int) ^ i = 2 ^ (7 * i) := by rw [Int.pow_mul]; rfl
theorem wraps_i64 (n : Int) (h₀ : 0 ≤ n) (h₁ : n < 2 ^ 63) : IntKind.i64.wrap n = n := by rw [IntKind.wrap_i64]; omega
theorem or_join (n c : Int) (i : Nat) (hi : i ≤ 8) (h0 : 0 ≤ n) (h1 : n < 128 ^ i) (hc0 : 0 ≤ c) (hc1 : c < 128) : Go.bits .or .i64 n (shl .i64 (wrap64 c) (wrap64 (7 * (i : Int)))) = n + c * 128 ^ i := by
  rw [wrap64_id (x := c) (by omega) (by omega), wrap64_id (x := 7 * (i : Int)) (by omega) (by omega)]
  have hm : min (7 * (i : Int)).toNat IntKind.i64.bits = 7 * i := by
    have : IntKind.i64.bits = 64 := rfl
    omega
  have hp : (128 : Int) ^ i ≤ 72057594037927936 := by
    have : (128 : Int) ^ i ≤ 128 ^ 8 := by exact_mod_cast Nat.pow_le_pow_right (by decide : 0 < 128) hi
    omega
  have hp0 : (0 : Int) < 128 ^ i := Int.pow_pos (by decide)
  have hc2 : c * 128 ^ i ≤ 127 * 128 ^ i := Int.mul_le_mul_of_nonneg_right (by omega) (by omega)
  have hc3 := Int.mul_nonneg hc0 (Int.le_of_lt hp0)
  unfold shl
  rw [hm, ← pow128, wraps_i64 _ hc3 (by omega)]
  obtain ⟨a, rfl⟩ := Int.eq_ofNat_of_zero_le h0
  obtain ⟨b, rfl⟩ := Int.eq_ofNat_of_zero_le hc0
  have ha : a < 2 ^ (7 * i) := by rw [pow128] at h1; exact_mod_cast h1
  have hb : (b : Int) * 128 ^ i = ((2 ^ (7 * i) * b : Nat) : Int) := by rw [pow128]; push_cast; rw [Int.mul_comm]
  rw [hb] at hc2 ⊢
  have h8 : (2 : Nat) ^ (7 * i) ≤ 72057594037927936 := by
    have : (2 : Nat) ^ (7 * i) ≤ 2 ^ 56 := Nat.pow_le_pow_right (by decide) (by omega)
    omega
  have e := (bits_nat .i64 63 (by decide) wraps_i64 a (2 ^ (7 * i) * b) (by omega) (by omega)).2
  rw [e, Nat.or_comm, ← Nat.two_pow_add_eq_or_of_lt ha b]
  push_cast
  omega
theorem and127 (c : Int) (h0 : 0 ≤ c) (h1 : c < 256) : Go.bits .and .u8 c 127 = c % 128 := bits_mask .u8 8 (by decide) wraps_u8 7 (by decide) c h0 h1
theorem readNumber_go (l : List Int) (hl : ∀ x ∈ l, 0 ≤ x ∧ x < 256) : ∀ (f i : Nat) (n : Int) (pre suf : List Int), i + f = 9 → l = pre ++ suf → pre.length = i → 0 ≤ n → n < 128 ^ i → Ev (fun k => impl_readNumber.l0 k l n (i : Int)) (rdn f i n suf) := by
  intro f
  induction f with
  | zero =>
    intro i n pre suf hf hs hp h0 h1
    exact Ev.step (fun k => impl_readNumber.l0.eq_2 _ _ _ k) (Ev_neg (by omega) (Ev_some _))
  | succ f ih =>
    intro i n pre suf hf hs hp h0 h1
    cases suf with
    | nil =>
      refine Ev.step (fun k => impl_readNumber.l0.eq_2 _ _ _ k) (Ev_pos (by omega) (Ev_pos (by rw [hs]; simp [hp]) (Ev_some _)))
    | cons c suf =>
      have hc := hl c (by rw [hs]; simp)
      have hlen : (l.length : Int) = (i : Int) + 1 + suf.length := by rw [hs]; simp [hp]; omega
      have hr : rd l (i : Int) = c := by
        rw [hs]; unfold rd; simp [List.getD, ← hp]
      have h7 := Aside0.mk (show wrap64 (7 * (i : Int)) = 7 * (i : Int) from wrap64_id (by omega) (by omega))
      have hi1 := Aside0.mk (show wrap64 ((i : Int) + 1) = ((i + 1 : Nat) : Int) by rw [wrap64_id (by omega) (by omega)]; rfl)
      refine Ev.step (fun k => impl_readNumber.l0.eq_2 _ _ _ k) (Ev_pos (by omega) (Ev_neg (by omega) (Ev_pos (by omega) (Ev_pos (by omega) (Ev_pos (by rw [h7.out]; omega) ?_)))))
      rw [hr, and127 c hc.1 hc.2]
      by_cases h128 : c < 128
      · have hj := Aside0.mk (or_join n (c % 128) i (by omega) h0 h1 (by omega) (by omega))
        rw [hj.out, hi1.out, show c % 128 = c by omega]
        refine Ev_pos h128 ?_
        simp only [rdn, if_pos h128]
        by_cases hz : (i : Int) > 0
        · refine Ev_pos hz ?_
          by_cases hc0 : c = 0
          · exact Ev_pos hc0 (Ev_eq (Ev_some _) (by rw [if_pos ⟨by omega, hc0⟩]))
          · exact Ev_neg hc0 (Ev_eq (Ev_some _) (by rw [if_neg (by omega)]; rfl))
        · exact Ev_neg hz (Ev_eq (Ev_some _) (by rw [if_neg (by omega)]; rfl))
      · have hj := Aside0.mk (or_join n (c % 128) i (by omega) h0 h1 (by omega) (by omega))
        rw [hj.out, hi1.out, show c % 128 = c - 128 by omega]
        refine Ev_neg h128 ?_
        simp only [rdn, if_neg h128]
        have hp0 : (0 : Int) < 128 ^ i := Int.pow_pos (by decide)
        have h2 : (c - 128) * 128 ^ i ≤ 127 * 128 ^ i := Int.mul_le_mul_of_nonneg_right (by omega) (by omega)
        have h3 := Int.mul_nonneg (show 0 ≤ c - 128 by omega) (show (0 : Int) ≤ 128 ^ i by omega)
        have hs2 : (128 : Int) ^ (i + 1) = 128 * 128 ^ i := by rw [Int.pow_succ]; omega
        exact ih (i + 1) _ (pre ++ [c]) suf (by omega) (by rw [hs]; simp) (by simp [hp]) (by omega) (by omega)
theorem readNumber_ev (l : List Int) (hl : ∀ x ∈ l, 0 ≤ x ∧ x < 256) : Ev (fun k => impl_readNumber.f k l) (rdn 9 0 0 l) :=
  readNumber_go l hl 9 0 0 [] l rfl rfl rfl (by omega) (by decide)

/-- What the reference's reader answers at a place, out of the number and its size. -/
def getOf (at_ : Int) (r : Int × Int) : Int × Int × Int := if 0 < r.2 then (r.1, at_ + r.2, 0) else if r.2 = 0 then (0, 0, 2) else (0, 0, 1)
theorem getOf_pos (j : Int) (r : Int × Int) (h : 0 < r.2) : getOf j r = (r.1, j + r.2, 0) := if_pos h
theorem getOf_neg (j : Int) (r : Int × Int) (h : ¬ 0 < r.2) : getOf j r = if r.2 = 0 then (0, 0, 2) else (0, 0, 1) := if_neg h
theorem l01Get_go (l : List Int) (hl : ∀ x ∈ l, 0 ≤ x ∧ x < 256) (hlen : (l.length : Int) ≤ 281474976710656) (j : Nat) : ∀ (f i : Nat) (n u : Int) (pre suf : List Int), i + f = 9 → l = pre ++ suf → pre.length = j + i → 0 ≤ n → n < 128 ^ i → (i < 9 → u = 128 ^ i) → Ev (fun k => spec_l01Get.l0 k l (j : Int) n u (i : Int)) (getOf j (rdn f i n suf)) := by
  intro f
  induction f with
  | zero =>
    intro i n u pre suf hf hs hp h0 h1 hu
    exact Ev.step (fun k => spec_l01Get.l0.eq_2 _ _ _ _ _ k) (Ev_neg (by omega) (Ev_some _))
  | succ f ih =>
    intro i n u pre suf hf hs hp h0 h1 hu
    have hu := hu (by omega)
    subst hu
    have hln : (l.length : Int) = (j : Int) + i + suf.length := by rw [hs]; simp [hp]
    have hw := Aside0.mk (show wrap64 ((j : Int) + (i : Int)) = (j : Int) + (i : Int) from wrap64_id (by omega) (by omega))
    cases suf with
    | nil =>
      refine Ev.step (fun k => spec_l01Get.l0.eq_2 _ _ _ _ _ k) (Ev_pos (by omega) (Ev_pos (by rw [hw.out, hln]; simp) (Ev_some _)))
    | cons c suf =>
      have hc := hl c (by rw [hs]; simp)
      have hr : rd l ((j : Int) + (i : Int)) = c := by
        rw [hs]; unfold rd
        have : ((j : Int) + (i : Int)).toNat = pre.length := by omega
        rw [this]; simp [List.getD]
      simp only [List.length_cons] at hln
      have hi1 := Aside0.mk (show wrap64 ((i : Int) + 1) = ((i + 1 : Nat) : Int) from by rw [wrap64_id (by omega) (by omega)]; rfl)
      have hc64 := Aside0.mk (show wrap64 c = c from wrap64_id (by omega) (by omega))
      have ht := Aside0.mk (show Int.tmod c 128 = c % 128 from Int.tmod_eq_emod_of_nonneg hc.1)
      have hp8 : (128 : Int) ^ i ≤ 72057594037927936 := by
        have : (128 : Int) ^ i ≤ 128 ^ 8 := by exact_mod_cast Nat.pow_le_pow_right (by decide : 0 < 128) (by omega)
        omega
      have hp0 : (0 : Int) < 128 ^ i := Int.pow_pos (by decide)
      have hm0 : (c % 128) * 128 ^ i ≤ 127 * 128 ^ i := Int.mul_le_mul_of_nonneg_right (by omega) (by omega)
      have hm1 := Int.mul_nonneg (show 0 ≤ c % 128 by omega) (Int.le_of_lt hp0)
      have hw1 := Aside0.mk (show wrap64 ((c % 128) * 128 ^ i) = (c % 128) * 128 ^ i from wrap64_id (by omega) (by omega))
      have hw2 := Aside0.mk (show wrap64 (n + (c % 128) * 128 ^ i) = n + (c % 128) * 128 ^ i from wrap64_id (by omega) (by omega))
      refine Ev.step (fun k => spec_l01Get.l0.eq_2 _ _ _ _ _ k) (Ev_pos (by omega) (Ev_neg (by rw [hw.out]; omega) (Ev_pos (by rw [hw.out]; omega) (Ev_pos (by rw [hw.out]; omega) ?_))))
      rw [hw.out, hr, hc64.out, ht.out, hw1.out, hw2.out]
      have hjw := Aside0.mk (show wrap64 ((j : Int) + (i : Int) + 1) = (j : Int) + ((i : Int) + 1) from by rw [wrap64_id (by omega) (by omega)]; omega)
      by_cases h128 : c < 128
      · refine Ev_pos h128 ?_
        rw [show c % 128 = c by omega]
        simp only [rdn, if_pos h128]
        by_cases hz : (i : Int) > 0
        · refine Ev_pos hz (Ev.step (fun k => spec_l01Get.j1.eq_2 _ _ _ _ k) ?_)
          by_cases hc0 : c = 0
          · exact Ev_pos (by simp [hc0]) (Ev_eq (Ev_some _) (by rw [if_pos ⟨by omega, hc0⟩]; rfl))
          · refine Ev_neg (by simp [hc0]) (Ev_eq (Ev_some _) ?_)
            rw [if_neg (by omega), hw.out, hjw.out]
            unfold getOf
            rw [if_pos (by simp only; omega)]
        · refine Ev_neg hz (Ev.step (fun k => spec_l01Get.j1.eq_2 _ _ _ _ k) (Ev_neg (by decide) (Ev_eq (Ev_some _) ?_)))
          rw [if_neg (by omega), hw.out, hjw.out]
          unfold getOf
          rw [if_pos (by simp only; omega)]
      · refine Ev_neg h128 ?_
        rw [show c % 128 = c - 128 by omega] at hm0 hm1 ⊢
        simp only [rdn, if_neg h128]
        have hs2 : (128 : Int) ^ (i + 1) = 128 * 128 ^ i := by rw [Int.pow_succ]; omega
        rw [hi1.out]
        by_cases h8 : (i : Int) < 8
        · refine Ev_pos h8 (ih (i + 1) _ _ (pre ++ [c]) suf (by omega) (by rw [hs]; simp) (by simp [hp]; omega) (by omega) (by omega) (fun _ => ?_))
          have hp7 : (128 : Int) ^ i ≤ 562949953421312 := by
            have : (128 : Int) ^ i ≤ 128 ^ 7 := by exact_mod_cast Nat.pow_le_pow_right (by decide : 0 < 128) (by omega)
            omega
          rw [wrap64_id (by omega) (by omega), hs2]
          omega
        · exact Ev_neg h8 (ih (i + 1) _ _ (pre ++ [c]) suf (by omega) (by rw [hs]; simp) (by simp [hp]; omega) (by omega) (by omega) (fun _ => by omega))
theorem l01Get_ev (l : List Int) (hl : ∀ x ∈ l, 0 ≤ x ∧ x < 256) (hlen : (l.length : Int) ≤ 281474976710656) (j : Nat) (hj : j ≤ l.length) : Ev (fun k => spec_l01Get.f k l (j : Int)) (getOf j (rdn 9 0 0 (l.drop j))) :=
  l01Get_go l hl hlen j 9 0 0 1 (l.take j) (l.drop j) rfl (List.take_append_drop j l).symm (by simp; omega) (by omega) (by decide) (fun _ => rfl)

/-- What a reader of numbers answers: the number and where it stands then (none: bad). -/
def mnum (l : List Int) : Option Nat → Int × Option Nat
  | none => (0, none)
  | some j => if 0 < (rdn 9 0 0 (l.drop j)).2 then ((rdn 9 0 0 (l.drop j)).1, some (j + (rdn 9 0 0 (l.drop j)).2.toNat)) else (0, none)
def mtext (l : List Int) (s : Option Nat) : ByteArray × Option Nat :=
  match (mnum l s).2 with
  | none => (ByteArray.empty, none)
  | some j => if (mnum l s).1 ≤ (l.length : Int) - j then (strOfNums ((l.drop j).take (mnum l s).1.toNat), some (j + (mnum l s).1.toNat)) else (ByteArray.empty, none)
def relS (l : List Int) (j : Int) (bad : Bool) : Option Nat → Prop
  | none => bad = true
  | some p => bad = false ∧ j = p ∧ p ≤ l.length
def relI (l r : List Int) (bad : Bool) : Option Nat → Prop
  | none => bad = true ∧ (∀ x ∈ r, 0 ≤ x ∧ x < 256)
  | some p => bad = false ∧ r = l.drop p ∧ p ≤ l.length
theorem relI_u8 {l r : List Int} {bad : Bool} {s : Option Nat} (hl : ∀ x ∈ l, 0 ≤ x ∧ x < 256) (h : relI l r bad s) : ∀ x ∈ r, 0 ≤ x ∧ x < 256 := by
  cases s with
  | none => exact h.2
  | some p => exact fun x hx => hl x (List.mem_of_mem_drop (h.2.1 ▸ hx))
theorem mnum_none (l : List Int) {s : Option Nat} (h : (mnum l s).2 = none) : (mnum l s).1 = 0 := by
  cases s with
  | none => rfl
  | some p =>
    simp only [mnum] at h ⊢
    split
    · rename_i h1; rw [if_pos h1] at h; simp at h
    · rfl
theorem mnum_le (l : List Int) {s : Option Nat} {q : Nat} (hs : ∀ p, s = some p → p ≤ l.length) (h : (mnum l s).2 = some q) : q ≤ l.length := by
  cases s with
  | none => simp [mnum] at h
  | some p =>
    have hp := hs p rfl
    have hr := rdn_range 9 0 0 (l.drop p)
    rw [List.length_drop] at hr
    simp only [mnum] at h
    split at h
    · simp only [Option.some.injEq] at h
      subst h
      omega
    · simp at h
theorem snum_ev (l : List Int) (hl : ∀ x ∈ l, 0 ≤ x ∧ x < 256) (hlen : (l.length : Int) ≤ 281474976710656) (s : Option Nat) (j : Int) (bad : Bool) (h : relS l j bad s) :
    ∃ j' b', Ev (fun k => spec_l09Reader_number.f k l j bad) ((mnum l s).1, j', b') ∧ relS l j' b' (mnum l s).2 := by
  cases s with
  | none =>
    obtain rfl : bad = true := h
    exact ⟨j, true, Ev_pos rfl (Ev_some _), rfl⟩
  | some p =>
    obtain ⟨rfl, rfl, hp⟩ := h
    have e := l01Get_ev l hl hlen p hp
    have hr := rdn_range 9 0 0 (l.drop p)
    rw [List.length_drop] at hr
    simp only [mnum]
    by_cases h1 : 0 < (rdn 9 0 0 (l.drop p)).2
    · rw [getOf_pos _ _ h1] at e
      rw [if_pos h1]
      refine ⟨(p : Int) + (rdn 9 0 0 (l.drop p)).2, false, Ev_neg (by simp) (Ev.bind e (Ev_pos rfl (Ev_some _))), rfl, ?_, ?_⟩
      · push_cast; omega
      · omega
    · rw [getOf_neg _ _ h1] at e
      rw [if_neg h1]
      refine ⟨p, true, Ev_neg (by simp) (Ev.bind e (Ev_neg ?_ (Ev_some _))), rfl⟩
      split <;> simp
theorem inum_ev (l r : List Int) (hl : ∀ x ∈ l, 0 ≤ x ∧ x < 256) (s : Option Nat) (bad : Bool) (h : relI l r bad s) :
    ∃ r' b', Ev (fun k => impl_byteReader_number.f k r bad) ((mnum l s).1, r', b') ∧ relI l r' b' (mnum l s).2 := by
  have e := readNumber_ev r (relI_u8 hl h)
  cases s with
  | none =>
    obtain ⟨rfl, hu⟩ := h
    exact ⟨r, true, Ev.bind e (Ev_pos rfl (Ev_some _)), rfl, hu⟩
  | some p =>
    obtain ⟨rfl, rfl, hp⟩ := h
    have hr := rdn_range 9 0 0 (l.drop p)
    rw [List.length_drop] at hr
    simp only [mnum]
    by_cases h1 : 0 < (rdn 9 0 0 (l.drop p)).2
    · rw [if_pos h1]
      refine ⟨_, false, Ev.bind e (Ev_neg (by simp) (Ev_neg (by omega) (Ev_pos (by rw [List.length_drop]; omega) (Ev_some _)))), rfl, ?_, ?_⟩
      · rw [List.drop_drop]
      · omega
    · rw [if_neg h1]
      exact ⟨_, true, Ev.bind e (Ev_neg (by simp) (Ev_pos (by omega) (Ev_some _))), rfl, fun x hx => hl x (List.mem_of_mem_drop hx)⟩
theorem relS_le {l : List Int} {j : Int} {bad : Bool} {s : Option Nat} (h : relS l j bad s) : ∀ p, s = some p → p ≤ l.length := by
  rintro p rfl
  exact h.2.2
theorem relI_le {l r : List Int} {bad : Bool} {s : Option Nat} (h : relI l r bad s) : ∀ p, s = some p → p ≤ l.length := by
  rintro p rfl
  exact h.2.2
theorem mnum_nonneg (l : List Int) (hl : ∀ x ∈ l, 0 ≤ x ∧ x < 256) (s : Option Nat) : 0 ≤ (mnum l s).1 := by
  cases s with
  | none => simp [mnum]
  | some p =>
    simp only [mnum]
    split
    · exact rdn_nonneg 9 0 0 _ (by omega) (fun x hx => hl x (List.mem_of_mem_drop hx))
    · simp
theorem stext_ev (l : List Int) (hl : ∀ x ∈ l, 0 ≤ x ∧ x < 256) (hlen : (l.length : Int) ≤ 281474976710656) (s : Option Nat) (j : Int) (bad : Bool) (h : relS l j bad s) :
    ∃ j' b', Ev (fun k => spec_l09Reader_text.f k l j bad) ((mtext l s).1, j', b') ∧ relS l j' b' (mtext l s).2 := by
  obtain ⟨j1, b1, e, h1⟩ := snum_ev l hl hlen s j bad h
  have hn := mnum_nonneg l hl s
  unfold mtext
  cases hq : (mnum l s).2 with
  | none =>
    rw [hq] at h1
    obtain rfl : b1 = true := h1
    exact ⟨j1, true, Ev.bind e (Ev_pos rfl (Ev_some _)), rfl⟩
  | some q =>
    rw [hq] at h1
    obtain ⟨rfl, rfl, hq1⟩ := h1
    have hw1 : wrap64 ((l.length : Int) - (q : Int)) = (l.length : Int) - q := wrap64_id (by omega) (by omega)
    simp only
    by_cases h2 : (mnum l s).1 ≤ (l.length : Int) - q
    · rw [if_pos h2]
      have hw2 : wrap64 ((q : Int) + (mnum l s).1) = (q : Int) + (mnum l s).1 := wrap64_id (by omega) (by omega)
      refine ⟨(q : Int) + (mnum l s).1, false, Ev.bind e (Ev_neg (by simp) (Ev_neg (by rw [hw1]; omega) (Ev_pos (by simp only; omega) (Ev_pos (by rw [hw2]; simp only; omega) (Ev_pos (by rw [hw2]; omega) (Ev_eq (Ev_some _) ?_)))))), rfl, ?_, ?_⟩
      · rw [hw2]
        have hz : ((q : Int) + (mnum l s).1).toNat = q + (mnum l s).1.toNat := by omega
        simp only [Int.toNat_natCast, hz, List.drop_take, Nat.add_sub_cancel_left]
      · clear hw1 hw2; push_cast; omega
      · clear hw1 hw2; omega
    · rw [if_neg h2]
      exact ⟨q, true, Ev.bind e (Ev_neg (by simp) (Ev_pos (by rw [hw1]; omega) (Ev_some _))), rfl⟩
theorem itext_ev (l r : List Int) (hl : ∀ x ∈ l, 0 ≤ x ∧ x < 256) (s : Option Nat) (bad : Bool) (h : relI l r bad s) :
    ∃ r' b', Ev (fun k => impl_byteReader_text.f k r bad) ((mtext l s).1, r', b') ∧ relI l r' b' (mtext l s).2 := by
  obtain ⟨r1, b1, e, h1⟩ := inum_ev l r hl s bad h
  have hn := mnum_nonneg l hl s
  unfold mtext
  cases hq : (mnum l s).2 with
  | none =>
    rw [hq] at h1
    obtain ⟨rfl, hu⟩ := h1
    exact ⟨r1, true, Ev.bind e (Ev_pos rfl (Ev_some _)), rfl, hu⟩
  | some q =>
    rw [hq] at h1
    obtain ⟨rfl, rfl, hq1⟩ := h1
    simp only
    by_cases h2 : (mnum l s).1 ≤ (l.length : Int) - q
    · rw [if_pos h2]
      refine ⟨_, false, Ev.bind e (Ev_neg (by simp) (Ev_neg (by simp only [List.length_drop]; omega) (Ev_pos hn (Ev_some _)))), rfl, ?_, ?_⟩
      · rw [List.drop_drop]
      · omega
    · rw [if_neg h2]
      exact ⟨_, true, Ev.bind e (Ev_neg (by simp) (Ev_pos (by simp only [List.length_drop]; omega) (Ev_some _))), rfl, fun x hx => hl x (List.mem_of_mem_drop hx)⟩
theorem within_ev (a b c : Int) : impl_within.f a b c = some (decide (b ≤ a ∧ a ≤ c)) := by
  unfold impl_within.f
  by_cases h : b ≤ a
  · rw [if_pos h]; simp [h]
  · rw [if_neg h]; simp [h]
theorem l02In_ev (a b c : Int) : spec_l02In.f a b c = some (decide (b ≤ a ∧ a ≤ c)) := by
  unfold spec_l02In.f
  by_cases h : a ≥ b
  · rw [if_pos h]; simp; omega
  · rw [if_neg h]; simp; omega
theorem job_same (a1 a2 : Int) (a3 : ByteArray) (a4 : Int) (a5 a6 : ByteArray) (a7 a8 : Bool) : ∃ b, spec_l09Job.f a1 a2 a3 a4 a5 a6 a7 a8 = some b ∧ impl_jobOK.f a1 a2 a3 a4 a5 a6 a7 a8 = some b := by
  unfold spec_l09Job.f impl_jobOK.f impl_isCount.f impl_isTerm.f
  simp only [within_ev, l02In_ev, Option.bind_some, decide_eq_true_eq]
  repeat' split
  all_goals first | exact ⟨_, rfl, rfl⟩ | (exfalso; omega)
abbrev RJ := Int × Int × ByteArray × Int × ByteArray × ByteArray × Bool × Bool × Int
theorem rd_drop0 (l : List Int) (p : Nat) : rd (l.drop p) 0 = rd l (p : Int) := by
  unfold rd
  simp [List.getD]
theorem small_bits : ∀ z : Int, 0 ≤ z → ¬ 3 < z → (Int.tmod z 2 == 1) = (Go.bits .and .u8 z 1 == 1) ∧ decide (1 < z) = (Go.bits .and .u8 z 2 == 2) := by
  intro z h0 h1
  have : z = 0 ∨ z = 1 ∨ z = 2 ∨ z = 3 := by omega
  rcases this with rfl | rfl | rfl | rfl <;> exact ⟨by kernel_rfl, by kernel_rfl⟩
theorem rd_nonneg (l : List Int) (hl : ∀ x ∈ l, 0 ≤ x ∧ x < 256) (i : Int) : 0 ≤ rd l i := by
  unfold rd
  by_cases h : i.toNat < l.length
  · rw [List.getD_eq_getElem?_getD, List.getElem?_eq_getElem h]
    exact (hl _ (List.getElem_mem h)).1
  · rw [List.getD_eq_getElem?_getD, List.getElem?_eq_none (by omega)]
    simp
theorem g_same (l : List Int) (hl : ∀ x ∈ l, 0 ≤ x ∧ x < 256) (hlen : (l.length : Int) ≤ 65536) (s : Option Nat) (j : Int) (r : List Int) (bs bi : Bool) (hs : relS l j bs s) (hi : relI l r bi s) (a1 a2 : Int) (a3 : ByteArray) (a4 : Int) (a5 a6 : ByteArray) :
    ∃ z : RJ, spec_ReadJob.g l a1 a2 a3 a4 a5 a6 j bs = some z ∧ impl_readJob.g r a1 a2 a3 a4 a5 a6 bi = some z := by
  unfold spec_ReadJob.g impl_readJob.g
  cases s with
  | none =>
    obtain rfl : bs = true := hs
    obtain ⟨rfl, _⟩ := hi
    exact ⟨_, if_pos rfl, if_pos rfl⟩
  | some p =>
    obtain ⟨rfl, rfl, hp⟩ := hs
    obtain ⟨rfl, rfl, _⟩ := hi
    rw [if_neg Bool.false_ne_true, if_neg Bool.false_ne_true, wrap64_id (x := (l.length : Int) - 1) (by omega) (by omega)]
    by_cases h1 : (p : Int) = (l.length : Int) - 1
    · rw [if_pos h1, if_pos (show (0 : Int) ≤ (p : Int) by omega), if_pos (show (p : Int) < (l.length : Int) by omega), if_pos (show ((l.drop p).length : Int) = 1 by rw [List.length_drop]; omega), rd_drop0]
      by_cases h2 : 3 < rd l (p : Int)
      · exact ⟨_, if_pos h2, if_pos h2⟩
      · rw [if_neg h2, if_neg h2]
        obtain ⟨e1, e2⟩ := small_bits _ (rd_nonneg l hl p) h2
        rw [e1, e2]
        obtain ⟨b, f1, f2⟩ := job_same a1 a2 a3 a4 a5 a6 (Go.bits .and .u8 (rd l (p : Int)) 1 == 1) (Go.bits .and .u8 (rd l (p : Int)) 2 == 2)
        rw [f1, f2]
        cases b <;> exact ⟨_, rfl, rfl⟩
    · rw [if_neg h1, if_neg (by rw [List.length_drop]; omega)]
      exact ⟨_, rfl, rfl⟩
theorem readJob_same (l : List Int) (hl : ∀ x ∈ l, 0 ≤ x ∧ x < 256) : ∃ z : RJ, Ev (fun k => spec_ReadJob.f k l) z ∧ Ev (fun k => impl_ReadJob.f k l) z := by
  by_cases hlen : (l.length : Int) > 65536
  · have hf : impl_longBytes.f l = some 2 := by
      unfold impl_longBytes.f impl_unless.f
      rw [if_neg (by simp; omega)]
      rfl
    exact ⟨_, Ev_pos hlen (Ev_some _), Ev_bindc hf (Ev_neg (by decide) (Ev_some _))⟩
  · have hf : impl_longBytes.f l = some 0 := by
      unfold impl_longBytes.f impl_unless.f
      rw [if_pos (by simp; omega)]
      rfl
    have hle : (l.length : Int) ≤ 281474976710656 := by omega
    obtain ⟨j1, c1, e1, h1⟩ := snum_ev l hl hle (some 0) 0 false ⟨rfl, rfl, Nat.zero_le _⟩
    obtain ⟨r1, b1, f1, g1⟩ := inum_ev l l hl (some 0) false ⟨rfl, rfl, Nat.zero_le _⟩
    obtain ⟨j2, c2, e2, h2⟩ := snum_ev l hl hle _ _ _ h1
    obtain ⟨r2, b2, f2, g2⟩ := inum_ev l _ hl _ _ g1
    obtain ⟨j3, c3, e3, h3⟩ := stext_ev l hl hle _ _ _ h2
    obtain ⟨r3, b3, f3, g3⟩ := itext_ev l _ hl _ _ g2
    obtain ⟨j4, c4, e4, h4⟩ := snum_ev l hl hle _ _ _ h3
    obtain ⟨r4, b4, f4, g4⟩ := inum_ev l _ hl _ _ g3
    obtain ⟨j5, c5, e5, h5⟩ := stext_ev l hl hle _ _ _ h4
    obtain ⟨r5, b5, f5, g5⟩ := itext_ev l _ hl _ _ g4
    obtain ⟨j6, c6, e6, h6⟩ := stext_ev l hl hle _ _ _ h5
    obtain ⟨r6, b6, f6, g6⟩ := itext_ev l _ hl _ _ g5
    obtain ⟨z, ez, fz⟩ := g_same l hl (by omega) _ _ _ _ _ h6 g6 (mnum l (some 0)).1 (mnum l (mnum l (some 0)).2).1 _ _ _ _
    exact ⟨z, Ev_neg hlen (Ev.bind e1 (Ev.bind e2 (Ev.bind e3 (Ev.bind e4 (Ev.bind e5 (Ev.bind e6 (Ev_const ez))))))), Ev_bindc hf (Ev_pos rfl (Ev.bind f1 (Ev.bind f2 (Ev.bind f3 (Ev.bind f4 (Ev.bind f5 (Ev.bind f6 (Ev_const fz))))))))⟩
theorem eqJob_self (a1 a2 : Int) (a3 : ByteArray) (a4 : Int) (a5 a6 : ByteArray) (a7 a8 : Bool) : laws_eqJob.f a1 a2 a3 a4 a5 a6 a7 a8 a1 a2 a3 a4 a5 a6 a7 a8 = some true := by
  unfold laws_eqJob.f
  cases a7 <;> cases a8 <;> simp
theorem FnExactReadJob (l : List Int) (hl : ∀ x ∈ l, (Lit.int .u8 x).wf = true) (hlen : ¬ 1048576 < l.length) : ∃ (k : Nat) (q3 q4 : Int) (q5 : ByteArray) (q6 : Int) (q7 q8 : ByteArray) (q9 q10 : Bool) (q11 : Int),
    laws_toByteS.f k l = some l ∧ spec_ReadJob.f k l = some (q3, q4, q5, q6, q7, q8, q9, q10, q11) ∧ impl_ReadJob.f k l = some (q3, q4, q5, q6, q7, q8, q9, q10, q11) ∧ laws_eqJob.f q3 q4 q5 q6 q7 q8 q9 q10 q3 q4 q5 q6 q7 q8 q9 q10 = some true ∧ laws_eqByteS.f k l l = some true := by
  obtain ⟨⟨q3, q4, q5, q6, q7, q8, q9, q10, q11⟩, e1, e2⟩ := readJob_same l (u8_bounds hl)
  obtain ⟨k1, h1⟩ := toByteS_ev l (by omega)
  obtain ⟨k2, h2⟩ := e1
  obtain ⟨k3, h3⟩ := e2
  obtain ⟨k4, h4⟩ := eqByteS_self l (by omega)
  refine ⟨k1 + k2 + k3 + k4, q3, q4, q5, q6, q7, q8, q9, q10, q11, h1 _ (by omega), h2 _ (by omega), h3 _ (by omega), eqJob_self .., h4 _ (by omega)⟩

end Go.Proofs.Ytkiknhljomobpaa.Pure
