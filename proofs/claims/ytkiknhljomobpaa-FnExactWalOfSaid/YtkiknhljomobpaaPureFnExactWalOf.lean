/- WalOf: both sides give a vote and the entries behind it. -/
import Derived.Test.YtkiknhljomobpaaPFnExactWalOfx7
import Derived.Test.YtkiknhljomobpaaHandFnExactWalOf
import Derived.OpenShut
namespace Go.Proofs.Ytkiknhljomobpaa.Pure
open Go.RowKit Go.Proofs.Ytkiknhljomobpaa.PFnExactWalOf Go.Proofs.YtkiknhljomobpaaW.PrintWords Go.Proofs.YtkiknhljomobpaaW.PrintLast Go.Proofs.YtkiknhljomobpaaW.PrintMore
set_option linter.unusedVariables false
set_option linter.unusedSimpArgs false

theorem Ev_pos {α : Type} {c : Prop} [Decidable c] {A B : Nat → Option α} {r : α} (h : c) (e : Ev A r) : Ev (fun k => if c then A k else B k) r := by
  simpa only [if_pos h] using e
theorem Ev_neg {α : Type} {c : Prop} [Decidable c] {A B : Nat → Option α} {r : α} (h : ¬ c) (e : Ev B r) : Ev (fun k => if c then A k else B k) r := by
  simpa only [if_neg h] using e
theorem Ev_some {α : Type} (r : α) : Ev (fun _ => some r) r := Ev.now r
theorem Ev_const {α : Type} {x : Option α} {r : α} (h : x = some r) : Ev (fun _ => x) r := ⟨0, fun _ _ => h⟩
theorem Ev_eq {α : Type} {A : Nat → Option α} {r q : α} (h : Ev A r) (e : r = q) : Ev A q := e ▸ h
theorem Ev_bindc {α β : Type} {x : Option α} {f : Nat → α → Option β} {a : α} {r : β} (h : x = some a) (k : Ev (fun n => f n a) r) : Ev (fun n => x.bind (f n)) r := Ev.bind (g := fun _ => x) (Ev_const h) k
theorem wrap64_id {x : Int} (h0 : -9223372036854775808 ≤ x) (h1 : x ≤ 9223372036854775807) : wrap64 x = x := by
  unfold wrap64; omega
theorem int_bounds {x : Int} (h : (Lit.int .i64 x).wf = true) : -9223372036854775808 ≤ x ∧ x < 9223372036854775808 := by
  have := Go.bounds_i64 h
  omega
theorem u8_bounds {l : List Int} (h : ∀ x ∈ l, (Lit.int .u8 x).wf = true) : ∀ x ∈ l, 0 ≤ x ∧ x < 256 := by
  intro x hx
  have := Go.bounds_u8 (h x hx)
  omega

theorem rd_cons0 (x : Int) (l : List Int) : rd (x :: l) 0 = x := rfl
theorem rd_append_len (p : List Int) (x : Int) (l : List Int) : rd (p ++ x :: l) (p.length : Int) = x := by
  unfold rd
  simp [List.getD]
theorem eqByteS_go (a : List Int) (ha : (a.length : Int) ≤ 281474976710656) (d : Nat) : ∀ i : Int, 0 ≤ i → i ≤ (a.length : Int) → (a.length : Int) - i = d → Ev (fun k => laws_eqByteS.l0 k a a i) true := by
  induction d with
  | zero =>
    intro i h0 h1 hd
    exact Ev.step (fun k => laws_eqByteS.l0.eq_2 a a i k) (Ev_neg (by omega) (Ev_some _))
  | succ d ih =>
    intro i h0 h1 hd
    have e := ih (i + 1) (by omega) (by omega) (by omega)
    have hw : wrap64 (i + 1) = i + 1 := wrap64_id (by omega) (by omega)
    rw [← hw] at e
    exact Ev.step (fun k => laws_eqByteS.l0.eq_2 a a i k) (Ev_pos (by omega) (Ev_pos h0 (Ev_pos (by omega) (Ev_pos rfl e))))
theorem eqByteS_self (a : List Int) (ha : (a.length : Int) ≤ 281474976710656) : Ev (fun k => laws_eqByteS.f k a a) true :=
  Ev_pos rfl (eqByteS_go a ha a.length 0 (by omega) (by omega) (by omega))

theorem rd_mid (p q : List Int) (x : Int) (n : Nat) (h : n = p.length) : rd (p ++ x :: q) (n : Int) = x := by
  subst h
  unfold rd
  simp [List.getD]
theorem toByteS_go : ∀ (suf pre zs : List Int), zs.length = suf.length → (pre.length : Int) + (suf.length : Int) ≤ 281474976710656 →
    Ev (fun k => laws_toByteS.l0 k (pre ++ suf) (pre ++ zs) (pre.length : Int)) (pre ++ suf) := by
  intro suf
  induction suf with
  | nil =>
    intro pre zs hz h
    have : zs = [] := List.eq_nil_of_length_eq_zero (by simpa using hz)
    subst this
    exact Ev.step (fun k => laws_toByteS.l0.eq_2 _ _ _ k) (Ev_neg (by simp) (Ev_some _))
  | cons x suf ih =>
    intro pre zs hz h
    cases zs with
    | nil => simp at hz
    | cons z zs =>
      simp only [List.length_cons] at hz h
      have e := ih (pre ++ [x]) zs (by omega) (by simp; omega)
      have hw : wrap64 ((pre.length : Int) + 1) = ((pre ++ [x]).length : Int) := by rw [wrap64_id (by omega) (by omega)]; simp
      have h1 : (pre ++ [x]) ++ suf = pre ++ x :: suf := by simp
      have h2 : (pre ++ [x]) ++ zs = (pre ++ z :: zs).set ((pre.length : Int)).toNat (rd (pre ++ x :: suf) (pre.length : Int)) := by
        rw [rd_mid pre suf x pre.length rfl]; simp
      rw [← hw, h1, h2] at e
      exact Ev.step (fun k => laws_toByteS.l0.eq_2 _ _ _ k) (Ev_pos (by simp; omega) (Ev_pos (by omega) (Ev_pos (by simp; omega) e)))
theorem toByteS_ev (l : List Int) (h : (l.length : Int) ≤ 281474976710656) : Ev (fun k => laws_toByteS.f k l) l := by
  have e := toByteS_go l [] (List.replicate l.length 0) (by simp) (by simpa using h)
  exact Ev_pos (by omega) (Ev_pos (by omega) (by simpa using e))

def marks : Nat → Int → List Int
  | 0, _ => []
  | n + 1, k => (k % 256) :: marks n (k + 1)
theorem marks_len : ∀ (n : Nat) (k : Int), (marks n k).length = n
  | 0, _ => rfl
  | n + 1, k => by simp [marks, marks_len n]
theorem marks_u8 : ∀ (n : Nat) (k : Int), ∀ x ∈ marks n k, 0 ≤ x ∧ x < 256
  | 0, _ => by simp [marks]
  | n + 1, k => by
    intro x hx
    simp only [marks, List.mem_cons] at hx
    rcases hx with rfl | hx
    · omega
    · exact marks_u8 n (k + 1) x hx
theorem markByteS_go : ∀ (suf pre : List Int) (k : Int), 0 ≤ k → k + (suf.length : Int) ≤ 4611686018427387904 → (pre.length : Int) + (suf.length : Int) ≤ 281474976710656 →
    Ev (fun n => laws_markByteS.l0 n (pre ++ suf) k (pre.length : Int)) (k + (suf.length : Int), pre ++ marks suf.length k) := by
  intro suf
  induction suf with
  | nil =>
    intro pre k h0 h1 h2
    simp only [List.length_nil, marks, List.append_nil]
    refine Ev.step (fun n => laws_markByteS.l0.eq_2 pre k _ n) (Ev_neg (by omega) (Ev_eq (Ev_some _) (by simp)))
  | cons x suf ih =>
    intro pre k h0 h1 h2
    simp only [List.length_cons] at h1 h2
    have e := ih (pre ++ [k % 256]) (k + 1) (by omega) (by omega) (by simp; omega)
    have hw : wrap64 ((pre.length : Int) + 1) = ((pre ++ [k % 256]).length : Int) := by rw [wrap64_id (by omega) (by omega)]; simp
    have hk : wrap64 (k + 1) = k + 1 := wrap64_id (by omega) (by omega)
    rw [← hw, ← hk] at e
    have hs : (pre ++ x :: suf).set ((pre.length : Int)).toNat (k % 256) = (pre ++ [k % 256]) ++ suf := by simp
    rw [← hs] at e
    refine Ev.step (fun n => laws_markByteS.l0.eq_2 (pre ++ x :: suf) k _ n) (Ev_pos (by simp; omega) (Ev_pos (by omega) (Ev_eq e ?_)))
    rw [hk]
    simp only [List.length_cons, marks]
    exact Prod.ext (by omega) (by simp)
theorem markByteS_ev (l : List Int) (k : Int) (h0 : 0 ≤ k) (h1 : k + (l.length : Int) ≤ 4611686018427387904) (h2 : (l.length : Int) ≤ 281474976710656) : Ev (fun n => laws_markByteS.f n l k) (k + (l.length : Int), marks l.length k) := by
  have e := markByteS_go l [] k h0 h1 (by simpa using h2)
  unfold laws_markByteS.f
  simpa using e
theorem heldByteS_go : ∀ (d : Nat) (pre : List Int) (k : Int), 0 ≤ k → k + (d : Int) ≤ 4611686018427387904 → (pre.length : Int) + (d : Int) ≤ 281474976710656 →
    Ev (fun n => laws_heldByteS.l0 n (pre ++ marks d k) k (pre.length : Int)) (k + (d : Int)) := by
  intro d
  induction d with
  | zero =>
    intro pre k h0 h1 h2
    refine Ev.step (fun n => laws_heldByteS.l0.eq_2 _ k _ n) (Ev_neg (by simp [marks]) (Ev_eq (Ev_some _) (by simp)))
  | succ d ih =>
    intro pre k h0 h1 h2
    have e := ih (pre ++ [k % 256]) (k + 1) (by omega) (by omega) (by simp; omega)
    have hw : wrap64 ((pre.length : Int) + 1) = ((pre ++ [k % 256]).length : Int) := by rw [wrap64_id (by omega) (by omega)]; simp
    have hk : wrap64 (k + 1) = k + 1 := wrap64_id (by omega) (by omega)
    rw [← hw, ← hk] at e
    have hs : (pre ++ [k % 256]) ++ marks d (wrap64 (k + 1)) = pre ++ marks (d + 1) k := by rw [hk]; simp [marks]
    rw [hs] at e
    refine Ev.step (fun n => laws_heldByteS.l0.eq_2 _ k _ n) (Ev_pos (by simp [marks]; omega) (Ev_pos (by omega) (Ev_pos ?_ (Ev_eq e (by rw [hk]; omega)))))
    simp only [marks]
    exact rd_append_len pre _ _
theorem heldByteS_ev (d : Nat) (k : Int) (h0 : 0 ≤ k) (h1 : k + (d : Int) ≤ 4611686018427387904) (h2 : (d : Int) ≤ 281474976710656) : Ev (fun n => laws_heldByteS.f n (marks d k) k) (k + (d : Int)) := by
  have e := heldByteS_go d [] k h0 h1 (by simpa using h2)
  unfold laws_heldByteS.f
  simpa using e

def put (n : Nat) : List Int := if h : 128 ≤ n then ((n % 128 + 128 : Nat) : Int) :: put (n / 128) else [(n : Int)]
termination_by n
decreasing_by omega
theorem put_small {n : Nat} (h : n < 128) : put n = [(n : Int)] := by rw [put]; simp; omega
theorem put_big {n : Nat} (h : 128 ≤ n) : put n = ((n % 128 + 128 : Nat) : Int) :: put (n / 128) := by rw [put]; simp [h]
theorem put_pos (n : Nat) : 1 ≤ (put n).length := by rw [put]; split <;> simp
theorem put_len : ∀ (j n : Nat), n < 128 ^ (j + 1) → (put n).length ≤ j + 1
  | 0, n, h => by rw [put_small (by simpa using h)]; simp
  | j + 1, n, h => by
    by_cases hn : 128 ≤ n
    · rw [put_big hn]
      have := put_len j (n / 128) (by rw [Nat.div_lt_iff_lt_mul (by omega)]; rw [Nat.pow_succ] at h; exact h)
      simp only [List.length_cons]
      omega
    · rw [put_small (by omega)]
      simp
theorem put_len9 {n : Nat} (h : n < 9223372036854775808) : (put n).length ≤ 9 := put_len 8 n (by omega)
theorem put_u8 (n : Nat) : ∀ x ∈ put n, 0 ≤ x ∧ x < 256 := by
  induction n using Nat.strongRecOn with
  | _ n ih =>
    by_cases hn : 128 ≤ n
    · rw [put_big hn]
      intro x hx
      simp only [List.mem_cons] at hx
      rcases hx with rfl | hx
      · omega
      · exact ih (n / 128) (by omega) x hx
    · rw [put_small (by omega)]
      intro x hx
      simp only [List.mem_cons, List.not_mem_nil, or_false] at hx
      omega
theorem or128 (y : Int) (h0 : 0 ≤ y) (h1 : y < 128) : Go.bits .or .u8 y 128 = y + 128 := by
  obtain ⟨a, rfl⟩ := Int.eq_ofNat_of_zero_le h0
  have : a < 128 := by omega
  rw [show (128 : Int) = ((128 : Nat) : Int) from rfl, (bits_nat .u8 8 (by decide) wraps_u8 a 128 (by omega) (by omega)).2]
  have : a ||| 128 = a + 128 := by
    have h := Nat.two_pow_add_eq_or_of_lt (i := 7) (b := a) (by omega) 1
    rw [Nat.or_comm]
    simp at h
    omega
  rw [this]
  rfl
theorem number_go (n : Nat) : ∀ acc : List Int, n < 9223372036854775808 → (acc.length : Int) + 10 ≤ 140737488355328 - (put n).length → Ev (fun k => impl_number.l0 k (n : Int) acc) (acc ++ put n) := by
  induction n using Nat.strongRecOn with
  | _ n ih =>
    intro acc hn hl
    by_cases h : 128 ≤ n
    · have hp := put_big h
      rw [hp] at hl ⊢
      simp only [List.length_cons] at hl
      have e := ih (n / 128) (by omega) (acc ++ [((n % 128 + 128 : Nat) : Int)]) (by omega) (by simp; omega)
      have h1 : wrap64 (Int.tdiv (n : Int) 128) = ((n / 128 : Nat) : Int) := by rw [Int.tdiv_eq_ediv_of_nonneg (by omega), wrap64_id (by omega) (by omega)]; omega
      have h2 : (wrap64 ((Int.tmod (n : Int) 128) + 128)) % 256 = ((n % 128 + 128 : Nat) : Int) := by rw [Int.tmod_eq_emod_of_nonneg (by omega), wrap64_id (by omega) (by omega)]; omega
      rw [← h1, ← h2] at e
      refine Ev.step (fun k => impl_number.l0.eq_2 (n : Int) acc k) (Ev_pos (by omega) (Ev_pos (by omega) (Ev_eq e ?_)))
      rw [h2]
      simp
    · rw [put_small (by omega)] at hl ⊢
      refine Ev.step (fun k => impl_number.l0.eq_2 (n : Int) acc k) (Ev_neg (by omega) (Ev_pos (by omega) (Ev_eq (Ev_some _) ?_)))
      rw [show (n : Int) % 256 = (n : Int) by omega]
theorem number_ev {n : Nat} (hn : n < 9223372036854775808) : Ev (fun k => impl_number.f k (n : Int)) (put n) := by
  have := put_len9 hn
  exact number_go n [] hn (by simp; omega)
theorem l01Put_go (n : Nat) : ∀ acc : List Int, n < 9223372036854775808 → (acc.length : Int) + 10 ≤ 140737488355328 - (put n).length → Ev (fun k => spec_l01Put.l0 k (n : Int) acc) (acc ++ put n) := by
  induction n using Nat.strongRecOn with
  | _ n ih =>
    intro acc hn hl
    by_cases h : 128 ≤ n
    · have hp := put_big h
      rw [hp] at hl ⊢
      simp only [List.length_cons] at hl
      have e := ih (n / 128) (by omega) (acc ++ [((n % 128 + 128 : Nat) : Int)]) (by omega) (by simp; omega)
      have h1 : wrap64 (Int.tdiv (n : Int) 128) = ((n / 128 : Nat) : Int) := by rw [Int.tdiv_eq_ediv_of_nonneg (by omega), wrap64_id (by omega) (by omega)]; omega
      have h2 : Go.bits .or .u8 ((Int.tmod (n : Int) 128) % 256) 128 = ((n % 128 + 128 : Nat) : Int) := by rw [Int.tmod_eq_emod_of_nonneg (by omega), or128 _ (by omega) (by omega)]; omega
      rw [← h1, ← h2] at e
      refine Ev.step (fun k => spec_l01Put.l0.eq_2 (n : Int) acc k) (Ev_pos (by omega) (Ev_pos (by omega) (Ev_eq e ?_)))
      rw [h2]
      simp
    · rw [put_small (by omega)] at hl ⊢
      refine Ev.step (fun k => spec_l01Put.l0.eq_2 (n : Int) acc k) (Ev_neg (by omega) (Ev_pos (by omega) (Ev_eq (Ev_some _) ?_)))
      rw [show (n : Int) % 256 = (n : Int) by omega]
theorem l01Put_ev {n : Nat} (hn : n < 9223372036854775808) : Ev (fun k => spec_l01Put.f k (n : Int)) (put n) := by
  have := put_len9 hn
  exact l01Put_go n [] hn (by simp; omega)

theorem bits_xor_nat (k : IntKind) (j : Nat) (hj : j ≤ k.bits) (hk : ∀ n : Int, 0 ≤ n → n < 2 ^ j → k.wrap n = n) (a b : Nat) (ha : a < 2 ^ j) (hb : b < 2 ^ j) : Go.bits .xor k (a : Int) (b : Int) = ((a ^^^ b : Nat) : Int) := by
  have hp : 2 ^ j ≤ 2 ^ k.bits := Nat.pow_le_pow_right (by decide) hj
  have ha' : a % 2 ^ k.bits = a := Nat.mod_eq_of_lt (Nat.lt_of_lt_of_le ha hp)
  have hb' : b % 2 ^ k.bits = b := Nat.mod_eq_of_lt (Nat.lt_of_lt_of_le hb hp)
  have cast : ∀ n : Nat, n < 2 ^ j → ((n : Nat) : Int) < 2 ^ j := fun n h => by exact_mod_cast h
  simp only [Go.bits, BitVec.ofInt_natCast, BitVec.toNat_xor, BitVec.toNat_ofNat, ha', hb']
  exact hk _ (Int.natCast_nonneg _) (cast _ (Nat.xor_lt_two_pow ha hb))
theorem wraps_u32 (n : Int) (h₀ : 0 ≤ n) (h₁ : n < 2 ^ 32) : IntKind.u32.wrap n = n := by rw [IntKind.wrap_u32]; omega
theorem wraps_i64b (n : Int) (h₀ : 0 ≤ n) (h₁ : n < 2 ^ 63) : IntKind.i64.wrap n = n := by rw [IntKind.wrap_i64]; omega
theorem xor_u32 (a b : Nat) (ha : a < 4294967296) (hb : b < 4294967296) : Go.bits .xor .u32 (a : Int) (b : Int) = ((a ^^^ b : Nat) : Int) := bits_xor_nat .u32 32 (by decide) wraps_u32 a b ha hb
theorem xor_i64 (a b : Nat) (ha : a < 4294967296) (hb : b < 4294967296) : Go.bits .xor .i64 (a : Int) (b : Int) = ((a ^^^ b : Nat) : Int) := bits_xor_nat .i64 63 (by decide) wraps_i64b a b (by omega) (by omega)
theorem and1_u32 (a : Nat) (ha : a < 4294967296) : Go.bits .and .u32 (a : Int) 1 = (a : Int) % 2 := by
  have e := bits_mask .u32 32 (by decide) wraps_u32 1 (by decide) (a : Int) (by omega) (by omega)
  simpa using e
/-- One bit of the sum shifted out. -/
def crcBit (c : Nat) : Nat := if c % 2 = 1 then (c / 2) ^^^ 3988292384 else c / 2
def crcBits : Nat → Nat → Nat
  | 0, c => c
  | n + 1, c => crcBits n (crcBit c)
def crcL : List Int → Nat → Nat
  | [], c => c
  | x :: l, c => crcL l (crcBits 8 (c ^^^ x.toNat))
/-- The check sum of bytes. -/
def crcOf (l : List Int) : Nat := crcL l 4294967295 ^^^ 4294967295
theorem xor_lt32 {a b : Nat} (ha : a < 4294967296) (hb : b < 4294967296) : a ^^^ b < 4294967296 := Nat.xor_lt_two_pow (n := 32) ha hb
theorem crcBit_lt {c : Nat} (h : c < 4294967296) : crcBit c < 4294967296 := by
  unfold crcBit
  split
  · exact xor_lt32 (by omega) (by omega)
  · omega
theorem crcBits_lt : ∀ (n : Nat) {c : Nat}, c < 4294967296 → crcBits n c < 4294967296
  | 0, _, h => h
  | n + 1, _, h => crcBits_lt n (crcBit_lt h)
theorem crcL_lt : ∀ (l : List Int) {c : Nat}, (∀ x ∈ l, 0 ≤ x ∧ x < 256) → c < 4294967296 → crcL l c < 4294967296
  | [], _, _, h => h
  | x :: l, _, hl, h => crcL_lt l (fun y hy => hl y (by simp [hy])) (crcBits_lt 8 (xor_lt32 h (by have := hl x (by simp); omega)))
theorem crcOf_lt (l : List Int) (hl : ∀ x ∈ l, 0 ≤ x ∧ x < 256) : crcOf l < 4294967296 := xor_lt32 (crcL_lt l hl (by omega)) (by omega)
theorem rd_midc (p q : List Int) (x : Int) : rd (p ++ x :: q) (p.length : Int) = x := by
  unfold rd
  simp [List.getD]
theorem spec_crc_bits (l : List Int) (r : Int) (i : Int) (d : Nat) : ∀ (j : Int) (c : Nat), 0 ≤ j → 8 - j = d → c < 4294967296 → Ev (fun k => spec_l01Crc.l0 k l (crcBits d c : Nat) (wrap64 (i + 1))) r → Ev (fun k => spec_l01Crc.l1 k l (c : Int) i j) r := by
  induction d with
  | zero =>
    intro j c h0 hd hc e
    exact Ev.step (fun k => spec_l01Crc.l1.eq_2 _ _ _ _ k) (Ev_neg (by omega) e)
  | succ d ih =>
    intro j c h0 hd hc e
    have e2 := ih (j + 1) (crcBit c) (by omega) (by omega) (crcBit_lt hc) e
    have hj := Aside0.mk (show wrap64 (j + 1) = j + 1 from wrap64_id (by omega) (by omega))
    have ht : Int.tmod (c : Int) 2 = ((c % 2 : Nat) : Int) := by rw [Int.tmod_eq_emod_of_nonneg (by omega)]; omega
    have hq : wrap64 (Int.tdiv (c : Int) 2) = ((c / 2 : Nat) : Int) := by rw [Int.tdiv_eq_ediv_of_nonneg (by omega), wrap64_id (by omega) (by omega)]; omega
    refine Ev.step (fun k => spec_l01Crc.l1.eq_2 _ _ _ _ k) (Ev_pos (by omega) ?_)
    rw [ht, hq, hj.out]
    unfold crcBit at e2
    by_cases h : c % 2 = 1
    · rw [if_pos h] at e2
      rw [show (3988292384 : Int) = ((3988292384 : Nat) : Int) from rfl, xor_i64 _ _ (by omega) (by omega)]
      exact Ev_pos (by omega) e2
    · rw [if_neg h] at e2
      exact Ev_neg (by omega) e2
theorem spec_crc_go (l : List Int) (hl : ∀ x ∈ l, 0 ≤ x ∧ x < 256) (hlen : (l.length : Int) ≤ 281474976710656) : ∀ (suf pre : List Int) (c : Nat), l = pre ++ suf → c < 4294967296 → Ev (fun k => spec_l01Crc.l0 k l (c : Int) (pre.length : Int)) ((crcL suf c ^^^ 4294967295 : Nat) : Int) := by
  intro suf
  induction suf with
  | nil =>
    intro pre c hs hc
    refine Ev.step (fun k => spec_l01Crc.l0.eq_2 _ _ _ k) (Ev_neg (by rw [hs]; simp) (Ev_eq (Ev_some _) ?_))
    rw [show (4294967295 : Int) = ((4294967295 : Nat) : Int) from rfl, xor_i64 _ _ hc (by omega)]
    rfl
  | cons x suf ih =>
    intro pre c hs hc
    have hx := hl x (by rw [hs]; simp)
    have hln : (l.length : Int) = pre.length + 1 + suf.length := by rw [hs]; simp; omega
    have hr : rd l (pre.length : Int) = x := by rw [hs]; exact rd_midc pre suf x
    obtain ⟨b, rfl⟩ := Int.eq_ofNat_of_zero_le hx.1
    have hcb : c ^^^ b < 4294967296 := xor_lt32 hc (by omega)
    have e := ih (pre ++ [(b : Int)]) (crcBits 8 (c ^^^ b)) (by rw [hs]; simp) (crcBits_lt 8 hcb)
    have hw : wrap64 ((pre.length : Int) + 1) = ((pre ++ [(b : Int)]).length : Int) := by rw [wrap64_id (by omega) (by omega)]; simp
    rw [← hw] at e
    refine Ev.step (fun k => spec_l01Crc.l0.eq_2 _ _ _ k) (Ev_pos (by omega) (Ev_pos (by omega) ?_))
    rw [hr, wrap64_id (x := (b : Int)) (by omega) (by omega), xor_i64 _ _ hc (by omega)]
    exact spec_crc_bits l _ _ 8 0 _ (by omega) (by omega) hcb e
theorem l01Crc_ev (l : List Int) (hl : ∀ x ∈ l, 0 ≤ x ∧ x < 256) (hlen : (l.length : Int) ≤ 281474976710656) : Ev (fun k => spec_l01Crc.f k l) (crcOf l : Int) :=
  spec_crc_go l hl hlen l [] 4294967295 rfl (by omega)
theorem impl_crc_bits (l : List Int) (r n : Int) (i : Int) (d : Nat) : ∀ (j : Int) (c : Nat), 0 ≤ j → 8 - j = d → c < 4294967296 → Ev (fun k => impl_crc.l0 k (crcBits d c : Nat) l n (wrap64 (i + 1))) r → Ev (fun k => impl_crc.l1 k (c : Int) l n i j) r := by
  induction d with
  | zero =>
    intro j c h0 hd hc e
    exact Ev.step (fun k => impl_crc.l1.eq_2 _ _ _ _ _ k) (Ev_neg (by omega) e)
  | succ d ih =>
    intro j c h0 hd hc e
    have e2 := ih (j + 1) (crcBit c) (by omega) (by omega) (crcBit_lt hc) e
    have hj := Aside0.mk (show wrap64 (j + 1) = j + 1 from wrap64_id (by omega) (by omega))
    have hq : (c : Int) / 2 = ((c / 2 : Nat) : Int) := by omega
    refine Ev.step (fun k => impl_crc.l1.eq_2 _ _ _ _ _ k) (Ev_pos (by omega) ?_)
    rw [and1_u32 c hc, hq, hj.out]
    unfold crcBit at e2
    by_cases h : c % 2 = 1
    · rw [if_pos h] at e2
      rw [show (3988292384 : Int) = ((3988292384 : Nat) : Int) from rfl, xor_u32 _ _ (by omega) (by omega)]
      exact Ev_pos (by omega) e2
    · rw [if_neg h] at e2
      exact Ev_neg (by omega) e2
theorem impl_crc_go (l : List Int) (hl : ∀ x ∈ l, 0 ≤ x ∧ x < 256) (hlen : (l.length : Int) ≤ 281474976710656) : ∀ (suf pre : List Int) (c : Nat), l = pre ++ suf → c < 4294967296 → Ev (fun k => impl_crc.l0 k (c : Int) l (l.length : Int) (pre.length : Int)) ((crcL suf c ^^^ 4294967295 : Nat) : Int) := by
  intro suf
  induction suf with
  | nil =>
    intro pre c hs hc
    refine Ev.step (fun k => impl_crc.l0.eq_2 _ _ _ _ k) (Ev_neg (by rw [hs]; simp) (Ev_eq (Ev_some _) ?_))
    rw [show (4294967295 : Int) = ((4294967295 : Nat) : Int) from rfl, xor_u32 _ _ (by omega) hc, Nat.xor_comm]
    rfl
  | cons x suf ih =>
    intro pre c hs hc
    have hx := hl x (by rw [hs]; simp)
    have hln : (l.length : Int) = pre.length + 1 + suf.length := by rw [hs]; simp; omega
    have hr : rd l (pre.length : Int) = x := by rw [hs]; exact rd_midc pre suf x
    obtain ⟨b, rfl⟩ := Int.eq_ofNat_of_zero_le hx.1
    have hcb : c ^^^ b < 4294967296 := xor_lt32 hc (by omega)
    have e := ih (pre ++ [(b : Int)]) (crcBits 8 (c ^^^ b)) (by rw [hs]; simp) (crcBits_lt 8 hcb)
    have hw : wrap64 ((pre.length : Int) + 1) = ((pre ++ [(b : Int)]).length : Int) := by rw [wrap64_id (by omega) (by omega)]; simp
    rw [← hw] at e
    refine Ev.step (fun k => impl_crc.l0.eq_2 _ _ _ _ k) (Ev_pos (by omega) (Ev_pos (by omega) (Ev_pos (by omega) ?_)))
    rw [hr, show (b : Int) % 4294967296 = (b : Int) by omega, xor_u32 _ _ hc (by omega)]
    exact impl_crc_bits l _ _ _ 8 0 _ (by omega) (by omega) hcb e
theorem crc_ev (l : List Int) (hl : ∀ x ∈ l, 0 ≤ x ∧ x < 256) (hlen : (l.length : Int) ≤ 281474976710656) : Ev (fun k => impl_crc.f k l) (crcOf l : Int) :=
  impl_crc_go l hl hlen l [] 4294967295 rfl (by omega)

theorem rdL_mid (p q : List (List Int)) (x : List Int) : rd_L2 (p ++ x :: q) (p.length : Int) = x := by
  unfold rd_L2
  simp [List.getD]
theorem concat_one (ls : List (List Int)) (hb : (ls.flatten.length : Int) < 140737488355328) (r : List Int) (hc : (ls.length : Int) < 140737488355328) : ∀ (suf pre : List (List Int)) (s : Int), ls = pre ++ suf → s = (pre.flatten.length : Int) →
    Ev (fun k => (slices_Grow_byte_byte.f ([] : List Int) (ls.flatten.length : Int)).bind fun t => slices_Concat_byte_byte.l1 k t ls (ls.length : Int) 0) r → Ev (fun k => slices_Concat_byte_byte.l0 k ls s ls (ls.length : Int) (pre.length : Int)) r := by
  intro suf
  induction suf with
  | nil =>
    intro pre s hs hsum h
    refine Ev.step (fun k => slices_Concat_byte_byte.l0.eq_2 _ _ _ _ _ k) (Ev_neg (by rw [hs]; simp) ?_)
    have : s = (ls.flatten.length : Int) := by rw [hsum, hs]; simp
    rw [this]
    exact h
  | cons x suf ih =>
    intro pre s hs hsum h
    have e := ih (pre ++ [x]) (s + (x.length : Int)) (by rw [hs]; simp) (by rw [hsum]; simp) h
    have hln : (ls.length : Int) = pre.length + 1 + suf.length := by rw [hs]; simp; omega
    have hfl : (ls.flatten.length : Int) = pre.flatten.length + x.length + suf.flatten.length := by rw [hs]; simp [List.flatten_append]; omega
    have hr : rd_L2 ls (pre.length : Int) = x := by rw [hs]; exact rdL_mid pre suf x
    have hw := Aside0.mk (show wrap64 (s + (x.length : Int)) = s + (x.length : Int) from wrap64_id (by omega) (by omega))
    have hw1 : wrap64 ((pre.length : Int) + 1) = ((pre ++ [x]).length : Int) := by rw [wrap64_id (by omega) (by omega)]; simp
    rw [← hw1] at e
    refine Ev.step (fun k => slices_Concat_byte_byte.l0.eq_2 _ _ _ _ _ k) (Ev_pos (by omega) (Ev_pos (by omega) (Ev_pos (by omega) ?_)))
    rw [hr, hw.out]
    exact Ev_neg (by omega) e
theorem concat_two (ls : List (List Int)) (hb : (ls.flatten.length : Int) < 140737488355328) (hc : (ls.length : Int) < 140737488355328) : ∀ (suf pre : List (List Int)), ls = pre ++ suf →
    Ev (fun k => slices_Concat_byte_byte.l1 k pre.flatten ls (ls.length : Int) (pre.length : Int)) ls.flatten := by
  intro suf
  induction suf with
  | nil =>
    intro pre hs
    refine Ev.step (fun k => slices_Concat_byte_byte.l1.eq_2 _ _ _ _ k) (Ev_neg (by rw [hs]; simp) (Ev_eq (Ev_some _) (by rw [hs]; simp)))
  | cons x suf ih =>
    intro pre hs
    have e := ih (pre ++ [x]) (by rw [hs]; simp)
    have hln : (ls.length : Int) = pre.length + 1 + suf.length := by rw [hs]; simp; omega
    have hfl : (ls.flatten.length : Int) = pre.flatten.length + x.length + suf.flatten.length := by rw [hs]; simp [List.flatten_append]; omega
    have hr : rd_L2 ls (pre.length : Int) = x := by rw [hs]; exact rdL_mid pre suf x
    have hw1 : wrap64 ((pre.length : Int) + 1) = ((pre ++ [x]).length : Int) := by rw [wrap64_id (by omega) (by omega)]; simp
    rw [← hw1, List.flatten_append, List.flatten_cons, List.flatten_nil, List.append_nil] at e
    refine Ev.step (fun k => slices_Concat_byte_byte.l1.eq_2 _ _ _ _ k) (Ev_pos (by omega) (Ev_pos (by omega) (Ev_pos (by omega) ?_)))
    rw [hr]
    exact Ev_pos (by omega) e
theorem concat_ev (ls : List (List Int)) (hb : (ls.flatten.length : Int) < 140737488355328) (hc : (ls.length : Int) < 140737488355328) : Ev (fun k => slices_Concat_byte_byte.f k ls) ls.flatten := by
  refine concat_one ls hb _ hc ls [] 0 rfl rfl (Ev_bindc (a := []) ?_ (concat_two ls hb hc ls [] rfl))
  unfold slices_Grow_byte_byte.f
  rw [if_pos ⟨by omega, hb⟩]

/-- Four bytes of a number, the lowest first. -/
def fourOf (n : Nat) : List Int := [((n % 256 : Nat) : Int), ((n / 256 % 256 : Nat) : Int), ((n / 65536 % 256 : Nat) : Int), ((n / 16777216 % 256 : Nat) : Int)]
theorem fourOf_len (n : Nat) : (fourOf n).length = 4 := rfl
theorem fourOf_u8 (n : Nat) : ∀ x ∈ fourOf n, 0 ≤ x ∧ x < 256 := by
  intro x hx
  simp only [fourOf, List.mem_cons, List.not_mem_nil, or_false] at hx
  rcases hx with rfl | rfl | rfl | rfl <;> omega
def frameOf (p : List Int) : List Int := put p.length ++ p ++ fourOf (crcOf p)
theorem sumBytes_ev (l : List Int) (hl : ∀ x ∈ l, 0 ≤ x ∧ x < 256) (hlen : (l.length : Int) ≤ 281474976710656) : Ev (fun k => impl_sumBytes.f k l) (fourOf (crcOf l)) := by
  refine Ev.bind (crc_ev l hl hlen) (Ev_eq (Ev_some _) ?_)
  unfold fourOf
  rw [show (crcOf l : Int) % 256 = ((crcOf l % 256 : Nat) : Int) by omega, show (crcOf l : Int) / 256 % 256 = ((crcOf l / 256 % 256 : Nat) : Int) by omega, show (crcOf l : Int) / 65536 % 256 = ((crcOf l / 65536 % 256 : Nat) : Int) by omega, show (crcOf l : Int) / 16777216 % 256 = ((crcOf l / 16777216 % 256 : Nat) : Int) by omega]
theorem four_ev (n : Nat) (hn : n < 4294967296) : spec_l01Four.f (n : Int) = some (fourOf n) := by
  unfold spec_l01Four.f fourOf
  have t (a : Int) (h : 0 ≤ a) : Int.tmod a 256 % 256 = a % 256 := by rw [Int.tmod_eq_emod_of_nonneg h]; omega
  rw [Int.tdiv_eq_ediv_of_nonneg (by omega), Int.tdiv_eq_ediv_of_nonneg (by omega), Int.tdiv_eq_ediv_of_nonneg (by omega), wrap64_id (x := (n : Int) / 256) (by omega) (by omega), wrap64_id (x := (n : Int) / 65536) (by omega) (by omega), wrap64_id (x := (n : Int) / 16777216) (by omega) (by omega), t _ (by omega), t _ (by omega), t _ (by omega), t _ (by omega)]
  rw [show (n : Int) % 256 = ((n % 256 : Nat) : Int) by omega, show (n : Int) / 256 % 256 = ((n / 256 % 256 : Nat) : Int) by omega, show (n : Int) / 65536 % 256 = ((n / 65536 % 256 : Nat) : Int) by omega, show (n : Int) / 16777216 % 256 = ((n / 16777216 % 256 : Nat) : Int) by omega]
theorem frame_ev (l : List Int) (hl : ∀ x ∈ l, 0 ≤ x ∧ x < 256) (hlen : (l.length : Int) ≤ 1099511627776) : Ev (fun k => impl_frame.f k l) (frameOf l) := by
  have hp := put_len9 (n := l.length) (by omega)
  have hf := fourOf_len (crcOf l)
  refine Ev.bind (number_ev (by omega)) (Ev.bind (sumBytes_ev l hl (by omega)) (Ev.bind (concat_ev _ ?_ (by simp)) (Ev_eq (Ev_some _) ?_)))
  · simp only [List.flatten_cons, List.flatten_nil, List.append_nil, List.length_append]
    omega
  · simp [frameOf]
theorem l01Frame_ev (l : List Int) (hl : ∀ x ∈ l, 0 ≤ x ∧ x < 256) (hlen : (l.length : Int) ≤ 1099511627776) : Ev (fun k => spec_l01Frame.f k l) (frameOf l) := by
  have hp := put_len9 (n := l.length) (by omega)
  refine Ev.bind (l01Put_ev (by omega)) (Ev_pos (by omega) (Ev_bindc rfl (Ev.bind (l01Crc_ev l hl (by omega)) (Ev_bindc (four_ev _ (crcOf_lt l hl)) (Ev_pos ?_ (Ev_eq (Ev_some _) ?_))))))
  · rw [fourOf_len, List.length_append]; omega
  · simp [frameOf]
theorem frameOf_len (l : List Int) : (frameOf l).length = (put l.length).length + l.length + 4 := by
  simp [frameOf, fourOf_len]; omega

theorem within_ev (a b c : Int) : impl_within.f a b c = some (decide (b ≤ a) && decide (a ≤ c)) := by
  unfold impl_within.f
  by_cases h : b ≤ a <;> simp [h]
theorem isTerm_ev (a : Int) : impl_isTerm.f a = some (decide (0 ≤ a) && decide (a ≤ 1000000)) := by
  unfold impl_isTerm.f
  rw [within_ev, Option.bind_some]
theorem l02In_ev (a b c : Int) : spec_l02In.f a b c = some (decide (b ≤ a) && decide (a ≤ c)) := by
  unfold spec_l02In.f
  by_cases h : a ≥ b
  · rw [if_pos h]; simp [h]
  · rw [if_neg h]; simp [h]
theorem record_ev (kd : Nat) (hk : kd < 256) (a b : Nat) (ha : a ≤ 1000000) (hb : b ≤ 1000000) (d : List Int) (hd : ∀ x ∈ d, 0 ≤ x ∧ x < 256) (hl : (d.length : Int) ≤ 1048576) :
    Ev (fun k => impl_record.f k (kd : Int) (a : Int) (b : Int) d) (frameOf ((kd : Int) :: (put a ++ put b ++ d))) := by
  have h1 := put_len9 (n := a) (by omega)
  have h2 := put_len9 (n := b) (by omega)
  refine Ev.bind (number_ev (by omega)) (Ev.bind (number_ev (by omega)) (Ev.bind (concat_ev _ ?_ (by simp)) (Ev.bind (Ev_eq (frame_ev _ ?_ ?_) (q := frameOf ((kd : Int) :: (put a ++ put b ++ d))) (by simp)) (Ev_some _))))
  · simp only [List.flatten_cons, List.flatten_nil, List.append_nil, List.length_append, List.length_cons, List.length_nil]
    omega
  · intro x hx
    simp only [List.flatten_cons, List.flatten_nil, List.append_nil, List.mem_append, List.mem_cons, List.not_mem_nil, or_false] at hx
    rcases hx with rfl | hx | hx | hx
    · omega
    · exact put_u8 a x hx
    · exact put_u8 b x hx
    · exact hd x hx
  · simp only [List.flatten_cons, List.flatten_nil, List.append_nil, List.length_append, List.length_cons, List.length_nil]
    omega

def recTo (r : S42) : S45 := ⟨r.f0, r.f1, r.f2⟩
def recLen (ls : List S45) : Nat := (ls.map fun r => r.f2.length).sum
def recLen2 (ls : List S42) : Nat := (ls.map fun r => r.f2.length).sum
theorem recLen_to (ls : List S42) : recLen (ls.map recTo) = recLen2 ls := by simp [recLen, recLen2, recTo, Function.comp_def]
theorem rd42_mid (pre suf : List S42) (r : S42) : rd_T42 (pre ++ r :: suf) (pre.length : Int) = r := by unfold rd_T42; simp [List.getD]
theorem rd45_mid (pre suf : List S45) (r : S45) : rd_T45 (pre ++ r :: suf) (pre.length : Int) = r := by unfold rd_T45; simp [List.getD]
theorem getD45_mid (pre suf : List S45) (r : S45) : (pre ++ r :: suf).getD ((pre.length : Int)).toNat z45 = r := by simp [List.getD]
theorem szRec_ev (r : S42) (hl : r.f2.length ≤ 9223372036854775807) (a : Int) (h0 : 0 ≤ a) (h1 : a ≤ 1048576) : laws_szRec.f r.f0 r.f1 r.f2 a = some (if a - (r.f2.length : Int) < 0 then -1 else a - (r.f2.length : Int)) := by
  unfold laws_szRec.f laws_szByteS.f
  rw [wrap64_id (by omega) (by omega)]
  by_cases h : a - (r.f2.length : Int) < 0
  · rw [if_pos h, if_pos h, Option.bind_some, if_pos (by omega)]
  · rw [if_neg h, if_neg h, Option.bind_some, if_neg h]
theorem szRecS_go : ∀ (suf pre : List S42) (a : Int), (∀ r ∈ suf, r.f2.length ≤ 9223372036854775807) → 0 ≤ a → a ≤ 1048576 → (pre.length : Int) + suf.length ≤ 1048576 →
    ∃ z, Ev (fun k => laws_szRecS.l0 k (pre ++ suf) a (pre.length : Int)) z ∧ (z < 0 ∨ (0 ≤ z ∧ z = a - (recLen2 suf : Int))) := by
  intro suf
  induction suf with
  | nil =>
    intro pre a hr h0 h1 h2
    exact ⟨a, Ev.step (fun k => laws_szRecS.l0.eq_2 _ _ _ k) (Ev_neg (by simp) (Ev_some _)), .inr ⟨h0, by simp [recLen2]⟩⟩
  | cons r suf ih =>
    intro pre a hr h0 h1 h2
    simp only [List.length_cons] at h2
    have hrl := hr r (by simp)
    have es := szRec_ev r hrl a h0 h1
    have hg : rd_T42 (pre ++ r :: suf) (pre.length : Int) = r := rd42_mid pre _ _
    have hsum : recLen2 (r :: suf) = r.f2.length + recLen2 suf := by simp [recLen2]
    have st : ∀ q, Ev (fun k => if (if a - (r.f2.length : Int) < 0 then -1 else a - (r.f2.length : Int)) < 0 then some (-1) else laws_szRecS.l0 k (pre ++ r :: suf) (if a - (r.f2.length : Int) < 0 then -1 else a - (r.f2.length : Int)) (wrap64 ((pre.length : Int) + 1))) q → Ev (fun k => laws_szRecS.l0 k (pre ++ r :: suf) a (pre.length : Int)) q := by
      intro q h
      refine Ev.step (fun k => laws_szRecS.l0.eq_2 _ _ _ k) (Ev_pos (by simp; omega) (Ev_pos (by omega) ?_))
      rw [hg]
      exact Ev_bindc es h
    by_cases hn : a - (r.f2.length : Int) < 0
    · exact ⟨-1, st _ (Ev_pos (by rw [if_pos hn]; omega) (Ev_some _)), .inl (by omega)⟩
    · obtain ⟨z, e, hz⟩ := ih (pre ++ [r]) (a - (r.f2.length : Int)) (fun x hx => hr x (by simp [hx])) (by omega) (by omega) (by simp; omega)
      have hw : wrap64 ((pre.length : Int) + 1) = ((pre ++ [r]).length : Int) := by rw [wrap64_id (by omega) (by omega)]; simp
      have hs : (pre ++ [r]) ++ suf = pre ++ r :: suf := by simp
      rw [hs, ← hw] at e
      refine ⟨z, st _ ?_, hz.imp id (fun h => ⟨h.1, by omega⟩)⟩
      rw [if_neg hn]
      exact Ev_neg hn e
theorem szWal_ev (a b c d e : Int) (ls : List S42) (hl : ls.length ≤ 9223372036854775807) (hr : ∀ r ∈ ls, r.f2.length ≤ 9223372036854775807) : ∃ z, Ev (fun k => laws_szWal.f k a b c d ls e 1048576) z ∧ (z < 0 ∨ (0 ≤ z ∧ (ls.length : Int) + recLen2 ls ≤ 1048576)) := by
  have hw : wrap64 (1048576 - (ls.length : Int)) = 1048576 - (ls.length : Int) := wrap64_id (by omega) (by omega)
  by_cases hn : 1048576 - (ls.length : Int) < 0
  · have e0 : Ev (fun k => laws_szRecS.f k ls 1048576) (-1) := by
      unfold laws_szRecS.f
      rw [hw]
      exact Ev_pos hn (Ev_some _)
    exact ⟨-1, Ev.bind e0 (Ev_pos (by omega) (Ev_some _)), .inl (by omega)⟩
  · obtain ⟨z, e1, hz⟩ := szRecS_go ls [] (1048576 - (ls.length : Int)) hr (by omega) (by omega) (by simp; omega)
    have e0 : Ev (fun k => laws_szRecS.f k ls 1048576) z := by
      unfold laws_szRecS.f
      rw [hw]
      exact Ev_neg hn (by simpa using e1)
    rcases hz with hz | ⟨hz, hz2⟩
    · exact ⟨-1, Ev.bind e0 (Ev_pos hz (Ev_some _)), .inl (by omega)⟩
    · exact ⟨z, Ev.bind e0 (Ev_neg (by omega) (Ev_some _)), .inr ⟨hz, by omega⟩⟩
theorem toRecS_go : ∀ (suf pre : List S42) (d : Nat), (∀ r ∈ suf, r.f2.length ≤ 1048576) → (pre.length : Int) + suf.length ≤ 1048576 → d = suf.length →
    Ev (fun k => laws_toRecS.l0 k (pre ++ suf) (pre.map recTo ++ List.replicate d z45) (pre.length : Int)) ((pre ++ suf).map recTo) := by
  intro suf
  induction suf with
  | nil =>
    intro pre d hr h2 hd
    obtain rfl : d = 0 := hd
    exact Ev.step (fun k => laws_toRecS.l0.eq_2 _ _ _ k) (Ev_neg (by simp) (Ev_eq (Ev_some _) (by simp)))
  | cons r suf ih =>
    intro pre d hr h2 hd
    simp only [List.length_cons] at h2 hd
    subst hd
    have hrl := hr r (by simp)
    have hg : rd_T42 (pre ++ r :: suf) (pre.length : Int) = r := rd42_mid pre _ _
    have e := ih (pre ++ [r]) suf.length (fun x hx => hr x (by simp [hx])) (by simp; omega) rfl
    have hw : wrap64 ((pre.length : Int) + 1) = ((pre ++ [r]).length : Int) := by rw [wrap64_id (by omega) (by omega)]; simp
    have hs : (pre ++ [r]) ++ suf = pre ++ r :: suf := by simp
    have hs2 : (pre.map recTo ++ List.replicate (suf.length + 1) z45).set ((pre.length : Int)).toNat (recTo r) = (pre ++ [r]).map recTo ++ List.replicate suf.length z45 := by simp [List.replicate_succ, List.set_append]
    rw [hs, ← hs2, ← hw] at e
    refine Ev.step (fun k => laws_toRecS.l0.eq_2 _ _ _ k) (Ev_pos (by simp; omega) (Ev_pos (by omega) ?_))
    rw [hg]
    exact Ev.bind (a := (r.f0, r.f1, r.f2)) (Ev.bind (toByteS_ev r.f2 (by omega)) (Ev_some _)) (Ev_pos (by simp; omega) e)
theorem toWal_ev (a b c d e : Int) (ls : List S42) (hl : (ls.length : Int) ≤ 1048576) (hr : ∀ r ∈ ls, r.f2.length ≤ 1048576) : Ev (fun k => laws_toWal.f k a b c d ls e) (a, b, c, d, ls.map recTo, e) := by
  have e1 := toRecS_go ls [] ls.length hr (by simpa using hl) rfl
  refine Ev.bind (a := ls.map recTo) ?_ (Ev_some _)
  refine Ev_pos (by omega) (Ev_pos (by omega) ?_)
  rw [Int.toNat_natCast]
  simpa using e1
theorem eqRecS_go (ls : List S45) (hl : (ls.length : Int) ≤ 1048576) (hr : ∀ r ∈ ls, r.f2.length ≤ 1048576) : ∀ (suf pre : List S45), ls = pre ++ suf → Ev (fun k => laws_eqRecS.l0 k ls ls (pre.length : Int)) true := by
  intro suf
  induction suf with
  | nil =>
    intro pre hs
    exact Ev.step (fun k => laws_eqRecS.l0.eq_2 _ _ _ k) (Ev_neg (by rw [hs]; simp) (Ev_some _))
  | cons r suf ih =>
    intro pre hs
    have hrl := hr r (by rw [hs]; simp)
    have hLl : (ls.length : Int) = pre.length + suf.length + 1 := by rw [hs]; simp; omega
    have hg : rd_T45 ls (pre.length : Int) = r := by rw [hs]; exact rd45_mid pre _ _
    have e := ih (pre ++ [r]) (by rw [hs]; simp)
    have hw : wrap64 ((pre.length : Int) + 1) = ((pre ++ [r]).length : Int) := by rw [wrap64_id (by omega) (by omega)]; simp
    rw [← hw] at e
    refine Ev.step (fun k => laws_eqRecS.l0.eq_2 _ _ _ k) (Ev_pos (by omega) (Ev_pos (by omega) (Ev_pos (by omega) ?_)))
    rw [hg]
    exact Ev.bind (Ev_pos rfl (Ev_pos rfl (Ev.bind (eqByteS_self r.f2 (by omega)) (Ev_pos rfl (Ev_some _))))) (Ev_pos rfl e)
theorem eqWal_self (a b c d e : Int) (ls : List S45) (hl : (ls.length : Int) ≤ 1048576) (hr : ∀ r ∈ ls, r.f2.length ≤ 1048576) : Ev (fun k => laws_eqWal.f k a b c d ls e a b c d ls e) true :=
  Ev_pos rfl (Ev_pos rfl (Ev_pos rfl (Ev_pos rfl (Ev.bind (a := true) (Ev_pos rfl (eqRecS_go ls hl hr ls [] rfl)) (Ev_pos rfl (Ev_pos rfl (Ev_some _)))))))
/-- The marking of a log ends, and what it answers is not below nothing. -/
theorem markRecS_go : ∀ (suf pre : List S45) (k : Int), 0 ≤ k → k + (recLen suf : Int) + 2 * suf.length ≤ 4611686018427387904 → (recLen suf : Int) ≤ 1048576 → (pre.length : Int) + suf.length ≤ 1048576 →
    ∃ (m : Int) (x : List S45), 0 ≤ m ∧ Ev (fun n => laws_markRecS.l0 n (pre ++ suf) k (pre.length : Int)) (m, x) := by
  intro suf
  induction suf with
  | nil =>
    intro pre k h0 h1 hm h2
    exact ⟨k, pre ++ [], h0, Ev.step (fun n => laws_markRecS.l0.eq_2 _ _ _ n) (Ev_neg (by simp) (Ev_some _))⟩
  | cons r suf ih =>
    intro pre k h0 h1 hm h2
    have hsum : recLen (r :: suf) = r.f2.length + recLen suf := by simp [recLen]
    simp only [List.length_cons] at h1 h2
    have hk1 : wrap64 (k + 1) = k + 1 := wrap64_id (by omega) (by omega)
    have hk2 : wrap64 (k + 1 + 1) = k + 2 := by rw [wrap64_id (by omega) (by omega)]; omega
    obtain ⟨m, x, hm0, e⟩ := ih (pre ++ [⟨k, k + 1, marks r.f2.length (k + 2)⟩]) (k + 2 + (r.f2.length : Int)) (by omega) (by omega) (by omega) (by simp; omega)
    refine ⟨m, x, hm0, ?_⟩
    have hw : wrap64 ((pre.length : Int) + 1) = ((pre ++ [(⟨k, k + 1, marks r.f2.length (k + 2)⟩ : S45)]).length : Int) := by rw [wrap64_id (by omega) (by omega)]; simp
    have hs : (pre ++ r :: suf).set ((pre.length : Int)).toNat (⟨k, k + 1, marks r.f2.length (k + 2)⟩ : S45) = (pre ++ [(⟨k, k + 1, marks r.f2.length (k + 2)⟩ : S45)]) ++ suf := by simp
    rw [← hw, ← hs] at e
    have hg := getD45_mid pre suf r
    refine Ev.step (fun n => laws_markRecS.l0.eq_2 _ _ _ n) (Ev_pos (by simp; omega) (Ev_pos (by omega) ?_))
    rw [hg, hk1, hk2]
    exact Ev.bind (markByteS_ev r.f2 (k + 2) (by omega) (by omega) (by omega)) e

theorem specVote_ev (a b : Nat) (ha : a ≤ 1000000) (hb : b ≤ 1000000) : Ev (fun k => spec_l03Vote.f k (a : Int) (b : Int)) (frameOf (1 :: (put a ++ put b ++ []))) := by
  have h1 := put_len9 (n := a) (by omega)
  have h2 := put_len9 (n := b) (by omega)
  refine Ev_bindc rfl (Ev.bind (l01Put_ev (by omega)) (Ev_pos (by simp; omega) (Ev_bindc rfl (Ev.bind (l01Put_ev (by omega)) (Ev_pos (by simp; omega) (Ev.bind (Ev_eq (l01Frame_ev _ ?_ ?_) (q := frameOf (1 :: (put a ++ put b ++ []))) (by simp)) (Ev_some _)))))))
  · intro x hx
    simp only [List.mem_append, List.mem_cons, List.not_mem_nil, or_false] at hx
    rcases hx with (rfl | hx) | hx
    · omega
    · exact put_u8 a x hx
    · exact put_u8 b x hx
  · simp only [List.length_append, List.length_cons, List.length_nil]
    omega
theorem specEntry_ev (a b : Nat) (ha : a ≤ 1000000) (hb : b ≤ 1000000) (d : List Int) (hd : ∀ x ∈ d, 0 ≤ x ∧ x < 256) (hl : (d.length : Int) ≤ 1048576) : Ev (fun k => spec_l03Entry.f k (a : Int) (b : Int) d) (frameOf (2 :: (put a ++ put b ++ d))) := by
  have h1 := put_len9 (n := a) (by omega)
  have h2 := put_len9 (n := b) (by omega)
  refine Ev_bindc rfl (Ev.bind (l01Put_ev (by omega)) (Ev_pos (by simp; omega) (Ev_bindc rfl (Ev.bind (l01Put_ev (by omega)) (Ev_pos (by simp; omega) (Ev_bindc rfl (Ev_pos (by simp; omega) (Ev.bind (Ev_eq (l01Frame_ev _ ?_ ?_) (q := frameOf (2 :: (put a ++ put b ++ d))) (by simp)) (Ev_some _)))))))))
  · intro x hx
    simp only [List.mem_append, List.mem_cons, List.not_mem_nil, or_false] at hx
    rcases hx with ((rfl | hx) | hx) | hx
    · omega
    · exact put_u8 a x hx
    · exact put_u8 b x hx
    · exact hd x hx
  · simp only [List.length_append, List.length_cons, List.length_nil]
    omega
def recGood (r : S45) : Bool := (decide (0 ≤ r.f0) && decide (r.f0 ≤ 1000000)) && ((decide (1 ≤ r.f1) && decide (r.f1 ≤ 1000000)) && decide ((r.f2.length : Int) ≤ 1000))
theorem recOK_ev (r : S45) : impl_recOK.f r.f0 r.f1 r.f2 = some (recGood r) := by
  unfold impl_recOK.f recGood
  rw [isTerm_ev, Option.bind_some]
  cases h1 : (decide (0 ≤ r.f0) && decide (r.f0 ≤ 1000000))
  · simp
  · rw [if_pos rfl, within_ev, Option.bind_some]
    cases h2 : (decide (1 ≤ r.f1) && decide (r.f1 ≤ 1000000)) <;> simp
theorem l03Rec_ev (r : S45) : spec_l03Rec.f r.f0 r.f1 r.f2 = some (recGood r) := by
  unfold spec_l03Rec.f recGood
  rw [l02In_ev, Option.bind_some]
  cases h1 : (decide (0 ≤ r.f0) && decide (r.f0 ≤ 1000000))
  · simp
  · rw [if_pos rfl, l02In_ev, Option.bind_some]
    cases h2 : (decide (1 ≤ r.f1) && decide (r.f1 ≤ 1000000)) <;> simp
def rightFrom : Int → List S45 → Bool
  | _, [] => true
  | i, r :: rs => recGood r && (r.f1 == i + 1) && rightFrom (i + 1) rs
def recF (r : S45) : List Int := frameOf (2 :: (put r.f0.toNat ++ put r.f1.toNat ++ r.f2))
theorem recGood_parts {r : S45} (h : recGood r = true) : 0 ≤ r.f0 ∧ r.f0 ≤ 1000000 ∧ 1 ≤ r.f1 ∧ r.f1 ≤ 1000000 ∧ (r.f2.length : Int) ≤ 1000 := by
  simp only [recGood, Bool.and_eq_true, decide_eq_true_eq] at h
  omega
theorem recF_len {r : S45} (h : recGood r = true) : (recF r).length ≤ 1100 := by
  have := recGood_parts h
  have h1 := put_len9 (n := r.f0.toNat) (by omega)
  have h2 := put_len9 (n := r.f1.toNat) (by omega)
  unfold recF
  rw [frameOf_len]
  simp only [List.length_cons, List.length_append]
  have h3 := put_len9 (n := (put r.f0.toNat).length + (put r.f1.toNat).length + r.f2.length + 1) (by omega)
  omega
theorem recF_impl {r : S45} (h : recGood r = true) (hu : ∀ x ∈ r.f2, 0 ≤ x ∧ x < 256) : Ev (fun k => impl_record.f k 2 r.f0 r.f1 r.f2) (recF r) := by
  have := recGood_parts h
  have e := record_ev 2 (by omega) r.f0.toNat r.f1.toNat (by omega) (by omega) r.f2 hu (by omega)
  rw [show ((r.f0.toNat : Nat) : Int) = r.f0 by omega, show ((r.f1.toNat : Nat) : Int) = r.f1 by omega] at e
  exact e
theorem recF_spec {r : S45} (h : recGood r = true) (hu : ∀ x ∈ r.f2, 0 ≤ x ∧ x < 256) : Ev (fun k => spec_l03Entry.f k r.f0 r.f1 r.f2) (recF r) := by
  have := recGood_parts h
  have e := specEntry_ev r.f0.toNat r.f1.toNat (by omega) (by omega) r.f2 hu (by omega)
  rw [show ((r.f0.toNat : Nat) : Int) = r.f0 by omega, show ((r.f1.toNat : Nat) : Int) = r.f1 by omega] at e
  exact e
def walAns (o : List Int) : List Int × Int := if (o.length : Int) > 65536 then ([], 7) else (o, 0)
theorem impl_l1_go (L : List S45) (n : Int) (hn : n = (L.length : Int)) (hL : (L.length : Int) ≤ 1048576) (hu : ∀ r ∈ L, ∀ x ∈ r.f2, 0 ≤ x ∧ x < 256) : ∀ (suf pre : List S45) (acc : List Int), L = pre ++ suf → (∀ r ∈ suf, recGood r = true) → (acc.length : Int) + 1100 * suf.length ≤ 2000000000 →
    Ev (fun k => impl_WalOf.l1 k acc L n (pre.length : Int)) (walAns (acc ++ (suf.map recF).flatten)) := by
  intro suf
  induction suf with
  | nil =>
    intro pre acc hs hg hb
    refine Ev.step (fun k => impl_WalOf.l1.eq_2 _ _ _ _ k) (Ev_neg (by rw [hn, hs]; simp) ?_)
    simp only [List.map_nil, List.flatten_nil, List.append_nil]
    unfold walAns
    by_cases h : (acc.length : Int) > 65536
    · exact Ev_eq (Ev_pos h (Ev_some _)) (by rw [if_pos h])
    · exact Ev_eq (Ev_neg h (Ev_some _)) (by rw [if_neg h])
  | cons r suf ih =>
    intro pre acc hs hg hb
    simp only [List.length_cons] at hb
    have hgr := hg r (by simp)
    have hlen := recF_len hgr
    have hLl : (L.length : Int) = pre.length + suf.length + 1 := by rw [hs]; simp; omega
    have hgd : rd_T45 L (pre.length : Int) = r := by rw [hs]; exact rd45_mid pre _ _
    have e := ih (pre ++ [r]) (acc ++ recF r) (by rw [hs]; simp) (fun x hx => hg x (by simp [hx])) (by simp only [List.length_append]; omega)
    have hw : wrap64 ((pre.length : Int) + 1) = ((pre ++ [r]).length : Int) := by rw [wrap64_id (by omega) (by omega)]; simp
    rw [← hw] at e
    refine Ev.step (fun k => impl_WalOf.l1.eq_2 _ _ _ _ k) (Ev_pos (by omega) (Ev_pos (by omega) (Ev_pos (by omega) ?_)))
    rw [hgd]
    exact Ev.bind (recF_impl hgr (hu r (by rw [hs]; simp))) (Ev_pos (by omega) (Ev_eq e (by simp)))
theorem spec_l0_go (a b c d q : Int) (L : List S45) (hL : (L.length : Int) ≤ 1048576) (hu : ∀ r ∈ L, ∀ x ∈ r.f2, 0 ≤ x ∧ x < 256) : ∀ (suf pre : List S45) (acc : List Int), L = pre ++ suf → (∀ r ∈ suf, recGood r = true) → (acc.length : Int) + 1100 * suf.length ≤ 2000000000 →
    Ev (fun k => spec_WalOf.l0 k acc (pre.length : Int) a b c d L q) (walAns (acc ++ (suf.map recF).flatten)) := by
  intro suf
  induction suf with
  | nil =>
    intro pre acc hs hg hb
    refine Ev.step (fun k => spec_WalOf.l0.eq_2 _ _ _ _ _ _ _ _ k) (Ev_neg (by rw [hs]; simp) ?_)
    simp only [List.map_nil, List.flatten_nil, List.append_nil]
    unfold walAns
    by_cases h : (acc.length : Int) > 65536
    · exact Ev_eq (Ev_pos h (Ev_some _)) (by rw [if_pos h])
    · exact Ev_eq (Ev_neg h (Ev_some _)) (by rw [if_neg h])
  | cons r suf ih =>
    intro pre acc hs hg hb
    simp only [List.length_cons] at hb
    have hgr := hg r (by simp)
    have hlen := recF_len hgr
    have hLl : (L.length : Int) = pre.length + suf.length + 1 := by rw [hs]; simp; omega
    have hgd : rd_T45 L (pre.length : Int) = r := by rw [hs]; exact rd45_mid pre _ _
    have e := ih (pre ++ [r]) (acc ++ recF r) (by rw [hs]; simp) (fun x hx => hg x (by simp [hx])) (by simp only [List.length_append]; omega)
    have hw : wrap64 ((pre.length : Int) + 1) = ((pre ++ [r]).length : Int) := by rw [wrap64_id (by omega) (by omega)]; simp
    rw [← hw] at e
    refine Ev.step (fun k => spec_WalOf.l0.eq_2 _ _ _ _ _ _ _ _ k) (Ev_pos (by omega) (Ev_pos (by omega) ?_))
    rw [hgd]
    exact Ev.bind (recF_spec hgr (hu r (by rw [hs]; simp))) (Ev_pos (by omega) (Ev_eq e (by simp)))
theorem spec_right_go (a b c d q : Int) (L : List S45) (hL : (L.length : Int) ≤ 1048576) : ∀ (suf pre : List S45), L = pre ++ suf → Ev (fun k => spec_l03Right.l0 k (pre.length : Int) a b c d L q) (rightFrom (pre.length : Int) suf) := by
  intro suf
  induction suf with
  | nil =>
    intro pre hs
    exact Ev.step (fun k => spec_l03Right.l0.eq_2 _ _ _ _ _ _ _ k) (Ev_neg (by rw [hs]; simp) (Ev_some _))
  | cons r suf ih =>
    intro pre hs
    have hLl : (L.length : Int) = pre.length + suf.length + 1 := by rw [hs]; simp; omega
    have hgd : rd_T45 L (pre.length : Int) = r := by rw [hs]; exact rd45_mid pre _ _
    have e := ih (pre ++ [r]) (by rw [hs]; simp)
    have hw : wrap64 ((pre.length : Int) + 1) = ((pre ++ [r]).length : Int) := by rw [wrap64_id (by omega) (by omega)]; simp
    have hl1 : ((pre ++ [r]).length : Int) = (pre.length : Int) + 1 := by simp
    refine Ev.step (fun k => spec_l03Right.l0.eq_2 _ _ _ _ _ _ _ k) (Ev_pos (by omega) (Ev_pos (by omega) ?_))
    rw [hgd]
    refine Ev_bindc (l03Rec_ev r) ?_
    simp only [rightFrom]
    cases hg : recGood r
    · exact Ev_neg (by simp) (Ev_eq (Ev_some _) (by simp))
    · refine Ev_pos rfl ?_
      rw [hw]
      by_cases hi : r.f1 = ((pre ++ [r]).length : Int)
      · refine Ev_pos hi (Ev_eq e ?_)
        rw [hl1] at hi ⊢
        simp [hi]
      · refine Ev_neg hi (Ev_eq (Ev_some _) ?_)
        rw [hl1] at hi
        simp [hi]
theorem right_good : ∀ (i : Int) (ls : List S45), rightFrom i ls = true → ∀ r ∈ ls, recGood r = true
  | _, [], _ => by simp
  | i, r :: rs, h => by
    simp only [rightFrom, Bool.and_eq_true] at h
    intro x hx
    rcases List.mem_cons.1 hx with rfl | hx
    · exact h.1.1
    · exact right_good (i + 1) rs h.2 x hx
theorem impl_l0_go (a b c d q : Int) (L : List S45) (n : Int) (hn : n = (L.length : Int)) (hL : (L.length : Int) ≤ 1048576) (R : List Int × Int) : ∀ (suf pre : List S45) (x : Bool), L = pre ++ suf →
    ((x && rightFrom (pre.length : Int) suf) = true → Ev (fun k => (impl_record.f k 1 a b ([] : List Int)).bind fun t => impl_WalOf.l1 k t L (L.length : Int) 0) R) → ((x && rightFrom (pre.length : Int) suf) = false → R = ([], 1)) →
    Ev (fun k => impl_WalOf.l0 k x L n (pre.length : Int) a b c d L q) R := by
  intro suf
  induction suf with
  | nil =>
    intro pre x hs h1 h2
    refine Ev.step (fun k => impl_WalOf.l0.eq_2 _ _ _ _ _ _ _ _ _ _ k) (Ev_neg (by rw [hn, hs]; simp) ?_)
    simp only [rightFrom, Bool.and_true] at h1 h2
    cases x
    · exact Ev_neg (by simp) (Ev_eq (Ev_some _) (h2 rfl).symm)
    · exact Ev_pos rfl (h1 rfl)
  | cons r suf ih =>
    intro pre x hs h1 h2
    have hLl : (L.length : Int) = pre.length + suf.length + 1 := by rw [hs]; simp; omega
    have hgd : rd_T45 L (pre.length : Int) = r := by rw [hs]; exact rd45_mid pre _ _
    have hw : wrap64 ((pre.length : Int) + 1) = ((pre ++ [r]).length : Int) := by rw [wrap64_id (by omega) (by omega)]; simp
    have hl1 : ((pre ++ [r]).length : Int) = (pre.length : Int) + 1 := by simp
    have go : ∀ y : Bool, y = (x && (recGood r && (r.f1 == (pre.length : Int) + 1))) → Ev (fun k => impl_WalOf.l0 k y L n (wrap64 ((pre.length : Int) + 1)) a b c d L q) R := by
      intro y hy
      rw [hw]
      refine ih (pre ++ [r]) y (by rw [hs]; simp) (fun h => h1 ?_) (fun h => h2 ?_)
      · rw [hl1] at h
        simp only [rightFrom]
        rw [hy] at h
        simp only [Bool.and_eq_true] at h ⊢
        exact ⟨h.1.1, ⟨h.1.2.1, h.1.2.2⟩, h.2⟩
      · rw [hl1] at h
        simp only [rightFrom]
        rw [hy] at h
        rw [← h]
        simp only [Bool.and_assoc]
    refine Ev.step (fun k => impl_WalOf.l0.eq_2 _ _ _ _ _ _ _ _ _ _ k) (Ev_pos (by omega) (Ev_pos (by omega) (Ev_pos (by omega) ?_)))
    rw [hgd]
    cases x
    · exact Ev_neg (by simp) (go false (by simp))
    · refine Ev_pos rfl (Ev_bindc (recOK_ev r) ?_)
      cases hg : recGood r
      · exact Ev_neg (by simp) (go false (by simp [hg]))
      · refine Ev_pos rfl ?_
        have e := go (r.f1 == (pre.length : Int) + 1) (by simp [hg])
        rw [show wrap64 ((pre.length : Int) + 1) = (pre.length : Int) + 1 by rw [hw, hl1]] at e ⊢
        exact e
def walGood (a b c d : Int) (L : List S45) : Prop := (0 ≤ a ∧ a ≤ 1000000) ∧ (0 ≤ b ∧ b ≤ 1000000) ∧ c = 0 ∧ d = 0 ∧ (L.length : Int) ≤ 100
instance (a b c d : Int) (L : List S45) : Decidable (walGood a b c d L) := by unfold walGood; infer_instance
theorem impl_wal_j (a b c d q : Int) (L : List S45) (R : List Int × Int) (h : Ev (fun k => impl_WalOf.l0 k (decide (walGood a b c d L)) L (L.length : Int) 0 a b c d L q) R) : Ev (fun k => impl_WalOf.f k a b c d L q) R := by
  have j : ∀ x : Bool, x = decide (walGood a b c d L) → Ev (fun k => impl_WalOf.j0 k x a b c d L q) R := by
    rintro x rfl
    exact Ev.step (fun k => impl_WalOf.j0.eq_2 _ _ _ _ _ _ _ k) h
  refine Ev_bindc (isTerm_ev a) ?_
  by_cases h1 : 0 ≤ a ∧ a ≤ 1000000
  · refine Ev_pos (by simp; omega) (Ev_bindc (isTerm_ev b) ?_)
    by_cases h2 : 0 ≤ b ∧ b ≤ 1000000
    · refine Ev_pos (by simp; omega) ?_
      by_cases h3 : c = 0
      · refine Ev_pos h3 ?_
        by_cases h4 : d = 0
        · exact Ev_pos h4 (j _ (decide_eq_decide.2 (by unfold walGood; omega)))
        · exact Ev_neg h4 (j _ (Eq.symm (decide_eq_false (by unfold walGood; omega))))
      · exact Ev_neg h3 (j _ (Eq.symm (decide_eq_false (by unfold walGood; omega))))
    · exact Ev_neg (by simp; omega) (j _ (Eq.symm (decide_eq_false (by unfold walGood; omega))))
  · exact Ev_neg (by simp; omega) (j _ (Eq.symm (decide_eq_false (by unfold walGood; omega))))
theorem spec_wal_j (a b c d q : Int) (L : List S45) (hL : (L.length : Int) ≤ 1048576) : Ev (fun k => spec_l03Right.f k a b c d L q) (decide (walGood a b c d L) && rightFrom 0 L) := by
  have j : ∀ x : Bool, x = !decide (walGood a b c d L) → Ev (fun k => spec_l03Right.j0 k x a b c d L q) (decide (walGood a b c d L) && rightFrom 0 L) := by
    rintro x rfl
    refine Ev.step (fun k => spec_l03Right.j0.eq_2 _ _ _ _ _ _ _ k) ?_
    cases hg : decide (walGood a b c d L)
    · exact Ev_pos rfl (Ev_eq (Ev_some _) (by simp))
    · exact Ev_neg (by simp) (Ev_eq (spec_right_go a b c d q L hL L [] rfl) (by simp))
  refine Ev_bindc (l02In_ev a 0 1000000) ?_
  by_cases h1 : 0 ≤ a ∧ a ≤ 1000000
  · refine Ev_pos (by simp; omega) (Ev_bindc (l02In_ev b 0 1000000) ?_)
    by_cases h2 : 0 ≤ b ∧ b ≤ 1000000
    · refine Ev_pos (by simp; omega) ?_
      by_cases h3 : c = 0
      · refine Ev_pos h3 ?_
        by_cases h4 : d = 0
        · refine Ev_pos h4 (j _ ?_)
          rw [show decide (walGood a b c d L) = decide ((L.length : Int) ≤ 100) from decide_eq_decide.2 (by unfold walGood; omega)]
          by_cases h5 : (L.length : Int) ≤ 100
          · rw [decide_eq_true h5, decide_eq_false (by omega)]; rfl
          · rw [decide_eq_false h5, decide_eq_true (by omega)]; rfl
        · exact Ev_neg h4 (j _ (by rw [decide_eq_false (by unfold walGood; omega)]; rfl))
      · exact Ev_neg h3 (j _ (by rw [decide_eq_false (by unfold walGood; omega)]; rfl))
    · exact Ev_neg (by simp; omega) (j _ (by rw [decide_eq_false (by unfold walGood; omega)]; rfl))
  · exact Ev_neg (by simp; omega) (j _ (by rw [decide_eq_false (by unfold walGood; omega)]; rfl))
theorem walAns_len (o : List Int) : (walAns o).1.length ≤ 65536 := by
  unfold walAns
  split
  · simp
  · simp only; omega
theorem both_wal (a b c d q : Int) (L : List S45) (hL : (L.length : Int) ≤ 1048576) (hu : ∀ r ∈ L, ∀ x ∈ r.f2, 0 ≤ x ∧ x < 256) : ∃ (o : List Int) (e : Int), o.length ≤ 65536 ∧ Ev (fun k => impl_WalOf.f k a b c d L q) (o, e) ∧ Ev (fun k => spec_WalOf.f k a b c d L q) (o, e) := by
  have sj := spec_wal_j a b c d q L hL
  cases hg : (decide (walGood a b c d L) && rightFrom 0 L)
  · rw [hg] at sj
    refine ⟨[], 1, by simp, impl_wal_j a b c d q L _ (impl_l0_go a b c d q L _ rfl hL ([], 1) L [] _ rfl (fun h => ?_) (fun _ => rfl)), Ev.bind sj (Ev_neg (by simp) (Ev_some _))⟩
    exact absurd (hg.symm.trans h) (by simp)
  · rw [hg] at sj
    simp only [Bool.and_eq_true, decide_eq_true_eq] at hg
    obtain ⟨⟨⟨a0, a1⟩, ⟨b0, b1⟩, hc, hd, hl⟩, hr⟩ := hg
    have hgood := right_good 0 L hr
    obtain ⟨a, rfl⟩ := Int.eq_ofNat_of_zero_le a0
    obtain ⟨b, rfl⟩ := Int.eq_ofNat_of_zero_le b0
    have hv : Ev (fun k => impl_record.f k 1 (a : Int) (b : Int) ([] : List Int)) (frameOf (1 :: (put a ++ put b ++ []))) := record_ev 1 (by omega) a b (by omega) (by omega) [] (by simp) (by simp)
    have hs := specVote_ev a b (by omega) (by omega)
    have h1 := put_len9 (n := a) (by omega)
    have h2 := put_len9 (n := b) (by omega)
    have hfl : (frameOf (1 :: (put a ++ put b ++ []))).length ≤ 100 := by
      rw [frameOf_len]
      simp only [List.length_cons, List.length_append, List.length_nil]
      have h3 := put_len9 (n := (put a).length + (put b).length + 0 + 1) (by omega)
      omega
    have t1 : Ev (fun k => (impl_record.f k 1 (a : Int) (b : Int) ([] : List Int)).bind fun t => impl_WalOf.l1 k t L (L.length : Int) 0) (walAns (frameOf (1 :: (put a ++ put b ++ [])) ++ (L.map recF).flatten)) :=
      Ev.bind hv (impl_l1_go L _ rfl hL hu L [] _ rfl hgood (by omega))
    refine ⟨(walAns (frameOf (1 :: (put a ++ put b ++ [])) ++ (L.map recF).flatten)).1, (walAns (frameOf (1 :: (put a ++ put b ++ [])) ++ (L.map recF).flatten)).2, walAns_len _, impl_wal_j _ _ c d q L _ (impl_l0_go _ _ c d q L _ rfl hL _ L [] _ rfl (fun _ => t1) (fun h => ?_)), Ev.bind sj (Ev_pos rfl (Ev.bind hs (spec_l0_go _ _ c d q L hL hu L [] _ rfl hgood (by omega))))⟩
    have : (decide (walGood (a : Int) (b : Int) c d L) && rightFrom 0 L) = true := by
      rw [hr, decide_eq_true (show walGood (a : Int) (b : Int) c d L from ⟨⟨a0, a1⟩, ⟨b0, b1⟩, hc, hd, hl⟩)]; rfl
    exact absurd (this.symm.trans h) (by simp)
theorem recLen_row {ls : List S42} : ∀ r ∈ ls, r.f2.length ≤ recLen2 ls := by
  induction ls with
  | nil => intro r hr; cases hr
  | cons x xs ih =>
    intro r hr
    have hs : recLen2 (x :: xs) = x.f2.length + recLen2 xs := by simp [recLen2]
    rcases List.mem_cons.1 hr with rfl | h
    · omega
    · have := ih r h; omega
theorem FnExactWalOf (a b c d q : Int) (ls : List S42) (hu : ∀ r ∈ ls, ∀ x ∈ r.f2, (Lit.int .u8 x).wf = true) (hl : ls.length ≤ 9223372036854775807) (hr : ∀ r ∈ ls, r.f2.length ≤ 9223372036854775807) : ∃ (k : Nat) (z : Int), laws_szWal.f k a b c d ls q 1048576 = some z ∧ (z < 0 ∨ ∃ (y : List S45) (o : List Int) (e m : Int) (x : List S45) (m2 : Int) (x2 : List Int), ¬ z < 0 ∧ ¬ m < 0 ∧ ¬ m2 < 0 ∧
    laws_toWal.f k a b c d ls q = some (a, b, c, d, y, q) ∧ spec_WalOf.f k a b c d y q = some (o, e) ∧ impl_WalOf.f k a b c d y q = some (o, e) ∧ laws_eqByteS.f k o o = some true ∧ laws_eqWal.f k a b c d y q a b c d y q = some true ∧ laws_markWal.f k a b c d y q 1 = some (m, x) ∧ laws_markByteS.f k o 1 = some (m2, x2) ∧ laws_heldByteS.f k x2 1 = some m2) := by
  obtain ⟨z, ⟨k0, e0⟩, hz⟩ := szWal_ev a b c d q ls hl hr
  rcases hz with hz | ⟨hz, hb⟩
  · exact ⟨k0, z, e0 _ (by omega), .inl hz⟩
  · have hr2 : ∀ r ∈ ls, r.f2.length ≤ 1048576 := fun r h => by have := recLen_row r h; omega
    have hr3 : ∀ r ∈ ls.map recTo, r.f2.length ≤ 1048576 := by
      intro r h
      obtain ⟨s, hs, rfl⟩ := List.mem_map.1 h
      exact hr2 s hs
    have hu2 : ∀ r ∈ ls.map recTo, ∀ x ∈ r.f2, 0 ≤ x ∧ x < 256 := by
      intro r h
      obtain ⟨s, hs, rfl⟩ := List.mem_map.1 h
      exact u8_bounds (hu s hs)
    have hll : (ls.map recTo).length = ls.length := by simp
    have hsum := recLen_to ls
    obtain ⟨o, e, ho, ⟨k1, e1⟩, ⟨k2, e2⟩⟩ := both_wal a b c d q (ls.map recTo) (by omega) hu2
    obtain ⟨k3, e3⟩ := toWal_ev a b c d q ls (by omega) hr2
    obtain ⟨k4, e4⟩ := eqByteS_self o (by omega)
    obtain ⟨k5, e5⟩ := eqWal_self a b c d q (ls.map recTo) (by omega) hr3
    obtain ⟨m, x, hm, ⟨k6, e6⟩⟩ := markRecS_go (ls.map recTo) [] 1 (by omega) (by omega) (by omega) (by simp; omega)
    obtain ⟨k7, e7⟩ := markByteS_ev o 1 (by omega) (by omega) (by omega)
    obtain ⟨k8, e8⟩ := heldByteS_ev o.length 1 (by omega) (by omega) (by omega)
    exact ⟨k0 + k1 + k2 + k3 + k4 + k5 + k6 + k7 + k8, z, e0 _ (by omega), .inr ⟨ls.map recTo, o, e, m, x, _, _, by omega, by omega, by omega, e3 _ (by omega), e2 _ (by omega), e1 _ (by omega), e4 _ (by omega), e5 _ (by omega), e6 _ (by omega), e7 _ (by omega), e8 _ (by omega)⟩⟩

end Go.Proofs.Ytkiknhljomobpaa.Pure
