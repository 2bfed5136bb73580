/- FnFrames: the plain law. No conditions. -/
import Derived.Test.YtkiknhljomobpaaPFnFramesx5
import Derived.Test.YtkiknhljomobpaaHandFnFrames
import Derived.OpenShut
namespace Go.Proofs.Ytkiknhljomobpaa.Pure
open Go.RowKit Go.Proofs.Ytkiknhljomobpaa.PFnFrames Go.Proofs.YtkiknhljomobpaaW.PrintWords Go.Proofs.YtkiknhljomobpaaW.PrintLast Go.Proofs.YtkiknhljomobpaaW.PrintMore
set_option linter.unusedVariables false
set_option linter.unusedSimpArgs false

theorem Ev_pos {α : Type} {c : Prop} [Decidable c] {A B : Nat → Option α} {r : α} (h : c) (e : Ev A r) : Ev (fun k => if c then A k else B k) r := by
  simpa only [if_pos h] using e
theorem Ev_neg {α : Type} {c : Prop} [Decidable c] {A B : Nat → Option α} {r : α} (h : ¬ c) (e : Ev B r) : Ev (fun k => if c then A k else B k) r := by
  simpa only [if_neg h] using e
theorem Ev_some {α : Type} (r : α) : Ev (fun _ => some r) r := Ev.now r
theorem Ev_const {α : Type} {x : Option α} {r : α} (h : x = some r) : Ev (fun _ => x) r := ⟨0, fun _ _ => h⟩
theorem Ev_eq {α : Type} {A : Nat → Option α} {r q : α} (h : Ev A r) (e : r = q) : Ev A q := e ▸ h
theorem Ev_bindc {α β : Type} {x : Option α} {f : Nat → α → Option β} {a : α} {r : β} (h : x = some a) (k : Ev (fun n => f n a) r) : Ev (fun n => x.bind (f n)) r := Ev.bind (g := fun _ => x) (Ev_const h) k
theorem wrap64_id {x : Int} (h0 : -9223372036854775808 ≤ x) (h1 : x ≤ 9223372036854775807) : wrap64 x = x := by
  unfold wrap64; omega
theorem int_bounds {x : Int} (h : (Lit.int .i64 x).wf = true) : -9223372036854775808 ≤ x ∧ x < 9223372036854775808 := by
  have := Go.bounds_i64 h
  omega
theorem u8_bounds {l : List Int} (h : ∀ x ∈ l, (Lit.int .u8 x).wf = true) : ∀ x ∈ l, 0 ≤ x ∧ x < 256 := by
  intro x hx
  have := Go.bounds_u8 (h x hx)
  omega

theorem rd_cons0 (x : Int) (l : List Int) : rd (x :: l) 0 = x := rfl
theorem rd_append_len (p : List Int) (x : Int) (l : List Int) : rd (p ++ x :: l) (p.length : Int) = x := by
  unfold rd
  simp [List.getD]

theorem rd_u8 {l : List Int} (h : ∀ x ∈ l, 0 ≤ x ∧ x < 256) (i : Int) : 0 ≤ rd l i ∧ rd l i < 256 := by
  unfold rd
  rw [List.getD_eq_getElem?_getD]
  by_cases hi : i.toNat < l.length
  · rw [List.getElem?_eq_getElem hi]
    exact h _ (List.getElem_mem hi)
  · rw [List.getElem?_eq_none (by omega)]
    decide
theorem at_ev (l : List Int) (hl : ∀ x ∈ l, 0 ≤ x ∧ x < 256) (hlen : (l.length : Int) ≤ 281474976710656) (i n : Int) (hi : 0 ≤ i ∧ i < 1000) (hn : 2 ≤ n) : ∃ v, laws_at.f l i n = some v ∧ 0 ≤ v ∧ v < n := by
  unfold laws_at.f
  rw [if_neg (by omega)]
  by_cases h0 : (l.length : Int) = 0
  · rw [if_pos h0, if_neg (by omega)]
    have e1 : wrap64 (i * 7) = i * 7 := wrap64_id (by omega) (by omega)
    rw [e1, Int.tmod_eq_emod_of_nonneg (by omega)]
    exact ⟨_, rfl, Int.emod_nonneg _ (by omega), Int.emod_lt_of_pos _ (by omega)⟩
  · have e1 : wrap64 (i + 1) = i + 1 := wrap64_id (by omega) (by omega)
    have t1 : Int.tmod i (l.length : Int) = i % (l.length : Int) := Int.tmod_eq_emod_of_nonneg hi.1
    have t2 : Int.tmod (i + 1) (l.length : Int) = (i + 1) % (l.length : Int) := Int.tmod_eq_emod_of_nonneg (by omega)
    have t3 : Int.tdiv i (l.length : Int) = i / (l.length : Int) := Int.tdiv_eq_ediv_of_nonneg hi.1
    have p1 := Int.emod_nonneg i (b := (l.length : Int)) (by omega)
    have p2 := Int.emod_lt_of_pos i (b := (l.length : Int)) (by omega)
    have p3 := Int.emod_nonneg (i + 1) (b := (l.length : Int)) (by omega)
    have p4 := Int.emod_lt_of_pos (i + 1) (b := (l.length : Int)) (by omega)
    have p5 : 0 ≤ i / (l.length : Int) := Int.ediv_nonneg hi.1 (by omega)
    have p6 : i / (l.length : Int) ≤ i := Int.ediv_le_self _ hi.1
    rw [if_neg h0, e1, t1, t2, t3, if_pos p1, if_pos p2, if_pos p3, if_pos p4, if_neg (by omega)]
    have r1 := rd_u8 hl (i % (l.length : Int))
    have r2 := rd_u8 hl ((i + 1) % (l.length : Int))
    generalize rd l (i % (l.length : Int)) = a at r1 ⊢
    generalize rd l ((i + 1) % (l.length : Int)) = b at r2 ⊢
    generalize i / (l.length : Int) = c at p5 p6 ⊢
    rw [wrap64_id (x := a) (by omega) (by omega), wrap64_id (x := b) (by omega) (by omega), wrap64_id (x := c) (by omega) (by omega), wrap64_id (x := a * 31) (by omega) (by omega), wrap64_id (x := a * 31 + b) (by omega) (by omega), wrap64_id (x := a * 31 + b + c) (by omega) (by omega), Int.tmod_eq_emod_of_nonneg (by omega)]
    exact ⟨_, rfl, Int.emod_nonneg _ (by omega), Int.emod_lt_of_pos _ (by omega)⟩

def put (n : Nat) : List Int := if h : 128 ≤ n then ((n % 128 + 128 : Nat) : Int) :: put (n / 128) else [(n : Int)]
termination_by n
decreasing_by omega
theorem put_small {n : Nat} (h : n < 128) : put n = [(n : Int)] := by rw [put]; simp; omega
theorem put_big {n : Nat} (h : 128 ≤ n) : put n = ((n % 128 + 128 : Nat) : Int) :: put (n / 128) := by rw [put]; simp [h]
theorem put_pos (n : Nat) : 1 ≤ (put n).length := by rw [put]; split <;> simp
theorem put_len : ∀ (j n : Nat), n < 128 ^ (j + 1) → (put n).length ≤ j + 1
  | 0, n, h => by rw [put_small (by simpa using h)]; simp
  | j + 1, n, h => by
    by_cases hn : 128 ≤ n
    · rw [put_big hn]
      have := put_len j (n / 128) (by rw [Nat.div_lt_iff_lt_mul (by omega)]; rw [Nat.pow_succ] at h; exact h)
      simp only [List.length_cons]
      omega
    · rw [put_small (by omega)]
      simp
theorem put_len9 {n : Nat} (h : n < 9223372036854775808) : (put n).length ≤ 9 := put_len 8 n (by omega)
theorem put_u8 (n : Nat) : ∀ x ∈ put n, 0 ≤ x ∧ x < 256 := by
  induction n using Nat.strongRecOn with
  | _ n ih =>
    by_cases hn : 128 ≤ n
    · rw [put_big hn]
      intro x hx
      simp only [List.mem_cons] at hx
      rcases hx with rfl | hx
      · omega
      · exact ih (n / 128) (by omega) x hx
    · rw [put_small (by omega)]
      intro x hx
      simp only [List.mem_cons, List.not_mem_nil, or_false] at hx
      omega
theorem or128 (y : Int) (h0 : 0 ≤ y) (h1 : y < 128) : Go.bits .or .u8 y 128 = y + 128 := by
  obtain ⟨a, rfl⟩ := Int.eq_ofNat_of_zero_le h0
  have : a < 128 := by omega
  rw [show (128 : Int) = ((128 : Nat) : Int) from rfl, (bits_nat .u8 8 (by decide) wraps_u8 a 128 (by omega) (by omega)).2]
  have : a ||| 128 = a + 128 := by
    have h := Nat.two_pow_add_eq_or_of_lt (i := 7) (b := a) (by omega) 1
    rw [Nat.or_comm]
    simp at h
    omega
  rw [this]
  rfl
theorem number_go (n : Nat) : ∀ acc : List Int, n < 9223372036854775808 → (acc.length : Int) + 10 ≤ 140737488355328 - (put n).length → Ev (fun k => impl_number.l0 k (n : Int) acc) (acc ++ put n) := by
  induction n using Nat.strongRecOn with
  | _ n ih =>
    intro acc hn hl
    by_cases h : 128 ≤ n
    · have hp := put_big h
      rw [hp] at hl ⊢
      simp only [List.length_cons] at hl
      have e := ih (n / 128) (by omega) (acc ++ [((n % 128 + 128 : Nat) : Int)]) (by omega) (by simp; omega)
      have h1 : wrap64 (Int.tdiv (n : Int) 128) = ((n / 128 : Nat) : Int) := by rw [Int.tdiv_eq_ediv_of_nonneg (by omega), wrap64_id (by omega) (by omega)]; omega
      have h2 : (wrap64 ((Int.tmod (n : Int) 128) + 128)) % 256 = ((n % 128 + 128 : Nat) : Int) := by rw [Int.tmod_eq_emod_of_nonneg (by omega), wrap64_id (by omega) (by omega)]; omega
      rw [← h1, ← h2] at e
      refine Ev.step (fun k => impl_number.l0.eq_2 (n : Int) acc k) (Ev_pos (by omega) (Ev_pos (by omega) (Ev_eq e ?_)))
      rw [h2]
      simp
    · rw [put_small (by omega)] at hl ⊢
      refine Ev.step (fun k => impl_number.l0.eq_2 (n : Int) acc k) (Ev_neg (by omega) (Ev_pos (by omega) (Ev_eq (Ev_some _) ?_)))
      rw [show (n : Int) % 256 = (n : Int) by omega]
theorem number_ev {n : Nat} (hn : n < 9223372036854775808) : Ev (fun k => impl_number.f k (n : Int)) (put n) := by
  have := put_len9 hn
  exact number_go n [] hn (by simp; omega)

theorem rdL_mid (p q : List (List Int)) (x : List Int) : rd_L2 (p ++ x :: q) (p.length : Int) = x := by
  unfold rd_L2
  simp [List.getD]
theorem concat_one (ls : List (List Int)) (hb : (ls.flatten.length : Int) < 140737488355328) (r : List Int) (hc : (ls.length : Int) < 140737488355328) : ∀ (suf pre : List (List Int)) (s : Int), ls = pre ++ suf → s = (pre.flatten.length : Int) →
    Ev (fun k => (slices_Grow_byte_byte.f ([] : List Int) (ls.flatten.length : Int)).bind fun t => slices_Concat_byte_byte.l1 k t ls (ls.length : Int) 0) r → Ev (fun k => slices_Concat_byte_byte.l0 k ls s ls (ls.length : Int) (pre.length : Int)) r := by
  intro suf
  induction suf with
  | nil =>
    intro pre s hs hsum h
    refine Ev.step (fun k => slices_Concat_byte_byte.l0.eq_2 _ _ _ _ _ k) (Ev_neg (by rw [hs]; simp) ?_)
    have : s = (ls.flatten.length : Int) := by rw [hsum, hs]; simp
    rw [this]
    exact h
  | cons x suf ih =>
    intro pre s hs hsum h
    have e := ih (pre ++ [x]) (s + (x.length : Int)) (by rw [hs]; simp) (by rw [hsum]; simp) h
    have hln : (ls.length : Int) = pre.length + 1 + suf.length := by rw [hs]; simp; omega
    have hfl : (ls.flatten.length : Int) = pre.flatten.length + x.length + suf.flatten.length := by rw [hs]; simp [List.flatten_append]; omega
    have hr : rd_L2 ls (pre.length : Int) = x := by rw [hs]; exact rdL_mid pre suf x
    have hw := Aside0.mk (show wrap64 (s + (x.length : Int)) = s + (x.length : Int) from wrap64_id (by omega) (by omega))
    have hw1 : wrap64 ((pre.length : Int) + 1) = ((pre ++ [x]).length : Int) := by rw [wrap64_id (by omega) (by omega)]; simp
    rw [← hw1] at e
    refine Ev.step (fun k => slices_Concat_byte_byte.l0.eq_2 _ _ _ _ _ k) (Ev_pos (by omega) (Ev_pos (by omega) (Ev_pos (by omega) ?_)))
    rw [hr, hw.out]
    exact Ev_neg (by omega) e
theorem concat_two (ls : List (List Int)) (hb : (ls.flatten.length : Int) < 140737488355328) (hc : (ls.length : Int) < 140737488355328) : ∀ (suf pre : List (List Int)), ls = pre ++ suf →
    Ev (fun k => slices_Concat_byte_byte.l1 k pre.flatten ls (ls.length : Int) (pre.length : Int)) ls.flatten := by
  intro suf
  induction suf with
  | nil =>
    intro pre hs
    refine Ev.step (fun k => slices_Concat_byte_byte.l1.eq_2 _ _ _ _ k) (Ev_neg (by rw [hs]; simp) (Ev_eq (Ev_some _) (by rw [hs]; simp)))
  | cons x suf ih =>
    intro pre hs
    have e := ih (pre ++ [x]) (by rw [hs]; simp)
    have hln : (ls.length : Int) = pre.length + 1 + suf.length := by rw [hs]; simp; omega
    have hfl : (ls.flatten.length : Int) = pre.flatten.length + x.length + suf.flatten.length := by rw [hs]; simp [List.flatten_append]; omega
    have hr : rd_L2 ls (pre.length : Int) = x := by rw [hs]; exact rdL_mid pre suf x
    have hw1 : wrap64 ((pre.length : Int) + 1) = ((pre ++ [x]).length : Int) := by rw [wrap64_id (by omega) (by omega)]; simp
    rw [← hw1, List.flatten_append, List.flatten_cons, List.flatten_nil, List.append_nil] at e
    refine Ev.step (fun k => slices_Concat_byte_byte.l1.eq_2 _ _ _ _ k) (Ev_pos (by omega) (Ev_pos (by omega) (Ev_pos (by omega) ?_)))
    rw [hr]
    exact Ev_pos (by omega) e
theorem concat_ev (ls : List (List Int)) (hb : (ls.flatten.length : Int) < 140737488355328) (hc : (ls.length : Int) < 140737488355328) : Ev (fun k => slices_Concat_byte_byte.f k ls) ls.flatten := by
  refine concat_one ls hb _ hc ls [] 0 rfl rfl (Ev_bindc (a := []) ?_ (concat_two ls hb hc ls [] rfl))
  unfold slices_Grow_byte_byte.f
  rw [if_pos ⟨by omega, hb⟩]

theorem bits_xor_nat (k : IntKind) (j : Nat) (hj : j ≤ k.bits) (hk : ∀ n : Int, 0 ≤ n → n < 2 ^ j → k.wrap n = n) (a b : Nat) (ha : a < 2 ^ j) (hb : b < 2 ^ j) : Go.bits .xor k (a : Int) (b : Int) = ((a ^^^ b : Nat) : Int) := by
  have hp : 2 ^ j ≤ 2 ^ k.bits := Nat.pow_le_pow_right (by decide) hj
  have ha' : a % 2 ^ k.bits = a := Nat.mod_eq_of_lt (Nat.lt_of_lt_of_le ha hp)
  have hb' : b % 2 ^ k.bits = b := Nat.mod_eq_of_lt (Nat.lt_of_lt_of_le hb hp)
  have cast : ∀ n : Nat, n < 2 ^ j → ((n : Nat) : Int) < 2 ^ j := fun n h => by exact_mod_cast h
  simp only [Go.bits, BitVec.ofInt_natCast, BitVec.toNat_xor, BitVec.toNat_ofNat, ha', hb']
  exact hk _ (Int.natCast_nonneg _) (cast _ (Nat.xor_lt_two_pow ha hb))
theorem wraps_u32 (n : Int) (h₀ : 0 ≤ n) (h₁ : n < 2 ^ 32) : IntKind.u32.wrap n = n := by rw [IntKind.wrap_u32]; omega
theorem wraps_i64b (n : Int) (h₀ : 0 ≤ n) (h₁ : n < 2 ^ 63) : IntKind.i64.wrap n = n := by rw [IntKind.wrap_i64]; omega
theorem xor_u32 (a b : Nat) (ha : a < 4294967296) (hb : b < 4294967296) : Go.bits .xor .u32 (a : Int) (b : Int) = ((a ^^^ b : Nat) : Int) := bits_xor_nat .u32 32 (by decide) wraps_u32 a b ha hb
theorem xor_i64 (a b : Nat) (ha : a < 4294967296) (hb : b < 4294967296) : Go.bits .xor .i64 (a : Int) (b : Int) = ((a ^^^ b : Nat) : Int) := bits_xor_nat .i64 63 (by decide) wraps_i64b a b (by omega) (by omega)
theorem and1_u32 (a : Nat) (ha : a < 4294967296) : Go.bits .and .u32 (a : Int) 1 = (a : Int) % 2 := by
  have e := bits_mask .u32 32 (by decide) wraps_u32 1 (by decide) (a : Int) (by omega) (by omega)
  simpa using e
/-- One bit of the sum shifted out. -/
def crcBit (c : Nat) : Nat := if c % 2 = 1 then (c / 2) ^^^ 3988292384 else c / 2
def crcBits : Nat → Nat → Nat
  | 0, c => c
  | n + 1, c => crcBits n (crcBit c)
def crcL : List Int → Nat → Nat
  | [], c => c
  | x :: l, c => crcL l (crcBits 8 (c ^^^ x.toNat))
/-- The check sum of bytes. -/
def crcOf (l : List Int) : Nat := crcL l 4294967295 ^^^ 4294967295
theorem xor_lt32 {a b : Nat} (ha : a < 4294967296) (hb : b < 4294967296) : a ^^^ b < 4294967296 := Nat.xor_lt_two_pow (n := 32) ha hb
theorem crcBit_lt {c : Nat} (h : c < 4294967296) : crcBit c < 4294967296 := by
  unfold crcBit
  split
  · exact xor_lt32 (by omega) (by omega)
  · omega
theorem crcBits_lt : ∀ (n : Nat) {c : Nat}, c < 4294967296 → crcBits n c < 4294967296
  | 0, _, h => h
  | n + 1, _, h => crcBits_lt n (crcBit_lt h)
theorem crcL_lt : ∀ (l : List Int) {c : Nat}, (∀ x ∈ l, 0 ≤ x ∧ x < 256) → c < 4294967296 → crcL l c < 4294967296
  | [], _, _, h => h
  | x :: l, _, hl, h => crcL_lt l (fun y hy => hl y (by simp [hy])) (crcBits_lt 8 (xor_lt32 h (by have := hl x (by simp); omega)))
theorem crcOf_lt (l : List Int) (hl : ∀ x ∈ l, 0 ≤ x ∧ x < 256) : crcOf l < 4294967296 := xor_lt32 (crcL_lt l hl (by omega)) (by omega)
theorem rd_midc (p q : List Int) (x : Int) : rd (p ++ x :: q) (p.length : Int) = x := by
  unfold rd
  simp [List.getD]
theorem impl_crc_bits (l : List Int) (r n : Int) (i : Int) (d : Nat) : ∀ (j : Int) (c : Nat), 0 ≤ j → 8 - j = d → c < 4294967296 → Ev (fun k => impl_crc.l0 k (crcBits d c : Nat) l n (wrap64 (i + 1))) r → Ev (fun k => impl_crc.l1 k (c : Int) l n i j) r := by
  induction d with
  | zero =>
    intro j c h0 hd hc e
    exact Ev.step (fun k => impl_crc.l1.eq_2 _ _ _ _ _ k) (Ev_neg (by omega) e)
  | succ d ih =>
    intro j c h0 hd hc e
    have e2 := ih (j + 1) (crcBit c) (by omega) (by omega) (crcBit_lt hc) e
    have hj := Aside0.mk (show wrap64 (j + 1) = j + 1 from wrap64_id (by omega) (by omega))
    have hq : (c : Int) / 2 = ((c / 2 : Nat) : Int) := by omega
    refine Ev.step (fun k => impl_crc.l1.eq_2 _ _ _ _ _ k) (Ev_pos (by omega) ?_)
    rw [and1_u32 c hc, hq, hj.out]
    unfold crcBit at e2
    by_cases h : c % 2 = 1
    · rw [if_pos h] at e2
      rw [show (3988292384 : Int) = ((3988292384 : Nat) : Int) from rfl, xor_u32 _ _ (by omega) (by omega)]
      exact Ev_pos (by omega) e2
    · rw [if_neg h] at e2
      exact Ev_neg (by omega) e2
theorem impl_crc_go (l : List Int) (hl : ∀ x ∈ l, 0 ≤ x ∧ x < 256) (hlen : (l.length : Int) ≤ 281474976710656) : ∀ (suf pre : List Int) (c : Nat), l = pre ++ suf → c < 4294967296 → Ev (fun k => impl_crc.l0 k (c : Int) l (l.length : Int) (pre.length : Int)) ((crcL suf c ^^^ 4294967295 : Nat) : Int) := by
  intro suf
  induction suf with
  | nil =>
    intro pre c hs hc
    refine Ev.step (fun k => impl_crc.l0.eq_2 _ _ _ _ k) (Ev_neg (by rw [hs]; simp) (Ev_eq (Ev_some _) ?_))
    rw [show (4294967295 : Int) = ((4294967295 : Nat) : Int) from rfl, xor_u32 _ _ (by omega) hc, Nat.xor_comm]
    rfl
  | cons x suf ih =>
    intro pre c hs hc
    have hx := hl x (by rw [hs]; simp)
    have hln : (l.length : Int) = pre.length + 1 + suf.length := by rw [hs]; simp; omega
    have hr : rd l (pre.length : Int) = x := by rw [hs]; exact rd_midc pre suf x
    obtain ⟨b, rfl⟩ := Int.eq_ofNat_of_zero_le hx.1
    have hcb : c ^^^ b < 4294967296 := xor_lt32 hc (by omega)
    have e := ih (pre ++ [(b : Int)]) (crcBits 8 (c ^^^ b)) (by rw [hs]; simp) (crcBits_lt 8 hcb)
    have hw : wrap64 ((pre.length : Int) + 1) = ((pre ++ [(b : Int)]).length : Int) := by rw [wrap64_id (by omega) (by omega)]; simp
    rw [← hw] at e
    refine Ev.step (fun k => impl_crc.l0.eq_2 _ _ _ _ k) (Ev_pos (by omega) (Ev_pos (by omega) (Ev_pos (by omega) ?_)))
    rw [hr, show (b : Int) % 4294967296 = (b : Int) by omega, xor_u32 _ _ hc (by omega)]
    exact impl_crc_bits l _ _ _ 8 0 _ (by omega) (by omega) hcb e
theorem crc_ev (l : List Int) (hl : ∀ x ∈ l, 0 ≤ x ∧ x < 256) (hlen : (l.length : Int) ≤ 281474976710656) : Ev (fun k => impl_crc.f k l) (crcOf l : Int) :=
  impl_crc_go l hl hlen l [] 4294967295 rfl (by omega)

/-- Four bytes of a number, the lowest first. -/
def fourOf (n : Nat) : List Int := [((n % 256 : Nat) : Int), ((n / 256 % 256 : Nat) : Int), ((n / 65536 % 256 : Nat) : Int), ((n / 16777216 % 256 : Nat) : Int)]
theorem fourOf_len (n : Nat) : (fourOf n).length = 4 := rfl
theorem fourOf_u8 (n : Nat) : ∀ x ∈ fourOf n, 0 ≤ x ∧ x < 256 := by
  intro x hx
  simp only [fourOf, List.mem_cons, List.not_mem_nil, or_false] at hx
  rcases hx with rfl | rfl | rfl | rfl <;> omega
def frameOf (p : List Int) : List Int := put p.length ++ p ++ fourOf (crcOf p)
theorem sumBytes_ev (l : List Int) (hl : ∀ x ∈ l, 0 ≤ x ∧ x < 256) (hlen : (l.length : Int) ≤ 281474976710656) : Ev (fun k => impl_sumBytes.f k l) (fourOf (crcOf l)) := by
  refine Ev.bind (crc_ev l hl hlen) (Ev_eq (Ev_some _) ?_)
  unfold fourOf
  rw [show (crcOf l : Int) % 256 = ((crcOf l % 256 : Nat) : Int) by omega, show (crcOf l : Int) / 256 % 256 = ((crcOf l / 256 % 256 : Nat) : Int) by omega, show (crcOf l : Int) / 65536 % 256 = ((crcOf l / 65536 % 256 : Nat) : Int) by omega, show (crcOf l : Int) / 16777216 % 256 = ((crcOf l / 16777216 % 256 : Nat) : Int) by omega]
theorem frame_ev (l : List Int) (hl : ∀ x ∈ l, 0 ≤ x ∧ x < 256) (hlen : (l.length : Int) ≤ 1099511627776) : Ev (fun k => impl_frame.f k l) (frameOf l) := by
  have hp := put_len9 (n := l.length) (by omega)
  have hf := fourOf_len (crcOf l)
  refine Ev.bind (number_ev (by omega)) (Ev.bind (sumBytes_ev l hl (by omega)) (Ev.bind (concat_ev _ ?_ (by simp)) (Ev_eq (Ev_some _) ?_)))
  · simp only [List.flatten_cons, List.flatten_nil, List.append_nil, List.length_append]
    omega
  · simp [frameOf]
theorem frameOf_len (l : List Int) : (frameOf l).length = (put l.length).length + l.length + 4 := by
  simp [frameOf, fourOf_len]; omega

/-- A number's bytes read, i bytes of it read already (n), fuel bytes still let in: the number and how many bytes it has, 0 where there is none, -1 where the bytes end in it. -/
def rdn : Nat → Nat → Int → List Int → Int × Int
  | 0, _, _, _ => (0, 0)
  | _ + 1, _, _, [] => (0, -1)
  | f + 1, i, n, c :: l => if c < 128 then (if 0 < i ∧ c = 0 then (0, 0) else (n + c * 128 ^ i, (i : Int) + 1)) else rdn f (i + 1) (n + (c - 128) * 128 ^ i) l
theorem rdn_range : ∀ (f i : Nat) (n : Int) (l : List Int), (rdn f i n l).2 = 0 ∨ (rdn f i n l).2 = -1 ∨ (1 ≤ (rdn f i n l).2 ∧ (rdn f i n l).2 ≤ i + l.length ∧ (rdn f i n l).2 ≤ i + f)
  | 0, _, _, _ => by simp [rdn]
  | _ + 1, _, _, [] => by simp [rdn]
  | f + 1, i, n, c :: l => by
    simp only [rdn, List.length_cons]
    split
    · split
      · simp
      · simp; omega
    · have := rdn_range f (i + 1) (n + (c - 128) * 128 ^ i) l
      omega
theorem rdn_lo : ∀ (f i : Nat) (n : Int) (l : List Int), (rdn f i n l).2 ≤ 0 → (rdn f i n l).1 = 0
  | 0, _, _, _ => by simp [rdn]
  | _ + 1, _, _, [] => by simp [rdn]
  | f + 1, i, n, c :: l => by
    simp only [rdn]
    split
    · split
      · simp
      · simp; omega
    · exact rdn_lo f (i + 1) _ l
theorem rdn_nonneg : ∀ (f i : Nat) (n : Int) (l : List Int), 0 ≤ n → (∀ x ∈ l, 0 ≤ x ∧ x < 256) → 0 ≤ (rdn f i n l).1
  | 0, _, _, _ => by simp [rdn]
  | _ + 1, _, _, [] => by simp [rdn]
  | f + 1, i, n, c :: l => by
    intro hn hl
    have hc := hl c (by simp)
    have hp : (0 : Int) ≤ 128 ^ i := Int.pow_nonneg (by decide)
    simp only [rdn]
    split
    · split
      · simp
      · have := Int.mul_nonneg hc.1 hp
        simp only
        omega
    · have := Int.mul_nonneg (show 0 ≤ c - 128 by omega) hp
      exact rdn_nonneg f (i + 1) _ l (by omega) (fun x hx => hl x (by simp [hx]))
/-- The number that is read fits 63 bits. -/
theorem rdn_lt : ∀ (f i : Nat) (n : Int) (l : List Int), 0 ≤ n → n < 128 ^ i → (∀ x ∈ l, 0 ≤ x ∧ x < 256) → (rdn f i n l).1 < 128 ^ (i + f)
  | 0, i, n, l, h0, h1, _ => by
    simp only [rdn]
    exact Int.pow_pos (by decide)
  | f + 1, i, n, [], h0, h1, _ => by
    simp only [rdn]
    exact Int.pow_pos (by decide)
  | f + 1, i, n, c :: l, h0, h1, hl => by
    have hc := hl c (by simp)
    have hp : (0 : Int) < 128 ^ i := Int.pow_pos (by decide)
    have hq : (128 : Int) ^ (i + 1) ≤ 128 ^ (i + (f + 1)) := by
      rw [show i + (f + 1) = (i + 1) + f by omega, Int.pow_add (128 : Int) (i + 1) f]
      have : (1 : Int) ≤ 128 ^ f := Int.pow_pos (by decide)
      have hr : (0 : Int) ≤ 128 ^ (i + 1) := Int.pow_nonneg (by decide)
      have := Int.mul_le_mul_of_nonneg_left this hr
      rwa [Int.mul_one] at this
    have hs : (128 : Int) ^ (i + 1) = 128 * 128 ^ i := by rw [Int.pow_succ]; omega
    simp only [rdn]
    split
    · split
      · exact Int.lt_of_lt_of_le (by omega) hq
      · have : c * 128 ^ i ≤ 127 * 128 ^ i := Int.mul_le_mul_of_nonneg_right (by omega) (by omega)
        simp only
        omega
    · have h2 : (c - 128) * 128 ^ i ≤ 127 * 128 ^ i := Int.mul_le_mul_of_nonneg_right (by omega) (by omega)
      have h3 := Int.mul_nonneg (show 0 ≤ c - 128 by omega) (show (0 : Int) ≤ 128 ^ i by omega)
      have := rdn_lt f (i + 1) (n + (c - 128) * 128 ^ i) l (by omega) (by omega) (fun x hx => hl x (by simp [hx]))
      rw [show i + (f + 1) = i + 1 + f by omega]
      exact this
theorem pow128 (i : Nat) : (128 : Int) ^ i = 2 ^ (7 * i) := by rw [Int.pow_mul]; rfl
theorem wraps_i64 (n : Int) (h₀ : 0 ≤ n) (h₁ : n < 2 ^ 63) : IntKind.i64.wrap n = n := by rw [IntKind.wrap_i64]; omega
theorem or_join (n c : Int) (i : Nat) (hi : i ≤ 8) (h0 : 0 ≤ n) (h1 : n < 128 ^ i) (hc0 : 0 ≤ c) (hc1 : c < 128) : Go.bits .or .i64 n (shl .i64 (wrap64 c) (wrap64 (7 * (i : Int)))) = n + c * 128 ^ i := by
  rw [wrap64_id (x := c) (by omega) (by omega), wrap64_id (x := 7 * (i : Int)) (by omega) (by omega)]
  have hm : min (7 * (i : Int)).toNat IntKind.i64.bits = 7 * i := by
    have : IntKind.i64.bits = 64 := rfl
    omega
  have hp : (128 : Int) ^ i ≤ 72057594037927936 := by
    have : (128 : Int) ^ i ≤ 128 ^ 8 := by exact_mod_cast Nat.pow_le_pow_right (by decide : 0 < 128) hi
    omega
  have hp0 : (0 : Int) < 128 ^ i := Int.pow_pos (by decide)
  have hc2 : c * 128 ^ i ≤ 127 * 128 ^ i := Int.mul_le_mul_of_nonneg_right (by omega) (by omega)
  have hc3 := Int.mul_nonneg hc0 (Int.le_of_lt hp0)
  unfold shl
  rw [hm, ← pow128, wraps_i64 _ hc3 (by omega)]
  obtain ⟨a, rfl⟩ := Int.eq_ofNat_of_zero_le h0
  obtain ⟨b, rfl⟩ := Int.eq_ofNat_of_zero_le hc0
  have ha : a < 2 ^ (7 * i) := by rw [pow128] at h1; exact_mod_cast h1
  have hb : (b : Int) * 128 ^ i = ((2 ^ (7 * i) * b : Nat) : Int) := by rw [pow128]; push_cast; rw [Int.mul_comm]
  rw [hb] at hc2 ⊢
  have h8 : (2 : Nat) ^ (7 * i) ≤ 72057594037927936 := by
    have : (2 : Nat) ^ (7 * i) ≤ 2 ^ 56 := Nat.pow_le_pow_right (by decide) (by omega)
    omega
  have e := (bits_nat .i64 63 (by decide) wraps_i64 a (2 ^ (7 * i) * b) (by omega) (by omega)).2
  rw [e, Nat.or_comm, ← Nat.two_pow_add_eq_or_of_lt ha b]
  push_cast
  omega
theorem and127 (c : Int) (h0 : 0 ≤ c) (h1 : c < 256) : Go.bits .and .u8 c 127 = c % 128 := bits_mask .u8 8 (by decide) wraps_u8 7 (by decide) c h0 h1
theorem readNumber_go (l : List Int) (hl : ∀ x ∈ l, 0 ≤ x ∧ x < 256) : ∀ (f i : Nat) (n : Int) (pre suf : List Int), i + f = 9 → l = pre ++ suf → pre.length = i → 0 ≤ n → n < 128 ^ i → Ev (fun k => impl_readNumber.l0 k l n (i : Int)) (rdn f i n suf) := by
  intro f
  induction f with
  | zero =>
    intro i n pre suf hf hs hp h0 h1
    exact Ev.step (fun k => impl_readNumber.l0.eq_2 _ _ _ k) (Ev_neg (by omega) (Ev_some _))
  | succ f ih =>
    intro i n pre suf hf hs hp h0 h1
    cases suf with
    | nil =>
      refine Ev.step (fun k => impl_readNumber.l0.eq_2 _ _ _ k) (Ev_pos (by omega) (Ev_pos (by rw [hs]; simp [hp]) (Ev_some _)))
    | cons c suf =>
      have hc := hl c (by rw [hs]; simp)
      have hlen : (l.length : Int) = (i : Int) + 1 + suf.length := by rw [hs]; simp [hp]; omega
      have hr : rd l (i : Int) = c := by
        rw [hs]; unfold rd; simp [List.getD, ← hp]
      have h7 := Aside0.mk (show wrap64 (7 * (i : Int)) = 7 * (i : Int) from wrap64_id (by omega) (by omega))
      have hi1 := Aside0.mk (show wrap64 ((i : Int) + 1) = ((i + 1 : Nat) : Int) by rw [wrap64_id (by omega) (by omega)]; rfl)
      refine Ev.step (fun k => impl_readNumber.l0.eq_2 _ _ _ k) (Ev_pos (by omega) (Ev_neg (by omega) (Ev_pos (by omega) (Ev_pos (by omega) (Ev_pos (by rw [h7.out]; omega) ?_)))))
      rw [hr, and127 c hc.1 hc.2]
      by_cases h128 : c < 128
      · have hj := Aside0.mk (or_join n (c % 128) i (by omega) h0 h1 (by omega) (by omega))
        rw [hj.out, hi1.out, show c % 128 = c by omega]
        refine Ev_pos h128 ?_
        simp only [rdn, if_pos h128]
        by_cases hz : (i : Int) > 0
        · refine Ev_pos hz ?_
          by_cases hc0 : c = 0
          · exact Ev_pos hc0 (Ev_eq (Ev_some _) (by rw [if_pos ⟨by omega, hc0⟩]))
          · exact Ev_neg hc0 (Ev_eq (Ev_some _) (by rw [if_neg (by omega)]; rfl))
        · exact Ev_neg hz (Ev_eq (Ev_some _) (by rw [if_neg (by omega)]; rfl))
      · have hj := Aside0.mk (or_join n (c % 128) i (by omega) h0 h1 (by omega) (by omega))
        rw [hj.out, hi1.out, show c % 128 = c - 128 by omega]
        refine Ev_neg h128 ?_
        simp only [rdn, if_neg h128]
        have hp0 : (0 : Int) < 128 ^ i := Int.pow_pos (by decide)
        have h2 : (c - 128) * 128 ^ i ≤ 127 * 128 ^ i := Int.mul_le_mul_of_nonneg_right (by omega) (by omega)
        have h3 := Int.mul_nonneg (show 0 ≤ c - 128 by omega) (show (0 : Int) ≤ 128 ^ i by omega)
        have hs2 : (128 : Int) ^ (i + 1) = 128 * 128 ^ i := by rw [Int.pow_succ]; omega
        exact ih (i + 1) _ (pre ++ [c]) suf (by omega) (by rw [hs]; simp) (by simp [hp]) (by omega) (by omega)
theorem readNumber_ev (l : List Int) (hl : ∀ x ∈ l, 0 ≤ x ∧ x < 256) : Ev (fun k => impl_readNumber.f k l) (rdn 9 0 0 l) :=
  readNumber_go l hl 9 0 0 [] l rfl rfl rfl (by omega) (by decide)

theorem rdn_put : ∀ (f i n : Nat) (acc : Int) (l : List Int), n < 128 ^ f → (0 < i → 0 < n) → 0 < f → rdn f i acc (put n ++ l) = (acc + (n : Int) * 128 ^ i, (i : Int) + (put n).length)
  | 0, i, n, acc, l, hn, hz, hf => by omega
  | f + 1, i, n, acc, l, hn, hz, hf => by
    by_cases h : 128 ≤ n
    · rw [put_big h]
      simp only [List.cons_append, rdn, List.length_cons]
      rw [if_neg (by omega), rdn_put f (i + 1) (n / 128) _ l (by rw [Nat.div_lt_iff_lt_mul (by omega)]; rw [Nat.pow_succ] at hn; exact hn) (fun _ => by omega) (by rcases f with _ | f <;> simp at hn ⊢; omega)]
      have e : (n : Int) = ((n / 128 : Nat) : Int) * 128 + ((n % 128 : Nat) : Int) := by omega
      have e2 : (((n % 128 + 128 : Nat) : Int) - 128) = ((n % 128 : Nat) : Int) := by omega
      rw [e2, Int.pow_succ]
      refine Prod.ext ?_ ?_
      · show acc + ((n % 128 : Nat) : Int) * 128 ^ i + ((n / 128 : Nat) : Int) * (128 ^ i * 128) = acc + (n : Int) * 128 ^ i
        conv => rhs; rw [e]
        rw [Int.add_mul, Int.mul_assoc, Int.mul_comm 128 (128 ^ i)]
        omega
      · show ((i + 1 : Nat) : Int) + ((put (n / 128)).length : Int) = (i : Int) + (((put (n / 128)).length + 1 : Nat) : Int)
        omega
    · rw [put_small (by omega)]
      simp only [List.cons_append, List.nil_append, rdn]
      rw [if_pos (by omega), if_neg (by omega)]
      rfl
theorem rdn_short : ∀ (f i n j : Nat) (acc : Int), n < 128 ^ f → j < (put n).length → j < f → rdn f i acc ((put n).take j) = (0, -1)
  | 0, i, n, j, acc, hn, hj, hf => by omega
  | f + 1, i, n, j, acc, hn, hj, hf => by
    cases j with
    | zero => simp [rdn]
    | succ j =>
      by_cases h : 128 ≤ n
      · rw [put_big h] at hj ⊢
        simp only [List.take_succ_cons, rdn, List.length_cons] at hj ⊢
        rw [if_neg (by omega)]
        exact rdn_short f (i + 1) (n / 128) j _ (by rw [Nat.div_lt_iff_lt_mul (by omega)]; rw [Nat.pow_succ] at hn; exact hn) (by omega) (by omega)
      · rw [put_small (by omega)] at hj
        simp at hj

theorem equal_go (n : Int) : ∀ (s t pre1 pre2 : List Int), s.length = t.length → pre1.length = pre2.length → n = (pre1.length : Int) + s.length → n ≤ 281474976710656 → Ev (fun k => slices_Equal_byte_byte.l0 k (pre1 ++ s) (pre2 ++ t) n (pre1.length : Int)) (decide (s = t)) := by
  intro s
  induction s with
  | nil =>
    intro t pre1 pre2 h1 h2 h3 h4
    have : t = [] := List.eq_nil_of_length_eq_zero (by simpa using h1.symm)
    subst this
    exact Ev.step (fun k => slices_Equal_byte_byte.l0.eq_2 _ _ _ _ k) (Ev_neg (by simp at h3; omega) (Ev_eq (Ev_some _) (by simp)))
  | cons x s ih =>
    intro t pre1 pre2 h1 h2 h3 h4
    cases t with
    | nil => simp at h1
    | cons y t =>
      simp only [List.length_cons] at h1 h3
      have e := ih t (pre1 ++ [x]) (pre2 ++ [y]) (by omega) (by simp [h2]) (by simp; omega) h4
      have hw : wrap64 ((pre1.length : Int) + 1) = ((pre1 ++ [x]).length : Int) := by rw [wrap64_id (by omega) (by omega)]; simp
      rw [← hw, show (pre1 ++ [x]) ++ s = pre1 ++ x :: s by simp, show (pre2 ++ [y]) ++ t = pre2 ++ y :: t by simp] at e
      have r1 : rd (pre1 ++ x :: s) (pre1.length : Int) = x := by unfold rd; simp [List.getD]
      have r2 : rd (pre2 ++ y :: t) (pre1.length : Int) = y := by rw [h2]; unfold rd; simp [List.getD]
      refine Ev.step (fun k => slices_Equal_byte_byte.l0.eq_2 _ _ _ _ k) (Ev_pos (by omega) (Ev_pos (by omega) (Ev_pos (by simp; omega) (Ev_pos (by simp; omega) ?_))))
      rw [r1, r2]
      by_cases hxy : x = y
      · exact Ev_pos hxy (Ev_eq e (by simp [hxy]))
      · exact Ev_neg hxy (Ev_eq (Ev_some _) (by simp [hxy]))
theorem equal_ev (s t : List Int) (hl : (s.length : Int) ≤ 281474976710656) : Ev (fun k => slices_Equal_byte_byte.f k s t) (decide (s = t)) := by
  by_cases h : s.length = t.length
  · exact Ev_pos (by omega) (equal_go _ s t [] [] h rfl (by simp) hl)
  · exact Ev_neg (by omega) (Ev_eq (Ev_some _) (by symm; rw [decide_eq_false_iff_not]; intro e; exact h (by rw [e])))

/-- The frame with which bytes begin: its payload, how many bytes it has (0: it is not whole), a code. -/
def rdFrame (b : List Int) : List Int × Int × Int :=
  if (rdn 9 0 0 b).2 < 0 then ([], 0, 0) else if (rdn 9 0 0 b).2 = 0 then ([], 0, 3) else if (rdn 9 0 0 b).1 > 4096 then ([], 0, 5) else
  if (b.length : Int) < (rdn 9 0 0 b).2 + (rdn 9 0 0 b).1 + 4 then ([], 0, 0) else
  if (b.take ((rdn 9 0 0 b).2 + (rdn 9 0 0 b).1 + 4).toNat).drop ((rdn 9 0 0 b).2 + (rdn 9 0 0 b).1).toNat = fourOf (crcOf ((b.take ((rdn 9 0 0 b).2 + (rdn 9 0 0 b).1).toNat).drop (rdn 9 0 0 b).2.toNat)) then ((b.take ((rdn 9 0 0 b).2 + (rdn 9 0 0 b).1).toNat).drop (rdn 9 0 0 b).2.toNat, (rdn 9 0 0 b).2 + (rdn 9 0 0 b).1 + 4, 0) else ([], 0, 8)
theorem readFrame_ev (b : List Int) (hb : ∀ x ∈ b, 0 ≤ x ∧ x < 256) (hlen : (b.length : Int) < 140737488355328) : Ev (fun k => impl_readFrame.f k b) (rdFrame b) := by
  have e1 := readNumber_ev b hb
  have hr := rdn_range 9 0 0 b
  have hn := rdn_nonneg 9 0 0 b (by omega) hb
  refine Ev.bind e1 ?_
  unfold rdFrame
  generalize rdn 9 0 0 b = r at hr hn ⊢
  obtain ⟨n, s⟩ := r
  simp only at hr hn ⊢
  by_cases h1 : s < 0
  · rw [if_pos h1]; exact Ev_pos h1 (Ev_some _)
  rw [if_neg h1]
  refine Ev_neg h1 ?_
  by_cases h2 : s = 0
  · rw [if_pos h2]; exact Ev_pos h2 (Ev_some _)
  rw [if_neg h2]
  refine Ev_neg h2 ?_
  by_cases h3 : n > 4096
  · rw [if_pos h3]; exact Ev_pos h3 (Ev_some _)
  rw [if_neg h3]
  refine Ev_neg h3 ?_
  have w1 := Aside0.mk (show wrap64 (s + n) = s + n from wrap64_id (by omega) (by omega))
  have w2 := Aside0.mk (show wrap64 (s + n + 4) = s + n + 4 from wrap64_id (by omega) (by omega))
  rw [w1.out, w2.out]
  by_cases h4 : (b.length : Int) < s + n + 4
  · rw [if_pos h4]; exact Ev_pos h4 (Ev_some _)
  rw [if_neg h4]
  refine Ev_neg h4 (Ev_pos (by omega) (Ev_pos (by omega) (Ev_pos (by omega) (Ev_pos (by omega) (Ev_pos (by omega) (Ev_pos (by omega) ?_))))))
  have hp : ∀ x ∈ (b.take (s + n).toNat).drop s.toNat, 0 ≤ x ∧ x < 256 := fun x hx => hb x (List.mem_of_mem_take (List.mem_of_mem_drop hx))
  refine Ev.bind (sumBytes_ev _ hp (by simp; omega)) (Ev.bind (equal_ev _ _ (by simp; omega)) ?_)
  by_cases h5 : (b.take (s + n + 4).toNat).drop (s + n).toNat = fourOf (crcOf ((b.take (s + n).toNat).drop s.toNat))
  · rw [if_pos h5]
    refine Ev_pos (decide_eq_true h5) (Ev_bindc ?_ (Ev_some _))
    unfold slices_Clone_byte_byte.f
    rw [if_pos (by simp; omega)]
  · rw [if_neg h5]
    exact Ev_neg (by simpa using h5) (Ev_some _)

theorem clone_ok (l : List Int) (h : (l.length : Int) ≤ 4194304) : slices_Clone_byte_byte.f l = some l := by
  unfold slices_Clone_byte_byte.f
  rw [if_pos (by omega)]

theorem unless_ev (b : Bool) (c : Int) : impl_unless.f b c = some (if b = true then 0 else c) := by
  unfold impl_unless.f
  cases b <;> simp
theorem longBytes_ev (l : List Int) : impl_longBytes.f l = some (if (l.length : Int) ≤ 65536 then 0 else 2) := by
  unfold impl_longBytes.f
  rw [unless_ev, Option.bind_some]
  by_cases h : (l.length : Int) ≤ 65536 <;> simp [h]
theorem first2_ev (a b : Int) : Ev (fun k => impl_first.f k [a, b]) (if a = 0 then b else a) := by
  have h2 : wrap64 ((0 : Int) + 1) = 1 := wrap64_id (by omega) (by omega)
  have h3 : wrap64 ((1 : Int) + 1) = 2 := wrap64_id (by omega) (by omega)
  have e2 : Ev (fun k => impl_first.l0 k [a, b] 2 2) 0 := Ev.step (fun k => impl_first.l0.eq_2 _ _ _ k) (Ev_neg (by omega) (Ev_some _))
  have e1 : Ev (fun k => impl_first.l0 k [a, b] 2 1) b := by
    refine Ev.step (fun k => impl_first.l0.eq_2 _ _ _ k) (Ev_pos (by omega) (Ev_pos (by omega) (Ev_pos (by simp) ?_)))
    by_cases hb : b = 0
    · subst hb
      refine Ev_pos rfl ?_
      rw [h3]
      exact e2
    · exact Ev_neg hb (Ev_some _)
  refine Ev.step (g := fun k => impl_first.l0 k [a, b] 2 0) (fun k => impl_first.l0.eq_2 _ _ _ k) (Ev_pos (by omega) (Ev_pos (by omega) (Ev_pos (by simp) ?_)))
  by_cases ha : a = 0
  · subst ha
    refine Ev_pos rfl ?_
    rw [h2]
    simpa using e1
  · rw [if_neg ha]
    exact Ev_neg ha (Ev_some _)
/-- What Frame answers. -/
def frameAns (l : List Int) : List Int × Int := if (l.length : Int) > 65536 then ([], 2) else if (l.length : Int) > 4096 then ([], 5) else (frameOf l, 0)
theorem Frame_ev (l : List Int) (hl : ∀ x ∈ l, 0 ≤ x ∧ x < 256) : Ev (fun k => impl_Frame.f k l) (frameAns l) := by
  refine Ev_bindc (longBytes_ev l) (Ev_bindc (unless_ev _ _) (Ev.bind (first2_ev _ _) ?_))
  unfold frameAns
  by_cases h1 : (l.length : Int) > 65536
  · rw [if_pos h1, show (if (if (l.length : Int) ≤ 65536 then (0 : Int) else 2) = 0 then (if decide ((l.length : Int) ≤ 4096) = true then (0 : Int) else 5) else if (l.length : Int) ≤ 65536 then 0 else 2) = 2 by rw [if_neg (show ¬ (l.length : Int) ≤ 65536 by omega)]; rfl]
    exact Ev_neg (by decide) (Ev_some _)
  · rw [if_neg h1]
    by_cases h2 : (l.length : Int) > 4096
    · rw [if_pos h2, show (if (if (l.length : Int) ≤ 65536 then (0 : Int) else 2) = 0 then (if decide ((l.length : Int) ≤ 4096) = true then (0 : Int) else 5) else if (l.length : Int) ≤ 65536 then 0 else 2) = 5 by rw [if_pos (show (l.length : Int) ≤ 65536 by omega), if_pos rfl, if_neg (by simp; omega)]]
      exact Ev_neg (by decide) (Ev_some _)
    · rw [if_neg h2, show (if (if (l.length : Int) ≤ 65536 then (0 : Int) else 2) = 0 then (if decide ((l.length : Int) ≤ 4096) = true then (0 : Int) else 5) else if (l.length : Int) ≤ 65536 then 0 else 2) = 0 by rw [if_pos (show (l.length : Int) ≤ 65536 by omega), if_pos rfl, if_pos (by simp; omega)]]
      exact Ev_pos rfl (Ev.bind (frame_ev l hl (by omega)) (Ev_some _))
theorem frameAns_len (l : List Int) : (frameAns l).1.length ≤ 5000 := by
  unfold frameAns
  split
  · simp
  · split
    · simp
    · have := put_len9 (n := l.length) (by omega)
      rw [frameOf_len]
      omega

theorem byte_ok (l : List Int) (hu : ∀ x ∈ l, 0 ≤ x ∧ x < 256) (s1 s2 : Int) (h0 : 0 ≤ s1) (h1 : s1 < 1000000) (h2 : 0 ≤ s2) (h3 : s2 < 2147483648) : ∃ v t, spec_l00Src_byte.f l s1 s2 = some (v, s1 + 1, t) ∧ 0 ≤ v ∧ v < 256 ∧ 0 ≤ t ∧ t < 2147483648 := by
  unfold spec_l00Src_byte.f
  rw [if_pos (by omega)]
  have hr := rd_u8 hu s1
  by_cases c : s1 + 1 ≤ (l.length : Int)
  · rw [if_pos c, if_pos hr]
    exact ⟨_, _, rfl, hr.1, hr.2, Int.emod_nonneg _ (by omega), Int.emod_lt_of_pos _ (by omega)⟩
  · rw [if_neg c]
    by_cases d : s1 + 1 > 3000
    · rw [if_pos d]
      exact ⟨_, _, rfl, by omega, by omega, h2, h3⟩
    · rw [if_neg d]
      exact ⟨_, _, rfl, Int.emod_nonneg _ (by omega), Int.emod_lt_of_pos _ (by omega), Int.emod_nonneg _ (by omega), Int.emod_lt_of_pos _ (by omega)⟩
theorem next_ok (l : List Int) (hu : ∀ x ∈ l, 0 ≤ x ∧ x < 256) (s1 s2 : Int) (h0 : 0 ≤ s1) (h1 : s1 < 1000000) (h2 : 0 ≤ s2) (h3 : s2 < 2147483648) (a : Int) (ha : a ≤ 256) :
    ∃ v p t, spec_l00Src_next.f l s1 s2 a = some (v, p, t) ∧ 0 ≤ v ∧ (v < a ∨ v = 0) ∧ s1 ≤ p ∧ p ≤ s1 + 1 ∧ 0 ≤ t ∧ t < 2147483648 := by
  unfold spec_l00Src_next.f
  by_cases c : a ≤ 1
  · rw [if_pos c]
    exact ⟨0, s1, s2, rfl, by omega, .inr rfl, by omega, by omega, h2, h3⟩
  · rw [if_neg c, if_pos ha]
    obtain ⟨v, t, e, hv, hv2, ht, ht2⟩ := byte_ok l hu s1 s2 h0 h1 h2 h3
    rw [e]
    simp only [Option.bind_some]
    rw [if_neg (by omega), Int.tmod_eq_emod_of_nonneg hv]
    exact ⟨_, _, _, rfl, Int.emod_nonneg _ (by omega), .inl (Int.emod_lt_of_pos _ (by omega)), by omega, by omega, ht, ht2⟩
theorem srcBytes_go (l : List Int) (hu : ∀ x ∈ l, 0 ≤ x ∧ x < 256) : ∀ (n : Nat) (x5 : List Int) (s1 s2 : Int), 0 ≤ s1 → s1 + n < 1000000 → 0 ≤ s2 → s2 < 2147483648 → x5.length + n ≤ 1000000 →
    ∃ o p t, Ev (fun k => spec_l00Src_bytes.l0 k x5 (n : Int) l s1 s2) (o, p, t) ∧ o.length = x5.length + n ∧ s1 ≤ p ∧ p ≤ s1 + n ∧ 0 ≤ t ∧ t < 2147483648 := by
  intro n
  induction n with
  | zero =>
    intro x5 s1 s2 h0 h1 h2 h3 h4
    exact ⟨x5, s1, s2, Ev.step (fun k => spec_l00Src_bytes.l0.eq_2 _ _ _ _ _ k) (Ev_neg (by omega) (Ev_some _)), by omega, by omega, by omega, h2, h3⟩
  | succ n ih =>
    intro x5 s1 s2 h0 h1 h2 h3 h4
    obtain ⟨v, p, t, e, hv, hv2, hp, hp2, ht, ht2⟩ := next_ok l hu s1 s2 h0 (by omega) h2 h3 256 (by omega)
    obtain ⟨o, p', t', e', h5, h6, h7, h8, h9⟩ := ih (x5 ++ [v % 256]) p t (by omega) (by omega) ht ht2 (by simp; omega)
    have hw : wrap64 (((n + 1 : Nat) : Int) - 1) = (n : Int) := by rw [wrap64_id (by omega) (by omega)]; omega
    rw [← hw] at e'
    exact ⟨o, p', t', Ev.step (fun k => spec_l00Src_bytes.l0.eq_2 _ _ _ _ _ k) (Ev_pos (by omega) (Ev_bindc e (Ev_pos (by omega) e'))), by simp at h5; omega, by omega, by omega, h8, h9⟩

theorem rdFrame_frame (p rest : List Int) (hp : (p.length : Int) ≤ 4096) : rdFrame (frameOf p ++ rest) = (p, ((frameOf p).length : Int), 0) := by
  have hn : rdn 9 0 0 (frameOf p ++ rest) = ((p.length : Int), ((put p.length).length : Int)) := by
    have e := rdn_put 9 0 p.length 0 (p ++ fourOf (crcOf p) ++ rest) (by have : (4097 : Nat) ≤ 128 ^ 9 := by decide
                                                                         omega) (by omega) (by omega)
    unfold frameOf
    rw [show put p.length ++ p ++ fourOf (crcOf p) ++ rest = put p.length ++ (p ++ fourOf (crcOf p) ++ rest) by simp only [List.append_assoc]]
    rw [e]
    simp
  have h1 := put_pos p.length
  have h4 := fourOf_len (crcOf p)
  have hl := frameOf_len p
  have t1 : ((frameOf p ++ rest).take (((put p.length).length : Int) + (p.length : Int)).toNat).drop ((put p.length).length : Int).toNat = p := by
    rw [show (((put p.length).length : Int) + (p.length : Int)).toNat = (put p.length ++ p).length by simp; omega]
    unfold frameOf
    rw [show put p.length ++ p ++ fourOf (crcOf p) ++ rest = (put p.length ++ p) ++ (fourOf (crcOf p) ++ rest) by simp only [List.append_assoc], List.take_left, Int.toNat_natCast, List.drop_left]
  have t2 : ((frameOf p ++ rest).take (((put p.length).length : Int) + (p.length : Int) + 4).toNat).drop (((put p.length).length : Int) + (p.length : Int)).toNat = fourOf (crcOf p) := by
    rw [show (((put p.length).length : Int) + (p.length : Int) + 4).toNat = (frameOf p).length by omega, List.take_left, show (((put p.length).length : Int) + (p.length : Int)).toNat = (put p.length ++ p).length by simp; omega]
    unfold frameOf
    rw [List.drop_left]
  unfold rdFrame
  rw [hn]
  simp only
  rw [if_neg (by omega), if_neg (by omega), if_neg (by omega), if_neg (by simp only [List.length_append]; omega), t1, t2, if_pos rfl, hl]
  refine Prod.ext rfl (Prod.ext ?_ rfl)
  show ((put p.length).length : Int) + (p.length : Int) + 4 = (((put p.length).length + p.length + 4 : Nat) : Int)
  omega
theorem rdFrame_short (p : List Int) (hp : (p.length : Int) ≤ 4096) (j : Nat) (hj : j < (frameOf p).length) : rdFrame ((frameOf p).take j) = ([], 0, 0) := by
  have hl := frameOf_len p
  have hlim : p.length < 128 ^ 9 := by have : (4097 : Nat) ≤ 128 ^ 9 := by decide
                                       omega
  have h9 := put_len9 (n := p.length) (by omega)
  by_cases hc : j < (put p.length).length
  · have e : (frameOf p).take j = (put p.length).take j := by
      unfold frameOf
      rw [List.append_assoc, List.take_append_of_le_length (by omega)]
    unfold rdFrame
    rw [e, rdn_short 9 0 p.length j 0 hlim hc (by omega)]
    rfl
  · have e : (frameOf p).take j = put p.length ++ (p ++ fourOf (crcOf p)).take (j - (put p.length).length) := by
      unfold frameOf
      rw [List.append_assoc, List.take_append, List.take_of_length_le (by omega)]
    have hn : rdn 9 0 0 ((frameOf p).take j) = ((p.length : Int), ((put p.length).length : Int)) := by
      rw [e, rdn_put 9 0 p.length 0 _ hlim (by omega) (by omega)]
      simp
    have h1 := put_pos p.length
    unfold rdFrame
    rw [hn]
    simp only
    rw [if_neg (by omega), if_neg (by omega), if_neg (by omega), if_pos (by rw [List.length_take]; omega)]
def flat : List (List Int) → List Int
  | [] => []
  | p :: ps => frameOf p ++ flat ps
theorem flat_append : ∀ (a b : List (List Int)), flat (a ++ b) = flat a ++ flat b
  | [], b => rfl
  | p :: a, b => by simp only [List.cons_append, flat, flat_append a b, List.append_assoc]
def okP (ps : List (List Int)) : Prop := ∀ p ∈ ps, (∀ x ∈ p, 0 ≤ x ∧ x < 256) ∧ p.length ≤ 100
theorem frameOf_u8 (p : List Int) (h : ∀ x ∈ p, 0 ≤ x ∧ x < 256) : ∀ x ∈ frameOf p, 0 ≤ x ∧ x < 256 := by
  intro x hx
  unfold frameOf at hx
  rcases List.mem_append.1 hx with hx | hx
  · rcases List.mem_append.1 hx with hx | hx
    · exact put_u8 _ x hx
    · exact h x hx
  · exact fourOf_u8 _ x hx
theorem flat_u8 : ∀ (ps : List (List Int)), okP ps → ∀ x ∈ flat ps, 0 ≤ x ∧ x < 256
  | [], _ => by simp [flat]
  | p :: ps, h => by
    intro x hx
    simp only [flat] at hx
    rcases List.mem_append.1 hx with hx | hx
    · exact frameOf_u8 p (h p (by simp)).1 x hx
    · exact flat_u8 ps (fun q hq => h q (by simp [hq])) x hx
theorem flat_len : ∀ (ps : List (List Int)), okP ps → (flat ps).length ≤ 120 * ps.length
  | [], _ => by simp [flat]
  | p :: ps, h => by
    have h1 := (h p (by simp)).2
    have h2 := flat_len ps (fun q hq => h q (by simp [hq]))
    have h3 := frameOf_len p
    have h4 := put_len9 (n := p.length) (by omega)
    simp only [flat, List.length_append, List.length_cons]
    omega
/-- A beginning of frames behind each other: some whole frames, then a beginning of the next. -/
theorem flat_prefix : ∀ (ps : List (List Int)), okP ps → ∀ (j : Nat), ∃ (i : Nat) (t : List Int), i ≤ ps.length ∧ (flat ps).take j = flat (ps.take i) ++ t ∧ rdFrame t = ([], 0, 0)
  | [], _, j => ⟨0, [], by simp, by simp [flat], rfl⟩
  | p :: ps, h, j => by
    by_cases hj : j < (frameOf p).length
    · refine ⟨0, (frameOf p).take j, by simp, ?_, rdFrame_short p (by have := (h p (by simp)).2; omega) j hj⟩
      simp only [flat, List.take_zero, List.nil_append]
      rw [List.take_append_of_le_length (by omega)]
    · obtain ⟨i, t, hi, e, ht⟩ := flat_prefix ps (fun q hq => h q (by simp [hq])) (j - (frameOf p).length)
      refine ⟨i + 1, t, by simp; omega, ?_, ht⟩
      simp only [flat, List.take_succ_cons]
      rw [List.take_append, List.take_of_length_le (by omega), e, List.append_assoc]
theorem unframe_go (b : List Int) (hb : ∀ x ∈ b, 0 ≤ x ∧ x < 256) (hlen : (b.length : Int) ≤ 1000000) : ∀ (suf : List (List Int)) (pre t : List Int) (acc : List (List Int)), okP suf → b = pre ++ (flat suf ++ t) → rdFrame t = ([], 0, 0) → acc.length + suf.length ≤ 1000000 →
    Ev (fun k => impl_unframe.l0 k b acc (pre.length : Int)) (acc ++ suf, ((pre.length + (flat suf).length : Nat) : Int), 0) := by
  intro suf
  induction suf with
  | nil =>
    intro pre t acc hs he ht ha
    have hd : b.drop ((pre.length : Int)).toNat = t := by rw [he]; simp [flat]
    refine Ev.step (fun k => impl_unframe.l0.eq_2 _ _ _ k) (Ev_pos (by omega) (Ev_pos (by rw [he]; simp; omega) (Ev.bind (g := fun k => impl_readFrame.f k (b.drop ((pre.length : Int)).toNat)) (a := ([], 0, 0)) ?_ (Ev_pos rfl (Ev_pos rfl (Ev_eq (Ev_some _) (by simp [flat])))))))
    rw [hd, ← ht]
    have hbl : b.length = pre.length + ((flat []).length + t.length) := by rw [he]; simp only [List.length_append]
    exact readFrame_ev t (fun x hx => hb x (by rw [he]; simp [hx])) (by omega)
  | cons p suf ih =>
    intro pre t acc hs he ht ha
    simp only [List.length_cons] at ha
    have hp := hs p (by simp)
    have hd : b.drop ((pre.length : Int)).toNat = frameOf p ++ (flat suf ++ t) := by rw [he]; simp [flat]
    have hl := frameOf_len p
    have h1 := put_pos p.length
    have hbl : b.length = pre.length + ((frameOf p).length + ((flat suf).length + t.length)) := by rw [he]; simp only [flat, List.length_append]; omega
    have e := ih (pre ++ frameOf p) t (acc ++ [p]) (fun q hq => hs q (by simp [hq])) (by rw [he]; simp [flat]) ht (by simp; omega)
    have hw : wrap64 ((pre.length : Int) + ((frameOf p).length : Int)) = ((pre ++ frameOf p).length : Int) := by rw [wrap64_id (by omega) (by omega)]; simp
    rw [← hw] at e
    refine Ev.step (fun k => impl_unframe.l0.eq_2 _ _ _ k) (Ev_pos (by omega) (Ev_pos (by omega) (Ev.bind (g := fun k => impl_readFrame.f k (b.drop ((pre.length : Int)).toNat)) (a := (p, ((frameOf p).length : Int), 0)) ?_ (Ev_pos rfl (Ev_neg (by show ¬ ((frameOf p).length : Int) = 0; omega) (Ev_pos (by omega) (Ev_eq e ?_)))))))
    · rw [hd, ← rdFrame_frame p (flat suf ++ t) (by omega)]
      exact readFrame_ev _ (fun x hx => hb x (by rw [← hd] at hx; exact List.mem_of_mem_drop hx)) (by rw [← hd, List.length_drop]; omega)
    · refine Prod.ext (by simp) (Prod.ext ?_ rfl)
      simp only [flat, List.length_append]
      omega
theorem unframe_ok (ps : List (List Int)) (t : List Int) (hs : okP ps) (hl : ps.length ≤ 100) (hb : ∀ x ∈ flat ps ++ t, 0 ≤ x ∧ x < 256) (ht : rdFrame t = ([], 0, 0)) (hlen : ((flat ps ++ t).length : Int) ≤ 65536) : Ev (fun k => impl_unframe.f k (flat ps ++ t)) (ps, ((flat ps).length : Int), 0) := by
  have e := unframe_go (flat ps ++ t) hb (by omega) ps [] t [] hs (by simp) ht (by simp; omega)
  unfold impl_unframe.f
  simpa using e
theorem Unframe_ok (ps : List (List Int)) (t : List Int) (hs : okP ps) (hl : ps.length ≤ 100) (hb : ∀ x ∈ flat ps ++ t, 0 ≤ x ∧ x < 256) (ht : rdFrame t = ([], 0, 0)) (hlen : ((flat ps ++ t).length : Int) ≤ 65536) : Ev (fun k => impl_Unframe.f k (flat ps ++ t)) (ps, ((flat ps).length : Int), 0) := by
  refine Ev_bindc (longBytes_ev _) (Ev_pos (by rw [if_pos hlen]) (Ev.bind (unframe_ok ps t hs hl hb ht hlen) (Ev_some _)))
theorem frames_go (ps : List (List Int)) (hs : okP ps) (hl : ps.length ≤ 100) : ∀ (suf pre : List (List Int)), ps = pre ++ suf → Ev (fun k => laws_FnFrames.l0 k ps (pre.length : Int) (flat pre)) (flat ps) := by
  intro suf
  induction suf with
  | nil =>
    intro pre he
    exact Ev.step (fun k => laws_FnFrames.l0.eq_2 _ _ _ k) (Ev_neg (by rw [he]; simp) (Ev_eq (Ev_some _) (by rw [he]; simp)))
  | cons p suf ih =>
    intro pre he
    have hp := hs p (by rw [he]; simp)
    have hpl : ps.length = pre.length + (suf.length + 1) := by rw [he]; simp
    have hg : rd_L2 ps (pre.length : Int) = p := by rw [he]; simp [rd_L2, List.getD]
    have e := ih (pre ++ [p]) (by rw [he]; simp)
    have hw : wrap64 ((pre.length : Int) + 1) = ((pre ++ [p]).length : Int) := by rw [wrap64_id (by omega) (by omega)]; simp
    have hf : flat (pre ++ [p]) = flat pre ++ frameOf p := by rw [flat_append]; simp [flat]
    have h1 := flat_len pre (fun q hq => hs q (by rw [he]; simp [hq]))
    have h2 := frameOf_len p
    have h3 := put_len9 (n := p.length) (by omega)
    rw [← hw, hf] at e
    refine Ev.step (fun k => laws_FnFrames.l0.eq_2 _ _ _ k) (Ev_pos (by omega) (Ev_pos (by omega) ?_))
    rw [hg]
    have ef := Frame_ev p hp.1
    have ha : frameAns p = (frameOf p, 0) := by unfold frameAns; rw [if_neg (by omega), if_neg (by omega)]
    rw [ha] at ef
    exact Ev.bind ef (Ev_pos rfl (Ev_pos (by show (flat pre).length + (frameOf p).length < _; omega) e))
theorem feed_step (ch : List (List Int)) (n : Int) (hn : n = (ch.length : Int)) (i : Nat) (c held rest t : List Int) (qs out : List (List Int)) (hi : i < ch.length) (hc : rd_L2 ch (i : Int) = c) (hch : ch.length ≤ 100) (hs : okP qs) (hq : qs.length ≤ 100) (ho : out.length ≤ 1000) (he : held ++ c = flat qs ++ t) (hb : ∀ x ∈ held ++ c, 0 ≤ x ∧ x < 256) (ht : rdFrame t = ([], 0, 0)) (hlen : ((held ++ c).length : Int) ≤ 65536) {r : List (List Int) × List Int × Int}
    (h : Ev (fun k => impl_Feed.l0 k t (out ++ qs) ch n (((i + 1 : Nat)) : Int)) r) : Ev (fun k => impl_Feed.l0 k held out ch n (i : Int)) r := by
  have hle : ((held ++ c).length : Int) = (held.length : Int) + (c.length : Int) := by simp
  have hw : wrap64 ((held.length : Int) + (c.length : Int)) = ((held ++ c).length : Int) := by rw [wrap64_id (by omega) (by omega), hle]
  have hw2 : wrap64 ((i : Int) + 1) = (((i + 1 : Nat)) : Int) := by rw [wrap64_id (by omega) (by omega)]; omega
  have eu := unframe_ok qs t hs hq (by rw [← he]; exact hb) ht (by rw [← he]; exact hlen)
  rw [← he] at eu
  have hl : (held ++ c).length = (flat qs).length + t.length := by rw [he]; simp
  have hd : (held ++ c).drop (((flat qs).length : Int)).toNat = t := by rw [he]; simp
  refine Ev.step (fun k => impl_Feed.l0.eq_2 _ _ _ _ _ k) (Ev_pos (by omega) (Ev_pos (by omega) (Ev_pos (by omega) ?_)))
  rw [hc, hw]
  refine Ev_neg (by omega) (Ev_pos (by omega) (Ev_bindc rfl (Ev.bind eu (Ev_pos rfl (Ev_pos (by show out.length + qs.length < _; omega) (Ev_pos (by show (0 : Int) ≤ ((flat qs).length : Int); omega) (Ev_pos (by show ((flat qs).length : Int) ≤ ((held ++ c).length : Int); omega) (Ev_bindc (a := t) ?_ ?_))))))))
  · show slices_Clone_byte_byte.f ((held ++ c).drop (((flat qs).length : Int)).toNat) = some t
    rw [hd]
    exact clone_ok t (by omega)
  · rw [hw2]
    exact h
theorem srcBytes8_go (l : List Int) (hu : ∀ x ∈ l, 0 ≤ x ∧ x < 256) : ∀ (n : Nat) (x5 : List Int) (s1 s2 : Int), 0 ≤ s1 → s1 + n < 1000000 → 0 ≤ s2 → s2 < 2147483648 → x5.length + n ≤ 1000000 → (∀ x ∈ x5, 0 ≤ x ∧ x < 256) →
    ∃ o p t, Ev (fun k => spec_l00Src_bytes.l0 k x5 (n : Int) l s1 s2) (o, p, t) ∧ o.length = x5.length + n ∧ s1 ≤ p ∧ p ≤ s1 + n ∧ 0 ≤ t ∧ t < 2147483648 ∧ ∀ x ∈ o, 0 ≤ x ∧ x < 256 := by
  intro n
  induction n with
  | zero =>
    intro x5 s1 s2 h0 h1 h2 h3 h4 hx
    exact ⟨x5, s1, s2, Ev.step (fun k => spec_l00Src_bytes.l0.eq_2 _ _ _ _ _ k) (Ev_neg (by omega) (Ev_some _)), by omega, by omega, by omega, h2, h3, hx⟩
  | succ n ih =>
    intro x5 s1 s2 h0 h1 h2 h3 h4 hx
    obtain ⟨v, p, t, e, hv, hv2, hp, hp2, ht, ht2⟩ := next_ok l hu s1 s2 h0 (by omega) h2 h3 256 (by omega)
    obtain ⟨o, p', t', e', h5, h6, h7, h8, h9, h10⟩ := ih (x5 ++ [v % 256]) p t (by omega) (by omega) ht ht2 (by simp; omega) (by
      intro y hy
      rcases List.mem_append.1 hy with hy | hy
      · exact hx y hy
      · rw [List.mem_singleton.1 hy]; omega)
    have hw : wrap64 (((n + 1 : Nat) : Int) - 1) = (n : Int) := by rw [wrap64_id (by omega) (by omega)]; omega
    rw [← hw] at e'
    exact ⟨o, p', t', Ev.step (fun k => spec_l00Src_bytes.l0.eq_2 _ _ _ _ _ k) (Ev_pos (by omega) (Ev_bindc e (Ev_pos (by omega) e'))), by simp at h5; omega, by omega, by omega, h8, h9, h10⟩
theorem payloads_go (l : List Int) (hu : ∀ x ∈ l, 0 ≤ x ∧ x < 256) : ∀ (n : Nat) (x4 : List (List Int)) (s1 s2 : Int), 0 ≤ s1 → s1 + 20 * n < 800000 → 0 ≤ s2 → s2 < 2147483648 → x4.length + n ≤ 100 → okP x4 →
    ∃ o, Ev (fun k => spec_PayloadsOf.l0 k x4 (n : Int) l s1 s2) o ∧ o.length = x4.length + n ∧ okP o := by
  intro n
  induction n with
  | zero =>
    intro x4 s1 s2 h0 h1 h2 h3 h4 h5
    exact ⟨x4, Ev.step (fun k => spec_PayloadsOf.l0.eq_2 _ _ _ _ _ k) (Ev_neg (by omega) (Ev_some _)), by omega, h5⟩
  | succ n ih =>
    intro x4 s1 s2 h0 h1 h2 h3 h4 h5
    obtain ⟨v, p, t, e, hv, hv2, hp, hp2, ht, ht2⟩ := next_ok l hu s1 s2 h0 (by omega) h2 h3 13 (by omega)
    obtain ⟨m, rfl⟩ := Int.eq_ofNat_of_zero_le hv
    obtain ⟨o1, p1, t1, e1, h6, h7, h8, h9, h10, h11⟩ := srcBytes8_go l hu m [] p t (by omega) (by omega) ht ht2 (by simp; omega) (by simp)
    obtain ⟨o, e2, h12, h13⟩ := ih (x4 ++ [o1]) p1 t1 (by omega) (by omega) h9 h10 (by simp; omega) (by
      intro q hq
      rcases List.mem_append.1 hq with hq | hq
      · exact h5 q hq
      · rw [List.mem_singleton.1 hq]; exact ⟨h11, by simp at h6; omega⟩)
    have hw : wrap64 (((n + 1 : Nat) : Int) - 1) = (n : Int) := by rw [wrap64_id (by omega) (by omega)]; omega
    have hw2 : wrap64 (12 + 1) = 13 := by rw [wrap64_id (by omega) (by omega)]; rfl
    rw [← hw] at e2
    have eb : Ev (fun k => spec_l00Src_bytes.f k l s1 s2 12) (o1, p1, t1) := by
      unfold spec_l00Src_bytes.f
      rw [hw2]
      exact Ev_bindc e e1
    exact ⟨o, Ev.step (fun k => spec_PayloadsOf.l0.eq_2 _ _ _ _ _ k) (Ev_pos (by omega) (Ev.bind eb (Ev_pos (by omega) e2))), by simp at h12; omega, h13⟩
theorem payloadsOf_ev (l : List Int) (hu : ∀ x ∈ l, 0 ≤ x ∧ x < 256) (hl : (l.length : Int) ≤ 1048576) : ∃ y, Ev (fun k => spec_PayloadsOf.f k l) y ∧ y.length ≤ 6 ∧ okP y := by
  have hd : wrap64 ((l.length : Int) / 12) = (l.length : Int) / 12 := wrap64_id (by omega) (by omega)
  have hd2 : wrap64 (1 + (l.length : Int) / 12) = 1 + (l.length : Int) / 12 := wrap64_id (by omega) (by omega)
  obtain ⟨m, hm⟩ : ∃ m, m = mn (1 + (l.length : Int) / 12) 6 := ⟨_, rfl⟩
  have hm1 : 1 ≤ m ∧ m ≤ 6 := by rw [hm]; unfold mn; split <;> omega
  have es : ∀ s1 s2, spec_l00Src_size.f l s1 s2 6 = some (m, s1, s2) := fun s1 s2 => by unfold spec_l00Src_size.f; rw [hd, hd2, ← hm]
  have hs : 0 ≤ (l.length : Int) % 1000 ∧ (l.length : Int) % 1000 < 1000 := ⟨Int.emod_nonneg _ (by omega), Int.emod_lt_of_pos _ (by omega)⟩
  have hw : wrap64 (m + 1) = m + 1 := wrap64_id (by omega) (by omega)
  obtain ⟨v, p, t, e, hv, hv2, hp, hp', ht, ht'⟩ := next_ok l hu 0 ((l.length : Int) % 1000) (by omega) (by omega) (by omega) (by omega) (m + 1) (by omega)
  obtain ⟨n, rfl⟩ := Int.eq_ofNat_of_zero_le hv
  obtain ⟨o, e', h6, h7⟩ := payloads_go l hu n [] p t (by omega) (by omega) ht ht' (by simp; omega) (fun q hq => by simp at hq)
  rw [← hw] at e
  exact ⟨o, Ev_bindc (show spec_l00Source.f l = some (l, 0, (l.length : Int) % 1000) from rfl) (Ev_bindc (es _ _) (Ev_bindc e e')), by simp at h6; omega, h7⟩
theorem at_any (l : List Int) (hl : ∀ x ∈ l, 0 ≤ x ∧ x < 256) (hlen : (l.length : Int) ≤ 281474976710656) (i n : Int) (hi : 0 ≤ i ∧ i < 1000) (hn : 1 ≤ n) : ∃ v, laws_at.f l i n = some v ∧ 0 ≤ v ∧ v < n := by
  by_cases h : n ≤ 1
  · exact ⟨0, by unfold laws_at.f; rw [if_pos h], by omega, by omega⟩
  · exact at_ev l hl hlen i n hi (by omega)
theorem sameLists_go (a : List (List Int)) (ha : (a.length : Int) ≤ 281474976710656) (d : Nat) : ∀ i : Int, 0 ≤ i → i ≤ (a.length : Int) → (a.length : Int) - i = d → Ev (fun k => laws_sameLists.l0 k a a i) true := by
  induction d with
  | zero =>
    intro i h0 h1 h2
    exact Ev.step (fun k => laws_sameLists.l0.eq_2 a a i k) (Ev_neg (by omega) (Ev_some _))
  | succ d ih =>
    intro i h0 h1 h2
    have hw : wrap64 (i + 1) = i + 1 := wrap64_id (by omega) (by omega)
    have e := ih (i + 1) (by omega) (by omega) (by omega)
    rw [← hw] at e
    exact Ev.step (fun k => laws_sameLists.l0.eq_2 a a i k) (Ev_pos (by omega) (Ev_pos h0 (Ev_pos (by omega) (Ev_pos rfl e))))
theorem sameLists_self (a : List (List Int)) (ha : (a.length : Int) ≤ 281474976710656) : Ev (fun k => laws_sameLists.f k a a) true := Ev_pos rfl (sameLists_go a ha a.length 0 (by omega) (by omega) (by omega))
theorem FnFrames (l0 l1 : List Int) (hu0 : ∀ x ∈ l0, 0 ≤ x ∧ x < 256) (hu1 : ∀ x ∈ l1, 0 ≤ x ∧ x < 256) (h0 : (l0.length : Int) ≤ 1048576) (h1 : (l1.length : Int) ≤ 1048576) :
    ∃ (k : Nat) (ps pp : List (List Int)) (fr : List Int) (a b0 b n2 : Int), wrap64 (a + b0) = b ∧ 0 ≤ a ∧ a ≤ b ∧ b ≤ (fr.length : Int) ∧ pp.length ≤ ps.length ∧ n2 ≤ a ∧
    spec_PayloadsOf.f k l0 = some ps ∧ laws_FnFrames.l0 k ps 0 [] = some fr ∧ impl_Unframe.f k fr = some (ps, (fr.length : Int), 0) ∧ laws_sameLists.f k ps ps = some true ∧ laws_at.f l1 0 (wrap64 ((fr.length : Int) + 1)) = some a ∧ laws_at.f l1 1 (wrap64 (wrap64 ((fr.length : Int) - a) + 1)) = some b0 ∧
    impl_Feed.f k (fr.take a.toNat) [(fr.take b.toNat).drop a.toNat, [], fr.drop b.toNat] = some (ps, [], 0) ∧ impl_Unframe.f k (fr.take a.toNat) = some (pp, n2, 0) ∧ laws_sameLists.f k pp (ps.take (pp.length : Int).toNat) = some true := by
  obtain ⟨ps, ⟨k1, e1⟩, hps, hok⟩ := payloadsOf_ev l0 hu0 h0
  have hfl := flat_len ps hok
  have hfu := flat_u8 ps hok
  obtain ⟨fr, hfr⟩ : ∃ fr, fr = flat ps := ⟨_, rfl⟩
  have hlen : (fr.length : Int) ≤ 720 := by rw [hfr]; omega
  have hu : ∀ x ∈ fr, 0 ≤ x ∧ x < 256 := by rw [hfr]; exact hfu
  have w1 := Aside0.mk (show wrap64 ((fr.length : Int) + 1) = (fr.length : Int) + 1 from wrap64_id (by omega) (by omega))
  obtain ⟨a', f1, ha1, ha2⟩ := at_any l1 hu1 (by omega) 0 ((fr.length : Int) + 1) (by omega) (by omega)
  obtain ⟨a, rfl⟩ := Int.eq_ofNat_of_zero_le ha1
  have w2 := Aside0.mk (show wrap64 ((fr.length : Int) - (a : Int)) = (fr.length : Int) - (a : Int) from wrap64_id (by omega) (by omega))
  have w3 := Aside0.mk (show wrap64 ((fr.length : Int) - (a : Int) + 1) = (fr.length : Int) - (a : Int) + 1 from wrap64_id (by omega) (by omega))
  obtain ⟨b', f2, hb1, hb2⟩ := at_any l1 hu1 (by omega) 1 ((fr.length : Int) - (a : Int) + 1) (by omega) (by omega)
  obtain ⟨c, rfl⟩ := Int.eq_ofNat_of_zero_le hb1
  have w4 := Aside0.mk (show wrap64 ((a : Int) + (c : Int)) = ((a + c : Nat) : Int) from by rw [wrap64_id (by omega) (by omega)]; omega)
  obtain ⟨i, t, hi, hit, htt⟩ := flat_prefix ps hok a
  obtain ⟨j, t2, hj, hjt, htt2⟩ := flat_prefix ps hok (a + c)
  rw [← hfr] at hit hjt
  have okT : ∀ n, okP (ps.take n) := fun n q hq => hok q (List.mem_of_mem_take hq)
  have okD : okP (ps.drop j) := fun q hq => hok q (List.mem_of_mem_drop hq)
  have lT : ∀ n, (ps.take n).length ≤ 6 := fun n => by rw [List.length_take]; omega
  have uT : ∀ n, ∀ x ∈ fr.take n, 0 ≤ x ∧ x < 256 := fun n x hx => hu x (List.mem_of_mem_take hx)
  have l1' : (fr.take a).length = a := by rw [List.length_take]; omega
  have hia : (flat (ps.take i)).length + t.length = a := by rw [← l1', hit, List.length_append]
  have hcut : fr.take a ++ (fr.take (a + c)).drop a = fr.take (a + c) := by
    have := List.take_append_drop a (fr.take (a + c))
    rw [List.take_take, show min a (a + c) = a by omega] at this
    exact this
  have hrest : t2 ++ fr.drop (a + c) = flat (ps.drop j) := by
    have e := List.take_append_drop (a + c) fr
    rw [hjt, List.append_assoc] at e
    have e2 : fr = flat (ps.take j) ++ flat (ps.drop j) := by rw [← flat_append, List.take_append_drop]; exact hfr
    exact List.append_cancel_left (e.trans e2)
  obtain ⟨k2, e2⟩ := frames_go ps hok (by omega) ps [] (by simp)
  obtain ⟨k3, e3⟩ := Unframe_ok ps [] hok (by omega) (by simpa using hfu) rfl (by simp; omega)
  obtain ⟨k4, e4⟩ := sameLists_self ps (by omega)
  obtain ⟨k5, e5⟩ := Unframe_ok (ps.take i) t (okT i) (by have := lT i; omega) (by rw [← hit]; exact uT a) htt (by rw [← hit, l1']; omega)
  obtain ⟨k6, e6⟩ := sameLists_self (ps.take i) (by have := lT i; omega)
  obtain ⟨ch, hch⟩ : ∃ ch, ch = [(fr.take (a + c)).drop a, [], fr.drop (a + c)] := ⟨_, rfl⟩
  have hcl : ch.length = 3 := by rw [hch]; rfl
  have hdl : (ps.drop j).length ≤ 6 := by rw [List.length_drop]; omega
  have ht2u : ∀ x ∈ t2, 0 ≤ x ∧ x < 256 := fun x hx => uT (a + c) x (by rw [hjt]; simp [hx])
  have ht2a : (fr.take (a + c)).length ≤ fr.length := by rw [List.length_take]; omega
  have ht2l : t2.length ≤ fr.length := by rw [hjt, List.length_append] at ht2a; omega
  have ef : Ev (fun k => impl_Feed.f k (fr.take a) ch) (ps, [], 0) := by
    refine Ev_bindc (longBytes_ev _) (Ev_bindc (a := 0) ?_ (Ev.bind (first2_ev _ _) (Ev_pos ?_ (Ev_bindc (clone_ok (fr.take a) (by rw [l1']; omega)) ?_))))
    · unfold impl_longList.f
      rw [unless_ev, hcl]
      rfl
    · rw [l1', if_pos (show (a : Int) ≤ 65536 by omega)]
      rfl
    · refine feed_step ch _ rfl 0 ((fr.take (a + c)).drop a) (fr.take a) [] t2 (ps.take j) [] (by omega) (by subst hch; rfl) (by omega) (okT j) (by have := lT j; omega) (by simp) (hcut.trans hjt) (by rw [hcut]; exact uT (a + c)) htt2 (by rw [hcut, List.length_take]; omega) ?_
      refine feed_step ch _ rfl 1 [] t2 [] t2 [] _ (by omega) (by subst hch; rfl) (by omega) (fun q hq => by simp at hq) (by simp) (by have := lT j; simp only [List.length_append, List.length_nil]; omega) (by simp [flat]) (by simpa using ht2u) htt2 (by simp; omega) ?_
      refine feed_step ch _ rfl 2 (fr.drop (a + c)) t2 [] [] (ps.drop j) _ (by omega) (by subst hch; rfl) (by omega) okD (by omega) (by have := lT j; simp only [List.length_append, List.length_nil]; omega) (by rw [hrest]; simp) (by rw [hrest]; exact flat_u8 _ okD) rfl (by rw [hrest]; have := flat_len _ okD; omega) ?_
      refine Ev.step (fun k => impl_Feed.l0.eq_2 _ _ _ _ _ k) (Ev_neg (by rw [hcl]; decide) (Ev_eq (Ev_some _) (by simp)))
  obtain ⟨k7, e7⟩ := ef
  rw [hch] at e7
  rw [← hfr] at e2 e3
  simp only [List.append_nil] at e3
  rw [← hit] at e5
  refine ⟨k1 + k2 + k3 + k4 + k5 + k6 + k7, ps, ps.take i, fr, (a : Int), (c : Int), ((a + c : Nat) : Int), ((flat (ps.take i)).length : Int), w4.out, by omega, by omega, by omega, by rw [List.length_take]; omega, by omega, e1 _ (by omega), e2 _ (by omega), e3 _ (by omega), e4 _ (by omega), by rw [w1.out]; exact f1, by rw [w2.out, w3.out]; exact f2, e7 _ (by omega), e5 _ (by omega), ?_⟩
  rw [Int.toNat_natCast, show ps.take (ps.take i).length = ps.take i by rw [List.length_take, Nat.min_eq_left hi]]
  exact e6 _ (by omega)

end Go.Proofs.Ytkiknhljomobpaa.Pure
