/- At every argument the program's Sha answers what the reference's answers, and its argument is left as it was; no conditions. -/
import Derived.Test.YtcgkfijigjcmpaaPFnExactShax7
import Derived.Test.YtcgkfijigjcmpaaShaC0
import Derived.Test.YtcgkfijigjcmpaaShaC1
import Derived.Test.YtcgkfijigjcmpaaShaC2
import Derived.Test.YtcgkfijigjcmpaaShaC3
import Derived.OpenShut
namespace Go.Proofs.Ytcgkfijigjcmpaa.Pure
open Go.RowKit Go.Proofs.Ytcgkfijigjcmpaa.PFnExactSha Go.Proofs.YtcgkfijigjcmpaaW.PrintWords Go.Proofs.YtcgkfijigjcmpaaW.PrintLast Go.Proofs.YtcgkfijigjcmpaaW.PrintMore
set_option linter.unusedVariables false
set_option linter.unusedSimpArgs false

theorem Ev_pos {α : Type} {c : Prop} [Decidable c] {A B : Nat → Option α} {r : α} (h : c) (e : Ev A r) : Ev (fun k => if c then A k else B k) r := by
  simpa only [if_pos h] using e
theorem Ev_neg {α : Type} {c : Prop} [Decidable c] {A B : Nat → Option α} {r : α} (h : ¬ c) (e : Ev B r) : Ev (fun k => if c then A k else B k) r := by
  simpa only [if_neg h] using e
theorem Ev_some {α : Type} (r : α) : Ev (fun _ => some r) r := Ev.now r
theorem Ev_const {α : Type} {x : Option α} {r : α} (h : x = some r) : Ev (fun _ => x) r := ⟨0, fun _ _ => h⟩
theorem Ev_eq {α : Type} {A : Nat → Option α} {r q : α} (h : Ev A r) (e : r = q) : Ev A q := e ▸ h
theorem Ev_bindc {α β : Type} {x : Option α} {f : Nat → α → Option β} {a : α} {r : β} (h : x = some a) (k : Ev (fun n => f n a) r) : Ev (fun n => x.bind (f n)) r := Ev.bind (g := fun _ => x) (Ev_const h) k
theorem wrap64_id {x : Int} (h0 : -9223372036854775808 ≤ x) (h1 : x ≤ 9223372036854775807) : wrap64 x = x := by
  unfold wrap64; omega
theorem int_bounds {x : Int} (h : (Lit.int .i64 x).wf = true) : -9223372036854775808 ≤ x ∧ x < 9223372036854775808 := by
  have := Go.bounds_i64 h
  omega
theorem u8_bounds {l : List Int} (h : ∀ x ∈ l, (Lit.int .u8 x).wf = true) : ∀ x ∈ l, 0 ≤ x ∧ x < 256 := by
  intro x hx
  have := Go.bounds_u8 (h x hx)
  omega

theorem rd_cons0 (x : Int) (l : List Int) : rd (x :: l) 0 = x := rfl
theorem rd_append_len (p : List Int) (x : Int) (l : List Int) : rd (p ++ x :: l) (p.length : Int) = x := by
  unfold rd
  simp [List.getD]
theorem eqByteS_go (a : List Int) (ha : (a.length : Int) ≤ 281474976710656) (d : Nat) : ∀ i : Int, 0 ≤ i → i ≤ (a.length : Int) → (a.length : Int) - i = d → Ev (fun k => laws_eqByteS.l0 k a a i) true := by
  induction d with
  | zero =>
    intro i h0 h1 hd
    exact Ev.step (fun k => laws_eqByteS.l0.eq_2 a a i k) (Ev_neg (by omega) (Ev_some _))
  | succ d ih =>
    intro i h0 h1 hd
    have e := ih (i + 1) (by omega) (by omega) (by omega)
    have hw : wrap64 (i + 1) = i + 1 := wrap64_id (by omega) (by omega)
    rw [← hw] at e
    exact Ev.step (fun k => laws_eqByteS.l0.eq_2 a a i k) (Ev_pos (by omega) (Ev_pos h0 (Ev_pos (by omega) (Ev_pos rfl e))))
theorem eqByteS_self (a : List Int) (ha : (a.length : Int) ≤ 281474976710656) : Ev (fun k => laws_eqByteS.f k a a) true :=
  Ev_pos rfl (eqByteS_go a ha a.length 0 (by omega) (by omega) (by omega))

theorem rd_mid (p q : List Int) (x : Int) (n : Nat) (h : n = p.length) : rd (p ++ x :: q) (n : Int) = x := by
  subst h
  unfold rd
  simp [List.getD]
theorem toByteS_go : ∀ (suf pre zs : List Int), zs.length = suf.length → (pre.length : Int) + (suf.length : Int) ≤ 281474976710656 →
    Ev (fun k => laws_toByteS.l0 k (pre ++ suf) (pre ++ zs) (pre.length : Int)) (pre ++ suf) := by
  intro suf
  induction suf with
  | nil =>
    intro pre zs hz h
    have : zs = [] := List.eq_nil_of_length_eq_zero (by simpa using hz)
    subst this
    exact Ev.step (fun k => laws_toByteS.l0.eq_2 _ _ _ k) (Ev_neg (by simp) (Ev_some _))
  | cons x suf ih =>
    intro pre zs hz h
    cases zs with
    | nil => simp at hz
    | cons z zs =>
      simp only [List.length_cons] at hz h
      have e := ih (pre ++ [x]) zs (by omega) (by simp; omega)
      have hw : wrap64 ((pre.length : Int) + 1) = ((pre ++ [x]).length : Int) := by rw [wrap64_id (by omega) (by omega)]; simp
      have h1 : (pre ++ [x]) ++ suf = pre ++ x :: suf := by simp
      have h2 : (pre ++ [x]) ++ zs = (pre ++ z :: zs).set ((pre.length : Int)).toNat (rd (pre ++ x :: suf) (pre.length : Int)) := by
        rw [rd_mid pre suf x pre.length rfl]; simp
      rw [← hw, h1, h2] at e
      exact Ev.step (fun k => laws_toByteS.l0.eq_2 _ _ _ k) (Ev_pos (by simp; omega) (Ev_pos (by omega) (Ev_pos (by simp; omega) e)))
theorem toByteS_ev (l : List Int) (h : (l.length : Int) ≤ 281474976710656) : Ev (fun k => laws_toByteS.f k l) l := by
  have e := toByteS_go l [] (List.replicate l.length 0) (by simp) (by simpa using h)
  exact Ev_pos (by omega) (Ev_pos (by omega) (by simpa using e))

/-! words of 32 bits -/
def W32 (x : Int) : Prop := 0 ≤ x ∧ x < 4294967296
def Ws (l : List Int) : Prop := ∀ x ∈ l, W32 x
theorem Ws_at {l : List Int} (h : Ws l) (i : Nat) (hi : i < l.length) : W32 (l.getD i 0) := by
  rw [List.getD_eq_getElem?_getD, List.getElem?_eq_getElem hi]
  exact h _ (List.getElem_mem hi)
theorem Ws_getD {l : List Int} (h : Ws l) (i : Nat) : W32 (l.getD i 0) := by
  by_cases hi : i < l.length
  · exact Ws_at h i hi
  · rw [List.getD_eq_getElem?_getD, List.getElem?_eq_none (by omega)]
    exact ⟨by decide, by decide⟩
theorem Ws_set {l : List Int} (h : Ws l) (i : Nat) (x : Int) (hx : W32 x) : Ws (l.set i x) := by
  intro y hy
  rcases List.mem_or_eq_of_mem_set hy with hy | rfl
  · exact h y hy
  · exact hx
theorem hk32 (n : Int) (h0 : 0 ≤ n) (h1 : n < 2 ^ 32) : IntKind.u32.wrap n = n := by rw [IntKind.wrap_u32]; omega
theorem hk63 (n : Int) (h0 : 0 ≤ n) (h1 : n < 2 ^ 63) : IntKind.i64.wrap n = n := by rw [IntKind.wrap_i64]; omega
theorem bits_xor_nat (k : IntKind) (j : Nat) (hj : j ≤ k.bits) (hk : ∀ n : Int, 0 ≤ n → n < 2 ^ j → k.wrap n = n) (a b : Nat) (ha : a < 2 ^ j) (hb : b < 2 ^ j) : Go.bits .xor k a b = ((a ^^^ b : Nat) : Int) := by
  have hp : 2 ^ j ≤ 2 ^ k.bits := Nat.pow_le_pow_right (by decide) hj
  have ha' : a % 2 ^ k.bits = a := Nat.mod_eq_of_lt (Nat.lt_of_lt_of_le ha hp)
  have hb' : b % 2 ^ k.bits = b := Nat.mod_eq_of_lt (Nat.lt_of_lt_of_le hb hp)
  have cast : ∀ n : Nat, n < 2 ^ j → ((n : Nat) : Int) < 2 ^ j := fun n h => by exact_mod_cast h
  simp only [Go.bits, BitVec.ofInt_natCast, BitVec.toNat_xor, BitVec.toNat_ofNat, ha', hb']
  exact hk _ (Int.natCast_nonneg _) (cast _ (Nat.xor_lt_two_pow ha hb))
theorem W32_nat {x : Int} (h : W32 x) : ∃ a : Nat, x = (a : Int) ∧ a < 2 ^ 32 := by
  obtain ⟨a, rfl⟩ := Int.eq_ofNat_of_zero_le h.1
  exact ⟨a, rfl, by have := h.2; omega⟩
theorem nat_W32 {a : Nat} (h : a < 2 ^ 32) : W32 (a : Int) := ⟨by omega, by omega⟩
theorem or_same {x y : Int} (hx : W32 x) (hy : W32 y) : Go.bits .or .i64 x y = Go.bits .or .u32 x y ∧ W32 (Go.bits .or .u32 x y) := by
  obtain ⟨a, rfl, ha⟩ := W32_nat hx
  obtain ⟨b, rfl, hb⟩ := W32_nat hy
  rw [(bits_nat .i64 63 (by decide) hk63 a b (by omega) (by omega)).2, (bits_nat .u32 32 (by decide) hk32 a b ha hb).2]
  exact ⟨rfl, nat_W32 (Nat.or_lt_two_pow ha hb)⟩
theorem and_same {x y : Int} (hx : W32 x) (hy : W32 y) : Go.bits .and .i64 x y = Go.bits .and .u32 x y ∧ W32 (Go.bits .and .u32 x y) := by
  obtain ⟨a, rfl, ha⟩ := W32_nat hx
  obtain ⟨b, rfl, hb⟩ := W32_nat hy
  rw [(bits_nat .i64 63 (by decide) hk63 a b (by omega) (by omega)).1, (bits_nat .u32 32 (by decide) hk32 a b ha hb).1]
  exact ⟨rfl, nat_W32 (Nat.and_lt_two_pow _ hb)⟩
theorem xor_same {x y : Int} (hx : W32 x) (hy : W32 y) : Go.bits .xor .i64 x y = Go.bits .xor .u32 x y ∧ W32 (Go.bits .xor .u32 x y) := by
  obtain ⟨a, rfl, ha⟩ := W32_nat hx
  obtain ⟨b, rfl, hb⟩ := W32_nat hy
  rw [bits_xor_nat .i64 63 (by decide) hk63 a b (by omega) (by omega), bits_xor_nat .u32 32 (by decide) hk32 a b ha hb]
  exact ⟨rfl, nat_W32 (Nat.xor_lt_two_pow ha hb)⟩
/-- The mask of the low 32 bits. -/
theorem mask32 (x : Int) (h0 : 0 ≤ x) (h1 : x < 9223372036854775808) : Go.bits .and .i64 x 4294967295 = x % 4294967296 := by
  have h := bits_mask .i64 63 (by decide) hk63 32 (by decide) x h0 (by omega)
  simpa using h
theorem rotr_W32 (x : Int) (n : Nat) (hx : W32 x) : W32 (impl_Sha.rotr x n) := by
  obtain ⟨a, rfl, ha⟩ := W32_nat hx
  have h1 : W32 ((a : Int) * 2 ^ (32 - n) % 4294967296) := ⟨by omega, by omega⟩
  have h2 : W32 ((a : Int) / 2 ^ n) := by
    have e : (a : Int) / 2 ^ n = ((a / 2 ^ n : Nat) : Int) := by push_cast; rfl
    rw [e]
    exact nat_W32 (Nat.lt_of_le_of_lt (Nat.div_le_self _ _) ha)
  exact (or_same h1 h2).2
theorem turn_eq (x : Int) (n : Nat) (hn0 : 1 ≤ n) (hn1 : n ≤ 31) (hx : W32 x) : spec_l04Turn.f x (n : Int) = some (impl_Sha.rotr x n) := by
  obtain ⟨a, rfl, ha⟩ := W32_nat hx
  unfold spec_l04Turn.f
  have e1 : IntKind.u64.wrap (n : Int) = (n : Int) := by rw [show IntKind.u64.wrap (n : Int) = (n : Int) % 18446744073709551616 from rfl]; omega
  have e2 : wrap64 (32 - (n : Int)) = ((32 - n : Nat) : Int) := by unfold wrap64; omega
  have e3 : IntKind.u64.wrap ((32 - n : Nat) : Int) = ((32 - n : Nat) : Int) := by rw [show IntKind.u64.wrap ((32 - n : Nat) : Int) = ((32 - n : Nat) : Int) % 18446744073709551616 from rfl]; omega
  rw [e2, e1, e3, if_pos (by omega), if_pos (by omega)]
  have s1 : shr .i64 (a : Int) (n : Int) = ((a / 2 ^ n : Nat) : Int) := by
    unfold shr
    rw [show min (n : Int).toNat IntKind.i64.bits = n from by show min (n : Int).toNat 64 = n; omega]
    push_cast
    rfl
  have hp : 2 ^ (32 - n) ≤ 2 ^ 31 := Nat.pow_le_pow_right (by decide) (by omega)
  have hb : a * 2 ^ (32 - n) < 2 ^ 63 := by
    have h1 : a * 2 ^ (32 - n) ≤ a * 2 ^ 31 := Nat.mul_le_mul_left _ hp
    have h2 : a * 2 ^ 31 < 2 ^ 32 * 2 ^ 31 := Nat.mul_lt_mul_of_pos_right ha (by decide)
    have h3 : 2 ^ 32 * 2 ^ 31 = 2 ^ 63 := by decide
    omega
  have s2 : shl .i64 (a : Int) ((32 - n : Nat) : Int) = ((a * 2 ^ (32 - n) : Nat) : Int) := by
    unfold shl
    rw [show min ((32 - n : Nat) : Int).toNat IntKind.i64.bits = 32 - n from by show min ((32 - n : Nat) : Int).toNat 64 = 32 - n; omega]
    rw [show (a : Int) * 2 ^ (32 - n) = ((a * 2 ^ (32 - n) : Nat) : Int) from by push_cast; rfl]
    exact hk63 _ (by omega) (by exact_mod_cast hb)
  have hd : a / 2 ^ n < 2 ^ 32 := Nat.lt_of_le_of_lt (Nat.div_le_self _ _) ha
  rw [s1, s2, (bits_nat .i64 63 (by decide) hk63 _ _ (by omega) hb).2]
  rw [show (4294967295 : Int) = ((4294967295 : Nat) : Int) from rfl, (bits_nat .i64 63 (by decide) hk63 _ _ (Nat.or_lt_two_pow (by omega) hb) (by decide)).1]
  unfold impl_Sha.rotr
  have c1 : (a : Int) * 2 ^ (32 - n) = ((a * 2 ^ (32 - n) : Nat) : Int) := by push_cast; rfl
  have c2 : ∀ q : Nat, ((q : Nat) : Int) % 4294967296 = ((q % 4294967296 : Nat) : Int) := fun q => by omega
  rw [c1, c2, show (a : Int) / 2 ^ n = ((a / 2 ^ n : Nat) : Int) from by push_cast; rfl]
  rw [(bits_nat .u32 32 (by decide) hk32 _ _ (Nat.mod_lt _ (by decide)) hd).2]
  congr 2
  have m1 : ∀ z : Nat, z &&& 4294967295 = z % 4294967296 := fun z => Nat.and_two_pow_sub_one_eq_mod z 32
  rw [Nat.and_or_distrib_right, m1, m1, Nat.mod_eq_of_lt (show a / 2 ^ n < 4294967296 from hd), Nat.or_comm]
theorem turn_7 {x : Int} (hx : W32 x) : spec_l04Turn.f x 7 = some (impl_Sha.rotr x 7) := turn_eq x 7 (by decide) (by decide) hx
theorem turn_18 {x : Int} (hx : W32 x) : spec_l04Turn.f x 18 = some (impl_Sha.rotr x 18) := turn_eq x 18 (by decide) (by decide) hx
theorem turn_17 {x : Int} (hx : W32 x) : spec_l04Turn.f x 17 = some (impl_Sha.rotr x 17) := turn_eq x 17 (by decide) (by decide) hx
theorem turn_19 {x : Int} (hx : W32 x) : spec_l04Turn.f x 19 = some (impl_Sha.rotr x 19) := turn_eq x 19 (by decide) (by decide) hx
theorem turn_6 {x : Int} (hx : W32 x) : spec_l04Turn.f x 6 = some (impl_Sha.rotr x 6) := turn_eq x 6 (by decide) (by decide) hx
theorem turn_11 {x : Int} (hx : W32 x) : spec_l04Turn.f x 11 = some (impl_Sha.rotr x 11) := turn_eq x 11 (by decide) (by decide) hx
theorem turn_25 {x : Int} (hx : W32 x) : spec_l04Turn.f x 25 = some (impl_Sha.rotr x 25) := turn_eq x 25 (by decide) (by decide) hx
theorem turn_2 {x : Int} (hx : W32 x) : spec_l04Turn.f x 2 = some (impl_Sha.rotr x 2) := turn_eq x 2 (by decide) (by decide) hx
theorem turn_13 {x : Int} (hx : W32 x) : spec_l04Turn.f x 13 = some (impl_Sha.rotr x 13) := turn_eq x 13 (by decide) (by decide) hx
theorem turn_22 {x : Int} (hx : W32 x) : spec_l04Turn.f x 22 = some (impl_Sha.rotr x 22) := turn_eq x 22 (by decide) (by decide) hx
theorem rd_nat (l : List Int) (i : Nat) : rd l (i : Int) = l.getD i 0 := by unfold rd; rw [Int.toNat_natCast]
theorem ld_eq {b0 b1 b2 b3 : Int} (h0 : 0 ≤ b0 ∧ b0 < 256) (h1 : 0 ≤ b1 ∧ b1 < 256) (h2 : 0 ≤ b2 ∧ b2 < 256) (h3 : 0 ≤ b3 ∧ b3 < 256) :
    Go.bits .or .i64 (Go.bits .or .i64 (Go.bits .or .i64 (wrap64 (wrap64 b0 * 16777216)) (wrap64 (wrap64 b1 * 65536))) (wrap64 (wrap64 b2 * 256))) (wrap64 b3)
      = Go.bits .or .u32 (Go.bits .or .u32 (Go.bits .or .u32 (b0 * 16777216 % 4294967296) (b1 * 65536 % 4294967296)) (b2 * 256 % 4294967296)) b3
    ∧ W32 (Go.bits .or .u32 (Go.bits .or .u32 (Go.bits .or .u32 (b0 * 16777216 % 4294967296) (b1 * 65536 % 4294967296)) (b2 * 256 % 4294967296)) b3) := by
  have w0 : wrap64 b0 = b0 := wrap64_id (by omega) (by omega)
  have w1 : wrap64 b1 = b1 := wrap64_id (by omega) (by omega)
  have w2 : wrap64 b2 = b2 := wrap64_id (by omega) (by omega)
  have w3 : wrap64 b3 = b3 := wrap64_id (by omega) (by omega)
  have v0 : wrap64 (b0 * 16777216) = b0 * 16777216 % 4294967296 := by rw [wrap64_id (by omega) (by omega)]; omega
  have v1 : wrap64 (b1 * 65536) = b1 * 65536 % 4294967296 := by rw [wrap64_id (by omega) (by omega)]; omega
  have v2 : wrap64 (b2 * 256) = b2 * 256 % 4294967296 := by rw [wrap64_id (by omega) (by omega)]; omega
  rw [w0, w1, w2, w3, v0, v1, v2]
  have p0 : W32 (b0 * 16777216 % 4294967296) := ⟨by omega, by omega⟩
  have p1 : W32 (b1 * 65536 % 4294967296) := ⟨by omega, by omega⟩
  have p2 : W32 (b2 * 256 % 4294967296) := ⟨by omega, by omega⟩
  have p3 : W32 b3 := ⟨by omega, by omega⟩
  obtain ⟨a1, c1⟩ := or_same p0 p1
  rw [a1]
  obtain ⟨a2, c2⟩ := or_same c1 p2
  rw [a2]
  exact or_same c2 p3
theorem nx_eq {x y p q : Int} (hx : W32 x) (hy : W32 y) (hp : W32 p) (hq : W32 q) :
    Go.bits .and .i64 (wrap64 (wrap64 (wrap64 (p + Go.bits .xor .i64 (Go.bits .xor .i64 (impl_Sha.rotr x 7) (impl_Sha.rotr x 18)) (x / 8)) + q) + Go.bits .xor .i64 (Go.bits .xor .i64 (impl_Sha.rotr y 17) (impl_Sha.rotr y 19)) (y / 1024))) 4294967295 = impl_Sha.nx x y p q ∧ W32 (impl_Sha.nx x y p q) := by
  have x8 : W32 (x / 8) := ⟨by have := hx.1; omega, by have := hx.2; omega⟩
  have y10 : W32 (y / 1024) := ⟨by have := hy.1; omega, by have := hy.2; omega⟩
  obtain ⟨a1, c1⟩ := xor_same (rotr_W32 x 7 hx) (rotr_W32 x 18 hx)
  obtain ⟨a2, c2⟩ := xor_same c1 x8
  obtain ⟨a3, c3⟩ := xor_same (rotr_W32 y 17 hy) (rotr_W32 y 19 hy)
  obtain ⟨a4, c4⟩ := xor_same c3 y10
  unfold impl_Sha.nx
  rw [a1, a2, a3, a4]
  generalize Go.bits .xor .u32 (Go.bits .xor .u32 (impl_Sha.rotr x 7) (impl_Sha.rotr x 18)) (x / 8) = s at *
  generalize Go.bits .xor .u32 (Go.bits .xor .u32 (impl_Sha.rotr y 17) (impl_Sha.rotr y 19)) (y / 1024) = t at *
  obtain ⟨p0, p1⟩ := hp
  obtain ⟨q0, q1⟩ := hq
  obtain ⟨s0, s1⟩ := c2
  obtain ⟨t0, t1⟩ := c4
  rw [wrap64_id (x := p + s) (by omega) (by omega), wrap64_id (x := p + s + q) (by omega) (by omega), wrap64_id (x := p + s + q + t) (by omega) (by omega), mask32 _ (by omega) (by omega)]
  exact ⟨by omega, by omega, by omega⟩
/-- The choice of bits, told in two ways. -/
theorem ch_eq {e f g : Int} (he : W32 e) (hf : W32 f) (hg : W32 g) :
    Go.bits .xor .i64 (Go.bits .and .i64 e f) (Go.bits .and .i64 (Go.bits .xor .i64 e 4294967295) g) = Go.bits .or .u32 (Go.bits .and .u32 e f) (Go.bits .and .u32 (Go.bits .xor .u32 (if IntKind.u32.signed = true then -1 else IntKind.u32.max) e) g)
    ∧ W32 (Go.bits .or .u32 (Go.bits .and .u32 e f) (Go.bits .and .u32 (Go.bits .xor .u32 (if IntKind.u32.signed = true then -1 else IntKind.u32.max) e) g)) := by
  have hm : (if IntKind.u32.signed = true then -1 else IntKind.u32.max) = (4294967295 : Int) := by decide
  have hM : W32 4294967295 := ⟨by decide, by decide⟩
  rw [hm]
  obtain ⟨a1, c1⟩ := and_same he hf
  obtain ⟨a2, c2⟩ := xor_same he hM
  obtain ⟨a3, c3⟩ := xor_same hM he
  obtain ⟨a4, c4⟩ := and_same c2 hg
  obtain ⟨a5, c5⟩ := and_same c3 hg
  refine ⟨?_, (or_same c1 c5).2⟩
  rw [a1, a2, a4, (xor_same c1 c4).1]
  obtain ⟨a, rfl, ha⟩ := W32_nat he
  obtain ⟨b, rfl, hb⟩ := W32_nat hf
  obtain ⟨c, rfl, hc⟩ := W32_nat hg
  rw [show (4294967295 : Int) = ((4294967295 : Nat) : Int) from rfl]
  rw [bits_xor_nat .u32 32 (by decide) hk32 a 4294967295 ha (by decide), bits_xor_nat .u32 32 (by decide) hk32 4294967295 a (by decide) ha]
  have n1 := Nat.xor_lt_two_pow (n := 32) ha (show 4294967295 < 2 ^ 32 by decide)
  have n2 := Nat.xor_lt_two_pow (n := 32) (show 4294967295 < 2 ^ 32 by decide) ha
  rw [(bits_nat .u32 32 (by decide) hk32 a b ha hb).1, (bits_nat .u32 32 (by decide) hk32 _ c n1 hc).1, (bits_nat .u32 32 (by decide) hk32 _ c n2 hc).1]
  rw [bits_xor_nat .u32 32 (by decide) hk32 _ _ (Nat.and_lt_two_pow _ hb) (Nat.and_lt_two_pow _ hc), (bits_nat .u32 32 (by decide) hk32 _ _ (Nat.and_lt_two_pow _ hb) (Nat.and_lt_two_pow _ hc)).2]
  congr 1
  rw [Nat.xor_comm a 4294967295]
  apply Nat.eq_of_testBit_eq
  intro i
  simp only [Nat.testBit_xor, Nat.testBit_and, Nat.testBit_or]
  have hmask : ∀ i, (4294967295 : Nat).testBit i = decide (i < 32) := fun i => Nat.testBit_two_pow_sub_one 32 i
  rw [hmask]
  by_cases hi : i < 32
  · simp only [hi, decide_true]
    cases a.testBit i <;> cases b.testBit i <;> cases c.testBit i <;> rfl
  · have hz : a.testBit i = false := Nat.testBit_lt_two_pow (Nat.lt_of_lt_of_le ha (Nat.pow_le_pow_right (by decide) (by omega)))
    have hz2 : c.testBit i = false := Nat.testBit_lt_two_pow (Nat.lt_of_lt_of_le hc (Nat.pow_le_pow_right (by decide) (by omega)))
    simp [hz, hz2]
theorem p_eq {v4 v5 v6 v7 k w : Int} (h4 : W32 v4) (h5 : W32 v5) (h6 : W32 v6) (h7 : W32 v7) (hk : W32 k) (hw : W32 w) :
    ∃ t : Int, wrap64 (wrap64 (wrap64 (wrap64 (v7 + Go.bits .xor .i64 (Go.bits .xor .i64 (impl_Sha.rotr v4 6) (impl_Sha.rotr v4 11)) (impl_Sha.rotr v4 25)) + Go.bits .xor .i64 (Go.bits .and .i64 v4 v5) (Go.bits .and .i64 (Go.bits .xor .i64 v4 4294967295) v6)) + k) + w) = t
      ∧ 0 ≤ t ∧ t < 21474836480 ∧ impl_Sha.p v4 v5 v6 v7 k w = t % 4294967296 := by
  obtain ⟨a1, c1⟩ := xor_same (rotr_W32 v4 6 h4) (rotr_W32 v4 11 h4)
  obtain ⟨a2, c2⟩ := xor_same c1 (rotr_W32 v4 25 h4)
  obtain ⟨a3, c3⟩ := ch_eq h4 h5 h6
  unfold impl_Sha.p
  rw [a1, a2, a3]
  generalize Go.bits .xor .u32 (Go.bits .xor .u32 (impl_Sha.rotr v4 6) (impl_Sha.rotr v4 11)) (impl_Sha.rotr v4 25) = s at *
  generalize Go.bits .or .u32 (Go.bits .and .u32 v4 v5) (Go.bits .and .u32 (Go.bits .xor .u32 (if IntKind.u32.signed = true then -1 else IntKind.u32.max) v4) v6) = c at *
  obtain ⟨p0, p1⟩ := h7
  obtain ⟨s0, s1⟩ := c2
  obtain ⟨t0, t1⟩ := c3
  obtain ⟨k0, k1⟩ := hk
  obtain ⟨w0, w1⟩ := hw
  refine ⟨v7 + s + c + k + w, ?_, by omega, by omega, ?_⟩
  · rw [wrap64_id (x := v7 + s) (by omega) (by omega), wrap64_id (x := v7 + s + c) (by omega) (by omega), wrap64_id (x := v7 + s + c + k) (by omega) (by omega), wrap64_id (x := v7 + s + c + k + w) (by omega) (by omega)]
  · simp only [IntKind.wrap_u32]
    omega
theorem q_eq {v0 v1 v2 : Int} (h0 : W32 v0) (h1 : W32 v1) (h2 : W32 v2) :
    ∃ t : Int, wrap64 (Go.bits .xor .i64 (Go.bits .xor .i64 (impl_Sha.rotr v0 2) (impl_Sha.rotr v0 13)) (impl_Sha.rotr v0 22) + Go.bits .xor .i64 (Go.bits .xor .i64 (Go.bits .and .i64 v0 v1) (Go.bits .and .i64 v0 v2)) (Go.bits .and .i64 v1 v2)) = t
      ∧ 0 ≤ t ∧ t < 8589934592 ∧ impl_Sha.q v0 v1 v2 = t % 4294967296 := by
  obtain ⟨a1, c1⟩ := xor_same (rotr_W32 v0 2 h0) (rotr_W32 v0 13 h0)
  obtain ⟨a2, c2⟩ := xor_same c1 (rotr_W32 v0 22 h0)
  obtain ⟨a3, c3⟩ := and_same h0 h1
  obtain ⟨a4, c4⟩ := and_same h0 h2
  obtain ⟨a5, c5⟩ := and_same h1 h2
  obtain ⟨a6, c6⟩ := xor_same c3 c4
  obtain ⟨a7, c7⟩ := xor_same c6 c5
  unfold impl_Sha.q
  rw [a1, a2, a3, a4, a5, a6, a7]
  generalize Go.bits .xor .u32 (Go.bits .xor .u32 (impl_Sha.rotr v0 2) (impl_Sha.rotr v0 13)) (impl_Sha.rotr v0 22) = s at *
  generalize Go.bits .xor .u32 (Go.bits .xor .u32 (Go.bits .and .u32 v0 v1) (Go.bits .and .u32 v0 v2)) (Go.bits .and .u32 v1 v2) = m at *
  obtain ⟨s0, s1⟩ := c2
  obtain ⟨m0, m1⟩ := c7
  refine ⟨s + m, wrap64_id (by omega) (by omega), by omega, by omega, ?_⟩
  rw [IntKind.wrap_u32]
/-! a block -/
theorem ld_W32 {m : List Int} (hu : ∀ i, 0 ≤ m.getD i 0 ∧ m.getD i 0 < 256) (i : Nat) : W32 (impl_Sha.ld m i) := (ld_eq (hu (4 * i)) (hu (4 * i + 1)) (hu (4 * i + 2)) (hu (4 * i + 3))).2
theorem w_Ws {m : List Int} (hu : ∀ i, 0 ≤ m.getD i 0 ∧ m.getD i 0 < 256) : ∀ i, Ws (impl_Sha.w m i)
  | 0 => by
    intro x hx
    rw [impl_Sha.w] at hx
    rw [(List.mem_replicate.1 hx).2]
    exact ⟨by decide, by decide⟩
  | i + 1 => by
    have ih := w_Ws hu i
    rw [impl_Sha.w]
    refine Ws_set ih _ _ ?_
    by_cases h : i < 16
    · rw [if_pos h]; exact ld_W32 hu i
    · rw [if_neg h]; exact (nx_eq (Ws_getD ih _) (Ws_getD ih _) (Ws_getD ih _) (Ws_getD ih _)).2
theorem l0_ev (h K m : List Int) (hm : m.length = 64) (hu : ∀ i, 0 ≤ m.getD i 0 ∧ m.getD i 0 < 256) (R : List Int) (hR : Ev (fun k => spec_l04Block.l1 k h K (impl_Sha.w m 16) ((16 : Nat) : Int)) R) :
    ∀ d i : Nat, i + d = 16 → Ev (fun k => spec_l04Block.l0 k h K m (impl_Sha.w m i) (i : Int)) R := by
  intro d
  induction d with
  | zero =>
    intro i hi
    have h16 : i = 16 := by omega
    rw [h16]
    exact Ev.step (fun k => spec_l04Block.l0.eq_2 _ _ _ _ _ k) (Ev_neg (by omega) hR)
  | succ d ih =>
    intro i hi
    have e0 : wrap64 (4 * (i : Int)) = ((4 * i : Nat) : Int) := by rw [wrap64_id (by omega) (by omega)]; push_cast; rfl
    have e1 : wrap64 (((4 * i : Nat) : Int) + 1) = ((4 * i + 1 : Nat) : Int) := by rw [wrap64_id (by omega) (by omega)]; push_cast; rfl
    have e2 : wrap64 (((4 * i : Nat) : Int) + 2) = ((4 * i + 2 : Nat) : Int) := by rw [wrap64_id (by omega) (by omega)]; push_cast; rfl
    have e3 : wrap64 (((4 * i : Nat) : Int) + 3) = ((4 * i + 3 : Nat) : Int) := by rw [wrap64_id (by omega) (by omega)]; push_cast; rfl
    have e4 : wrap64 ((i : Int) + 1) = ((i + 1 : Nat) : Int) := by rw [wrap64_id (by omega) (by omega)]; push_cast; rfl
    have hwl := impl_Sha.w_len m i
    refine Ev.step (fun k => spec_l04Block.l0.eq_2 _ _ _ _ _ k) ?_
    rw [e0, e1, e2, e3, e4, rd_nat, rd_nat, rd_nat, rd_nat, (ld_eq (hu (4 * i)) (hu (4 * i + 1)) (hu (4 * i + 2)) (hu (4 * i + 3))).1, Int.toNat_natCast]
    clear e0 e1 e2 e3 e4
    refine Ev_pos (by omega) (Ev_pos (by omega) (Ev_pos (by omega) (Ev_pos (by omega) (Ev_pos (by omega) (Ev_pos (by omega) (Ev_pos (by omega) (Ev_pos (by omega) (Ev_pos (by omega) (Ev_pos (by omega) (Ev_pos (by omega) ?_))))))))))
    have := ih (i + 1) (by omega)
    rw [impl_Sha.w, if_pos (show i < 16 by omega)] at this
    exact this
theorem l1_ev (h K m : List Int) (hu : ∀ i, 0 ≤ m.getD i 0 ∧ m.getD i 0 < 256) (hh : h.length = 8) (R W : List Int) (hw64 : impl_Sha.w m 64 = W) (hR : Ev (fun k => spec_l04Block.l2 k h K W h 0) R) :
    ∀ d i : Nat, i + d = 64 → 16 ≤ i → Ev (fun k => spec_l04Block.l1 k h K (impl_Sha.w m i) (i : Int)) R := by
  intro d
  induction d with
  | zero =>
    intro i hi h16
    have h64 : i = 64 := by omega
    rw [h64, hw64]
    refine Ev.step (fun k => spec_l04Block.l1.eq_2 _ _ _ _ k) (Ev_neg (by omega) (Ev_bindc rfl (Ev_pos ?_ hR)))
    simp
    omega
  | succ d ih =>
    intro i hi h16
    have e0 : wrap64 ((i : Int) - 15) = ((i - 15 : Nat) : Int) := by rw [wrap64_id (by omega) (by omega)]; omega
    have e1 : wrap64 ((i : Int) - 2) = ((i - 2 : Nat) : Int) := by rw [wrap64_id (by omega) (by omega)]; omega
    have e2 : wrap64 ((i : Int) - 16) = ((i - 16 : Nat) : Int) := by rw [wrap64_id (by omega) (by omega)]; omega
    have e3 : wrap64 ((i : Int) - 7) = ((i - 7 : Nat) : Int) := by rw [wrap64_id (by omega) (by omega)]; omega
    have e4 : wrap64 ((i : Int) + 1) = ((i + 1 : Nat) : Int) := by rw [wrap64_id (by omega) (by omega)]; push_cast; rfl
    have hwl := impl_Sha.w_len m i
    have hws := w_Ws hu i
    have x1 := Ws_getD hws (i - 15)
    have x2 := Ws_getD hws (i - 2)
    refine Ev.step (fun k => spec_l04Block.l1.eq_2 _ _ _ _ k) ?_
    rw [e0, e1, e2, e3, e4, rd_nat, rd_nat, rd_nat, rd_nat, Int.toNat_natCast]
    clear e0 e1 e2 e3 e4
    refine Ev_pos (by omega) (Ev_pos (by omega) (Ev_pos (by omega) (Ev_bindc (turn_7 x1) (Ev_bindc (turn_18 x1) (Ev_pos (by omega) (Ev_pos (by omega) (Ev_bindc (turn_17 x2) (Ev_bindc (turn_19 x2) (Ev_pos (by omega) (Ev_pos (by omega) (Ev_pos (by omega) (Ev_pos (by omega) (Ev_pos (by omega) (Ev_pos (by omega) ?_))))))))))))))
    rw [(nx_eq x1 x2 (Ws_getD hws (i - 16)) (Ws_getD hws (i - 7))).1]
    have := ih (i + 1) (by omega) (by omega)
    rw [impl_Sha.w, if_neg (show ¬ i < 16 by omega)] at this
    exact this
theorem K_Ws : Ws impl_Sha.K := by
  intro x hx
  have : impl_Sha.K.all (fun x => decide (0 ≤ x) && decide (x < 4294967296)) = true := by decide
  rw [List.all_eq_true] at this
  have h := this x hx
  simp at h
  exact h
theorem rnd_Ws {k w : Int} {v : List Int} (hv : Ws v) : Ws (impl_Sha.rnd k w v) := by
  unfold impl_Sha.rnd
  split
  · rename_i v0 v1 v2 v3 v4 v5 v6 v7
    have m : ∀ x : Int, W32 (x % 4294967296) := fun x => ⟨by omega, by omega⟩
    intro x hx
    simp only [List.mem_cons, List.not_mem_nil, or_false] at hx
    rcases hx with rfl | rfl | rfl | rfl | rfl | rfl | rfl | rfl
    · exact m _
    · exact hv _ (by simp)
    · exact hv _ (by simp)
    · exact hv _ (by simp)
    · exact m _
    · exact hv _ (by simp)
    · exact hv _ (by simp)
    · exact hv _ (by simp)
  · exact hv
theorem vs_Ws {ws h : List Int} (hh : Ws h) : ∀ i, Ws (impl_Sha.vs ws h i)
  | 0 => hh
  | i + 1 => rnd_Ws (vs_Ws hh i)
theorem l2_ev (h ws : List Int) (hh : h.length = 8) (hW : Ws h) (hwl : ws.length = 64) (hws : Ws ws) (R V : List Int) (hv64 : impl_Sha.vs ws h 64 = V) (hR : Ev (fun k => spec_l04Block.l3 k h V [] 0) R) :
    ∀ d i : Nat, i + d = 64 → Ev (fun k => spec_l04Block.l2 k h impl_Sha.K ws (impl_Sha.vs ws h i) (i : Int)) R := by
  intro d
  induction d with
  | zero =>
    intro i hi
    have h64 : i = 64 := by omega
    rw [h64, hv64]
    exact Ev.step (fun k => spec_l04Block.l2.eq_2 _ _ _ _ _ k) (Ev_neg (by omega) hR)
  | succ d ih =>
    intro i hi
    have e4 : wrap64 ((i : Int) + 1) = ((i + 1 : Nat) : Int) := by rw [wrap64_id (by omega) (by omega)]; push_cast; rfl
    have hvs := vs_Ws (ws := ws) hW i
    have hvl := impl_Sha.vs_len ws h hh i
    have hn := ih (i + 1) (by omega)
    rw [impl_Sha.vs] at hn
    generalize impl_Sha.vs ws h i = v at *
    obtain ⟨v0, v1, v2, v3, v4, v5, v6, v7, rfl⟩ := impl_Sha.list8 hvl
    have g0 : W32 v0 := hvs _ (by simp)
    have g1 : W32 v1 := hvs _ (by simp)
    have g2 : W32 v2 := hvs _ (by simp)
    have g3 : W32 v3 := hvs _ (by simp)
    have g4 : W32 v4 := hvs _ (by simp)
    have g5 : W32 v5 := hvs _ (by simp)
    have g6 : W32 v6 := hvs _ (by simp)
    have g7 : W32 v7 := hvs _ (by simp)
    have kl : (impl_Sha.K.length : Int) = 64 := by decide
    refine Ev.step (fun k => spec_l04Block.l2.eq_2 _ _ _ _ _ k) ?_
    have r0 : rd [v0, v1, v2, v3, v4, v5, v6, v7] 0 = v0 := rfl
    have r1 : rd [v0, v1, v2, v3, v4, v5, v6, v7] 1 = v1 := rfl
    have r2 : rd [v0, v1, v2, v3, v4, v5, v6, v7] 2 = v2 := rfl
    have r3 : rd [v0, v1, v2, v3, v4, v5, v6, v7] 3 = v3 := rfl
    have r4 : rd [v0, v1, v2, v3, v4, v5, v6, v7] 4 = v4 := rfl
    have r5 : rd [v0, v1, v2, v3, v4, v5, v6, v7] 5 = v5 := rfl
    have r6 : rd [v0, v1, v2, v3, v4, v5, v6, v7] 6 = v6 := rfl
    have r7 : rd [v0, v1, v2, v3, v4, v5, v6, v7] 7 = v7 := rfl
    have ln : (([v0, v1, v2, v3, v4, v5, v6, v7] : List Int).length : Int) = 8 := rfl
    rw [r0, r1, r2, r3, r4, r5, r6, r7, ln, rd_nat, rd_nat, e4]
    clear e4 r0 r1 r2 r3 r4 r5 r6 r7
    refine Ev_pos (by omega) (Ev_pos (by omega) (Ev_bindc (turn_6 g4) (Ev_bindc (turn_11 g4) (Ev_bindc (turn_25 g4) (Ev_pos (by omega) (Ev_pos (by omega) (Ev_pos (by omega) (Ev_pos (by omega) (Ev_pos (by omega) (Ev_pos (by omega) (Ev_pos (by omega)
      (Ev_bindc (turn_2 g0) (Ev_bindc (turn_13 g0) (Ev_bindc (turn_22 g0) (Ev_pos (by omega) (Ev_pos (by omega) (Ev_pos (by omega) ?_)))))))))))))))))
    obtain ⟨t1, p1, p2, p3, p4⟩ := p_eq g4 g5 g6 g7 (Ws_getD K_Ws i) (Ws_getD hws i)
    obtain ⟨t2, q1, q2, q3, q4⟩ := q_eq g0 g1 g2
    rw [p1, q1]
    have e5 : Go.bits .and .i64 (wrap64 (t1 + t2)) 4294967295 = (impl_Sha.p v4 v5 v6 v7 (impl_Sha.K.getD i 0) (ws.getD i 0) + impl_Sha.q v0 v1 v2) % 4294967296 := by
      rw [wrap64_id (by omega) (by omega), mask32 _ (by omega) (by omega), p4, q4]
      omega
    have e6 : Go.bits .and .i64 (wrap64 (v3 + t1)) 4294967295 = (v3 + impl_Sha.p v4 v5 v6 v7 (impl_Sha.K.getD i 0) (ws.getD i 0)) % 4294967296 := by
      obtain ⟨z0, z1⟩ := g3
      rw [wrap64_id (by omega) (by omega), mask32 _ (by omega) (by omega), p4]
      omega
    rw [e5, e6]
    exact hn
theorem l3_ev (h v : List Int) (hh : h.length = 8) (hv : v.length = 8) (hW : Ws h) (hV : Ws v) : Ev (fun k => spec_l04Block.l3 k h v [] 0) (impl_Sha.add h v 8) := by
  obtain ⟨L, hL⟩ : ∃ L, L = impl_Sha.add h v 8 := ⟨_, rfl⟩
  have hat : ∀ i, i < 8 → L[i]? = some ((h.getD i 0 + v.getD i 0) % 4294967296) := by
    intro i hi
    rw [hL]
    obtain ⟨h0, h1, h2, h3, h4, h5, h6, h7, rfl⟩ := impl_Sha.list8 hh
    have hc : i = 0 ∨ i = 1 ∨ i = 2 ∨ i = 3 ∨ i = 4 ∨ i = 5 ∨ i = 6 ∨ i = 7 := by omega
    rcases hc with rfl | rfl | rfl | rfl | rfl | rfl | rfl | rfl <;> rfl
  have hLl : L.length = 8 := by rw [hL, impl_Sha.add_len]; exact hh
  rw [← hL]
  have loop : ∀ d i : Nat, i + d = 8 → Ev (fun k => spec_l04Block.l3 k h v (L.take i) (i : Int)) L := by
    intro d
    induction d with
    | zero =>
      intro i hi
      refine Ev.step (fun k => spec_l04Block.l3.eq_2 _ _ _ _ k) (Ev_neg (by omega) (Ev_eq (Ev_some _) ?_))
      exact List.take_of_length_le (by omega)
    | succ d ih =>
      intro i hi
      have e4 : wrap64 ((i : Int) + 1) = ((i + 1 : Nat) : Int) := by rw [wrap64_id (by omega) (by omega)]; push_cast; rfl
      refine Ev.step (fun k => spec_l04Block.l3.eq_2 _ _ _ _ k) (Ev_pos (by omega) (Ev_pos (by omega) (Ev_pos (by omega) (Ev_pos (by omega) (Ev_pos (by rw [List.length_take]; omega) ?_)))))
      obtain ⟨z0, z1⟩ := Ws_getD hW i
      obtain ⟨u0, u1⟩ := Ws_getD hV i
      rw [e4, rd_nat, rd_nat, wrap64_id (by omega) (by omega), mask32 _ (by omega) (by omega)]
      have hlt : i < L.length := by omega
      have hx : L[i] = (h.getD i 0 + v.getD i 0) % 4294967296 := by
        have := hat i (by omega)
        rw [List.getElem?_eq_getElem hlt] at this
        exact Option.some.inj this
      rw [← hx, ← List.take_succ_eq_append_getElem hlt]
      exact ih (i + 1) (by omega)
  exact loop 8 0 rfl
theorem w_congr {m m2 : List Int} (h : ∀ j, j < 64 → m.getD j 0 = m2.getD j 0) : ∀ i, impl_Sha.w m i = impl_Sha.w m2 i
  | 0 => rfl
  | i + 1 => by
    rw [impl_Sha.w, impl_Sha.w, w_congr h i]
    congr 1
    by_cases c : i < 16
    · rw [if_pos c, if_pos c]
      unfold impl_Sha.ld
      rw [h (4 * i) (by omega), h (4 * i + 1) (by omega), h (4 * i + 2) (by omega), h (4 * i + 3) (by omega)]
    · rw [if_neg c, if_neg c]
theorem block_Ws {h m : List Int} (hh : h.length = 8) : Ws (impl_Sha.block h m) ∧ (impl_Sha.block h m).length = 8 := by
  unfold impl_Sha.block
  refine ⟨?_, by rw [impl_Sha.add_len]; exact hh⟩
  have hat : ∀ (h v : List Int), h.length = 8 → Ws (impl_Sha.add h v 8) := by
    intro h v hh
    obtain ⟨h0, h1, h2, h3, h4, h5, h6, h7, rfl⟩ := impl_Sha.list8 hh
    have e : impl_Sha.add [h0, h1, h2, h3, h4, h5, h6, h7] v 8 = [(h0 + v.getD 0 0) % 4294967296, (h1 + v.getD 1 0) % 4294967296, (h2 + v.getD 2 0) % 4294967296, (h3 + v.getD 3 0) % 4294967296, (h4 + v.getD 4 0) % 4294967296, (h5 + v.getD 5 0) % 4294967296, (h6 + v.getD 6 0) % 4294967296, (h7 + v.getD 7 0) % 4294967296] := rfl
    rw [e]
    intro x hx
    simp only [List.mem_cons, List.not_mem_nil, or_false] at hx
    rcases hx with rfl | rfl | rfl | rfl | rfl | rfl | rfl | rfl <;> exact ⟨by omega, by omega⟩
  exact hat _ _ hh
theorem block_ev (h m y : List Int) (hh : h.length = 8) (hW : Ws h) (hm : m.length = 64) (hu : ∀ i, 0 ≤ m.getD i 0 ∧ m.getD i 0 < 256) (hy : ∀ j, j < 64 → m.getD j 0 = y.getD j 0) :
    Ev (fun k => spec_l04Block.f k h impl_Sha.K m) (impl_Sha.block h y) := by
  have hw : impl_Sha.block h y = impl_Sha.block h m := by unfold impl_Sha.block; rw [w_congr hy 64]
  rw [hw]
  unfold impl_Sha.block
  obtain ⟨W, hw64⟩ : ∃ W, impl_Sha.w m 64 = W := ⟨_, rfl⟩
  have wl := impl_Sha.w_len m 64
  have wW := w_Ws hu 64
  rw [hw64] at wl wW ⊢
  obtain ⟨V, hv64⟩ : ∃ V, impl_Sha.vs W h 64 = V := ⟨_, rfl⟩
  have vl := impl_Sha.vs_len W h hh 64
  have vW := vs_Ws (ws := W) hW 64
  rw [hv64] at vl vW ⊢
  have r3 := l3_ev h V hh vl hW vW
  have r2 := l2_ev h W hh hW wl wW _ _ hv64 r3 64 0 rfl
  have r1 := l1_ev h impl_Sha.K m hu hh _ _ hw64 r2 48 16 rfl (Nat.le_refl _)
  exact Ev_pos (by decide) (l0_ev h impl_Sha.K m hm hu _ r1 16 0 rfl)
/-! the digits -/
theorem enc16 (d : Int) (h0 : 0 ≤ d) (h1 : d < 16) : Go.Utf8.encode (bt (⟨#[48, 49, 50, 51, 52, 53, 54, 55, 56, 57, 97, 98, 99, 100, 101, 102]⟩ : ByteArray) d) = strOfNums [bt (⟨#[48, 49, 50, 51, 52, 53, 54, 55, 56, 57, 97, 98, 99, 100, 101, 102]⟩ : ByteArray) d] := by
  have hc : d = 0 ∨ d = 1 ∨ d = 2 ∨ d = 3 ∨ d = 4 ∨ d = 5 ∨ d = 6 ∨ d = 7 ∨ d = 8 ∨ d = 9 ∨ d = 10 ∨ d = 11 ∨ d = 12 ∨ d = 13 ∨ d = 14 ∨ d = 15 := by omega
  rcases hc with rfl | rfl | rfl | rfl | rfl | rfl | rfl | rfl | rfl | rfl | rfl | rfl | rfl | rfl | rfl | rfl <;> (show (_ : ByteArray) = _; kernel_rfl)
theorem str_append (a b : List Int) : strOfNums (a ++ b) = strOfNums a ++ strOfNums b := by
  unfold strOfNums
  rw [List.map_append]
  apply ByteArray.ext
  simp [ByteArray.data_append]
theorem hex_ev (x : Int) (hx : W32 x) : Ev (fun k => spec_l04Hex.f k x) (strOfNums (impl_Sha.hex x)) := by
  have hl : (impl_Sha.hex x).length = 8 := by simp [impl_Sha.hex]
  have loop : ∀ d j : Nat, j + d = 8 → Ev (fun k => spec_l04Hex.l0 k x (strOfNums ((impl_Sha.hex x).take j)) (28 - 4 * (j : Int))) (strOfNums (impl_Sha.hex x)) := by
    intro d
    induction d with
    | zero =>
      intro j hj
      refine Ev.step (fun k => spec_l04Hex.l0.eq_2 _ _ _ k) (Ev_neg (by omega) (Ev_eq (Ev_some _) ?_))
      rw [List.take_of_length_le (by omega)]
    | succ d ih =>
      intro j hj
      have e1 : IntKind.u64.wrap (28 - 4 * (j : Int)) = ((28 - 4 * j : Nat) : Int) := by rw [show IntKind.u64.wrap (28 - 4 * (j : Int)) = (28 - 4 * (j : Int)) % 18446744073709551616 from rfl]; omega
      have e2 : shr .i64 x ((28 - 4 * j : Nat) : Int) = x / 2 ^ (28 - 4 * j) := by
        unfold shr
        rw [show min ((28 - 4 * j : Nat) : Int).toNat IntKind.i64.bits = 28 - 4 * j from by show min ((28 - 4 * j : Nat) : Int).toNat 64 = 28 - 4 * j; omega]
      have hq : W32 (x / 2 ^ (28 - 4 * j)) := by
        obtain ⟨a, rfl, ha⟩ := W32_nat hx
        have e : (a : Int) / 2 ^ (28 - 4 * j) = ((a / 2 ^ (28 - 4 * j) : Nat) : Int) := by push_cast; rfl
        rw [e]
        exact nat_W32 (Nat.lt_of_le_of_lt (Nat.div_le_self _ _) ha)
      have e3 := (and_same hq (show W32 15 from ⟨by decide, by decide⟩)).1
      have h15 := impl_Sha.and15 (x / 2 ^ (28 - 4 * j))
      have e5 : wrap64 (28 - 4 * (j : Int) - 4) = 28 - 4 * ((j + 1 : Nat) : Int) := by rw [wrap64_id (by omega) (by omega)]; push_cast; omega
      have hg : (impl_Sha.hex x)[j]'(by omega) = bt (⟨#[48, 49, 50, 51, 52, 53, 54, 55, 56, 57, 97, 98, 99, 100, 101, 102]⟩ : ByteArray) (Go.bits .and .u32 (x / 2 ^ (28 - 4 * j)) 15) := by simp [impl_Sha.hex, impl_Sha.digit]
      refine Ev.step (fun k => spec_l04Hex.l0.eq_2 _ _ _ k) (Ev_pos (by omega) ?_)
      rw [e1, e2, e3, e5, enc16 _ h15.1 h15.2]
      refine Ev_pos (by omega) (Ev_pos h15.1 (Ev_pos h15.2 (Ev_pos ?_ ?_)))
      · rw [strOfNums_size, strOfNums_size, List.length_take]
        simp
        omega
      · rw [← str_append, ← hg, ← List.take_succ_eq_append_getElem (show j < (impl_Sha.hex x).length by omega)]
        exact ih (j + 1) (by omega)
  exact loop 8 0 rfl
theorem l4_ev (hs : List Int) (hl : hs.length = 8) (hW : Ws hs) : Ev (fun k => spec_l04Sha.l4 k hs (⟨#[]⟩ : ByteArray) 0) (strOfNums (hs.flatMap impl_Sha.hex)) := by
  have loop : ∀ d i : Nat, i + d = 8 → Ev (fun k => spec_l04Sha.l4 k hs (strOfNums ((hs.take i).flatMap impl_Sha.hex)) (i : Int)) (strOfNums (hs.flatMap impl_Sha.hex)) := by
    intro d
    induction d with
    | zero =>
      intro i hi
      refine Ev.step (fun k => spec_l04Sha.l4.eq_2 _ _ _ k) (Ev_neg (by omega) (Ev_eq (Ev_some _) ?_))
      rw [List.take_of_length_le (by omega)]
    | succ d ih =>
      intro i hi
      have e4 : wrap64 ((i : Int) + 1) = ((i + 1 : Nat) : Int) := by rw [wrap64_id (by omega) (by omega)]; push_cast; rfl
      refine Ev.step (fun k => spec_l04Sha.l4.eq_2 _ _ _ k) (Ev_pos (by omega) (Ev_pos (by omega) (Ev_pos (by omega) ?_)))
      rw [rd_nat, e4]
      refine Ev.bind (hex_ev _ (Ws_getD hW i)) (Ev_pos ?_ ?_)
      · rw [strOfNums_size, strOfNums_size]
        have := impl_Sha.hexes_len hs i
        simp [impl_Sha.hex] at this ⊢
        omega
      · have hlt : i < hs.length := by omega
        rw [← str_append]
        have := ih (i + 1) (by omega)
        rw [List.take_succ_eq_append_getElem hlt, List.flatMap_append] at this
        have hg : hs.getD i 0 = hs[i] := by rw [List.getD_eq_getElem?_getD, List.getElem?_eq_getElem hlt]; rfl
        rw [hg]
        simpa using this
  exact loop 8 0 rfl
theorem l3s_ev (M : List Int) (hu : ∀ i, 0 ≤ M.getD i 0 ∧ M.getD i 0 < 256) (hM : M.length ≤ 1000000) (R : ByteArray) : ∀ n j : Nat, M.length = 64 * (j + n) → ∀ h : List Int, h.length = 8 → Ws h →
    Ev (fun k => spec_l04Sha.l4 k (impl_Sha.blocks n (M.drop (64 * j)) h) (⟨#[]⟩ : ByteArray) 0) R → Ev (fun k => spec_l04Sha.l3 k impl_Sha.K h M ((64 * j : Nat) : Int)) R := by
  intro n
  induction n with
  | zero =>
    intro j hj h hh hW hR
    exact Ev.step (fun k => spec_l04Sha.l3.eq_2 _ _ _ _ k) (Ev_neg (by omega) hR)
  | succ n ih =>
    intro j hj h hh hW hR
    have e1 : wrap64 (((64 * j : Nat) : Int) + 64) = ((64 * (j + 1) : Nat) : Int) := by rw [wrap64_id (by omega) (by omega)]; push_cast; omega
    refine Ev.step (fun k => spec_l04Sha.l3.eq_2 _ _ _ _ k) (Ev_pos (by omega) (Ev_pos (by omega) ?_))
    rw [e1, Int.toNat_natCast, Int.toNat_natCast]
    have hl : ((M.take (64 * (j + 1))).drop (64 * j)).length = 64 := by rw [List.length_drop, List.length_take]; omega
    have hg : ∀ i, i < 64 → ((M.take (64 * (j + 1))).drop (64 * j)).getD i 0 = (M.drop (64 * j)).getD i 0 := by
      intro i hi
      simp only [List.getD_eq_getElem?_getD, List.getElem?_drop, List.getElem?_take]
      rw [if_pos (by omega)]
    have hu2 : ∀ i, 0 ≤ ((M.take (64 * (j + 1))).drop (64 * j)).getD i 0 ∧ ((M.take (64 * (j + 1))).drop (64 * j)).getD i 0 < 256 := by
      intro i
      by_cases hi : i < 64
      · rw [hg i hi]
        have := hu (64 * j + i)
        simpa [List.getD_eq_getElem?_getD, List.getElem?_drop] using this
      · rw [List.getD_eq_getElem?_getD, List.getElem?_eq_none (by omega)]
        decide
    refine Ev_pos (by omega) (Ev_pos (by omega) (Ev.bind (block_ev h _ (M.drop (64 * j)) hh hW hl hu2 hg) ?_))
    obtain ⟨b1, b2⟩ := block_Ws (h := h) (m := M.drop (64 * j)) hh
    refine ih (j + 1) (by omega) _ b2 b1 ?_
    rw [impl_Sha.blocks, List.drop_drop] at hR
    rw [show 64 * (j + 1) = 64 * j + 64 by omega]
    exact hR
theorem H_Ws : Ws impl_Sha.H := by
  intro x hx
  have : impl_Sha.H.all (fun x => decide (0 ≤ x) && decide (x < 4294967296)) = true := by decide
  rw [List.all_eq_true] at this
  have h := this x hx
  simp at h
  exact h
/-- The padding, and what follows. -/
theorem pad_ev (l : List Int) (hl : l.length ≤ 65536) (hu : ∀ x ∈ l, 0 ≤ x ∧ x < 256) : Ev (fun k => spec_l04Sha.l1 k l impl_Sha.K impl_Sha.H (l ++ [128])) (strOfNums (impl_Sha.out l)) := by
  obtain ⟨hm1, hm2⟩ := impl_Sha.pad_mod l
  have hpu := impl_Sha.pad_u8 l hu
  have hpu2 : ∀ i, 0 ≤ (impl_Sha.pad l).getD i 0 ∧ (impl_Sha.pad l).getD i 0 < 256 := by
    intro i
    by_cases hi : i < (impl_Sha.pad l).length
    · rw [List.getD_eq_getElem?_getD, List.getElem?_eq_getElem hi]
      exact hpu _ (List.getElem_mem hi)
    · rw [List.getD_eq_getElem?_getD, List.getElem?_eq_none (by omega)]
      decide
  have hblk : ∀ n (m h : List Int), h.length = 8 → Ws h → (impl_Sha.blocks n m h).length = 8 ∧ Ws (impl_Sha.blocks n m h) := by
    intro n
    induction n with
    | zero => intro m h h1 h2; exact ⟨h1, h2⟩
    | succ n ih => intro m h h1 h2; rw [impl_Sha.blocks]; obtain ⟨b1, b2⟩ := block_Ws (h := h) (m := m) h1; exact ih _ _ b2 b1
  have s3 : Ev (fun k => spec_l04Sha.l3 k impl_Sha.K impl_Sha.H (impl_Sha.pad l) 0) (strOfNums (impl_Sha.out l)) := by
    obtain ⟨c1, c2⟩ := hblk ((impl_Sha.pad l).length / 64) (impl_Sha.pad l) impl_Sha.H (by decide) H_Ws
    exact l3s_ev (impl_Sha.pad l) hpu2 (by omega) _ ((impl_Sha.pad l).length / 64) 0 (by omega) impl_Sha.H (by decide) H_Ws (l4_ev _ c1 c2)
  obtain ⟨z, hz⟩ : ∃ z, z = (l ++ [128]) ++ List.replicate (impl_Sha.zeros l.length) 0 := ⟨_, rfl⟩
  have hzl : z.length ≤ 65700 := by
    rw [hz]
    have := impl_Sha.zeros_lt l.length
    simp
    omega
  have hpz : impl_Sha.pad l = z ++ impl_Sha.tail l.length := by rw [hz]; rfl
  have htl := impl_Sha.tail_len l.length
  have s2 : ∀ d j : Nat, j + d = 8 → Ev (fun k => spec_l04Sha.l2 k impl_Sha.K impl_Sha.H (z ++ (impl_Sha.tail l.length).take j) ((l.length : Int) * 8) (7 - (j : Int))) (strOfNums (impl_Sha.out l)) := by
    intro d
    induction d with
    | zero =>
      intro j hj
      refine Ev.step (fun k => spec_l04Sha.l2.eq_2 _ _ _ _ _ k) (Ev_neg (by omega) ?_)
      rw [List.take_of_length_le (by omega), ← hpz]
      exact s3
    | succ d ih =>
      intro j hj
      have e1 : wrap64 (8 * (7 - (j : Int))) = 8 * (7 - (j : Int)) := wrap64_id (by omega) (by omega)
      have e2 : IntKind.u64.wrap (8 * (7 - (j : Int))) = ((8 * (7 - j) : Nat) : Int) := by rw [show IntKind.u64.wrap (8 * (7 - (j : Int))) = (8 * (7 - (j : Int))) % 18446744073709551616 from rfl]; omega
      have e3 : shr .i64 ((l.length : Int) * 8) ((8 * (7 - j) : Nat) : Int) = (l.length : Int) * 8 / 2 ^ (8 * (7 - j)) := by
        unfold shr
        rw [show min ((8 * (7 - j) : Nat) : Int).toNat IntKind.i64.bits = 8 * (7 - j) from by show min ((8 * (7 - j) : Nat) : Int).toNat 64 = 8 * (7 - j); omega]
      have e4 : wrap64 (7 - (j : Int) - 1) = 7 - ((j + 1 : Nat) : Int) := by rw [wrap64_id (by omega) (by omega)]; push_cast; omega
      refine Ev.step (fun k => spec_l04Sha.l2.eq_2 _ _ _ _ _ k) (Ev_pos (by omega) ?_)
      rw [e1, e2, e3, e4]
      refine Ev_pos (by omega) (Ev_pos (by rw [List.length_append, List.length_take]; omega) ?_)
      have hlt : j < (impl_Sha.tail l.length).length := by omega
      have hg : (impl_Sha.tail l.length)[j] = (l.length : Int) * 8 / 2 ^ (8 * (7 - j)) % 256 := by simp [impl_Sha.tail]
      rw [← hg, List.append_assoc, ← List.take_succ_eq_append_getElem hlt]
      exact ih (j + 1) (by omega)
  have e8 : wrap64 (8 * (l.length : Int)) = (l.length : Int) * 8 := by rw [wrap64_id (by omega) (by omega)]; omega
  have s1 : ∀ d j : Nat, j + d = impl_Sha.zeros l.length → Ev (fun k => spec_l04Sha.l1 k l impl_Sha.K impl_Sha.H ((l ++ [128]) ++ List.replicate j 0)) (strOfNums (impl_Sha.out l)) := by
    intro d
    induction d with
    | zero =>
      intro j hj
      refine Ev.step (fun k => spec_l04Sha.l1.eq_2 _ _ _ _ k) (Ev_pos ?_ ?_)
      · unfold impl_Sha.zeros at hj
        simp
        omega
      · rw [e8]
        have := s2 8 0 rfl
        rw [hz] at this
        obtain rfl : j = impl_Sha.zeros l.length := by omega
        simpa using this
    | succ d ih =>
      intro j hj
      refine Ev.step (fun k => spec_l04Sha.l1.eq_2 _ _ _ _ k) (Ev_neg ?_ (Ev_pos ?_ ?_))
      · unfold impl_Sha.zeros at hj
        simp
        omega
      · have := impl_Sha.zeros_lt l.length
        simp
        omega
      · rw [List.append_assoc, ← List.replicate_succ']
        exact ih (j + 1) (by omega)
  have := s1 (impl_Sha.zeros l.length) 0 (by omega)
  simpa using this

theorem cube_all (i : Nat) (hi : i < 64) : spec_l04Frac.f 200 (primes64.getD i 0) 3 = some (impl_Sha.K.getD i 0) := by
  have hc : i = 0 ∨ i = 1 ∨ i = 2 ∨ i = 3 ∨ i = 4 ∨ i = 5 ∨ i = 6 ∨ i = 7 ∨ i = 8 ∨ i = 9 ∨ i = 10 ∨ i = 11 ∨ i = 12 ∨ i = 13 ∨ i = 14 ∨ i = 15 ∨ i = 16 ∨ i = 17 ∨ i = 18 ∨ i = 19 ∨ i = 20 ∨ i = 21 ∨ i = 22 ∨ i = 23 ∨ i = 24 ∨ i = 25 ∨ i = 26 ∨ i = 27 ∨ i = 28 ∨ i = 29 ∨ i = 30 ∨ i = 31 ∨ i = 32 ∨ i = 33 ∨ i = 34 ∨ i = 35 ∨ i = 36 ∨ i = 37 ∨ i = 38 ∨ i = 39 ∨ i = 40 ∨ i = 41 ∨ i = 42 ∨ i = 43 ∨ i = 44 ∨ i = 45 ∨ i = 46 ∨ i = 47 ∨ i = 48 ∨ i = 49 ∨ i = 50 ∨ i = 51 ∨ i = 52 ∨ i = 53 ∨ i = 54 ∨ i = 55 ∨ i = 56 ∨ i = 57 ∨ i = 58 ∨ i = 59 ∨ i = 60 ∨ i = 61 ∨ i = 62 ∨ i = 63 := by omega
  rcases hc with rfl | rfl | rfl | rfl | rfl | rfl | rfl | rfl | rfl | rfl | rfl | rfl | rfl | rfl | rfl | rfl | rfl | rfl | rfl | rfl | rfl | rfl | rfl | rfl | rfl | rfl | rfl | rfl | rfl | rfl | rfl | rfl | rfl | rfl | rfl | rfl | rfl | rfl | rfl | rfl | rfl | rfl | rfl | rfl | rfl | rfl | rfl | rfl | rfl | rfl | rfl | rfl | rfl | rfl | rfl | rfl | rfl | rfl | rfl | rfl | rfl | rfl | rfl | rfl
  · exact cube0
  · exact cube1
  · exact cube2
  · exact cube3
  · exact cube4
  · exact cube5
  · exact cube6
  · exact cube7
  · exact cube8
  · exact cube9
  · exact cube10
  · exact cube11
  · exact cube12
  · exact cube13
  · exact cube14
  · exact cube15
  · exact cube16
  · exact cube17
  · exact cube18
  · exact cube19
  · exact cube20
  · exact cube21
  · exact cube22
  · exact cube23
  · exact cube24
  · exact cube25
  · exact cube26
  · exact cube27
  · exact cube28
  · exact cube29
  · exact cube30
  · exact cube31
  · exact cube32
  · exact cube33
  · exact cube34
  · exact cube35
  · exact cube36
  · exact cube37
  · exact cube38
  · exact cube39
  · exact cube40
  · exact cube41
  · exact cube42
  · exact cube43
  · exact cube44
  · exact cube45
  · exact cube46
  · exact cube47
  · exact cube48
  · exact cube49
  · exact cube50
  · exact cube51
  · exact cube52
  · exact cube53
  · exact cube54
  · exact cube55
  · exact cube56
  · exact cube57
  · exact cube58
  · exact cube59
  · exact cube60
  · exact cube61
  · exact cube62
  · exact cube63
theorem root_all (i : Nat) (hi : i < 8) : spec_l04Frac.f 200 (primes64.getD i 0) 2 = some (impl_Sha.H.getD i 0) := by
  have hc : i = 0 ∨ i = 1 ∨ i = 2 ∨ i = 3 ∨ i = 4 ∨ i = 5 ∨ i = 6 ∨ i = 7 := by omega
  rcases hc with rfl | rfl | rfl | rfl | rfl | rfl | rfl | rfl
  · exact root0
  · exact root1
  · exact root2
  · exact root3
  · exact root4
  · exact root5
  · exact root6
  · exact root7

theorem shaconst_ev (l : List Int) (R : ByteArray) (hl : l.length ≤ 65536) (hR : Ev (fun k => spec_l04Sha.l1 k l impl_Sha.K impl_Sha.H (l ++ [128])) R) :
    ∀ d i : Nat, i + d = 64 → Ev (fun k => spec_l04Sha.l0 k l primes64 (impl_Sha.K.take i) (impl_Sha.H.take i) (i : Int)) R := by
  have pl : primes64.length = 64 := by decide
  have kl : impl_Sha.K.length = 64 := by decide
  have hhl : impl_Sha.H.length = 8 := by decide
  intro d
  induction d with
  | zero =>
    intro i hi
    rw [List.take_of_length_le (by omega), List.take_of_length_le (by omega)]
    refine Ev.step (fun k => spec_l04Sha.l0.eq_2 _ _ _ _ _ k) (Ev_neg (by omega) (Ev_bindc rfl (Ev_pos ?_ (Ev_bindc rfl (Ev_pos ?_ ?_)))))
    · simp; omega
    · simp; omega
    · simpa using hR
  | succ d ih =>
    intro i hi
    have e4 : wrap64 ((i : Int) + 1) = ((i + 1 : Nat) : Int) := by rw [wrap64_id (by omega) (by omega)]; push_cast; rfl
    have f3 : Ev (fun k => spec_l04Frac.f k (primes64.getD i 0) 3) (impl_Sha.K.getD i 0) := Ev.of (fun k => spec_l04Frac.mono _ _ k) (cube_all i (by omega))
    have hk : impl_Sha.K.take i ++ [impl_Sha.K.getD i 0] = impl_Sha.K.take (i + 1) := by
      rw [List.take_succ_eq_append_getElem (show i < impl_Sha.K.length by omega), List.getD_eq_getElem?_getD, List.getElem?_eq_getElem (show i < impl_Sha.K.length by omega)]
      rfl
    have nx := ih (i + 1) (by omega)
    refine Ev.step (fun k => spec_l04Sha.l0.eq_2 _ _ _ _ _ k) (Ev_pos (by omega) (Ev_pos (by omega) (Ev_pos (by omega) ?_)))
    rw [rd_nat, e4]
    clear e4
    refine Ev.bind f3 (Ev_pos (by rw [List.length_take]; omega) (Ev_bindc rfl ?_))
    rw [hk]
    by_cases h8 : i < 8
    · have f2 : Ev (fun k => spec_l04Frac.f k (primes64.getD i 0) 2) (impl_Sha.H.getD i 0) := Ev.of (fun k => spec_l04Frac.mono _ _ k) (root_all i h8)
      have hh : impl_Sha.H.take i ++ [impl_Sha.H.getD i 0] = impl_Sha.H.take (i + 1) := by
        rw [List.take_succ_eq_append_getElem (show i < impl_Sha.H.length by omega), List.getD_eq_getElem?_getD, List.getElem?_eq_getElem (show i < impl_Sha.H.length by omega)]
        rfl
      refine Ev_pos (by omega) (Ev.bind f2 (Ev_pos (by rw [List.length_take]; omega) ?_))
      rw [hh]
      exact nx
    · refine Ev_neg (by omega) ?_
      rw [List.take_of_length_le (show impl_Sha.H.length ≤ i by omega)]
      rw [List.take_of_length_le (show impl_Sha.H.length ≤ i + 1 by omega)] at nx
      exact nx
theorem sha_ev (l : List Int) (hu : ∀ x ∈ l, 0 ≤ x ∧ x < 256) (hl : l.length ≤ 65536) : Ev (fun k => spec_l04Sha.f k l) (strOfNums (impl_Sha.out l)) :=
  Ev.bind (Ev.of (fun k => spec_l04Primes.mono _ k) primes_eq) (shaconst_ev l _ hl (pad_ev l hl hu) 64 0 rfl)
theorem Sha_both (l : List Int) (hu : ∀ x ∈ l, 0 ≤ x ∧ x < 256) : ∃ r, Ev (fun k => spec_Sha.f k l) r ∧ impl_Sha.f l = some r := by
  unfold impl_Sha.f
  by_cases h6 : 65536 < l.length
  · exact ⟨_, Ev_pos (by omega) (Ev_some _), if_pos h6⟩
  · refine ⟨strOfNums (impl_Sha.out l), Ev_neg (by omega) (Ev.bind (sha_ev l hu (by omega)) (Ev_some _)), ?_⟩
    rw [if_neg h6, if_pos]
    rw [List.all_eq_true]
    intro x hx
    exact decide_eq_true (hu x hx)

theorem FnExactSha : laws_FnExactSha.Pure := by
  intro l _ _ hl
  have hl := u8_bounds hl
  refine Ev.rounds ?_
  by_cases h : (l.length : Int) > 1048576
  · exact Ev_pos h (Ev_some _)
  have ht := toByteS_ev l (by omega)
  have he := eqByteS_self l (by omega)
  obtain ⟨r, h1, h2⟩ := Sha_both l hl
  exact Ev_neg h (Ev.bind ht (Ev.bind h1 (Ev.bind ht (Ev_bindc h2 (Ev_pos rfl (Ev.bind ht (Ev.bind he (Ev_pos rfl (Ev_some _)))))))))

end Go.Proofs.Ytcgkfijigjcmpaa.Pure
