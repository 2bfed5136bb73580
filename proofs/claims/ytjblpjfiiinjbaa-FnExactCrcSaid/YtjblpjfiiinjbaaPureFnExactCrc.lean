/- FnExactCrc: for all bytes the program's Crc and the reference's answer alike, and the bytes stay. No conditions. -/
import Derived.Test.YtjblpjfiiinjbaaPFnExactCrcx1
import Derived.OpenShut
namespace Go.Proofs.Ytjblpjfiiinjbaa.Pure
open Go.RowKit Go.Proofs.Ytjblpjfiiinjbaa.PFnExactCrc Go.Proofs.YtjblpjfiiinjbaaW.PrintWords Go.Proofs.YtjblpjfiiinjbaaW.PrintLast Go.Proofs.YtjblpjfiiinjbaaW.PrintMore
set_option linter.unusedVariables false
set_option linter.unusedSimpArgs false

theorem Ev_pos {α : Type} {c : Prop} [Decidable c] {A B : Nat → Option α} {r : α} (h : c) (e : Ev A r) : Ev (fun k => if c then A k else B k) r := by
  simpa only [if_pos h] using e
theorem Ev_neg {α : Type} {c : Prop} [Decidable c] {A B : Nat → Option α} {r : α} (h : ¬ c) (e : Ev B r) : Ev (fun k => if c then A k else B k) r := by
  simpa only [if_neg h] using e
theorem Ev_some {α : Type} (r : α) : Ev (fun _ => some r) r := Ev.now r
theorem Ev_const {α : Type} {x : Option α} {r : α} (h : x = some r) : Ev (fun _ => x) r := ⟨0, fun _ _ => h⟩
theorem Ev_eq {α : Type} {A : Nat → Option α} {r q : α} (h : Ev A r) (e : r = q) : Ev A q := e ▸ h
theorem Ev_bindc {α β : Type} {x : Option α} {f : Nat → α → Option β} {a : α} {r : β} (h : x = some a) (k : Ev (fun n => f n a) r) : Ev (fun n => x.bind (f n)) r := Ev.bind (g := fun _ => x) (Ev_const h) k
theorem wrap64_id {x : Int} (h0 : -9223372036854775808 ≤ x) (h1 : x ≤ 9223372036854775807) : wrap64 x = x := by
  unfold wrap64; omega
theorem int_bounds {x : Int} (h : (Lit.int .i64 x).wf = true) : -9223372036854775808 ≤ x ∧ x < 9223372036854775808 := by
  have := Go.bounds_i64 h
  omega
theorem u8_bounds {l : List Int} (h : ∀ x ∈ l, (Lit.int .u8 x).wf = true) : ∀ x ∈ l, 0 ≤ x ∧ x < 256 := by
  intro x hx
  have := Go.bounds_u8 (h x hx)
  omega

theorem rd_cons0 (x : Int) (l : List Int) : rd (x :: l) 0 = x := rfl
theorem rd_append_len (p : List Int) (x : Int) (l : List Int) : rd (p ++ x :: l) (p.length : Int) = x := by
  unfold rd
  simp [List.getD]
theorem eqByteS_go (a : List Int) (ha : (a.length : Int) ≤ 281474976710656) (d : Nat) : ∀ i : Int, 0 ≤ i → i ≤ (a.length : Int) → (a.length : Int) - i = d → Ev (fun k => laws_eqByteS.l0 k a a i) true := by
  induction d with
  | zero =>
    intro i h0 h1 hd
    exact Ev.step (fun k => laws_eqByteS.l0.eq_2 a a i k) (Ev_neg (by omega) (Ev_some _))
  | succ d ih =>
    intro i h0 h1 hd
    have e := ih (i + 1) (by omega) (by omega) (by omega)
    have hw : wrap64 (i + 1) = i + 1 := wrap64_id (by omega) (by omega)
    rw [← hw] at e
    exact Ev.step (fun k => laws_eqByteS.l0.eq_2 a a i k) (Ev_pos (by omega) (Ev_pos h0 (Ev_pos (by omega) (Ev_pos rfl e))))
theorem eqByteS_self (a : List Int) (ha : (a.length : Int) ≤ 281474976710656) : Ev (fun k => laws_eqByteS.f k a a) true :=
  Ev_pos rfl (eqByteS_go a ha a.length 0 (by omega) (by omega) (by omega))

theorem rd_mid (p q : List Int) (x : Int) (n : Nat) (h : n = p.length) : rd (p ++ x :: q) (n : Int) = x := by
  subst h
  unfold rd
  simp [List.getD]
theorem toByteS_go : ∀ (suf pre zs : List Int), zs.length = suf.length → (pre.length : Int) + (suf.length : Int) ≤ 281474976710656 →
    Ev (fun k => laws_toByteS.l0 k (pre ++ suf) (pre ++ zs) (pre.length : Int)) (pre ++ suf) := by
  intro suf
  induction suf with
  | nil =>
    intro pre zs hz h
    have : zs = [] := List.eq_nil_of_length_eq_zero (by simpa using hz)
    subst this
    exact Ev.step (fun k => laws_toByteS.l0.eq_2 _ _ _ k) (Ev_neg (by simp) (Ev_some _))
  | cons x suf ih =>
    intro pre zs hz h
    cases zs with
    | nil => simp at hz
    | cons z zs =>
      simp only [List.length_cons] at hz h
      have e := ih (pre ++ [x]) zs (by omega) (by simp; omega)
      have hw : wrap64 ((pre.length : Int) + 1) = ((pre ++ [x]).length : Int) := by rw [wrap64_id (by omega) (by omega)]; simp
      have h1 : (pre ++ [x]) ++ suf = pre ++ x :: suf := by simp
      have h2 : (pre ++ [x]) ++ zs = (pre ++ z :: zs).set ((pre.length : Int)).toNat (rd (pre ++ x :: suf) (pre.length : Int)) := by
        rw [rd_mid pre suf x pre.length rfl]; simp
      rw [← hw, h1, h2] at e
      exact Ev.step (fun k => laws_toByteS.l0.eq_2 _ _ _ k) (Ev_pos (by simp; omega) (Ev_pos (by omega) (Ev_pos (by simp; omega) e)))
theorem toByteS_ev (l : List Int) (h : (l.length : Int) ≤ 281474976710656) : Ev (fun k => laws_toByteS.f k l) l := by
  have e := toByteS_go l [] (List.replicate l.length 0) (by simp) (by simpa using h)
  exact Ev_pos (by omega) (Ev_pos (by omega) (by simpa using e))

theorem bits_xor_nat (k : IntKind) (j : Nat) (hj : j ≤ k.bits) (hk : ∀ n : Int, 0 ≤ n → n < 2 ^ j → k.wrap n = n) (a b : Nat) (ha : a < 2 ^ j) (hb : b < 2 ^ j) : Go.bits .xor k (a : Int) (b : Int) = ((a ^^^ b : Nat) : Int) := by
  have hp : 2 ^ j ≤ 2 ^ k.bits := Nat.pow_le_pow_right (by decide) hj
  have ha' : a % 2 ^ k.bits = a := Nat.mod_eq_of_lt (Nat.lt_of_lt_of_le ha hp)
  have hb' : b % 2 ^ k.bits = b := Nat.mod_eq_of_lt (Nat.lt_of_lt_of_le hb hp)
  have cast : ∀ n : Nat, n < 2 ^ j → ((n : Nat) : Int) < 2 ^ j := fun n h => by exact_mod_cast h
  simp only [Go.bits, BitVec.ofInt_natCast, BitVec.toNat_xor, BitVec.toNat_ofNat, ha', hb']
  exact hk _ (Int.natCast_nonneg _) (cast _ (Nat.xor_lt_two_pow ha hb))
theorem wraps_u32 (n : Int) (h₀ : 0 ≤ n) (h₁ : n < 2 ^ 32) : IntKind.u32.wrap n = n := by rw [IntKind.wrap_u32]; omega
theorem wraps_i64b (n : Int) (h₀ : 0 ≤ n) (h₁ : n < 2 ^ 63) : IntKind.i64.wrap n = n := by rw [IntKind.wrap_i64]; omega
theorem xor_u32 (a b : Nat) (ha : a < 4294967296) (hb : b < 4294967296) : Go.bits .xor .u32 (a : Int) (b : Int) = ((a ^^^ b : Nat) : Int) := bits_xor_nat .u32 32 (by decide) wraps_u32 a b ha hb
theorem xor_i64 (a b : Nat) (ha : a < 4294967296) (hb : b < 4294967296) : Go.bits .xor .i64 (a : Int) (b : Int) = ((a ^^^ b : Nat) : Int) := bits_xor_nat .i64 63 (by decide) wraps_i64b a b (by omega) (by omega)
theorem and1_u32 (a : Nat) (ha : a < 4294967296) : Go.bits .and .u32 (a : Int) 1 = (a : Int) % 2 := by
  have e := bits_mask .u32 32 (by decide) wraps_u32 1 (by decide) (a : Int) (by omega) (by omega)
  simpa using e
/-- One bit of the sum shifted out. -/
def crcBit (c : Nat) : Nat := if c % 2 = 1 then (c / 2) ^^^ 3988292384 else c / 2
def crcBits : Nat → Nat → Nat
  | 0, c => c
  | n + 1, c => crcBits n (crcBit c)
def crcL : List Int → Nat → Nat
  | [], c => c
  | x :: l, c => crcL l (crcBits 8 (c ^^^ x.toNat))
/-- The check sum of bytes. -/
def crcOf (l : List Int) : Nat := crcL l 4294967295 ^^^ 4294967295
theorem xor_lt32 {a b : Nat} (ha : a < 4294967296) (hb : b < 4294967296) : a ^^^ b < 4294967296 := Nat.xor_lt_two_pow (n := 32) ha hb
theorem crcBit_lt {c : Nat} (h : c < 4294967296) : crcBit c < 4294967296 := by
  unfold crcBit
  split
  · exact xor_lt32 (by omega) (by omega)
  · omega
theorem crcBits_lt : ∀ (n : Nat) {c : Nat}, c < 4294967296 → crcBits n c < 4294967296
  | 0, _, h => h
  | n + 1, _, h => crcBits_lt n (crcBit_lt h)
theorem crcL_lt : ∀ (l : List Int) {c : Nat}, (∀ x ∈ l, 0 ≤ x ∧ x < 256) → c < 4294967296 → crcL l c < 4294967296
  | [], _, _, h => h
  | x :: l, _, hl, h => crcL_lt l (fun y hy => hl y (by simp [hy])) (crcBits_lt 8 (xor_lt32 h (by have := hl x (by simp); omega)))
theorem crcOf_lt (l : List Int) (hl : ∀ x ∈ l, 0 ≤ x ∧ x < 256) : crcOf l < 4294967296 := xor_lt32 (crcL_lt l hl (by omega)) (by omega)
theorem rd_midc (p q : List Int) (x : Int) : rd (p ++ x :: q) (p.length : Int) = x := by
  unfold rd
  simp [List.getD]
theorem spec_crc_bits (l : List Int) (r : Int) (i : Int) (d : Nat) : ∀ (j : Int) (c : Nat), 0 ≤ j → 8 - j = d → c < 4294967296 → Ev (fun k => spec_l01Crc.l0 k l (crcBits d c : Nat) (wrap64 (i + 1))) r → Ev (fun k => spec_l01Crc.l1 k l (c : Int) i j) r := by
  induction d with
  | zero =>
    intro j c h0 hd hc e
    exact Ev.step (fun k => spec_l01Crc.l1.eq_2 _ _ _ _ k) (Ev_neg (by omega) e)
  | succ d ih =>
    intro j c h0 hd hc e
    have e2 := ih (j + 1) (crcBit c) (by omega) (by omega) (crcBit_lt hc) e
    have hj := Aside0.mk (show wrap64 (j + 1) = j + 1 from wrap64_id (by omega) (by omega))
    have ht : Int.tmod (c : Int) 2 = ((c % 2 : Nat) : Int) := by rw [Int.tmod_eq_emod_of_nonneg (by omega)]; omega
    have hq : wrap64 (Int.tdiv (c : Int) 2) = ((c / 2 : Nat) : Int) := by rw [Int.tdiv_eq_ediv_of_nonneg (by omega), wrap64_id (by omega) (by omega)]; omega
    refine Ev.step (fun k => spec_l01Crc.l1.eq_2 _ _ _ _ k) (Ev_pos (by omega) ?_)
    rw [ht, hq, hj.out]
    unfold crcBit at e2
    by_cases h : c % 2 = 1
    · rw [if_pos h] at e2
      rw [show (3988292384 : Int) = ((3988292384 : Nat) : Int) from rfl, xor_i64 _ _ (by omega) (by omega)]
      exact Ev_pos (by omega) e2
    · rw [if_neg h] at e2
      exact Ev_neg (by omega) e2
theorem spec_crc_go (l : List Int) (hl : ∀ x ∈ l, 0 ≤ x ∧ x < 256) (hlen : (l.length : Int) ≤ 281474976710656) : ∀ (suf pre : List Int) (c : Nat), l = pre ++ suf → c < 4294967296 → Ev (fun k => spec_l01Crc.l0 k l (c : Int) (pre.length : Int)) ((crcL suf c ^^^ 4294967295 : Nat) : Int) := by
  intro suf
  induction suf with
  | nil =>
    intro pre c hs hc
    refine Ev.step (fun k => spec_l01Crc.l0.eq_2 _ _ _ k) (Ev_neg (by rw [hs]; simp) (Ev_eq (Ev_some _) ?_))
    rw [show (4294967295 : Int) = ((4294967295 : Nat) : Int) from rfl, xor_i64 _ _ hc (by omega)]
    rfl
  | cons x suf ih =>
    intro pre c hs hc
    have hx := hl x (by rw [hs]; simp)
    have hln : (l.length : Int) = pre.length + 1 + suf.length := by rw [hs]; simp; omega
    have hr : rd l (pre.length : Int) = x := by rw [hs]; exact rd_midc pre suf x
    obtain ⟨b, rfl⟩ := Int.eq_ofNat_of_zero_le hx.1
    have hcb : c ^^^ b < 4294967296 := xor_lt32 hc (by omega)
    have e := ih (pre ++ [(b : Int)]) (crcBits 8 (c ^^^ b)) (by rw [hs]; simp) (crcBits_lt 8 hcb)
    have hw : wrap64 ((pre.length : Int) + 1) = ((pre ++ [(b : Int)]).length : Int) := by rw [wrap64_id (by omega) (by omega)]; simp
    rw [← hw] at e
    refine Ev.step (fun k => spec_l01Crc.l0.eq_2 _ _ _ k) (Ev_pos (by omega) (Ev_pos (by omega) ?_))
    rw [hr, wrap64_id (x := (b : Int)) (by omega) (by omega), xor_i64 _ _ hc (by omega)]
    exact spec_crc_bits l _ _ 8 0 _ (by omega) (by omega) hcb e
theorem l01Crc_ev (l : List Int) (hl : ∀ x ∈ l, 0 ≤ x ∧ x < 256) (hlen : (l.length : Int) ≤ 281474976710656) : Ev (fun k => spec_l01Crc.f k l) (crcOf l : Int) :=
  spec_crc_go l hl hlen l [] 4294967295 rfl (by omega)
theorem impl_crc_bits (l : List Int) (r n : Int) (i : Int) (d : Nat) : ∀ (j : Int) (c : Nat), 0 ≤ j → 8 - j = d → c < 4294967296 → Ev (fun k => impl_crc.l0 k (crcBits d c : Nat) l n (wrap64 (i + 1))) r → Ev (fun k => impl_crc.l1 k (c : Int) l n i j) r := by
  induction d with
  | zero =>
    intro j c h0 hd hc e
    exact Ev.step (fun k => impl_crc.l1.eq_2 _ _ _ _ _ k) (Ev_neg (by omega) e)
  | succ d ih =>
    intro j c h0 hd hc e
    have e2 := ih (j + 1) (crcBit c) (by omega) (by omega) (crcBit_lt hc) e
    have hj := Aside0.mk (show wrap64 (j + 1) = j + 1 from wrap64_id (by omega) (by omega))
    have hq : (c : Int) / 2 = ((c / 2 : Nat) : Int) := by omega
    refine Ev.step (fun k => impl_crc.l1.eq_2 _ _ _ _ _ k) (Ev_pos (by omega) ?_)
    rw [and1_u32 c hc, hq, hj.out]
    unfold crcBit at e2
    by_cases h : c % 2 = 1
    · rw [if_pos h] at e2
      rw [show (3988292384 : Int) = ((3988292384 : Nat) : Int) from rfl, xor_u32 _ _ (by omega) (by omega)]
      exact Ev_pos (by omega) e2
    · rw [if_neg h] at e2
      exact Ev_neg (by omega) e2
theorem impl_crc_go (l : List Int) (hl : ∀ x ∈ l, 0 ≤ x ∧ x < 256) (hlen : (l.length : Int) ≤ 281474976710656) : ∀ (suf pre : List Int) (c : Nat), l = pre ++ suf → c < 4294967296 → Ev (fun k => impl_crc.l0 k (c : Int) l (l.length : Int) (pre.length : Int)) ((crcL suf c ^^^ 4294967295 : Nat) : Int) := by
  intro suf
  induction suf with
  | nil =>
    intro pre c hs hc
    refine Ev.step (fun k => impl_crc.l0.eq_2 _ _ _ _ k) (Ev_neg (by rw [hs]; simp) (Ev_eq (Ev_some _) ?_))
    rw [show (4294967295 : Int) = ((4294967295 : Nat) : Int) from rfl, xor_u32 _ _ (by omega) hc, Nat.xor_comm]
    rfl
  | cons x suf ih =>
    intro pre c hs hc
    have hx := hl x (by rw [hs]; simp)
    have hln : (l.length : Int) = pre.length + 1 + suf.length := by rw [hs]; simp; omega
    have hr : rd l (pre.length : Int) = x := by rw [hs]; exact rd_midc pre suf x
    obtain ⟨b, rfl⟩ := Int.eq_ofNat_of_zero_le hx.1
    have hcb : c ^^^ b < 4294967296 := xor_lt32 hc (by omega)
    have e := ih (pre ++ [(b : Int)]) (crcBits 8 (c ^^^ b)) (by rw [hs]; simp) (crcBits_lt 8 hcb)
    have hw : wrap64 ((pre.length : Int) + 1) = ((pre ++ [(b : Int)]).length : Int) := by rw [wrap64_id (by omega) (by omega)]; simp
    rw [← hw] at e
    refine Ev.step (fun k => impl_crc.l0.eq_2 _ _ _ _ k) (Ev_pos (by omega) (Ev_pos (by omega) (Ev_pos (by omega) ?_)))
    rw [hr, show (b : Int) % 4294967296 = (b : Int) by omega, xor_u32 _ _ hc (by omega)]
    exact impl_crc_bits l _ _ _ 8 0 _ (by omega) (by omega) hcb e
theorem crc_ev (l : List Int) (hl : ∀ x ∈ l, 0 ≤ x ∧ x < 256) (hlen : (l.length : Int) ≤ 281474976710656) : Ev (fun k => impl_crc.f k l) (crcOf l : Int) :=
  impl_crc_go l hl hlen l [] 4294967295 rfl (by omega)

theorem unless_ev (b : Bool) (c : Int) : impl_unless.f b c = some (if b = true then 0 else c) := by
  unfold impl_unless.f
  cases b <;> simp
theorem longBytes_ev (l : List Int) : impl_longBytes.f l = some (if (l.length : Int) ≤ 65536 then 0 else 2) := by
  unfold impl_longBytes.f
  rw [unless_ev, Option.bind_some]
  by_cases h : (l.length : Int) ≤ 65536 <;> simp [h]
theorem FnExactCrc : laws_FnExactCrc.Pure := by
  intro l _ _ hl
  have hl := u8_bounds hl
  refine Ev.rounds ?_
  by_cases h : (l.length : Int) > 1048576
  · exact Ev_pos h (Ev_some _)
  have ht := toByteS_ev l (by omega)
  have he := eqByteS_self l (by omega)
  have hc := crcOf_lt l hl
  obtain ⟨r, h1, h2⟩ : ∃ r, Ev (fun k => spec_Crc.f k l) r ∧ Ev (fun k => impl_Crc.f k l) r := by
    by_cases h6 : (l.length : Int) > 65536
    · exact ⟨0, Ev_pos h6 (Ev_some _), Ev_bindc (longBytes_ev l) (Ev_neg (by rw [if_neg (by omega)]; decide) (Ev_some _))⟩
    · exact ⟨(crcOf l : Int), Ev_neg h6 (Ev.bind (l01Crc_ev l hl (by omega)) (Ev_some _)), Ev_bindc (longBytes_ev l) (Ev_pos (by rw [if_pos (by omega)]) (Ev.bind (crc_ev l hl (by omega)) (Ev_eq (Ev_some _) (wrap64_id (by omega) (by omega)))))⟩
  exact Ev_neg h (Ev.bind ht (Ev.bind h1 (Ev.bind ht (Ev.bind h2 (Ev_pos rfl (Ev.bind ht (Ev.bind he (Ev_pos rfl (Ev_some _)))))))))

end Go.Proofs.Ytjblpjfiiinjbaa.Pure
