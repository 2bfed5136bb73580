/- At every row of acts that is let in, the program's BlobRun answers what the reference's answers, and the answer owns its memory. No conditions. -/
import Derived.Test.YtcgkfijigjcmpaaPFnExactBlobRunx4
import Derived.Test.YtcgkfijigjcmpaaHandFnExactBlobRun
import Derived.Test.YtcgkfijigjcmpaaPureFnExactSha
import Derived.OpenShut
namespace Go.Proofs.Ytcgkfijigjcmpaa.PureB
open Go.RowKit Go.Proofs.Ytcgkfijigjcmpaa.PFnExactBlobRun Go.Proofs.YtcgkfijigjcmpaaW.PrintWords Go.Proofs.YtcgkfijigjcmpaaW.PrintLast Go.Proofs.YtcgkfijigjcmpaaW.PrintMore
set_option linter.unusedVariables false
set_option linter.unusedSimpArgs false

theorem Ev_pos {α : Type} {c : Prop} [Decidable c] {A B : Nat → Option α} {r : α} (h : c) (e : Ev A r) : Ev (fun k => if c then A k else B k) r := by
  simpa only [if_pos h] using e
theorem Ev_neg {α : Type} {c : Prop} [Decidable c] {A B : Nat → Option α} {r : α} (h : ¬ c) (e : Ev B r) : Ev (fun k => if c then A k else B k) r := by
  simpa only [if_neg h] using e
theorem Ev_some {α : Type} (r : α) : Ev (fun _ => some r) r := Ev.now r
theorem Ev_const {α : Type} {x : Option α} {r : α} (h : x = some r) : Ev (fun _ => x) r := ⟨0, fun _ _ => h⟩
theorem Ev_eq {α : Type} {A : Nat → Option α} {r q : α} (h : Ev A r) (e : r = q) : Ev A q := e ▸ h
theorem Ev_bindc {α β : Type} {x : Option α} {f : Nat → α → Option β} {a : α} {r : β} (h : x = some a) (k : Ev (fun n => f n a) r) : Ev (fun n => x.bind (f n)) r := Ev.bind (g := fun _ => x) (Ev_const h) k
theorem wrap64_id {x : Int} (h0 : -9223372036854775808 ≤ x) (h1 : x ≤ 9223372036854775807) : wrap64 x = x := by
  unfold wrap64; omega
theorem int_bounds {x : Int} (h : (Lit.int .i64 x).wf = true) : -9223372036854775808 ≤ x ∧ x < 9223372036854775808 := by
  have := Go.bounds_i64 h
  omega
theorem u8_bounds {l : List Int} (h : ∀ x ∈ l, (Lit.int .u8 x).wf = true) : ∀ x ∈ l, 0 ≤ x ∧ x < 256 := by
  intro x hx
  have := Go.bounds_u8 (h x hx)
  omega

theorem rd_cons0 (x : Int) (l : List Int) : rd (x :: l) 0 = x := rfl
theorem rd_append_len (p : List Int) (x : Int) (l : List Int) : rd (p ++ x :: l) (p.length : Int) = x := by
  unfold rd
  simp [List.getD]
theorem eqByteS_go (a : List Int) (ha : (a.length : Int) ≤ 281474976710656) (d : Nat) : ∀ i : Int, 0 ≤ i → i ≤ (a.length : Int) → (a.length : Int) - i = d → Ev (fun k => laws_eqByteS.l0 k a a i) true := by
  induction d with
  | zero =>
    intro i h0 h1 hd
    exact Ev.step (fun k => laws_eqByteS.l0.eq_2 a a i k) (Ev_neg (by omega) (Ev_some _))
  | succ d ih =>
    intro i h0 h1 hd
    have e := ih (i + 1) (by omega) (by omega) (by omega)
    have hw : wrap64 (i + 1) = i + 1 := wrap64_id (by omega) (by omega)
    rw [← hw] at e
    exact Ev.step (fun k => laws_eqByteS.l0.eq_2 a a i k) (Ev_pos (by omega) (Ev_pos h0 (Ev_pos (by omega) (Ev_pos rfl e))))
theorem eqByteS_self (a : List Int) (ha : (a.length : Int) ≤ 281474976710656) : Ev (fun k => laws_eqByteS.f k a a) true :=
  Ev_pos rfl (eqByteS_go a ha a.length 0 (by omega) (by omega) (by omega))

theorem rd_mid (p q : List Int) (x : Int) (n : Nat) (h : n = p.length) : rd (p ++ x :: q) (n : Int) = x := by
  subst h
  unfold rd
  simp [List.getD]
theorem toByteS_go : ∀ (suf pre zs : List Int), zs.length = suf.length → (pre.length : Int) + (suf.length : Int) ≤ 281474976710656 →
    Ev (fun k => laws_toByteS.l0 k (pre ++ suf) (pre ++ zs) (pre.length : Int)) (pre ++ suf) := by
  intro suf
  induction suf with
  | nil =>
    intro pre zs hz h
    have : zs = [] := List.eq_nil_of_length_eq_zero (by simpa using hz)
    subst this
    exact Ev.step (fun k => laws_toByteS.l0.eq_2 _ _ _ k) (Ev_neg (by simp) (Ev_some _))
  | cons x suf ih =>
    intro pre zs hz h
    cases zs with
    | nil => simp at hz
    | cons z zs =>
      simp only [List.length_cons] at hz h
      have e := ih (pre ++ [x]) zs (by omega) (by simp; omega)
      have hw : wrap64 ((pre.length : Int) + 1) = ((pre ++ [x]).length : Int) := by rw [wrap64_id (by omega) (by omega)]; simp
      have h1 : (pre ++ [x]) ++ suf = pre ++ x :: suf := by simp
      have h2 : (pre ++ [x]) ++ zs = (pre ++ z :: zs).set ((pre.length : Int)).toNat (rd (pre ++ x :: suf) (pre.length : Int)) := by
        rw [rd_mid pre suf x pre.length rfl]; simp
      rw [← hw, h1, h2] at e
      exact Ev.step (fun k => laws_toByteS.l0.eq_2 _ _ _ k) (Ev_pos (by simp; omega) (Ev_pos (by omega) (Ev_pos (by simp; omega) e)))
theorem toByteS_ev (l : List Int) (h : (l.length : Int) ≤ 281474976710656) : Ev (fun k => laws_toByteS.f k l) l := by
  have e := toByteS_go l [] (List.replicate l.length 0) (by simp) (by simpa using h)
  exact Ev_pos (by omega) (Ev_pos (by omega) (by simpa using e))

def marks : Nat → Int → List Int
  | 0, _ => []
  | n + 1, k => (k % 256) :: marks n (k + 1)
theorem markByteS_go : ∀ (suf pre : List Int) (k : Int), 0 ≤ k → k + (suf.length : Int) ≤ 4611686018427387904 → (pre.length : Int) + (suf.length : Int) ≤ 281474976710656 →
    Ev (fun n => laws_markByteS.l0 n (pre ++ suf) k (pre.length : Int)) (k + (suf.length : Int), pre ++ marks suf.length k) := by
  intro suf
  induction suf with
  | nil =>
    intro pre k h0 h1 h2
    simp only [List.length_nil, marks, List.append_nil]
    refine Ev.step (fun n => laws_markByteS.l0.eq_2 pre k _ n) (Ev_neg (by omega) (Ev_eq (Ev_some _) (by simp)))
  | cons x suf ih =>
    intro pre k h0 h1 h2
    simp only [List.length_cons] at h1 h2
    have e := ih (pre ++ [k % 256]) (k + 1) (by omega) (by omega) (by simp; omega)
    have hw : wrap64 ((pre.length : Int) + 1) = ((pre ++ [k % 256]).length : Int) := by rw [wrap64_id (by omega) (by omega)]; simp
    have hk : wrap64 (k + 1) = k + 1 := wrap64_id (by omega) (by omega)
    rw [← hw, ← hk] at e
    have hs : (pre ++ x :: suf).set ((pre.length : Int)).toNat (k % 256) = (pre ++ [k % 256]) ++ suf := by simp
    rw [← hs] at e
    refine Ev.step (fun n => laws_markByteS.l0.eq_2 (pre ++ x :: suf) k _ n) (Ev_pos (by simp; omega) (Ev_pos (by omega) (Ev_eq e ?_)))
    rw [hk]
    simp only [List.length_cons, marks]
    exact Prod.ext (by omega) (by simp)
theorem markByteS_ev (l : List Int) (k : Int) (h0 : 0 ≤ k) (h1 : k + (l.length : Int) ≤ 4611686018427387904) (h2 : (l.length : Int) ≤ 281474976710656) : Ev (fun n => laws_markByteS.f n l k) (k + (l.length : Int), marks l.length k) := by
  have e := markByteS_go l [] k h0 h1 (by simpa using h2)
  unfold laws_markByteS.f
  simpa using e
theorem heldByteS_go : ∀ (d : Nat) (pre : List Int) (k : Int), 0 ≤ k → k + (d : Int) ≤ 4611686018427387904 → (pre.length : Int) + (d : Int) ≤ 281474976710656 →
    Ev (fun n => laws_heldByteS.l0 n (pre ++ marks d k) k (pre.length : Int)) (k + (d : Int)) := by
  intro d
  induction d with
  | zero =>
    intro pre k h0 h1 h2
    refine Ev.step (fun n => laws_heldByteS.l0.eq_2 _ k _ n) (Ev_neg (by simp [marks]) (Ev_eq (Ev_some _) (by simp)))
  | succ d ih =>
    intro pre k h0 h1 h2
    have e := ih (pre ++ [k % 256]) (k + 1) (by omega) (by omega) (by simp; omega)
    have hw : wrap64 ((pre.length : Int) + 1) = ((pre ++ [k % 256]).length : Int) := by rw [wrap64_id (by omega) (by omega)]; simp
    have hk : wrap64 (k + 1) = k + 1 := wrap64_id (by omega) (by omega)
    rw [← hw, ← hk] at e
    have hs : (pre ++ [k % 256]) ++ marks d (wrap64 (k + 1)) = pre ++ marks (d + 1) k := by rw [hk]; simp [marks]
    rw [hs] at e
    refine Ev.step (fun n => laws_heldByteS.l0.eq_2 _ k _ n) (Ev_pos (by simp [marks]; omega) (Ev_pos (by omega) (Ev_pos ?_ (Ev_eq e (by rw [hk]; omega)))))
    simp only [marks]
    exact rd_append_len pre _ _
theorem heldByteS_ev (d : Nat) (k : Int) (h0 : 0 ≤ k) (h1 : k + (d : Int) ≤ 4611686018427387904) (h2 : (d : Int) ≤ 281474976710656) : Ev (fun n => laws_heldByteS.f n (marks d k) k) (k + (d : Int)) := by
  have e := heldByteS_go d [] k h0 h1 (by simpa using h2)
  unfold laws_heldByteS.f
  simpa using e

theorem first_two (a b : Int) : Ev (fun k => impl_first.f k [a, b]) (if a = 0 then b else a) := by
  have s0 : ∀ k, impl_first.l0 (k + 1) [a, b] 2 0 = if a = 0 then impl_first.l0 k [a, b] 2 1 else some a := fun k => by
    simp only [impl_first.l0]
    by_cases h : a = 0 <;> simp [rd, wrap64, h]
  have s1 : ∀ k, impl_first.l0 (k + 1) [a, b] 2 1 = if b = 0 then impl_first.l0 k [a, b] 2 2 else some b := fun k => by
    simp only [impl_first.l0]
    by_cases h : b = 0 <;> simp [rd, wrap64, h]
  have s2 : ∀ k, impl_first.l0 (k + 1) [a, b] 2 2 = some 0 := fun k => by simp [impl_first.l0]
  refine ⟨3, fun k hk => ?_⟩
  obtain ⟨k, rfl⟩ : ∃ m, k = m + 3 := ⟨k - 3, by omega⟩
  show impl_first.l0 (k + 2 + 1) [a, b] 2 0 = _
  rw [s0]
  by_cases ha : a = 0
  · rw [if_pos ha, if_pos ha, s1]
    by_cases hb : b = 0
    · rw [if_pos hb, s2, hb]
    · rw [if_neg hb]
  · rw [if_neg ha, if_neg ha]

theorem szByteS_ev (l : List Int) (hl : l.length ≤ 9223372036854775807) (a : Int) (h0 : 0 ≤ a) (h1 : a ≤ 1048576) : laws_szByteS.f l a = some (if a - (l.length : Int) < 0 then -1 else a - (l.length : Int)) := by
  unfold laws_szByteS.f
  rw [wrap64_id (by omega) (by omega)]
  split <;> rfl

theorem eqIntS_go (a : List Int) (ha : (a.length : Int) ≤ 281474976710656) (d : Nat) : ∀ i : Int, 0 ≤ i → i ≤ (a.length : Int) → (a.length : Int) - i = d → Ev (fun k => laws_eqIntS.l0 k a a i) true := by
  induction d with
  | zero =>
    intro i h0 h1 h2
    exact Ev.step (fun k => laws_eqIntS.l0.eq_2 a a i k) (Ev_neg (by omega) (Ev_some _))
  | succ d ih =>
    intro i h0 h1 h2
    have hw : wrap64 (i + 1) = i + 1 := wrap64_id (by omega) (by omega)
    have e := ih (i + 1) (by omega) (by omega) (by omega)
    rw [← hw] at e
    exact Ev.step (fun k => laws_eqIntS.l0.eq_2 a a i k) (Ev_pos (by omega) (Ev_pos h0 (Ev_pos (by omega) (Ev_pos rfl e))))
theorem eqIntS_self (a : List Int) (ha : (a.length : Int) ≤ 281474976710656) : Ev (fun k => laws_eqIntS.f k a a) true :=
  Ev_pos rfl (eqIntS_go a ha a.length 0 (by omega) (by omega) (by omega))
def marksI : Nat → Int → List Int
  | 0, _ => []
  | n + 1, k => k :: marksI n (k + 1)
theorem markIntS_go : ∀ (suf pre : List Int) (k : Int), 0 ≤ k → k + (suf.length : Int) ≤ 4611686018427387904 → (pre.length : Int) + (suf.length : Int) ≤ 281474976710656 →
    Ev (fun n => laws_markIntS.l0 n (pre ++ suf) k (pre.length : Int)) (k + (suf.length : Int), pre ++ marksI suf.length k) := by
  intro suf
  induction suf with
  | nil =>
    intro pre k h0 h1 h2
    simp only [List.length_nil, marksI, List.append_nil]
    refine Ev.step (fun n => laws_markIntS.l0.eq_2 pre k _ n) (Ev_neg (by omega) (Ev_eq (Ev_some _) (by simp)))
  | cons x suf ih =>
    intro pre k h0 h1 h2
    simp only [List.length_cons] at h1 h2
    have e := ih (pre ++ [k]) (k + 1) (by omega) (by omega) (by simp; omega)
    have hw : wrap64 ((pre.length : Int) + 1) = ((pre ++ [k]).length : Int) := by rw [wrap64_id (by omega) (by omega)]; simp
    have hk : wrap64 (k + 1) = k + 1 := wrap64_id (by omega) (by omega)
    rw [← hw, ← hk] at e
    have hs : (pre ++ x :: suf).set ((pre.length : Int)).toNat k = (pre ++ [k]) ++ suf := by simp
    rw [← hs] at e
    refine Ev.step (fun n => laws_markIntS.l0.eq_2 (pre ++ x :: suf) k _ n) (Ev_pos (by simp; omega) (Ev_pos (by omega) (Ev_eq e ?_)))
    rw [hk]
    simp only [List.length_cons, marksI]
    exact Prod.ext (by omega) (by simp)
theorem markIntS_ev (l : List Int) (k : Int) (h0 : 0 ≤ k) (h1 : k + (l.length : Int) ≤ 4611686018427387904) (h2 : (l.length : Int) ≤ 281474976710656) : Ev (fun n => laws_markIntS.f n l k) (k + (l.length : Int), marksI l.length k) := by
  have e := markIntS_go l [] k h0 h1 (by simpa using h2)
  unfold laws_markIntS.f
  simpa using e
theorem heldIntS_go : ∀ (d : Nat) (pre : List Int) (k : Int), 0 ≤ k → k + (d : Int) ≤ 4611686018427387904 → (pre.length : Int) + (d : Int) ≤ 281474976710656 →
    Ev (fun n => laws_heldIntS.l0 n (pre ++ marksI d k) k (pre.length : Int)) (k + (d : Int)) := by
  intro d
  induction d with
  | zero =>
    intro pre k h0 h1 h2
    refine Ev.step (fun n => laws_heldIntS.l0.eq_2 _ k _ n) (Ev_neg (by simp [marksI]) (Ev_eq (Ev_some _) (by simp)))
  | succ d ih =>
    intro pre k h0 h1 h2
    have e := ih (pre ++ [k]) (k + 1) (by omega) (by omega) (by simp; omega)
    have hw : wrap64 ((pre.length : Int) + 1) = ((pre ++ [k]).length : Int) := by rw [wrap64_id (by omega) (by omega)]; simp
    have hk : wrap64 (k + 1) = k + 1 := wrap64_id (by omega) (by omega)
    rw [← hw, ← hk] at e
    have hs : (pre ++ [k]) ++ marksI d (wrap64 (k + 1)) = pre ++ marksI (d + 1) k := by rw [hk]; simp [marksI]
    rw [hs] at e
    refine Ev.step (fun n => laws_heldIntS.l0.eq_2 _ k _ n) (Ev_pos (by simp [marksI]; omega) (Ev_pos (by omega) (Ev_pos ?_ (Ev_eq e (by rw [hk]; omega)))))
    simp only [marksI]
    exact rd_append_len pre _ _
theorem heldIntS_ev (d : Nat) (k : Int) (h0 : 0 ≤ k) (h1 : k + (d : Int) ≤ 4611686018427387904) (h2 : (d : Int) ≤ 281474976710656) : Ev (fun n => laws_heldIntS.f n (marksI d k) k) (k + (d : Int)) := by
  have e := heldIntS_go d [] k h0 h1 (by simpa using h2)
  unfold laws_heldIntS.f
  simpa using e

theorem unlessOf (b : Bool) (c : Int) : impl_unless.f b c = some (if b = true then 0 else c) := by unfold impl_unless.f; split <;> rfl

/-- A mark's text is there for every mark that is no greater than what an int holds well. -/
theorem markText_go : ∀ (n : Nat) (x : Int) (t : ByteArray), 0 ≤ x → x < 10 ^ n → x ≤ 9223372036854775807 → n + t.size ≤ 1000 → ∃ r, Ev (fun k => laws_markText.l0 k x t) r := by
  intro n
  induction n with
  | zero =>
    intro x t h0 h1 hb h2
    have : x = 0 := by rw [Int.pow_zero] at h1; omega
    subst this
    exact ⟨_, Ev.step (fun k => laws_markText.l0.eq_2 0 t k) (Ev_neg (by decide) (Ev_pos (by omega) (Ev_some _)))⟩
  | succ n ih =>
    intro x t h0 h1 hb h2
    by_cases h : x > 0
    · have hp : (10 : Int) ^ (n + 1) = 10 ^ n * 10 := Int.pow_succ 10 n
      have hd : Int.tdiv x 10 = x / 10 := Int.tdiv_eq_ediv_of_nonneg h0
      obtain ⟨r, e⟩ := ih (x / 10) (strOfNums [(wrap64 (48 + (Int.tmod x 10))) % 256] ++ t) (by omega) (by omega) (by omega) (by rw [ByteArray.size_append, strOfNums_size]; simp; omega)
      have hw : wrap64 (Int.tdiv x 10) = x / 10 := by rw [hd]; exact wrap64_id (by omega) (by omega)
      rw [← hw] at e
      exact ⟨r, Ev.step (fun k => laws_markText.l0.eq_2 x t k) (Ev_pos h (Ev_bindc rfl (Ev_pos (by rw [strOfNums_size]; simp; omega) e)))⟩
    · have : x = 0 := by omega
      subst this
      exact ⟨_, Ev.step (fun k => laws_markText.l0.eq_2 0 t k) (Ev_neg (by decide) (Ev_pos (by omega) (Ev_some _)))⟩
theorem markText_ev (x : Int) (h0 : 0 ≤ x) (h1 : x ≤ 4611686018427387904) : ∃ r, Ev (fun k => laws_markText.f k x) r := by
  by_cases h : x ≤ 0
  · exact ⟨_, Ev_pos h (Ev_some _)⟩
  · obtain ⟨r, e⟩ := markText_go 19 x ⟨#[]⟩ h0 (by omega) (by omega) (by show 19 + (⟨#[]⟩ : ByteArray).size ≤ 1000; decide)
    exact ⟨r, Ev_neg h e⟩

theorem rd61 (pre suf : List S61) (x : S61) : rd_T61 (pre ++ x :: suf) (pre.length : Int) = x := by simp [rd_T61, List.getD]
theorem rd35 (pre suf : List S35) (x : S35) : rd_T35 (pre ++ x :: suf) (pre.length : Int) = x := by simp [rd_T35, List.getD]

def to61 (x : S68) : S61 := ⟨x.f0, x.f1, x.f2⟩
def bls : List S68 → Nat
  | [] => 0
  | x :: xs => x.f1.length + x.f2.size + bls xs
def blt : List S61 → Nat
  | [] => 0
  | x :: xs => x.f1.length + x.f2.size + blt xs
theorem bls_mem : ∀ (l : List S68), ∀ x ∈ l, x.f1.length ≤ bls l
  | [] => by simp
  | y :: l => by
    intro x hx
    simp only [bls, List.mem_cons] at hx ⊢
    rcases hx with rfl | hx
    · omega
    · have := bls_mem l x hx; omega
theorem blt_map : ∀ (l : List S68), blt (l.map to61) = bls l
  | [] => rfl
  | x :: l => by simp only [List.map_cons, blt, bls, blt_map l]; rfl
theorem rd68 (pre suf : List S68) (x : S68) : rd_T68 (pre ++ x :: suf) (pre.length : Int) = x := by simp [rd_T68, List.getD]
theorem szBlobActS_go : ∀ (suf pre : List S68) (a : Int), (∀ r ∈ suf, r.f1.length ≤ 9223372036854775807 ∧ r.f2.size ≤ 9223372036854775807) → 0 ≤ a → a ≤ 1048576 → (pre.length : Int) + suf.length ≤ 1048576 →
    ∃ z, Ev (fun k => laws_szBlobActS.l0 k (pre ++ suf) a (pre.length : Int)) z ∧ (z < 0 ∨ (0 ≤ z ∧ z = a - (bls suf : Int))) := by
  intro suf
  induction suf with
  | nil =>
    intro pre a hr h0 h1 h2
    exact ⟨a, Ev.step (fun k => laws_szBlobActS.l0.eq_2 _ _ _ k) (Ev_neg (by simp) (Ev_some _)), .inr ⟨h0, by simp [bls]⟩⟩
  | cons r suf ih =>
    intro pre a hr h0 h1 h2
    simp only [List.length_cons] at h2
    obtain ⟨hrl, hrs⟩ := hr r (by simp)
    have hg := rd68 pre suf r
    have es : laws_szBlobAct.f r.f0 r.f1 r.f2 a = some (if a - (r.f1.length : Int) < 0 then -1 else if a - (r.f1.length : Int) - (r.f2.size : Int) < 0 then -1 else a - (r.f1.length : Int) - (r.f2.size : Int)) := by
      unfold laws_szBlobAct.f
      rw [szByteS_ev r.f1 hrl a h0 h1]
      simp only [Option.bind_some]
      by_cases hq : a - (r.f1.length : Int) < 0
      · rw [if_pos hq, if_pos hq]; rfl
      · rw [if_neg hq, if_neg hq, if_neg hq, wrap64_id (by omega) (by omega)]
        by_cases hq2 : a - (r.f1.length : Int) - (r.f2.size : Int) < 0
        · rw [if_pos hq2, if_pos hq2]
        · rw [if_neg hq2, if_neg hq2]
    have st : ∀ q v, laws_szBlobAct.f r.f0 r.f1 r.f2 a = some v → Ev (fun k => if v < 0 then some (-1) else laws_szBlobActS.l0 k (pre ++ r :: suf) v (wrap64 ((pre.length : Int) + 1))) q → Ev (fun k => laws_szBlobActS.l0 k (pre ++ r :: suf) a (pre.length : Int)) q := by
      intro q v hv h
      refine Ev.step (fun k => laws_szBlobActS.l0.eq_2 _ _ _ k) (Ev_pos (by simp; omega) (Ev_pos (by omega) ?_))
      rw [hg]
      exact Ev_bindc hv h
    by_cases hn : a - (r.f1.length : Int) < 0
    · rw [if_pos hn] at es
      exact ⟨-1, st _ _ es (Ev_pos (by omega) (Ev_some _)), .inl (by omega)⟩
    · rw [if_neg hn] at es
      by_cases hn2 : a - (r.f1.length : Int) - (r.f2.size : Int) < 0
      · rw [if_pos hn2] at es
        exact ⟨-1, st _ _ es (Ev_pos (by omega) (Ev_some _)), .inl (by omega)⟩
      · rw [if_neg hn2] at es
        obtain ⟨z, e, hz⟩ := ih (pre ++ [r]) (a - (r.f1.length : Int) - (r.f2.size : Int)) (fun x hx => hr x (by simp [hx])) (by omega) (by omega) (by simp; omega)
        have hw : wrap64 ((pre.length : Int) + 1) = ((pre ++ [r]).length : Int) := by rw [wrap64_id (by omega) (by omega)]; simp
        have hs : (pre ++ [r]) ++ suf = pre ++ r :: suf := by simp
        rw [hs, ← hw] at e
        exact ⟨z, st _ _ es (Ev_neg hn2 e), hz.imp id (fun h => ⟨h.1, by simp only [bls]; omega⟩)⟩
theorem szBlobActS_ev (ls : List S68) (hl : ls.length ≤ 9223372036854775807) (hr : ∀ r ∈ ls, r.f1.length ≤ 9223372036854775807 ∧ r.f2.size ≤ 9223372036854775807) (a : Int) (h0 : 0 ≤ a) (h1 : a ≤ 1048576) : ∃ z, Ev (fun k => laws_szBlobActS.f k ls a) z ∧ (z < 0 ∨ (0 ≤ z ∧ z = a - (ls.length : Int) - (bls ls : Int))) := by
  have hw : wrap64 (a - (ls.length : Int)) = a - (ls.length : Int) := wrap64_id (by omega) (by omega)
  by_cases hn : a - (ls.length : Int) < 0
  · refine ⟨-1, ?_, .inl (by omega)⟩
    unfold laws_szBlobActS.f
    rw [hw]
    exact Ev_pos hn (Ev_some _)
  · obtain ⟨z, e, hz⟩ := szBlobActS_go ls [] (a - (ls.length : Int)) hr (by omega) (by omega) (by simp; omega)
    refine ⟨z, ?_, hz⟩
    unfold laws_szBlobActS.f
    rw [hw]
    exact Ev_neg hn (by simpa using e)
theorem toBlobActS_go : ∀ (suf pre : List S68) (d : Nat), (∀ r ∈ suf, r.f1.length ≤ 1048576) → (pre.length : Int) + suf.length ≤ 1048576 → d = suf.length →
    Ev (fun k => laws_toBlobActS.l0 k (pre ++ suf) (pre.map to61 ++ List.replicate d z61) (pre.length : Int)) ((pre ++ suf).map to61) := by
  intro suf
  induction suf with
  | nil =>
    intro pre d hr h2 hd
    obtain rfl : d = 0 := hd
    exact Ev.step (fun k => laws_toBlobActS.l0.eq_2 _ _ _ k) (Ev_neg (by simp) (Ev_eq (Ev_some _) (by simp)))
  | cons r suf ih =>
    intro pre d hr h2 hd
    simp only [List.length_cons] at h2 hd
    subst hd
    have hrl := hr r (by simp)
    have hg := rd68 pre suf r
    have e := ih (pre ++ [r]) suf.length (fun x hx => hr x (by simp [hx])) (by simp; omega) rfl
    have hw : wrap64 ((pre.length : Int) + 1) = ((pre ++ [r]).length : Int) := by rw [wrap64_id (by omega) (by omega)]; simp
    have hs : (pre ++ [r]) ++ suf = pre ++ r :: suf := by simp
    have hs2 : (pre.map to61 ++ List.replicate (suf.length + 1) z61).set ((pre.length : Int)).toNat (to61 r) = (pre ++ [r]).map to61 ++ List.replicate suf.length z61 := by
      simp [List.replicate_succ, List.set_append]
    rw [hs, ← hs2, ← hw] at e
    refine Ev.step (fun k => laws_toBlobActS.l0.eq_2 _ _ _ k) (Ev_pos (by simp; omega) (Ev_pos (by omega) ?_))
    rw [hg]
    refine Ev.bind (g := fun k => laws_toBlobAct.f k r.f0 r.f1 r.f2) (Ev.bind (toByteS_ev r.f1 (by omega)) (Ev_some _)) (Ev_pos (by simp; omega) ?_)
    exact e
theorem toBlobActS_ev (ls : List S68) (hl : (ls.length : Int) ≤ 1048576) (hr : ∀ r ∈ ls, r.f1.length ≤ 1048576) : Ev (fun k => laws_toBlobActS.f k ls) (ls.map to61) := by
  have e := toBlobActS_go ls [] ls.length hr (by simpa using hl) rfl
  refine Ev_pos (by omega) (Ev_pos (by omega) ?_)
  simpa using e
theorem eqBlobActS_go : ∀ (suf pre : List S61), (∀ r ∈ suf, r.f1.length ≤ 1048576) → (pre.length : Int) + suf.length ≤ 1048576 → Ev (fun k => laws_eqBlobActS.l0 k (pre ++ suf) (pre ++ suf) (pre.length : Int)) true := by
  intro suf
  induction suf with
  | nil =>
    intro pre hr h2
    exact Ev.step (fun k => laws_eqBlobActS.l0.eq_2 _ _ _ k) (Ev_neg (by simp) (Ev_some _))
  | cons r suf ih =>
    intro pre hr h2
    simp only [List.length_cons] at h2
    have hrl := hr r (by simp)
    have hg := rd61 pre suf r
    have e := ih (pre ++ [r]) (fun x hx => hr x (by simp [hx])) (by simp; omega)
    have hw : wrap64 ((pre.length : Int) + 1) = ((pre ++ [r]).length : Int) := by rw [wrap64_id (by omega) (by omega)]; simp
    have hs : (pre ++ [r]) ++ suf = pre ++ r :: suf := by simp
    rw [hs, ← hw] at e
    refine Ev.step (fun k => laws_eqBlobActS.l0.eq_2 _ _ _ k) (Ev_pos (by simp; omega) (Ev_pos (by omega) (Ev_pos (by simp; omega) ?_)))
    rw [hg]
    exact Ev.bind (g := fun k => laws_eqBlobAct.f k r.f0 r.f1 r.f2 r.f0 r.f1 r.f2) (Ev_pos rfl (Ev.bind (eqByteS_self r.f1 (by omega)) (Ev_pos rfl (Ev_pos rfl (Ev_some _))))) (Ev_pos rfl e)
theorem eqBlobActS_self (ls : List S61) (hl : (ls.length : Int) ≤ 1048576) (hr : ∀ r ∈ ls, r.f1.length ≤ 1048576) : Ev (fun k => laws_eqBlobActS.f k ls ls) true := by
  have e := eqBlobActS_go ls [] hr (by simpa using hl)
  refine Ev_pos rfl ?_
  simpa using e
theorem eqBlobS_go : ∀ (suf pre : List S35), (∀ r ∈ suf, r.f2.length ≤ 1048576) → (pre.length : Int) + suf.length ≤ 1048576 → Ev (fun k => laws_eqBlobS.l0 k (pre ++ suf) (pre ++ suf) (pre.length : Int)) true := by
  intro suf
  induction suf with
  | nil =>
    intro pre hr h2
    exact Ev.step (fun k => laws_eqBlobS.l0.eq_2 _ _ _ k) (Ev_neg (by simp) (Ev_some _))
  | cons r suf ih =>
    intro pre hr h2
    simp only [List.length_cons] at h2
    have hrl := hr r (by simp)
    have hg := rd35 pre suf r
    have e := ih (pre ++ [r]) (fun x hx => hr x (by simp [hx])) (by simp; omega)
    have hw : wrap64 ((pre.length : Int) + 1) = ((pre ++ [r]).length : Int) := by rw [wrap64_id (by omega) (by omega)]; simp
    have hs : (pre ++ [r]) ++ suf = pre ++ r :: suf := by simp
    rw [hs, ← hw] at e
    refine Ev.step (fun k => laws_eqBlobS.l0.eq_2 _ _ _ k) (Ev_pos (by simp; omega) (Ev_pos (by omega) (Ev_pos (by simp; omega) ?_)))
    rw [hg]
    exact Ev.bind (g := fun k => laws_eqBlob.f k r.f0 r.f1 r.f2 r.f0 r.f1 r.f2) (Ev_pos rfl (Ev_pos rfl (Ev.bind (eqByteS_self r.f2 (by omega)) (Ev_pos rfl (Ev_some _))))) (Ev_pos rfl e)
theorem eqBlobS_self (ls : List S35) (hl : (ls.length : Int) ≤ 1048576) (hr : ∀ r ∈ ls, r.f2.length ≤ 1048576) : Ev (fun k => laws_eqBlobS.f k ls ls) true := by
  have e := eqBlobS_go ls [] hr (by simpa using hl)
  refine Ev_pos rfl ?_
  simpa using e
theorem markBlobActS_go : ∀ (suf pre : List S61) (k : Int), 0 ≤ k → (pre.length : Int) + suf.length ≤ 1048576 → k + 2 * (suf.length : Int) + blt suf ≤ 2305843009213693952 → (∀ r ∈ suf, r.f1.length ≤ 1048576) →
    ∃ m x, Ev (fun n => laws_markBlobActS.l0 n (pre ++ suf) k (pre.length : Int)) (m, x) ∧ 0 ≤ m := by
  intro suf
  induction suf with
  | nil =>
    intro pre k h0 h1 h2 h3
    exact ⟨_, _, Ev.step (fun n => laws_markBlobActS.l0.eq_2 _ k _ n) (Ev_neg (by simp) (Ev_some _)), h0⟩
  | cons r suf ih =>
    intro pre k h0 h1 h2 h3
    simp only [List.length_cons, blt] at h1 h2
    have hrl := h3 r (by simp)
    have hk1 : wrap64 (k + 1) = k + 1 := wrap64_id (by omega) (by omega)
    have hk2 : wrap64 (k + 1 + (r.f1.length : Int) + 1) = k + 1 + (r.f1.length : Int) + 1 := wrap64_id (by omega) (by omega)
    obtain ⟨t, et⟩ := markText_ev (k + 1 + (r.f1.length : Int)) (by omega) (by omega)
    obtain ⟨m, x, e, hm⟩ := ih (pre ++ [⟨k, marks r.f1.length (k + 1), t⟩]) (k + 1 + (r.f1.length : Int) + 1) (by omega) (by simp; omega) (by omega) (fun y hy => h3 y (by simp [hy]))
    have hw : wrap64 ((pre.length : Int) + 1) = ((pre ++ [(⟨k, marks r.f1.length (k + 1), t⟩ : S61)]).length : Int) := by rw [wrap64_id (by omega) (by omega)]; simp
    have hs : (pre ++ r :: suf).set ((pre.length : Int)).toNat (⟨k, marks r.f1.length (k + 1), t⟩ : S61) = (pre ++ [⟨k, marks r.f1.length (k + 1), t⟩]) ++ suf := by simp
    have hg : (pre ++ r :: suf).getD ((pre.length : Int)).toNat z61 = r := by simp [List.getD]
    rw [← hw, ← hs, ← hk2] at e
    refine ⟨m, x, Ev.step (fun n => laws_markBlobActS.l0.eq_2 (pre ++ r :: suf) k _ n) (Ev_pos (by simp; omega) (Ev_pos (by omega) ?_)), hm⟩
    rw [hg, hk1]
    exact Ev.bind (markByteS_ev r.f1 (k + 1) (by omega) (by omega) (by omega)) (Ev.bind et e)
theorem markBlobActS_ev (ls : List S61) (h1 : (ls.length : Int) ≤ 1048576) (h2 : (blt ls : Int) ≤ 1048576) (h3 : ∀ r ∈ ls, r.f1.length ≤ 1048576) : ∃ m x, Ev (fun n => laws_markBlobActS.f n ls 1) (m, x) ∧ 0 ≤ m := by
  obtain ⟨m, x, e, hm⟩ := markBlobActS_go ls [] 1 (by omega) (by simpa using h1) (by omega) h3
  exact ⟨m, x, by unfold laws_markBlobActS.f; simpa using e, hm⟩
/-- What a row of blobs is marked with is held. -/
theorem markBlobS_go : ∀ (suf : List S35) (k : Int), 0 ≤ k → (suf.length : Int) ≤ 1000 → k + 4000 * (suf.length : Int) ≤ 2305843009213693952 → (∀ r ∈ suf, r.f2.length ≤ 2000) →
    ∃ m ys, 0 ≤ m ∧ (∀ pre : List S35, (pre.length : Int) + suf.length ≤ 1048576 → Ev (fun n => laws_markBlobS.l0 n (pre ++ suf) k (pre.length : Int)) (m, pre ++ ys)) ∧
      (∀ pre : List S35, (pre.length : Int) + suf.length ≤ 1048576 → Ev (fun n => laws_heldBlobS.l0 n (pre ++ ys) k (pre.length : Int)) m) := by
  intro suf
  induction suf with
  | nil =>
    intro k h0 h1 h2 h3
    exact ⟨k, [], h0, fun pre hp => Ev.step (fun n => laws_markBlobS.l0.eq_2 _ k _ n) (Ev_neg (by simp) (Ev_eq (Ev_some _) (by simp))), fun pre hp => Ev.step (fun n => laws_heldBlobS.l0.eq_2 _ k _ n) (Ev_neg (by simp) (Ev_some _))⟩
  | cons r suf ih =>
    intro k h0 h1 h2 h3
    simp only [List.length_cons] at h1 h2
    have hrl := h3 r (by simp)
    have hk1 : wrap64 (k + 1) = k + 1 := wrap64_id (by omega) (by omega)
    have hk2 : wrap64 (k + 1 + 1) = k + 1 + 1 := wrap64_id (by omega) (by omega)
    obtain ⟨t, et⟩ := markText_ev k (by omega) (by omega)
    obtain ⟨m, ys, hm, em, eh⟩ := ih (k + 1 + 1 + (r.f2.length : Int)) (by omega) (by omega) (by omega) (fun y hy => h3 y (by simp [hy]))
    obtain ⟨v, hv⟩ : ∃ v : S35, v = ⟨t, k + 1, marks r.f2.length (k + 1 + 1)⟩ := ⟨_, rfl⟩
    have hys : ∃ n, ys.length = n := ⟨_, rfl⟩
    refine ⟨m, v :: ys, hm, fun pre hp => ?_, fun pre hp => ?_⟩
    · simp only [List.length_cons] at hp
      have e := em (pre ++ [v]) (by simp; omega)
      have hw : wrap64 ((pre.length : Int) + 1) = ((pre ++ [v]).length : Int) := by rw [wrap64_id (by omega) (by omega)]; simp
      have hs : (pre ++ r :: suf).set ((pre.length : Int)).toNat v = (pre ++ [v]) ++ suf := by simp
      have hg : (pre ++ r :: suf).getD ((pre.length : Int)).toNat z35 = r := by simp [List.getD]
      rw [← hw, ← hs, hv] at e
      refine Ev.step (fun n => laws_markBlobS.l0.eq_2 (pre ++ r :: suf) k _ n) (Ev_pos (by simp; omega) (Ev_pos (by omega) ?_))
      rw [hg, hk1, hk2]
      exact Ev.bind et (Ev.bind (markByteS_ev r.f2 (k + 1 + 1) (by omega) (by omega) (by omega)) (Ev_eq e (Prod.ext rfl (by rw [hv]; simp))))
    · simp only [List.length_cons] at hp
      have e := eh (pre ++ [v]) (by simp; omega)
      have hw : wrap64 ((pre.length : Int) + 1) = ((pre ++ [v]).length : Int) := by rw [wrap64_id (by omega) (by omega)]; simp
      have hg := rd35 pre ys v
      rw [← hw, show (pre ++ [v]) ++ ys = pre ++ v :: ys by simp] at e
      refine Ev.step (fun n => laws_heldBlobS.l0.eq_2 (pre ++ v :: ys) k _ n) (Ev_pos (by simp; omega) (Ev_pos (by omega) ?_))
      rw [hg, hk1, hk2, hv]
      refine Ev.bind et (Ev_pos rfl (Ev_pos rfl (Ev.bind (heldByteS_ev r.f2.length (k + 1 + 1) (by omega) (by omega) (by omega)) (Ev_neg (by omega) ?_))))
      rw [← hv]
      exact e
theorem markBlobS_ev (l : List S35) (k : Int) (h0 : 0 ≤ k) (h1 : (l.length : Int) ≤ 1000) (h2 : k ≤ 1048576) (h3 : ∀ r ∈ l, r.f2.length ≤ 2000) : ∃ m ys, 0 ≤ m ∧ Ev (fun n => laws_markBlobS.f n l k) (m, ys) ∧ Ev (fun n => laws_heldBlobS.f n ys k) m := by
  obtain ⟨m, ys, hm, em, eh⟩ := markBlobS_go l k h0 h1 (by omega) h3
  exact ⟨m, ys, hm, by unfold laws_markBlobS.f; simpa using em [] (by simp; omega), by unfold laws_heldBlobS.f; simpa using eh [] (by simp; omega)⟩

/-- What every list of blobs is that acts have made. -/
def blobOK (n : Nat) (l : List S35) : Prop := l.length ≤ 60 ∧ (l.map (fun x => x.f0.toList)).Nodup ∧ ∀ x ∈ l, 0 ≤ x.f1 ∧ x.f1 ≤ (n : Int) ∧ x.f2.length ≤ 2000 ∧ (∀ b ∈ x.f2, 0 ≤ b ∧ b < 256) ∧ x.f0 = strOfNums (Go.Proofs.Ytcgkfijigjcmpaa.PFnExactSha.impl_Sha.out x.f2)
theorem blobOK_more {n : Nat} {l : List S35} (h : blobOK n l) : blobOK (n + 1) l :=
  ⟨h.1, h.2.1, fun x hx => by obtain ⟨h1, h2, h3⟩ := h.2.2 x hx; exact ⟨h1, by omega, h3⟩⟩
theorem implSha_ok (l : List Int) (hl : l.length ≤ 65536) (hu : ∀ x ∈ l, 0 ≤ x ∧ x < 256) : impl_Sha.f l = some (strOfNums (Go.Proofs.Ytcgkfijigjcmpaa.PFnExactSha.impl_Sha.out l)) := by
  unfold impl_Sha.f Go.Proofs.Ytcgkfijigjcmpaa.PFnExactSha.impl_Sha.f
  rw [if_neg (by omega), if_pos (by simpa using hu)]
theorem specSha_ok (l : List Int) (hl : l.length ≤ 65536) (hu : ∀ x ∈ l, 0 ≤ x ∧ x < 256) : Ev (fun k => spec_l04Sha.f k l) (strOfNums (Go.Proofs.Ytcgkfijigjcmpaa.PFnExactSha.impl_Sha.out l)) :=
  Go.Proofs.Ytcgkfijigjcmpaa.Pure.sha_ev l hu hl
theorem blobAtP_none (q : S35 → Bool) : ∀ (l : List S35) (i : Nat), (∀ x ∈ l, q x = false) → blobAtP q l i = none
  | [], _, _ => rfl
  | x :: l, i, h => by
    rw [blobAtP, if_neg (by rw [h x (by simp)]; decide)]
    exact blobAtP_none q l (i + 1) (fun y hy => h y (by simp [hy]))
theorem blobAtP_some (q : S35 → Bool) (x : S35) (suf : List S35) (hx : q x = true) : ∀ (pre : List S35) (i : Nat), (∀ y ∈ pre, q y = false) → blobAtP q (pre ++ x :: suf) i = some (i + pre.length)
  | [], i, _ => by rw [List.nil_append, blobAtP, if_pos hx]; rfl
  | y :: pre, i, h => by
    rw [List.cons_append, blobAtP, if_neg (by rw [h y (by simp)]; decide), blobAtP_some q x suf hx pre (i + 1) (fun z hz => h z (by simp [hz]))]
    congr 1
    simp
    omega
theorem blob_split (q : S35 → Bool) : ∀ l : List S35, (∀ x ∈ l, q x = false) ∨ ∃ pre x suf, l = pre ++ x :: suf ∧ (∀ y ∈ pre, q y = false) ∧ q x = true
  | [] => .inl (by simp)
  | x :: l => by
    by_cases hx : q x = true
    · exact .inr ⟨[], x, l, rfl, by simp, hx⟩
    · have hx2 : q x = false := by simpa using hx
      rcases blob_split q l with h | ⟨pre, z, suf, rfl, h1, h2⟩
      · refine .inl (fun y hy => ?_)
        rcases List.mem_cons.1 hy with rfl | hy
        · exact hx2
        · exact h y hy
      · refine .inr ⟨x :: pre, z, suf, rfl, fun y hy => ?_, h2⟩
        rcases List.mem_cons.1 hy with rfl | hy
        · exact hx2
        · exact h1 y hy
theorem find_none (key : ByteArray) : ∀ (suf pre : List S35), (∀ x ∈ suf, (x.f0.toList == key.toList) = false) → (pre.length : Int) + suf.length ≤ 1048576 → Ev (fun k => spec_l04Find.l0 k (pre ++ suf) key (pre.length : Int)) (-1) := by
  intro suf
  induction suf with
  | nil =>
    intro pre h hl
    exact Ev.step (fun k => spec_l04Find.l0.eq_2 _ _ _ k) (Ev_neg (by simp) (Ev_some _))
  | cons x suf ih =>
    intro pre h hl
    simp only [List.length_cons] at hl
    have e := ih (pre ++ [x]) (fun y hy => h y (by simp [hy])) (by simp; omega)
    have hw : wrap64 ((pre.length : Int) + 1) = ((pre ++ [x]).length : Int) := by rw [wrap64_id (by omega) (by omega)]; simp
    rw [← hw, show (pre ++ [x]) ++ suf = pre ++ x :: suf by simp] at e
    refine Ev.step (fun k => spec_l04Find.l0.eq_2 _ _ _ k) (Ev_pos (by simp; omega) (Ev_pos (by omega) ?_))
    rw [rd35 pre suf x]
    exact Ev_neg (beq_eq_false_iff_ne.1 (h x (by simp))) e
theorem find_some (key : ByteArray) (x : S35) (suf : List S35) (hx : (x.f0.toList == key.toList) = true) : ∀ (mid pre : List S35), (∀ y ∈ mid, (y.f0.toList == key.toList) = false) → (pre.length : Int) + mid.length + suf.length ≤ 1048575 →
    Ev (fun k => spec_l04Find.l0 k (pre ++ (mid ++ x :: suf)) key (pre.length : Int)) ((pre.length : Int) + mid.length) := by
  intro mid
  induction mid with
  | nil =>
    intro pre h hl
    refine Ev.step (fun k => spec_l04Find.l0.eq_2 _ _ _ k) (Ev_pos (by simp; omega) (Ev_pos (by omega) ?_))
    rw [List.nil_append, rd35 pre suf x]
    exact Ev_pos (beq_iff_eq.1 hx) (Ev_eq (Ev_some _) (by simp))
  | cons y mid ih =>
    intro pre h hl
    simp only [List.length_cons] at hl
    have e := ih (pre ++ [y]) (fun z hz => h z (by simp [hz])) (by simp; omega)
    have hw : wrap64 ((pre.length : Int) + 1) = ((pre ++ [y]).length : Int) := by rw [wrap64_id (by omega) (by omega)]; simp
    rw [← hw, show (pre ++ [y]) ++ (mid ++ x :: suf) = pre ++ (y :: (mid ++ x :: suf)) by simp] at e
    refine Ev.step (fun k => spec_l04Find.l0.eq_2 _ _ _ k) (Ev_pos (by simp; omega) (Ev_pos (by omega) ?_))
    rw [List.cons_append, rd35 pre _ y]
    refine Ev_neg (beq_eq_false_iff_ne.1 (h y (by simp))) (Ev_eq e ?_)
    rw [hw]
    simp
    omega
theorem blobPut_at (pre suf : List S35) (x : S35) (r : Int) : blobPut (pre ++ x :: suf) pre.length r = pre ++ ⟨x.f0, r, x.f2⟩ :: suf := by
  unfold blobPut
  rw [rd35]
  simp
theorem blobOK_put {n : Nat} {pre suf : List S35} {x : S35} (h : blobOK n (pre ++ x :: suf)) (r : Int) (h0 : 0 ≤ r) (h1 : r ≤ (n : Int) + 1) : blobOK (n + 1) (pre ++ ⟨x.f0, r, x.f2⟩ :: suf) := by
  refine ⟨by have := h.1; simp at this ⊢; omega, by simpa using h.2.1, fun y hy => ?_⟩
  rcases List.mem_append.1 hy with hy | hy
  · exact (blobOK_more h).2.2 y (by simp [hy])
  · rcases List.mem_cons.1 hy with rfl | hy
    · obtain ⟨_, _, h3⟩ := h.2.2 x (by simp)
      exact ⟨h0, by show r ≤ ((n + 1 : Nat) : Int); omega, h3⟩
    · exact (blobOK_more h).2.2 y (by simp [hy])
theorem blobOK_filter {n : Nat} {l : List S35} (h : blobOK n l) (q : S35 → Bool) : blobOK (n + 1) (l.filter q) :=
  ⟨Nat.le_trans (List.length_filter_le _ _) h.1, h.2.1.sublist (List.Sublist.map _ List.filter_sublist), fun x hx => (blobOK_more h).2.2 x (List.mem_filter.1 hx).1⟩
theorem both_act (a : Int) (d : List Int) (key : ByteArray) (l : List S35) (n : Nat) (h : blobOK n l) (hn : n ≤ 200) (hu : ∀ b ∈ d, 0 ≤ b ∧ b < 256) :
    ∃ r c, impl_blobAct.f l a d key = some (r, c) ∧ Ev (fun k => spec_l04Act.f k l a d key) (r, c) ∧ blobOK (n + 1) r := by
  have hlen := h.1
  by_cases c1 : a = 1
  · by_cases c2 : (2000 : Int) < (d.length : Int)
    · exact ⟨l, 14, by unfold impl_blobAct.f; rw [if_pos c1, if_pos c2], Ev_pos c1 (Ev_pos c2 (Ev_some _)), blobOK_more h⟩
    · have e1 := implSha_ok d (by omega) hu
      have e2 := specSha_ok d (by omega) hu
      obtain ⟨kk, hkk⟩ : ∃ kk, kk = strOfNums (Go.Proofs.Ytcgkfijigjcmpaa.PFnExactSha.impl_Sha.out d) := ⟨_, rfl⟩
      rw [← hkk] at e1 e2
      rcases blob_split (fun x => x.f0.toList == kk.toList) l with hno | ⟨pre, x, suf, rfl, hpre, hx⟩
      · have ha := blobAtP_none (fun x => x.f0.toList == kk.toList) l 0 hno
        have hf := find_none kk l [] hno (by simp; omega)
        by_cases c3 : (l.length : Int) = 60
        · refine ⟨l, 7, ?_, Ev_pos c1 (Ev_neg c2 (Ev.bind e2 (Ev.bind (g := fun k => spec_l04Find.f k l kk) hf (Ev_neg (by decide) (Ev_pos c3 (Ev_some _)))))), blobOK_more h⟩
          unfold impl_blobAct.f
          rw [if_pos c1, if_neg c2, e1, Option.bind_some, ha]
          exact if_pos c3
        · refine ⟨l ++ [⟨kk, 1, d⟩], 0, ?_, Ev_pos c1 (Ev_neg c2 (Ev.bind e2 (Ev.bind (g := fun k => spec_l04Find.f k l kk) hf (Ev_neg (by decide) (Ev_neg c3 (Ev_some _)))))), ?_, ?_, ?_⟩
          · unfold impl_blobAct.f
            rw [if_pos c1, if_neg c2, e1, Option.bind_some, ha]
            exact if_neg c3
          · simp; omega
          · rw [List.map_append, List.nodup_append]
            refine ⟨h.2.1, by simp, fun x hx y hy hxy => ?_⟩
            obtain ⟨z, hz, rfl⟩ := List.mem_map.1 hx
            simp at hy
            have := hno z hz
            rw [hxy, hy] at this
            simp at this
          · intro x hx
            rcases List.mem_append.1 hx with hx | hx
            · exact (blobOK_more h).2.2 x hx
            · obtain rfl := List.mem_singleton.1 hx
              exact ⟨Int.one_nonneg, by show (1 : Int) ≤ ((n + 1 : Nat) : Int); omega, by show d.length ≤ 2000; omega, hu, hkk⟩
      · have ha := blobAtP_some (fun x => x.f0.toList == kk.toList) x suf hx pre 0 hpre
        rw [Nat.zero_add] at ha
        simp at hlen
        have hf := find_some kk x suf hx pre [] hpre (by simp; omega)
        rw [show (([] : List S35).length : Int) + (pre.length : Int) = (pre.length : Int) by simp] at hf
        obtain ⟨hx0, hx1, _⟩ := h.2.2 x (by simp)
        have hw : wrap64 (x.f1 + 1) = x.f1 + 1 := wrap64_id (by omega) (by omega)
        refine ⟨pre ++ ⟨x.f0, x.f1 + 1, x.f2⟩ :: suf, 0, ?_, Ev_pos c1 (Ev_neg c2 (Ev.bind e2 (Ev.bind (g := fun k => spec_l04Find.f k (pre ++ x :: suf) kk) hf (Ev_pos (by omega) (Ev_pos (by simp; omega) (Ev_eq (Ev_some _) ?_)))))), blobOK_put h _ (by omega) (by omega)⟩
        · unfold impl_blobAct.f
          rw [if_pos c1, if_neg c2, e1, Option.bind_some, ha]
          show some (blobPut (pre ++ x :: suf) pre.length (wrap64 ((rd_T35 (pre ++ x :: suf) (pre.length : Int)).f1 + 1)), (0 : Int)) = _
          rw [rd35, hw, blobPut_at]
        · rw [rd35, hw, Int.toNat_natCast, blobPut_at]
  · by_cases c2 : a = 2
    · rcases blob_split (fun x => x.f0.toList == key.toList) l with hno | ⟨pre, x, suf, rfl, hpre, hx⟩
      · have ha := blobAtP_none (fun x => x.f0.toList == key.toList && decide (0 < x.f1)) l 0 (fun x hx => by rw [hno x hx]; rfl)
        have hf := find_none key l [] hno (by simp; omega)
        refine ⟨l, 6, ?_, Ev_neg c1 (Ev_pos c2 (Ev.bind (g := fun k => spec_l04Find.f k l key) hf (Ev_pos (by decide) (Ev_some _)))), blobOK_more h⟩
        unfold impl_blobAct.f
        rw [if_neg c1, if_pos c2, ha]
      · simp at hlen
        have hf := find_some key x suf hx pre [] hpre (by simp; omega)
        rw [show (([] : List S35).length : Int) + (pre.length : Int) = (pre.length : Int) by simp] at hf
        obtain ⟨hx0, hx1, _⟩ := h.2.2 x (by simp)
        by_cases c3 : x.f1 = 0
        · have ha := blobAtP_none (fun x => x.f0.toList == key.toList && decide (0 < x.f1)) (pre ++ x :: suf) 0 (fun y hy => by
            have hnd := h.2.1
            rw [List.map_append, List.map_cons, List.nodup_append] at hnd
            rcases List.mem_append.1 hy with hy | hy
            · rw [hpre y hy]; rfl
            · rcases List.mem_cons.1 hy with rfl | hy
              · rw [c3]; simp
              · have hne : ¬ x.f0.toList ∈ suf.map (fun x => x.f0.toList) := (List.nodup_cons.1 hnd.2.1).1
                have : (y.f0.toList == key.toList) = false := by
                  rw [beq_eq_false_iff_ne]
                  intro he
                  exact hne (List.mem_map.2 ⟨y, hy, he.trans (beq_iff_eq.1 hx).symm⟩)
                rw [this]; rfl)
          refine ⟨pre ++ x :: suf, 6, ?_, Ev_neg c1 (Ev_pos c2 (Ev.bind (g := fun k => spec_l04Find.f k (pre ++ x :: suf) key) hf (Ev_neg (by omega) (Ev_pos (by simp; omega) (Ev_pos (by rw [rd35]; exact c3) (Ev_some _)))))), blobOK_more h⟩
          unfold impl_blobAct.f
          rw [if_neg c1, if_pos c2, ha]
        · have ha := blobAtP_some (fun x => x.f0.toList == key.toList && decide (0 < x.f1)) x suf (by rw [hx]; simp; omega) pre 0 (fun y hy => by rw [hpre y hy]; rfl)
          rw [Nat.zero_add] at ha
          have hw : wrap64 (x.f1 - 1) = x.f1 - 1 := wrap64_id (by omega) (by omega)
          refine ⟨pre ++ ⟨x.f0, x.f1 - 1, x.f2⟩ :: suf, 0, ?_, Ev_neg c1 (Ev_pos c2 (Ev.bind (g := fun k => spec_l04Find.f k (pre ++ x :: suf) key) hf (Ev_neg (by omega) (Ev_pos (by simp; omega) (Ev_neg (by rw [rd35]; exact c3) (Ev_eq (Ev_some _) ?_)))))), blobOK_put h _ (by omega) (by omega)⟩
          · unfold impl_blobAct.f
            rw [if_neg c1, if_pos c2, ha]
            show some (blobPut (pre ++ x :: suf) pre.length (wrap64 ((rd_T35 (pre ++ x :: suf) (pre.length : Int)).f1 - 1)), (0 : Int)) = _
            rw [rd35, hw, blobPut_at]
          · rw [rd35, hw, Int.toNat_natCast, blobPut_at]
    · by_cases c3 : a = 3
      · have hq : l.filter (fun x => !(x.f1 == 0)) = l.filter (fun x => decide (0 < x.f1)) := List.filter_congr (fun x hx => by
          obtain ⟨h0, _⟩ := h.2.2 x hx
          by_cases hz : x.f1 = 0
          · simp [hz]
          · have : 0 < x.f1 := by omega
            simp [hz, this])
        refine ⟨l.filter (fun x => decide (0 < x.f1)), 0, ?_, Ev_neg c1 (Ev_neg c2 (Ev_pos c3 (Ev_some _))), blobOK_filter h _⟩
        unfold impl_blobAct.f
        rw [if_neg c1, if_neg c2, if_pos c3, hq]
      · exact ⟨l, 3, by unfold impl_blobAct.f; rw [if_neg c1, if_neg c2, if_neg c3], Ev_neg c1 (Ev_neg c2 (Ev_neg c3 (Ev_some _))), blobOK_more h⟩
theorem both_blobs_go : ∀ (suf pre : List S61) (c : List Int) (s : List S35), blobOK pre.length s → c.length = pre.length → (pre.length : Int) + suf.length ≤ 200 → (∀ x ∈ suf, ∀ b ∈ x.f1, 0 ≤ b ∧ b < 256) →
    ∃ c' s', Ev (fun k => impl_BlobRun.l0 k (pre ++ suf) (pre.length : Int) c s) (c', s', 0) ∧ Ev (fun k => spec_BlobRun.l0 k (pre ++ suf) (pre.length : Int) c s) (c', s', 0) ∧ blobOK 200 s' ∧ (c'.length : Int) ≤ 200 := by
  intro suf
  induction suf with
  | nil =>
    intro pre c s h hc hn hr
    refine ⟨c, s, Ev.step (fun k => impl_BlobRun.l0.eq_2 _ _ _ _ k) (Ev_neg (by simp) (Ev_some _)), Ev.step (fun k => spec_BlobRun.l0.eq_2 _ _ _ _ k) (Ev_neg (by simp) (Ev_some _)), ?_, by simp at hn; omega⟩
    simp at hn
    exact ⟨h.1, h.2.1, fun x hx => by obtain ⟨h1, h2, h3⟩ := h.2.2 x hx; exact ⟨h1, by omega, h3⟩⟩
  | cons x suf ih =>
    intro pre c s h hc hn hr
    simp only [List.length_cons] at hn
    have hx := hr x (by simp)
    obtain ⟨s1, v, e1, e2, h1⟩ := both_act x.f0 x.f1 x.f2 s pre.length h (by omega) hx
    obtain ⟨c', s', f1, f2, h3, h4⟩ := ih (pre ++ [x]) (c ++ [v]) s1 (by simpa using h1) (by simp; omega) (by simp; omega) (fun y hy => hr y (by simp [hy]))
    have hg := rd61 pre suf x
    have hw : wrap64 ((pre.length : Int) + 1) = ((pre ++ [x]).length : Int) := by rw [wrap64_id (by omega) (by omega)]; simp
    have hs : (pre ++ [x]) ++ suf = pre ++ x :: suf := by simp
    rw [hs, ← hw] at f1 f2
    have hsl : s.length ≤ 1000000 := by have := h.1; omega
    refine ⟨c', s', Ev.step (fun k => impl_BlobRun.l0.eq_2 _ _ _ _ k) (Ev_pos (by simp; omega) (Ev_pos (by omega) ?_)), Ev.step (fun k => spec_BlobRun.l0.eq_2 _ _ _ _ k) (Ev_pos (by simp; omega) (Ev_pos (by omega) ?_)), h3, h4⟩
    · rw [hg, if_pos hsl]
      exact Ev_bindc e1 (Ev_pos (by omega) f1)
    · rw [hg]
      exact Ev.bind (g := fun k => if s.length ≤ 1000000 then spec_l04Act.f k s x.f0 x.f1 x.f2 else none) (Ev_pos hsl e2) (Ev_pos (by omega) f2)
theorem both_blobs (l : List S61) (hl : (l.length : Int) ≤ 1048576) (hr : ∀ x ∈ l, ∀ b ∈ x.f1, 0 ≤ b ∧ b < 256) :
    ∃ c s v, Ev (fun k => impl_BlobRun.f k l) (c, s, v) ∧ Ev (fun k => spec_BlobRun.f k l) (c, s, v) ∧ blobOK 200 s ∧ (c.length : Int) ≤ 200 ∧ ((l.length : Int) ≤ 200 → v = 0) := by
  have hlong : impl_longList.f (l.length : Int) = some (if (l.length : Int) ≤ 4096 then 0 else 2) := by
    unfold impl_longList.f
    rw [unlessOf]
    simp
  have hnil : blobOK 200 [] := ⟨by simp, by simp, by simp⟩
  by_cases h1 : (l.length : Int) ≤ 4096
  · by_cases h2 : (l.length : Int) ≤ 200
    · obtain ⟨c', s', f1, f2, h3, h4⟩ := both_blobs_go l [] [] [] ⟨by simp, by simp, by simp⟩ rfl (by simpa using h2) hr
      refine ⟨c', s', 0, Ev_bindc hlong (Ev_bindc (unlessOf _ _) (Ev.bind (first_two _ _) (Ev_pos ?_ f1))), Ev_neg (by omega) (Ev_neg (by omega) f2), h3, h4, fun _ => rfl⟩
      rw [if_pos h1, if_pos rfl, if_pos (decide_eq_true h2)]
    · refine ⟨[], [], 7, Ev_bindc hlong (Ev_bindc (unlessOf _ _) (Ev.bind (a := 7) (Ev_eq (first_two _ _) ?_) (Ev_neg (by decide) (Ev_some _)))), Ev_neg (by omega) (Ev_pos (by omega) (Ev_some _)), hnil, by simp, fun h => absurd h h2⟩
      rw [if_pos h1, if_pos rfl, if_neg (by simpa using h2)]
  · refine ⟨[], [], 2, Ev_bindc hlong (Ev_bindc (unlessOf _ _) (Ev.bind (a := 2) (Ev_eq (first_two _ _) ?_) (Ev_neg (by decide) (Ev_some _)))), Ev_pos (by omega) (Ev_some _), hnil, by simp, fun h => by omega⟩
    rw [if_neg h1, if_neg (by decide)]

theorem FnExactBlobRun (l : List S68) (hl : l.length ≤ 9223372036854775807) (hr : ∀ r ∈ l, r.f1.length ≤ 9223372036854775807 ∧ r.f2.size ≤ 9223372036854775807) (hu : ∀ r ∈ l, ∀ b ∈ r.f1, 0 ≤ b ∧ b < 256) : ∃ (k : Nat) (z : Int), laws_szBlobActS.f k l 1048576 = some z ∧ (z < 0 ∨ ∃ (y : List S61) (q1 : List Int) (q2 : List S35) (q3 m : Int) (x : List S61) (m2 : Int) (x2 : List Int) (m3 : Int) (x3 : List S35), 0 ≤ z ∧ 0 ≤ m ∧ 0 ≤ m2 ∧ 0 ≤ m3 ∧
    laws_toBlobActS.f k l = some y ∧ spec_BlobRun.f k y = some (q1, q2, q3) ∧ impl_BlobRun.f k y = some (q1, q2, q3) ∧ laws_eqIntS.f k q1 q1 = some true ∧ laws_eqBlobS.f k q2 q2 = some true ∧ laws_eqBlobActS.f k y y = some true ∧ laws_markBlobActS.f k y 1 = some (m, x) ∧ laws_markIntS.f k q1 1 = some (m2, x2) ∧ laws_markBlobS.f k q2 m2 = some (m3, x3) ∧ laws_heldIntS.f k x2 1 = some m2 ∧ laws_heldBlobS.f k x3 m2 = some m3) := by
  obtain ⟨z, ⟨k0, e0⟩, hz⟩ := szBlobActS_ev l hl hr 1048576 (by omega) (by omega)
  rcases hz with hz | ⟨hz, hb⟩
  · exact ⟨k0, z, e0 _ (by omega), .inl hz⟩
  · have hr2 : ∀ r ∈ l, r.f1.length ≤ 1048576 := fun r h => by have := bls_mem l r h; omega
    have hr3 : ∀ r ∈ l.map to61, r.f1.length ≤ 1048576 := by
      intro r h
      obtain ⟨x, hx, rfl⟩ := List.mem_map.1 h
      exact hr2 x hx
    have hr4 : ∀ r ∈ l.map to61, ∀ b ∈ r.f1, 0 ≤ b ∧ b < 256 := by
      intro r h
      obtain ⟨x, hx, rfl⟩ := List.mem_map.1 h
      exact hu x hx
    have hbt := blt_map l
    obtain ⟨c, s, v, ⟨k1, e1⟩, ⟨k2, e2⟩, h1, h2, _⟩ := both_blobs (l.map to61) (by simp; omega) hr4
    have hs1 := h1.1
    have hs2 : ∀ r ∈ s, r.f2.length ≤ 2000 := fun r h => (h1.2.2 r h).2.2.1
    obtain ⟨k3, e3⟩ := toBlobActS_ev l (by omega) hr2
    obtain ⟨k4, e4⟩ := eqIntS_self c (by omega)
    obtain ⟨k5, e5⟩ := eqBlobS_self s (by omega) (fun r h => by have := hs2 r h; omega)
    obtain ⟨k6, e6⟩ := eqBlobActS_self (l.map to61) (by simp; omega) hr3
    obtain ⟨m, x, ⟨k7, e7⟩, hm⟩ := markBlobActS_ev (l.map to61) (by simp; omega) (by omega) hr3
    obtain ⟨k8, e8⟩ := markIntS_ev c 1 (by omega) (by omega) (by omega)
    obtain ⟨m3, x3, hm3, ⟨k9, e9⟩, ⟨k11, e11⟩⟩ := markBlobS_ev s (1 + (c.length : Int)) (by omega) (by omega) (by omega) hs2
    obtain ⟨k10, e10⟩ := heldIntS_ev c.length 1 (by omega) (by omega) (by omega)
    exact ⟨k0 + k1 + k2 + k3 + k4 + k5 + k6 + k7 + k8 + k9 + k10 + k11, z, e0 _ (by omega), .inr ⟨_, _, _, _, _, _, _, _, _, _, hz, hm, by omega, hm3, e3 _ (by omega), e2 _ (by omega), e1 _ (by omega), e4 _ (by omega), e5 _ (by omega), e6 _ (by omega), e7 _ (by omega), e8 _ (by omega), e9 _ (by omega), e10 _ (by omega), e11 _ (by omega)⟩⟩

end Go.Proofs.Ytcgkfijigjcmpaa.PureB
