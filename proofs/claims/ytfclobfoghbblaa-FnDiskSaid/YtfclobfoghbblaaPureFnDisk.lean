/- FnDisk: the plain law. No conditions. -/
import Derived.Test.YtfclobfoghbblaaPFnDiskx6
import Derived.Test.YtfclobfoghbblaaHandFnDisk
import Derived.OpenShut
namespace Go.Proofs.Ytfclobfoghbblaa.Pure
open Go.RowKit Go.Proofs.Ytfclobfoghbblaa.PFnDisk Go.Proofs.YtfclobfoghbblaaW.PrintWords Go.Proofs.YtfclobfoghbblaaW.PrintLast Go.Proofs.YtfclobfoghbblaaW.PrintMore
set_option linter.unusedVariables false
set_option linter.unusedSimpArgs false

theorem Ev_pos {α : Type} {c : Prop} [Decidable c] {A B : Nat → Option α} {r : α} (h : c) (e : Ev A r) : Ev (fun k => if c then A k else B k) r := by
  simpa only [if_pos h] using e
theorem Ev_neg {α : Type} {c : Prop} [Decidable c] {A B : Nat → Option α} {r : α} (h : ¬ c) (e : Ev B r) : Ev (fun k => if c then A k else B k) r := by
  simpa only [if_neg h] using e
theorem Ev_some {α : Type} (r : α) : Ev (fun _ => some r) r := Ev.now r
theorem Ev_const {α : Type} {x : Option α} {r : α} (h : x = some r) : Ev (fun _ => x) r := ⟨0, fun _ _ => h⟩
theorem Ev_eq {α : Type} {A : Nat → Option α} {r q : α} (h : Ev A r) (e : r = q) : Ev A q := e ▸ h
theorem Ev_bindc {α β : Type} {x : Option α} {f : Nat → α → Option β} {a : α} {r : β} (h : x = some a) (k : Ev (fun n => f n a) r) : Ev (fun n => x.bind (f n)) r := Ev.bind (g := fun _ => x) (Ev_const h) k
theorem wrap64_id {x : Int} (h0 : -9223372036854775808 ≤ x) (h1 : x ≤ 9223372036854775807) : wrap64 x = x := by
  unfold wrap64; omega
theorem u8_bounds {l : List Int} (h : ∀ x ∈ l, (Lit.int .u8 x).wf = true) : ∀ x ∈ l, 0 ≤ x ∧ x < 256 := by
  intro x hx
  have := Go.bounds_u8 (h x hx)
  omega

theorem flat_row {ls : List (List Int)} : ∀ r ∈ ls, r.length ≤ ls.flatten.length := by
  induction ls with
  | nil => intro r hr; cases hr
  | cons x xs ih =>
    intro r hr
    simp only [List.flatten_cons, List.length_append]
    rcases List.mem_cons.1 hr with rfl | h
    · omega
    · have := ih r h; omega
theorem rdL_mid' (pre suf : List (List Int)) (r : List Int) : rd_L1 (pre ++ r :: suf) (pre.length : Int) = r := by
  unfold rd_L1
  simp [List.getD]

theorem rd_u8 {l : List Int} (h : ∀ x ∈ l, 0 ≤ x ∧ x < 256) (i : Int) : 0 ≤ rd l i ∧ rd l i < 256 := by
  unfold rd
  rw [List.getD_eq_getElem?_getD]
  by_cases hi : i.toNat < l.length
  · rw [List.getElem?_eq_getElem hi]
    exact h _ (List.getElem_mem hi)
  · rw [List.getElem?_eq_none (by omega)]
    decide
theorem at_ev (l : List Int) (hl : ∀ x ∈ l, 0 ≤ x ∧ x < 256) (hlen : (l.length : Int) ≤ 281474976710656) (i n : Int) (hi : 0 ≤ i ∧ i < 1000) (hn : 2 ≤ n) : ∃ v, laws_at.f l i n = some v ∧ 0 ≤ v ∧ v < n := by
  unfold laws_at.f
  rw [if_neg (by omega)]
  by_cases h0 : (l.length : Int) = 0
  · rw [if_pos h0, if_neg (by omega)]
    have e1 : wrap64 (i * 7) = i * 7 := wrap64_id (by omega) (by omega)
    rw [e1, Int.tmod_eq_emod_of_nonneg (by omega)]
    exact ⟨_, rfl, Int.emod_nonneg _ (by omega), Int.emod_lt_of_pos _ (by omega)⟩
  · have e1 : wrap64 (i + 1) = i + 1 := wrap64_id (by omega) (by omega)
    have t1 : Int.tmod i (l.length : Int) = i % (l.length : Int) := Int.tmod_eq_emod_of_nonneg hi.1
    have t2 : Int.tmod (i + 1) (l.length : Int) = (i + 1) % (l.length : Int) := Int.tmod_eq_emod_of_nonneg (by omega)
    have t3 : Int.tdiv i (l.length : Int) = i / (l.length : Int) := Int.tdiv_eq_ediv_of_nonneg hi.1
    have p1 := Int.emod_nonneg i (b := (l.length : Int)) (by omega)
    have p2 := Int.emod_lt_of_pos i (b := (l.length : Int)) (by omega)
    have p3 := Int.emod_nonneg (i + 1) (b := (l.length : Int)) (by omega)
    have p4 := Int.emod_lt_of_pos (i + 1) (b := (l.length : Int)) (by omega)
    have p5 : 0 ≤ i / (l.length : Int) := Int.ediv_nonneg hi.1 (by omega)
    have p6 : i / (l.length : Int) ≤ i := Int.ediv_le_self _ hi.1
    rw [if_neg h0, e1, t1, t2, t3, if_pos p1, if_pos p2, if_pos p3, if_pos p4, if_neg (by omega)]
    have r1 := rd_u8 hl (i % (l.length : Int))
    have r2 := rd_u8 hl ((i + 1) % (l.length : Int))
    generalize rd l (i % (l.length : Int)) = a at r1 ⊢
    generalize rd l ((i + 1) % (l.length : Int)) = b at r2 ⊢
    generalize i / (l.length : Int) = c at p5 p6 ⊢
    rw [wrap64_id (x := a) (by omega) (by omega), wrap64_id (x := b) (by omega) (by omega), wrap64_id (x := c) (by omega) (by omega), wrap64_id (x := a * 31) (by omega) (by omega), wrap64_id (x := a * 31 + b) (by omega) (by omega), wrap64_id (x := a * 31 + b + c) (by omega) (by omega), Int.tmod_eq_emod_of_nonneg (by omega)]
    exact ⟨_, rfl, Int.emod_nonneg _ (by omega), Int.emod_lt_of_pos _ (by omega)⟩

theorem rd100 (pre suf : List S100) (x : S100) : rd_T100 (pre ++ x :: suf) (pre.length : Int) = x := by simp [rd_T100, List.getD]

theorem rdL_mid (p q : List (List Int)) (x : List Int) : rd_L1 (p ++ x :: q) (p.length : Int) = x := by
  unfold rd_L1
  simp [List.getD]
theorem concat_one (ls : List (List Int)) (hb : (ls.flatten.length : Int) < 140737488355328) (r : List Int) (hc : (ls.length : Int) < 140737488355328) : ∀ (suf pre : List (List Int)) (s : Int), ls = pre ++ suf → s = (pre.flatten.length : Int) →
    Ev (fun k => (slices_Grow_byte_byte.f ([] : List Int) (ls.flatten.length : Int)).bind fun t => slices_Concat_byte_byte.l1 k t ls (ls.length : Int) 0) r → Ev (fun k => slices_Concat_byte_byte.l0 k ls s ls (ls.length : Int) (pre.length : Int)) r := by
  intro suf
  induction suf with
  | nil =>
    intro pre s hs hsum h
    refine Ev.step (fun k => slices_Concat_byte_byte.l0.eq_2 _ _ _ _ _ k) (Ev_neg (by rw [hs]; simp) ?_)
    have : s = (ls.flatten.length : Int) := by rw [hsum, hs]; simp
    rw [this]
    exact h
  | cons x suf ih =>
    intro pre s hs hsum h
    have e := ih (pre ++ [x]) (s + (x.length : Int)) (by rw [hs]; simp) (by rw [hsum]; simp) h
    have hln : (ls.length : Int) = pre.length + 1 + suf.length := by rw [hs]; simp; omega
    have hfl : (ls.flatten.length : Int) = pre.flatten.length + x.length + suf.flatten.length := by rw [hs]; simp [List.flatten_append]; omega
    have hr : rd_L1 ls (pre.length : Int) = x := by rw [hs]; exact rdL_mid pre suf x
    have hw := Aside0.mk (show wrap64 (s + (x.length : Int)) = s + (x.length : Int) from wrap64_id (by omega) (by omega))
    have hw1 : wrap64 ((pre.length : Int) + 1) = ((pre ++ [x]).length : Int) := by rw [wrap64_id (by omega) (by omega)]; simp
    rw [← hw1] at e
    refine Ev.step (fun k => slices_Concat_byte_byte.l0.eq_2 _ _ _ _ _ k) (Ev_pos (by omega) (Ev_pos (by omega) (Ev_pos (by omega) ?_)))
    rw [hr, hw.out]
    exact Ev_neg (by omega) e
theorem concat_two (ls : List (List Int)) (hb : (ls.flatten.length : Int) < 140737488355328) (hc : (ls.length : Int) < 140737488355328) : ∀ (suf pre : List (List Int)), ls = pre ++ suf →
    Ev (fun k => slices_Concat_byte_byte.l1 k pre.flatten ls (ls.length : Int) (pre.length : Int)) ls.flatten := by
  intro suf
  induction suf with
  | nil =>
    intro pre hs
    refine Ev.step (fun k => slices_Concat_byte_byte.l1.eq_2 _ _ _ _ k) (Ev_neg (by rw [hs]; simp) (Ev_eq (Ev_some _) (by rw [hs]; simp)))
  | cons x suf ih =>
    intro pre hs
    have e := ih (pre ++ [x]) (by rw [hs]; simp)
    have hln : (ls.length : Int) = pre.length + 1 + suf.length := by rw [hs]; simp; omega
    have hfl : (ls.flatten.length : Int) = pre.flatten.length + x.length + suf.flatten.length := by rw [hs]; simp [List.flatten_append]; omega
    have hr : rd_L1 ls (pre.length : Int) = x := by rw [hs]; exact rdL_mid pre suf x
    have hw1 : wrap64 ((pre.length : Int) + 1) = ((pre ++ [x]).length : Int) := by rw [wrap64_id (by omega) (by omega)]; simp
    rw [← hw1, List.flatten_append, List.flatten_cons, List.flatten_nil, List.append_nil] at e
    refine Ev.step (fun k => slices_Concat_byte_byte.l1.eq_2 _ _ _ _ k) (Ev_pos (by omega) (Ev_pos (by omega) (Ev_pos (by omega) ?_)))
    rw [hr]
    exact Ev_pos (by omega) e
theorem concat_ev (ls : List (List Int)) (hb : (ls.flatten.length : Int) < 140737488355328) (hc : (ls.length : Int) < 140737488355328) : Ev (fun k => slices_Concat_byte_byte.f k ls) ls.flatten := by
  refine concat_one ls hb _ hc ls [] 0 rfl rfl (Ev_bindc (a := []) ?_ (concat_two ls hb hc ls [] rfl))
  unfold slices_Grow_byte_byte.f
  rw [if_pos ⟨by omega, hb⟩]

theorem clone_ok (l : List Int) (h : (l.length : Int) ≤ 4194304) : slices_Clone_byte_byte.f l = some l := by
  unfold slices_Clone_byte_byte.f
  rw [if_pos (by omega)]

theorem first_two (a b : Int) : Ev (fun k => impl_first.f k [a, b]) (if a = 0 then b else a) := by
  have s0 : ∀ k, impl_first.l0 (k + 1) [a, b] 2 0 = if a = 0 then impl_first.l0 k [a, b] 2 1 else some a := fun k => by
    simp only [impl_first.l0]
    by_cases h : a = 0 <;> simp [rd, wrap64, h]
  have s1 : ∀ k, impl_first.l0 (k + 1) [a, b] 2 1 = if b = 0 then impl_first.l0 k [a, b] 2 2 else some b := fun k => by
    simp only [impl_first.l0]
    by_cases h : b = 0 <;> simp [rd, wrap64, h]
  have s2 : ∀ k, impl_first.l0 (k + 1) [a, b] 2 2 = some 0 := fun k => by simp [impl_first.l0]
  refine ⟨3, fun k hk => ?_⟩
  obtain ⟨k, rfl⟩ : ∃ m, k = m + 3 := ⟨k - 3, by omega⟩
  show impl_first.l0 (k + 2 + 1) [a, b] 2 0 = _
  rw [s0]
  by_cases ha : a = 0
  · rw [if_pos ha, if_pos ha, s1]
    by_cases hb : b = 0
    · rw [if_pos hb, s2, hb]
    · rw [if_neg hb]
  · rw [if_neg ha, if_neg ha]

theorem specBytes_go (l : List Int) : ∀ (suf pre : List (List Int)) (s : List Int), (s.length : Int) + (suf.flatten.length : Int) ≤ 4194304 → (pre.length : Int) + suf.length ≤ 1048576 → Ev (fun k => spec_l02Bytes.l0 k s (pre.length : Int) l (pre ++ suf)) (s ++ suf.flatten) := by
  intro suf
  induction suf with
  | nil =>
    intro pre s h1 h2
    exact Ev.step (fun k => spec_l02Bytes.l0.eq_2 _ _ _ _ k) (Ev_neg (by simp) (Ev_eq (Ev_some _) (by simp)))
  | cons r suf ih =>
    intro pre s h1 h2
    simp only [List.length_cons, List.flatten_cons, List.length_append] at h1 h2
    have hg : rd_L1 (pre ++ r :: suf) (pre.length : Int) = r := rdL_mid' pre _ _
    have e := ih (pre ++ [r]) (s ++ r) (by simp only [List.length_append]; omega) (by simp; omega)
    have hw : wrap64 ((pre.length : Int) + 1) = ((pre ++ [r]).length : Int) := by rw [wrap64_id (by omega) (by omega)]; simp
    rw [show (pre ++ [r]) ++ suf = pre ++ r :: suf by simp, ← hw] at e
    refine Ev.step (fun k => spec_l02Bytes.l0.eq_2 _ _ _ _ k) (Ev_pos (by simp; omega) (Ev_pos (by omega) ?_))
    rw [hg]
    exact Ev_pos (by omega) (Ev_eq e (by simp))

/-- What is left behind a crash. -/
def crashOf (l : List Int) (ls : List (List Int)) (a t : Nat) : List Int := l ++ ((ls.take a).flatten ++ (ls.getD a []).take t)
def crashRest (a t i : Nat) (suf : List (List Int)) : List Int := if i ≤ a then (suf.take (a - i)).flatten ++ (suf.getD (a - i) []).take t else []
theorem mn_nat (a b : Nat) : mn (a : Int) (b : Int) = ((min a b : Nat) : Int) := by unfold mn; split <;> omega
theorem specCrash_go (a t : Nat) (l : List Int) : ∀ (suf pre : List (List Int)) (s : List Int), (s.length : Int) + (suf.flatten.length : Int) ≤ 4194304 → (pre.length : Int) + suf.length ≤ 1048576 →
    Ev (fun k => spec_l02Crash.l0 k (a : Int) (t : Int) s (pre.length : Int) l (pre ++ suf)) (s ++ crashRest a t pre.length suf, []) := by
  intro suf
  induction suf with
  | nil =>
    intro pre s h1 h2
    exact Ev.step (fun k => spec_l02Crash.l0.eq_2 _ _ _ _ _ _ k) (Ev_neg (by simp) (Ev_eq (Ev_some _) (by simp [crashRest])))
  | cons r suf ih =>
    intro pre s h1 h2
    simp only [List.length_cons, List.flatten_cons, List.length_append] at h1 h2
    have hg : rd_L1 (pre ++ r :: suf) (pre.length : Int) = r := rdL_mid' pre _ _
    have hw : wrap64 ((pre.length : Int) + 1) = ((pre ++ [r]).length : Int) := by rw [wrap64_id (by omega) (by omega)]; simp
    have hlen : ((pre ++ r :: suf).length : Int) = pre.length + suf.length + 1 := by simp; omega
    have nx : ∀ s' : List Int, (s'.length : Int) ≤ s.length + r.length → Ev (fun k => spec_l02Crash.l0 k (a : Int) (t : Int) s' (wrap64 ((pre.length : Int) + 1)) l (pre ++ r :: suf)) (s' ++ crashRest a t (pre ++ [r]).length suf, []) := by
      intro s' hs'
      have e := ih (pre ++ [r]) s' (by omega) (by simp; omega)
      rw [show (pre ++ [r]) ++ suf = pre ++ r :: suf by simp, ← hw] at e
      exact e
    have hl1 : (pre ++ [r]).length = pre.length + 1 := by simp
    refine Ev.step (fun k => spec_l02Crash.l0.eq_2 _ _ _ _ _ _ k) (Ev_pos (by omega) ?_)
    rw [hg]
    by_cases c1 : pre.length < a
    · refine Ev_pos (by omega) (Ev_pos (by omega) (Ev_pos (by omega) (Ev_eq (nx (s ++ r) (by simp)) ?_)))
      rw [hl1]
      unfold crashRest
      rw [if_pos (by omega), if_pos (by omega), show a - pre.length = (a - (pre.length + 1)) + 1 by omega]
      simp
    · by_cases c2 : pre.length = a
      · have hmn := mn_nat t r.length
        refine Ev_neg (by omega) (Ev_pos (by omega) (Ev_pos (by omega) ?_))
        rw [hmn]
        have htk : r.take ((min t r.length : Nat) : Int).toNat = r.take t := by
          rw [Int.toNat_natCast]
          rcases Nat.le_total t r.length with h | h
          · rw [Nat.min_eq_left h]
          · rw [Nat.min_eq_right h, List.take_of_length_le (Nat.le_refl _), List.take_of_length_le h]
        rw [htk]
        refine Ev_pos (by omega) (Ev_pos (by omega) (Ev_pos (by rw [List.length_take]; omega) (Ev_eq (nx (s ++ r.take t) (by simp; omega)) ?_)))
        rw [hl1]
        unfold crashRest
        rw [if_neg (by omega), if_pos (by omega), show a - pre.length = 0 by omega]
        simp
      · refine Ev_neg (by omega) (Ev_neg (by omega) (Ev_eq (nx s (by omega)) ?_))
        rw [hl1]
        unfold crashRest
        rw [if_neg (by omega), if_neg (by omega)]
theorem specCrash_ev (l : List Int) (ls : List (List Int)) (a t : Nat) (h : (l.length : Int) + ls.length + ls.flatten.length ≤ 1048576) : Ev (fun k => spec_l02Crash.f k l ls (a : Int) (t : Int)) (crashOf l ls a t, []) := by
  refine Ev_bindc rfl (Ev_pos (by simp only [List.length_nil]; omega) (Ev_eq (specCrash_go a t l ls [] ([] ++ l) (by simp only [List.nil_append]; omega) (by simp; omega)) ?_))
  simp [crashOf, crashRest]
theorem implCrash_ev (l : List Int) (ls : List (List Int)) (a t : Nat) (h : (l.length : Int) + ls.length + ls.flatten.length ≤ 1048576) : Ev (fun k => impl_Disk_crash.f k l ls (a : Int) (t : Int)) (crashOf l ls a t, []) := by
  have hm := mn_nat a ls.length
  have htk : ls.take (min a ls.length) = ls.take a := by
    rcases Nat.le_total a ls.length with h | h
    · rw [Nat.min_eq_left h]
    · rw [Nat.min_eq_right h, List.take_of_length_le (Nat.le_refl _), List.take_of_length_le h]
  have hfl : ∀ (ls : List (List Int)) (a : Nat), (ls.take a).flatten.length ≤ ls.flatten.length := by
    intro ls
    induction ls with
    | nil => intro a; simp
    | cons x xs ih =>
      intro a
      cases a with
      | zero => simp
      | succ a => simp only [List.take_succ_cons, List.flatten_cons, List.length_append]; have := ih a; omega
  have hfa := hfl ls a
  refine Ev_bindc (clone_ok l (by omega)) ?_
  rw [hm]
  refine Ev_pos (by omega) (Ev_pos (by omega) ?_)
  rw [Int.toNat_natCast, htk]
  refine Ev.bind (concat_ev (ls.take a) (by omega) (by rw [List.length_take]; omega)) (Ev_pos (by omega) (Ev_bindc rfl ?_))
  by_cases c : a < ls.length
  · have hr : rd_L1 ls ((min a ls.length : Nat) : Int) = ls.getD a [] := by
      unfold rd_L1
      rw [Int.toNat_natCast, Nat.min_eq_left (by omega)]
    have hrow : (ls.getD a []).length ≤ ls.flatten.length := by
      rw [List.getD_eq_getElem?_getD, List.getElem?_eq_getElem c]
      exact flat_row _ (List.getElem_mem c)
    refine Ev_pos (by omega) ?_
    rw [hr, mn_nat]
    refine Ev_pos (by omega) (Ev_pos (by omega) ?_)
    have htk2 : (ls.getD a []).take ((min t (ls.getD a []).length : Nat) : Int).toNat = (ls.getD a []).take t := by
      rw [Int.toNat_natCast]
      rcases Nat.le_total t (ls.getD a []).length with h | h
      · rw [Nat.min_eq_left h]
      · rw [Nat.min_eq_right h, List.take_of_length_le (Nat.le_refl _), List.take_of_length_le h]
    rw [htk2]
    refine Ev_pos (by rw [List.length_take, List.length_append]; omega) (Ev_eq (Ev_some _) ?_)
    simp [crashOf]
  · refine Ev_neg (by omega) (Ev_eq (Ev_some _) ?_)
    rw [crashOf, List.getD_eq_getElem?_getD, List.getElem?_eq_none (by omega)]
    simp
theorem crash_len (l : List Int) (ls : List (List Int)) (a t : Nat) : (crashOf l ls a t).length ≤ l.length + ls.flatten.length := by
  unfold crashOf
  rw [List.length_append, List.length_append]
  have key : ∀ (ls : List (List Int)) (a : Nat), (ls.take a).flatten.length + (ls.getD a []).length ≤ ls.flatten.length := by
    intro ls
    induction ls with
    | nil => intro a; simp
    | cons x xs ih =>
      intro a
      cases a with
      | zero => simp
      | succ a => simp only [List.take_succ_cons, List.flatten_cons, List.length_append, List.getD_cons_succ]; have := ih a; omega
  have := key ls a
  rw [List.length_take]
  omega

/-- The sizes together. -/
theorem specSize_go (l : List Int) : ∀ (suf pre : List (List Int)) (s : Int), 0 ≤ s → s + (suf.flatten.length : Int) ≤ 4611686018427387904 → (pre.length : Int) + suf.length ≤ 1048576 → Ev (fun k => spec_l02Size.l0 k s (pre.length : Int) l (pre ++ suf)) (s + (suf.flatten.length : Int)) := by
  intro suf
  induction suf with
  | nil =>
    intro pre s h0 h1 h2
    exact Ev.step (fun k => spec_l02Size.l0.eq_2 _ _ _ _ k) (Ev_neg (by simp) (Ev_eq (Ev_some _) (by simp)))
  | cons r suf ih =>
    intro pre s h0 h1 h2
    simp only [List.length_cons, List.flatten_cons, List.length_append] at h1 h2
    have hg : rd_L1 (pre ++ r :: suf) (pre.length : Int) = r := rdL_mid' pre _ _
    have e := ih (pre ++ [r]) (s + (r.length : Int)) (by omega) (by omega) (by simp; omega)
    have hw : wrap64 ((pre.length : Int) + 1) = ((pre ++ [r]).length : Int) := by rw [wrap64_id (by omega) (by omega)]; simp
    have hw2 := Aside0.mk (show wrap64 (s + (r.length : Int)) = s + (r.length : Int) from wrap64_id (by omega) (by omega))
    rw [show (pre ++ [r]) ++ suf = pre ++ r :: suf by simp, ← hw] at e
    refine Ev.step (fun k => spec_l02Size.l0.eq_2 _ _ _ _ k) (Ev_pos (by simp; omega) (Ev_pos (by omega) ?_))
    rw [hg, hw2.out]
    exact Ev_eq e (by simp only [List.flatten_cons, List.length_append]; omega)
theorem implSize_go (L : List (List Int)) (n : Int) (hn : n = (L.length : Int)) : ∀ (suf pre : List (List Int)) (s : Int), L = pre ++ suf → 0 ≤ s → s + (suf.flatten.length : Int) ≤ 4611686018427387904 → (pre.length : Int) + suf.length ≤ 1048576 → Ev (fun k => impl_Disk_size.l0 k s L n (pre.length : Int)) (s + (suf.flatten.length : Int)) := by
  intro suf
  induction suf with
  | nil =>
    intro pre s hL h0 h1 h2
    exact Ev.step (fun k => impl_Disk_size.l0.eq_2 _ _ _ _ k) (Ev_neg (by rw [hn, hL]; simp) (Ev_eq (Ev_some _) (by simp)))
  | cons r suf ih =>
    intro pre s hL h0 h1 h2
    simp only [List.length_cons, List.flatten_cons, List.length_append] at h1 h2
    have hg : rd_L1 L (pre.length : Int) = r := by rw [hL]; exact rdL_mid' pre _ _
    have hLl : (L.length : Int) = pre.length + suf.length + 1 := by rw [hL]; simp; omega
    have e := ih (pre ++ [r]) (s + (r.length : Int)) (by rw [hL]; simp) (by omega) (by omega) (by simp; omega)
    have hw : wrap64 ((pre.length : Int) + 1) = ((pre ++ [r]).length : Int) := by rw [wrap64_id (by omega) (by omega)]; simp
    have hw2 := Aside0.mk (show wrap64 (s + (r.length : Int)) = s + (r.length : Int) from wrap64_id (by omega) (by omega))
    rw [← hw] at e
    refine Ev.step (fun k => impl_Disk_size.l0.eq_2 _ _ _ _ k) (Ev_pos (by omega) (Ev_pos (by omega) (Ev_pos (by omega) ?_)))
    rw [hg, hw2.out]
    exact Ev_eq e (by simp only [List.flatten_cons, List.length_append]; omega)

def diskGood (l : List Int) (ls : List (List Int)) : Prop := (ls.length : Int) ≤ 200 ∧ (l.length : Int) + ls.flatten.length ≤ 8192
instance (l : List Int) (ls : List (List Int)) : Decidable (diskGood l ls) := by unfold diskGood; infer_instance
theorem diskOK_ev (l : List Int) (ls : List (List Int)) (h : (l.length : Int) + ls.flatten.length ≤ 1048576) : Ev (fun k => impl_diskOK.f k l ls) (decide (diskGood l ls)) := by
  by_cases h1 : (ls.length : Int) ≤ 200
  · refine Ev_pos h1 (Ev.bind (g := fun k => impl_Disk_size.f k l ls) (implSize_go ls _ rfl ls [] (l.length : Int) rfl (by omega) (by omega) (by simp; omega)) (Ev_eq (Ev_some _) ?_))
    exact decide_eq_decide.2 (by unfold diskGood; omega)
  · exact Ev_neg h1 (Ev_eq (Ev_some _) (Eq.symm (decide_eq_false (by unfold diskGood; omega))))

theorem unlessOf (b : Bool) (c : Int) : impl_unless.f b c = some (if b = true then 0 else c) := by unfold impl_unless.f; split <;> rfl
theorem withinOf (a t : Int) : impl_within.f a 0 t = some (decide (0 ≤ a ∧ a ≤ t)) := by
  unfold impl_within.f
  by_cases h : 0 ≤ a
  · rw [if_pos h]; simp [h]
  · rw [if_neg h]; simp [h]
theorem inOf (a t : Int) : spec_l02In.f a 0 t = some (decide (0 ≤ a ∧ a ≤ t)) := by
  unfold spec_l02In.f
  by_cases h : 0 ≤ a
  · rw [if_pos h]; simp [h]
  · rw [if_neg h]; simp [h]
theorem implBytes_ev (s : List Int) (p : List (List Int)) (h : (s.length : Int) + p.flatten.length ≤ 1048576) (h2 : (p.length : Int) ≤ 1048576) : Ev (fun k => impl_Disk_bytes.f k s p) (s ++ p.flatten) :=
  Ev_bindc (clone_ok s (by omega)) (Ev.bind (concat_ev p (by omega) (by omega)) (Ev_pos (by omega) (Ev_some _)))
theorem specBytes_ev (s : List Int) (p : List (List Int)) (h : (s.length : Int) + p.flatten.length ≤ 1048576) (h2 : (p.length : Int) ≤ 1048576) : Ev (fun k => spec_l02Bytes.f k s p) (s ++ p.flatten) := by
  have e := specBytes_go s p [] s (by omega) (by simpa using h2)
  refine Ev_bindc rfl (Ev_pos (by simp; omega) ?_)
  simpa using e
theorem both_act (x : S100) (s : List Int) (p : List (List Int)) (h : (s.length : Int) + p.flatten.length ≤ 8192) (h2 : (p.length : Int) ≤ 1000) (h3 : (x.f3.length : Int) ≤ 1048576) :
    ∃ c s' p', Ev (fun k => impl_Disk_act.f k s p x.f0 x.f1 x.f2 x.f3) (c, s', p') ∧ Ev (fun k => spec_l02Act.f k s p x.f0 x.f1 x.f2 x.f3) (s', p', c) ∧ (s'.length : Int) + p'.flatten.length ≤ 8192 ∧ (p'.length : Int) ≤ p.length + 1 := by
  by_cases c1 : x.f0 = 1
  · have ez := implSize_go p _ rfl p [] (s.length : Int) rfl (by omega) (by omega) (by simp; omega)
    have ez2 := specSize_go s p [] (s.length : Int) (by omega) (by omega) (by simp; omega)
    have hw : wrap64 ((s.length : Int) + (p.flatten.length : Int) + (x.f3.length : Int)) = (s.length : Int) + (p.flatten.length : Int) + (x.f3.length : Int) := wrap64_id (by omega) (by omega)
    have hw2 : wrap64 (8192 - ((s.length : Int) + (p.flatten.length : Int))) = 8192 - ((s.length : Int) + (p.flatten.length : Int)) := wrap64_id (by omega) (by omega)
    by_cases c2 : (s.length : Int) + (p.flatten.length : Int) + (x.f3.length : Int) > 8192
    · exact ⟨7, s, p, Ev_pos c1 (Ev.bind (g := fun k => impl_Disk_size.f k s p) ez (Ev_pos (by rw [hw]; exact c2) (Ev_some _))), Ev_pos c1 (Ev.bind (g := fun k => spec_l02Size.f k s p) ez2 (Ev_pos (by rw [hw2]; omega) (Ev_some _))), h, by omega⟩
    · refine ⟨0, s, p ++ [x.f3], Ev_pos c1 (Ev.bind (g := fun k => impl_Disk_size.f k s p) ez (Ev_neg (by rw [hw]; exact c2) (Ev_bindc (clone_ok x.f3 (by omega)) (Ev_pos (by omega) (Ev_some _))))), Ev_pos c1 (Ev.bind (g := fun k => spec_l02Size.f k s p) ez2 (Ev_neg (by rw [hw2]; omega) (Ev_bindc rfl (Ev_pos (by simp only [List.length_nil]; omega) (Ev_bindc rfl (Ev_bindc rfl (Ev_pos (by simp; omega) (Ev_pos (by simp; omega) (Ev_eq (Ev_some _) (by simp)))))))))), by simp only [List.flatten_append, List.length_append, List.flatten_cons, List.flatten_nil, List.append_nil]; omega, by simp; try omega⟩
  · by_cases c2 : x.f0 = 2
    · exact ⟨0, s ++ p.flatten, [], Ev_neg c1 (Ev_pos c2 (Ev.bind (implBytes_ev s p (by omega) (by omega)) (Ev_some _))), Ev_neg c1 (Ev_pos c2 (Ev.bind (specBytes_ev s p (by omega) (by omega)) (Ev_some _))), by simp only [List.length_append, List.flatten_nil, List.length_nil]; omega, by simp; try omega⟩
    · by_cases c3 : x.f0 = 3
      · by_cases d1 : x.f1 < 0
        · exact ⟨5, s, p, Ev_neg c1 (Ev_neg c2 (Ev_pos c3 (Ev_pos d1 (Ev_some _)))), Ev_neg c1 (Ev_neg c2 (Ev_pos c3 (Ev_pos d1 (Ev_some _)))), h, by omega⟩
        · by_cases d2 : x.f2 < 0
          · exact ⟨5, s, p, Ev_neg c1 (Ev_neg c2 (Ev_pos c3 (Ev_neg d1 (Ev_pos d2 (Ev_some _))))), Ev_neg c1 (Ev_neg c2 (Ev_pos c3 (Ev_neg d1 (Ev_pos d2 (Ev_some _))))), h, by omega⟩
          · obtain ⟨a, ha⟩ := Int.eq_ofNat_of_zero_le (Int.not_lt.1 d1)
            obtain ⟨t, ht⟩ := Int.eq_ofNat_of_zero_le (Int.not_lt.1 d2)
            have e1 := implCrash_ev s p a t (by omega)
            have e2 := specCrash_ev s p a t (by omega)
            rw [← ha, ← ht] at e1 e2
            have := crash_len s p a t
            exact ⟨0, crashOf s p a t, [], Ev_neg c1 (Ev_neg c2 (Ev_pos c3 (Ev_neg d1 (Ev_neg d2 (Ev.bind e1 (Ev_some _)))))), Ev_neg c1 (Ev_neg c2 (Ev_pos c3 (Ev_neg d1 (Ev_neg d2 (Ev.bind e2 (Ev_some _)))))), by simp only [List.flatten_nil, List.length_nil]; omega, by simp; try omega⟩
      · by_cases c4 : x.f0 = 4
        · have ez := implSize_go p _ rfl p [] (s.length : Int) rfl (by omega) (by omega) (by simp; omega)
          have eb := implBytes_ev s p (by omega) (by omega)
          have eb2 := specBytes_ev s p (by omega) (by omega)
          have hl : ((s ++ p.flatten).length : Int) = (s.length : Int) + (p.flatten.length : Int) := by simp
          by_cases d : 0 ≤ x.f1 ∧ x.f1 ≤ (s.length : Int) + (p.flatten.length : Int)
          · refine ⟨0, (s ++ p.flatten).take x.f1.toNat, [], Ev_neg c1 (Ev_neg c2 (Ev_neg c3 (Ev_pos c4 (Ev.bind (g := fun k => impl_Disk_size.f k s p) ez (Ev_bindc (withinOf _ _) (Ev_pos (decide_eq_true d) (Ev.bind eb (Ev_pos d.1 (Ev_pos (by rw [hl]; exact d.2) (Ev_some _)))))))))), Ev_neg c1 (Ev_neg c2 (Ev_neg c3 (Ev_pos c4 (Ev.bind eb2 (Ev_bindc (inOf _ _) (Ev_pos (decide_eq_true ⟨d.1, by rw [hl]; exact d.2⟩) (Ev_pos d.1 (Ev_pos (by rw [hl]; exact d.2) (Ev_some _))))))))), ?_, by simp; try omega⟩
            rw [List.length_take]
            simp only [List.flatten_nil, List.length_nil, List.length_append]
            omega
          · refine ⟨5, s, p, Ev_neg c1 (Ev_neg c2 (Ev_neg c3 (Ev_pos c4 (Ev.bind (g := fun k => impl_Disk_size.f k s p) ez (Ev_bindc (withinOf _ _) (Ev_neg ?_ (Ev_some _))))))), Ev_neg c1 (Ev_neg c2 (Ev_neg c3 (Ev_pos c4 (Ev.bind eb2 (Ev_bindc (inOf _ _) (Ev_neg ?_ (Ev_some _))))))), h, by omega⟩
            · rw [decide_eq_true_iff]; exact d
            · rw [decide_eq_true_iff, hl]; exact d
        · exact ⟨3, s, p, Ev_neg c1 (Ev_neg c2 (Ev_neg c3 (Ev_neg c4 (Ev_some _)))), Ev_neg c1 (Ev_neg c2 (Ev_neg c3 (Ev_neg c4 (Ev_some _)))), h, by omega⟩
theorem both_run_go : ∀ (suf pre : List S100) (c s : List Int) (p : List (List Int)), (s.length : Int) + p.flatten.length ≤ 8192 → p.length ≤ pre.length → c.length = pre.length → (pre.length : Int) + suf.length ≤ 200 → (∀ x ∈ suf, x.f3.length ≤ 1048576) →
    ∃ c' s' p', Ev (fun k => impl_DiskRun.l0 k (pre ++ suf) (pre.length : Int) c s p) (c', s', p', 0) ∧ Ev (fun k => spec_DiskRun.l0 k (pre ++ suf) (pre.length : Int) c s p) (c', s', p', 0) ∧ (s'.length : Int) + p'.flatten.length ≤ 8192 ∧ (p'.length : Int) ≤ 200 ∧ (c'.length : Int) ≤ 200 := by
  intro suf
  induction suf with
  | nil =>
    intro pre c s p h hp hc hn hr
    exact ⟨c, s, p, Ev.step (fun k => impl_DiskRun.l0.eq_2 _ _ _ _ _ k) (Ev_neg (by simp) (Ev_some _)), Ev.step (fun k => spec_DiskRun.l0.eq_2 _ _ _ _ _ k) (Ev_neg (by simp) (Ev_some _)), h, by simp at hn; omega, by simp at hn; omega⟩
  | cons x suf ih =>
    intro pre c s p h hp hc hn hr
    simp only [List.length_cons] at hn
    have hx := hr x (by simp)
    obtain ⟨v, s1, p1, e1, e2, h1, h2⟩ := both_act x s p h (by omega) (by omega)
    obtain ⟨c', s', p', f1, f2, h3, h4, h5⟩ := ih (pre ++ [x]) (c ++ [v]) s1 p1 h1 (by simp; omega) (by simp; omega) (by simp; omega) (fun y hy => hr y (by simp [hy]))
    have hg := rd100 pre suf x
    have hw : wrap64 ((pre.length : Int) + 1) = ((pre ++ [x]).length : Int) := by rw [wrap64_id (by omega) (by omega)]; simp
    have hs : (pre ++ [x]) ++ suf = pre ++ x :: suf := by simp
    rw [hs, ← hw] at f1 f2
    refine ⟨c', s', p', Ev.step (fun k => impl_DiskRun.l0.eq_2 _ _ _ _ _ k) (Ev_pos (by simp; omega) (Ev_pos (by omega) ?_)), Ev.step (fun k => spec_DiskRun.l0.eq_2 _ _ _ _ _ k) (Ev_pos (by simp; omega) (Ev_pos (by omega) ?_)), h3, h4, h5⟩
    · rw [hg]
      exact Ev.bind e1 (Ev_pos (by omega) f1)
    · rw [hg]
      exact Ev.bind e2 (Ev_pos (by omega) f2)
theorem byte_ok (l : List Int) (hu : ∀ x ∈ l, 0 ≤ x ∧ x < 256) (s1 s2 : Int) (h0 : 0 ≤ s1) (h1 : s1 < 1000000) (h2 : 0 ≤ s2) (h3 : s2 < 2147483648) : ∃ v t, spec_l00Src_byte.f l s1 s2 = some (v, s1 + 1, t) ∧ 0 ≤ v ∧ v < 256 ∧ 0 ≤ t ∧ t < 2147483648 := by
  unfold spec_l00Src_byte.f
  rw [if_pos (by omega)]
  have hr := rd_u8 hu s1
  by_cases c : s1 + 1 ≤ (l.length : Int)
  · rw [if_pos c, if_pos hr]
    exact ⟨_, _, rfl, hr.1, hr.2, Int.emod_nonneg _ (by omega), Int.emod_lt_of_pos _ (by omega)⟩
  · rw [if_neg c]
    by_cases d : s1 + 1 > 3000
    · rw [if_pos d]
      exact ⟨_, _, rfl, by omega, by omega, h2, h3⟩
    · rw [if_neg d]
      exact ⟨_, _, rfl, Int.emod_nonneg _ (by omega), Int.emod_lt_of_pos _ (by omega), Int.emod_nonneg _ (by omega), Int.emod_lt_of_pos _ (by omega)⟩
theorem next_ok (l : List Int) (hu : ∀ x ∈ l, 0 ≤ x ∧ x < 256) (s1 s2 : Int) (h0 : 0 ≤ s1) (h1 : s1 < 1000000) (h2 : 0 ≤ s2) (h3 : s2 < 2147483648) (a : Int) (ha : a ≤ 256) :
    ∃ v p t, spec_l00Src_next.f l s1 s2 a = some (v, p, t) ∧ 0 ≤ v ∧ (v < a ∨ v = 0) ∧ s1 ≤ p ∧ p ≤ s1 + 1 ∧ 0 ≤ t ∧ t < 2147483648 := by
  unfold spec_l00Src_next.f
  by_cases c : a ≤ 1
  · rw [if_pos c]
    exact ⟨0, s1, s2, rfl, by omega, .inr rfl, by omega, by omega, h2, h3⟩
  · rw [if_neg c, if_pos ha]
    obtain ⟨v, t, e, hv, hv2, ht, ht2⟩ := byte_ok l hu s1 s2 h0 h1 h2 h3
    rw [e]
    simp only [Option.bind_some]
    rw [if_neg (by omega), Int.tmod_eq_emod_of_nonneg hv]
    exact ⟨_, _, _, rfl, Int.emod_nonneg _ (by omega), .inl (Int.emod_lt_of_pos _ (by omega)), by omega, by omega, ht, ht2⟩
theorem srcBytes_go (l : List Int) (hu : ∀ x ∈ l, 0 ≤ x ∧ x < 256) : ∀ (n : Nat) (x5 : List Int) (s1 s2 : Int), 0 ≤ s1 → s1 + n < 1000000 → 0 ≤ s2 → s2 < 2147483648 → x5.length + n ≤ 1000000 →
    ∃ o p t, Ev (fun k => spec_l00Src_bytes.l0 k x5 (n : Int) l s1 s2) (o, p, t) ∧ o.length = x5.length + n ∧ s1 ≤ p ∧ p ≤ s1 + n ∧ 0 ≤ t ∧ t < 2147483648 := by
  intro n
  induction n with
  | zero =>
    intro x5 s1 s2 h0 h1 h2 h3 h4
    exact ⟨x5, s1, s2, Ev.step (fun k => spec_l00Src_bytes.l0.eq_2 _ _ _ _ _ k) (Ev_neg (by omega) (Ev_some _)), by omega, by omega, by omega, h2, h3⟩
  | succ n ih =>
    intro x5 s1 s2 h0 h1 h2 h3 h4
    obtain ⟨v, p, t, e, hv, hv2, hp, hp2, ht, ht2⟩ := next_ok l hu s1 s2 h0 (by omega) h2 h3 256 (by omega)
    obtain ⟨o, p', t', e', h5, h6, h7, h8, h9⟩ := ih (x5 ++ [v % 256]) p t (by omega) (by omega) ht ht2 (by simp; omega)
    have hw : wrap64 (((n + 1 : Nat) : Int) - 1) = (n : Int) := by rw [wrap64_id (by omega) (by omega)]; omega
    rw [← hw] at e'
    exact ⟨o, p', t', Ev.step (fun k => spec_l00Src_bytes.l0.eq_2 _ _ _ _ _ k) (Ev_pos (by omega) (Ev_bindc e (Ev_pos (by omega) e'))), by simp at h5; omega, by omega, by omega, h8, h9⟩
theorem srcBytes_ev (l : List Int) (hu : ∀ x ∈ l, 0 ≤ x ∧ x < 256) (s1 s2 : Int) (h0 : 0 ≤ s1) (h1 : s1 < 900000) (h2 : 0 ≤ s2) (h3 : s2 < 2147483648) :
    ∃ o p t, Ev (fun k => spec_l00Src_bytes.f k l s1 s2 8) (o, p, t) ∧ o.length ≤ 8 ∧ s1 ≤ p ∧ p ≤ s1 + 9 ∧ 0 ≤ t ∧ t < 2147483648 := by
  obtain ⟨v, p, t, e, hv, hv2, hp, hp2, ht, ht2⟩ := next_ok l hu s1 s2 h0 (by omega) h2 h3 9 (by omega)
  obtain ⟨n, rfl⟩ := Int.eq_ofNat_of_zero_le hv
  obtain ⟨o, p', t', e', h5, h6, h7, h8, h9⟩ := srcBytes_go l hu n [] p t (by omega) (by omega) ht ht2 (by simp; omega)
  have hw : wrap64 (8 + 1) = 9 := by rw [wrap64_id (by omega) (by omega)]; rfl
  refine ⟨o, p', t', ?_, by simp at h5; omega, by omega, by omega, h8, h9⟩
  unfold spec_l00Src_bytes.f
  rw [hw]
  exact Ev_bindc e e'
theorem srcActs_go (l : List Int) (hu : ∀ x ∈ l, 0 ≤ x ∧ x < 256) : ∀ (n : Nat) (x3 : List S100) (s1 s2 : Int), 0 ≤ s1 → s1 + 20 * n < 800000 → 0 ≤ s2 → s2 < 2147483648 → x3.length + n ≤ 1000000 → (∀ x ∈ x3, x.f3.length ≤ 8) →
    ∃ o p t, Ev (fun k => spec_l00Src_diskActs.l0 k x3 (n : Int) l s1 s2) (o, p, t) ∧ o.length = x3.length + n ∧ ∀ x ∈ o, x.f3.length ≤ 8 := by
  intro n
  induction n with
  | zero =>
    intro x3 s1 s2 h0 h1 h2 h3 h4 h5
    exact ⟨x3, s1, s2, Ev.step (fun k => spec_l00Src_diskActs.l0.eq_2 _ _ _ _ _ k) (Ev_neg (by omega) (Ev_some _)), by omega, h5⟩
  | succ n ih =>
    intro x3 s1 s2 h0 h1 h2 h3 h4 h5
    obtain ⟨o1, p1, t1, e1, hl1, hp1, hp1', ht1, ht1'⟩ := srcBytes_ev l hu s1 s2 h0 (by omega) h2 h3
    obtain ⟨v, p2, t2, e2, hv, hv2, hp2, hp2', ht2, ht2'⟩ := next_ok l hu p1 t1 (by omega) (by omega) ht1 ht1' 8 (by omega)
    have hw : wrap64 (((n + 1 : Nat) : Int) - 1) = (n : Int) := by rw [wrap64_id (by omega) (by omega)]; omega
    have push : ∀ (x : S100) (p t : Int), x.f3.length ≤ 8 → p2 ≤ p → p ≤ p2 + 3 → 0 ≤ t → t < 2147483648 → ∃ o p' t', Ev (fun k => if x3.length < 2932031007402 then spec_l00Src_diskActs.l0 k (x3 ++ [x]) (wrap64 (((n + 1 : Nat) : Int) - 1)) l p t else none) (o, p', t') ∧ o.length = x3.length + (n + 1) ∧ ∀ x ∈ o, x.f3.length ≤ 8 := by
      intro x p t hx hp hp' ht ht'
      obtain ⟨o, p', t', e, h6, h7⟩ := ih (x3 ++ [x]) p t (by omega) (by omega) ht ht' (by simp; omega) (by
        intro y hy
        rcases List.mem_append.1 hy with hy | hy
        · exact h5 y hy
        · rw [List.mem_singleton.1 hy]; exact hx)
      rw [← hw] at e
      exact ⟨o, p', t', Ev_pos (by omega) e, by simp at h6; omega, h7⟩
    have J : ∀ b : Bool, ∃ o p t, Ev (fun k => spec_l00Src_diskActs.j1 k x3 ((n + 1 : Nat) : Int) v b l p2 t2 1 0 0 o1) (o, p, t) ∧ o.length = x3.length + (n + 1) ∧ ∀ x ∈ o, x.f3.length ≤ 8 := by
      intro b
      by_cases hb : b = true
      · obtain ⟨o, p, t, e, h6, h7⟩ := push ⟨2, 0, 0, []⟩ p2 t2 (by simp) (by omega) (by omega) ht2 ht2'
        exact ⟨o, p, t, Ev.step (fun k => spec_l00Src_diskActs.j1.eq_2 _ _ _ _ _ _ _ _ _ _ _ k) (Ev_pos hb e), h6, h7⟩
      · by_cases c2 : v = 2
        · obtain ⟨u1, q1, w1, f1, _, _, g1, g1', g2, g2'⟩ := next_ok l hu p2 t2 (by omega) (by omega) ht2 ht2' 4 (by omega)
          obtain ⟨u2, q2, w2, f2, _, _, k1, k1', k2, k2'⟩ := next_ok l hu q1 w1 (by omega) (by omega) g2 g2' 6 (by omega)
          obtain ⟨o, p, t, e, h6, h7⟩ := push ⟨3, u1, u2, []⟩ q2 w2 (by simp) (by omega) (by omega) k2 k2'
          exact ⟨o, p, t, Ev.step (fun k => spec_l00Src_diskActs.j1.eq_2 _ _ _ _ _ _ _ _ _ _ _ k) (Ev_neg hb (Ev_pos c2 (Ev_bindc f1 (Ev_bindc f2 e)))), h6, h7⟩
        · by_cases c3 : v = 3
          · obtain ⟨u1, q1, w1, f1, _, _, g1, g1', g2, g2'⟩ := next_ok l hu p2 t2 (by omega) (by omega) ht2 ht2' 20 (by omega)
            obtain ⟨o, p, t, e, h6, h7⟩ := push ⟨4, u1, 0, []⟩ q1 w1 (by simp) (by omega) (by omega) g2 g2'
            exact ⟨o, p, t, Ev.step (fun k => spec_l00Src_diskActs.j1.eq_2 _ _ _ _ _ _ _ _ _ _ _ k) (Ev_neg hb (Ev_neg c2 (Ev_pos c3 (Ev_bindc f1 e)))), h6, h7⟩
          · by_cases c4 : v = 4
            · obtain ⟨u1, q1, w1, f1, _, _, g1, g1', g2, g2'⟩ := next_ok l hu p2 t2 (by omega) (by omega) ht2 ht2' 6 (by omega)
              obtain ⟨u2, q2, w2, f2, _, _, k1, k1', k2, k2'⟩ := next_ok l hu q1 w1 (by omega) (by omega) g2 g2' 5 (by omega)
              obtain ⟨u3, q3, w3, f3, _, _, m1, m1', m2, m2'⟩ := next_ok l hu q2 w2 (by omega) (by omega) k2 k2' 5 (by omega)
              obtain ⟨o, p, t, e, h6, h7⟩ := push ⟨u1, wrap64 (u2 - 1), wrap64 (u3 - 1), o1⟩ q3 w3 hl1 (by omega) (by omega) m2 m2'
              exact ⟨o, p, t, Ev.step (fun k => spec_l00Src_diskActs.j1.eq_2 _ _ _ _ _ _ _ _ _ _ _ k) (Ev_neg hb (Ev_neg c2 (Ev_neg c3 (Ev_pos c4 (Ev_bindc f1 (Ev_bindc f2 (Ev_bindc f3 e))))))), h6, h7⟩
            · obtain ⟨o, p, t, e, h6, h7⟩ := push ⟨1, 0, 0, o1⟩ p2 t2 hl1 (by omega) (by omega) ht2 ht2'
              exact ⟨o, p, t, Ev.step (fun k => spec_l00Src_diskActs.j1.eq_2 _ _ _ _ _ _ _ _ _ _ _ k) (Ev_neg hb (Ev_neg c2 (Ev_neg c3 (Ev_neg c4 e)))), h6, h7⟩
    by_cases c : v = 0
    · obtain ⟨o, p, t, e, h6, h7⟩ := J (v == 0)
      exact ⟨o, p, t, Ev.step (fun k => spec_l00Src_diskActs.l0.eq_2 _ _ _ _ _ k) (Ev_pos (by omega) (Ev.bind e1 (Ev_bindc e2 (Ev_pos c e)))), h6, h7⟩
    · obtain ⟨o, p, t, e, h6, h7⟩ := J (v == 1)
      exact ⟨o, p, t, Ev.step (fun k => spec_l00Src_diskActs.l0.eq_2 _ _ _ _ _ k) (Ev_pos (by omega) (Ev.bind e1 (Ev_bindc e2 (Ev_neg c e)))), h6, h7⟩
theorem actsOf_ev (l : List Int) (hu : ∀ x ∈ l, 0 ≤ x ∧ x < 256) (hl : (l.length : Int) ≤ 1048576) : ∃ y, Ev (fun k => spec_DiskActsOf.f k l) y ∧ y.length ≤ 17 ∧ ∀ x ∈ y, x.f3.length ≤ 8 := by
  have hd : wrap64 ((l.length : Int) / 12) = (l.length : Int) / 12 := wrap64_id (by omega) (by omega)
  have hd2 : wrap64 (1 + (l.length : Int) / 12) = 1 + (l.length : Int) / 12 := wrap64_id (by omega) (by omega)
  obtain ⟨m, hm⟩ : ∃ m, m = mn (1 + (l.length : Int) / 12) 16 := ⟨_, rfl⟩
  have hm1 : 1 ≤ m ∧ m ≤ 16 := by rw [hm]; unfold mn; split <;> omega
  have es : ∀ s1 s2, spec_l00Src_size.f l s1 s2 16 = some (m, s1, s2) := fun s1 s2 => by unfold spec_l00Src_size.f; rw [hd, hd2, ← hm]
  have hs : 0 ≤ (l.length : Int) % 1000 ∧ (l.length : Int) % 1000 < 1000 := ⟨Int.emod_nonneg _ (by omega), Int.emod_lt_of_pos _ (by omega)⟩
  have hw : wrap64 (m + 2) = m + 2 := wrap64_id (by omega) (by omega)
  obtain ⟨v, p, t, e, hv, hv2, hp, hp', ht, ht'⟩ := next_ok l hu 0 ((l.length : Int) % 1000) (by omega) (by omega) (by omega) (by omega) (m + 2) (by omega)
  obtain ⟨n, rfl⟩ := Int.eq_ofNat_of_zero_le hv
  obtain ⟨o, p', t', e', h6, h7⟩ := srcActs_go l hu n [] p t (by omega) (by omega) ht ht' (by simp; omega) (by simp)
  rw [← hw] at e
  exact ⟨o, Ev_bindc (show spec_l00Source.f l = some (l, 0, (l.length : Int) % 1000) from rfl) (Ev.bind (Ev_bindc (es _ _) (Ev_bindc e e')) (Ev_some _)), by simp at h6; omega, h7⟩

theorem sameInts_go (a : List Int) (ha : (a.length : Int) ≤ 281474976710656) (d : Nat) : ∀ i : Int, 0 ≤ i → i ≤ (a.length : Int) → (a.length : Int) - i = d → Ev (fun k => laws_sameInts.l0 k a a i) true := by
  induction d with
  | zero =>
    intro i h0 h1 h2
    exact Ev.step (fun k => laws_sameInts.l0.eq_2 a a i k) (Ev_neg (by omega) (Ev_some _))
  | succ d ih =>
    intro i h0 h1 h2
    have hw : wrap64 (i + 1) = i + 1 := wrap64_id (by omega) (by omega)
    have e := ih (i + 1) (by omega) (by omega) (by omega)
    rw [← hw] at e
    exact Ev.step (fun k => laws_sameInts.l0.eq_2 a a i k) (Ev_pos (by omega) (Ev_pos h0 (Ev_pos (by omega) (Ev_pos rfl e))))
theorem sameLists_go (a : List (List Int)) (ha : (a.length : Int) ≤ 281474976710656) (d : Nat) : ∀ i : Int, 0 ≤ i → i ≤ (a.length : Int) → (a.length : Int) - i = d → Ev (fun k => laws_sameLists.l0 k a a i) true := by
  induction d with
  | zero =>
    intro i h0 h1 h2
    exact Ev.step (fun k => laws_sameLists.l0.eq_2 a a i k) (Ev_neg (by omega) (Ev_some _))
  | succ d ih =>
    intro i h0 h1 h2
    have hw : wrap64 (i + 1) = i + 1 := wrap64_id (by omega) (by omega)
    have e := ih (i + 1) (by omega) (by omega) (by omega)
    rw [← hw] at e
    exact Ev.step (fun k => laws_sameLists.l0.eq_2 a a i k) (Ev_pos (by omega) (Ev_pos h0 (Ev_pos (by omega) (Ev_pos rfl e))))
theorem crash_prefix (l : List Int) (ls : List (List Int)) (a t : Nat) : crashOf l ls a t <+: l ++ ls.flatten := by
  unfold crashOf
  rw [List.prefix_append_right_inj]
  have key : ∀ (ls : List (List Int)) (a : Nat), (ls.take a).flatten ++ (ls.getD a []).take t <+: ls.flatten := by
    intro ls
    induction ls with
    | nil => intro a; simp
    | cons x xs ih =>
      intro a
      cases a with
      | zero =>
        simp only [List.take_zero, List.flatten_nil, List.nil_append, List.getD_cons_zero, List.flatten_cons]
        exact (List.take_prefix t x).trans (List.prefix_append _ _)
      | succ a =>
        simp only [List.take_succ_cons, List.flatten_cons, List.append_assoc, List.getD_cons_succ]
        rw [List.prefix_append_right_inj]
        exact ih a
  exact key ls a
theorem diskBytes_ok (s : List Int) (q : List (List Int)) (h : diskGood s q) : Ev (fun k => impl_DiskBytes.f k s q) (s ++ q.flatten, 0) := by
  have h1 := h.1
  have h2 := h.2
  have e := diskOK_ev s q (by omega)
  rw [decide_eq_true h] at e
  exact Ev.bind e (Ev_pos rfl (Ev.bind (implBytes_ev s q (by omega) (by omega)) (Ev_some _)))
theorem crash_ok (s : List Int) (q : List (List Int)) (h : diskGood s q) (a t : Nat) : Ev (fun k => impl_DiskCrash.f k s q (a : Int) (t : Int)) (crashOf s q a t, [], 0) := by
  have h1 := h.1
  have h2 := h.2
  have e := diskOK_ev s q (by omega)
  rw [decide_eq_true h] at e
  refine Ev.bind e (Ev_bindc (unlessOf _ _) (Ev_pos (by omega) (Ev_bindc (unlessOf _ _) (Ev.bind (first_two _ _) (Ev_pos ?_ (Ev.bind (implCrash_ev s q a t (by omega)) (Ev_some _)))))))
  rw [if_pos rfl, if_pos rfl, if_pos (decide_eq_true (by omega))]
theorem run_ok (l : List S100) (hl : (l.length : Int) ≤ 200) (hr : ∀ x ∈ l, x.f3.length ≤ 1048576) :
    ∃ c s p, Ev (fun k => impl_DiskRun.f k l) (c, s, p, 0) ∧ Ev (fun k => spec_DiskRun.f k l) (c, s, p, 0) ∧ (s.length : Int) + p.flatten.length ≤ 8192 ∧ (p.length : Int) ≤ 200 ∧ (c.length : Int) ≤ 200 := by
  have hlong : impl_longList.f (l.length : Int) = some (if (l.length : Int) ≤ 4096 then 0 else 2) := by
    unfold impl_longList.f
    rw [unlessOf]
    simp
  obtain ⟨c', s', p', f1, f2, h3, h4, h5⟩ := both_run_go l [] [] [] [] (by simp) (by simp) rfl (by simpa using hl) hr
  refine ⟨c', s', p', Ev_bindc hlong (Ev_bindc (unlessOf _ _) (Ev.bind (first_two _ _) (Ev_pos ?_ f1))), Ev_neg (by omega) (Ev_neg (by omega) f2), h3, h4, h5⟩
  rw [if_pos (show (l.length : Int) ≤ 4096 by omega), if_pos rfl, if_pos (decide_eq_true hl)]
theorem FnDisk (l0 l1 : List Int) (hu0 : ∀ x ∈ l0, 0 ≤ x ∧ x < 256) (hu1 : ∀ x ∈ l1, 0 ≤ x ∧ x < 256) (h0 : (l0.length : Int) ≤ 1048576) (h1 : (l1.length : Int) ≤ 1048576) :
    ∃ (k : Nat) (y : List S100) (c s : List Int) (q : List (List Int)) (d : List Int) (a1 a2 : Int), (d.length : Int) ≤ ((s ++ q.flatten).length : Int) ∧ (s.length : Int) ≤ (d.length : Int) ∧ d = (s ++ q.flatten).take (d.length : Int).toNat ∧
    spec_DiskActsOf.f k l0 = some y ∧ impl_DiskRun.f k y = some (c, s, q, 0) ∧ spec_DiskRun.f k y = some (c, s, q, 0) ∧ laws_sameInts.f k c c = some true ∧ laws_sameLists.f k q q = some true ∧
    impl_DiskBytes.f k s q = some (s ++ q.flatten, 0) ∧ laws_at.f l1 0 5 = some a1 ∧ laws_at.f l1 1 9 = some a2 ∧ impl_DiskCrash.f k s q a1 a2 = some (d, [], 0) ∧ impl_DiskBytes.f k d [] = some (d, 0) := by
  obtain ⟨y, ⟨k1, e1⟩, hy, hr⟩ := actsOf_ev l0 hu0 h0
  obtain ⟨c, s, q, ⟨k2, e2⟩, ⟨k3, e3⟩, hs, hq, hc⟩ := run_ok y (by omega) (fun x hx => by have := hr x hx; omega)
  have good : diskGood s q := ⟨hq, hs⟩
  obtain ⟨a1, f1, ha1, _⟩ := at_ev l1 hu1 (by omega) 0 5 (by omega) (by omega)
  obtain ⟨a2, f2, ha2, _⟩ := at_ev l1 hu1 (by omega) 1 9 (by omega) (by omega)
  obtain ⟨n1, rfl⟩ := Int.eq_ofNat_of_zero_le ha1
  obtain ⟨n2, rfl⟩ := Int.eq_ofNat_of_zero_le ha2
  have hp := crash_prefix s q n1 n2
  have hle := crash_len s q n1 n2
  have hge : s.length ≤ (crashOf s q n1 n2).length := by unfold crashOf; simp only [List.length_append]; omega
  obtain ⟨k4, e4⟩ : Ev (fun k => laws_sameInts.f k c c) true := Ev_pos rfl (sameInts_go c (by omega) c.length 0 (by omega) (by omega) (by omega))
  obtain ⟨k5, e5⟩ : Ev (fun k => laws_sameLists.f k q q) true := Ev_pos rfl (sameLists_go q (by omega) q.length 0 (by omega) (by omega) (by omega))
  obtain ⟨k6, e6⟩ := diskBytes_ok s q good
  obtain ⟨k7, e7⟩ := crash_ok s q good n1 n2
  obtain ⟨k8, e8⟩ := diskBytes_ok (crashOf s q n1 n2) [] ⟨by simp, by simp only [List.flatten_nil, List.length_nil]; omega⟩
  simp only [List.flatten_nil, List.append_nil] at e8
  exact ⟨k1 + k2 + k3 + k4 + k5 + k6 + k7 + k8, y, c, s, q, crashOf s q n1 n2, _, _, by simp only [List.length_append]; omega, by omega, by simpa using List.prefix_iff_eq_take.1 hp, e1 _ (by omega), e2 _ (by omega), e3 _ (by omega), e4 _ (by omega), e5 _ (by omega), e6 _ (by omega), f1, f2, e7 _ (by omega), e8 _ (by omega)⟩

end Go.Proofs.Ytfclobfoghbblaa.Pure
