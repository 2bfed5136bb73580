/- FnExactNameOK: for every text the program's NameOK and the reference's answer alike. No conditions. -/
import Derived.Test.YtjblpjfiiinjbaaPFnExactNameOKx2
import Derived.OpenShut
namespace Go.Proofs.Ytjblpjfiiinjbaa.Pure
open Go.RowKit Go.Proofs.Ytjblpjfiiinjbaa.PFnExactNameOK Go.Proofs.YtjblpjfiiinjbaaW.PrintWords Go.Proofs.YtjblpjfiiinjbaaW.PrintLast Go.Proofs.YtjblpjfiiinjbaaW.PrintMore
set_option linter.unusedVariables false
set_option linter.unusedSimpArgs false

theorem Ev_pos {α : Type} {c : Prop} [Decidable c] {A B : Nat → Option α} {r : α} (h : c) (e : Ev A r) : Ev (fun k => if c then A k else B k) r := by
  simpa only [if_pos h] using e
theorem Ev_neg {α : Type} {c : Prop} [Decidable c] {A B : Nat → Option α} {r : α} (h : ¬ c) (e : Ev B r) : Ev (fun k => if c then A k else B k) r := by
  simpa only [if_neg h] using e
theorem Ev_some {α : Type} (r : α) : Ev (fun _ => some r) r := Ev.now r
theorem Ev_const {α : Type} {x : Option α} {r : α} (h : x = some r) : Ev (fun _ => x) r := ⟨0, fun _ _ => h⟩
theorem Ev_eq {α : Type} {A : Nat → Option α} {r q : α} (h : Ev A r) (e : r = q) : Ev A q := e ▸ h
theorem Ev_bindc {α β : Type} {x : Option α} {f : Nat → α → Option β} {a : α} {r : β} (h : x = some a) (k : Ev (fun n => f n a) r) : Ev (fun n => x.bind (f n)) r := Ev.bind (g := fun _ => x) (Ev_const h) k
theorem wrap64_id {x : Int} (h0 : -9223372036854775808 ≤ x) (h1 : x ≤ 9223372036854775807) : wrap64 x = x := by
  unfold wrap64; omega
theorem int_bounds {x : Int} (h : (Lit.int .i64 x).wf = true) : -9223372036854775808 ≤ x ∧ x < 9223372036854775808 := by
  have := Go.bounds_i64 h
  omega
theorem u8_bounds {l : List Int} (h : ∀ x ∈ l, (Lit.int .u8 x).wf = true) : ∀ x ∈ l, 0 ≤ x ∧ x < 256 := by
  intro x hx
  have := Go.bounds_u8 (h x hx)
  omega

theorem letter_eq (c : Int) : ∃ b : Bool, spec_l00Letter.f c = some b ∧ (b = true ↔ (97 ≤ c ∧ c ≤ 122) ∨ (65 ≤ c ∧ c ≤ 90) ∨ c = 95) := by
  unfold spec_l00Letter.f
  by_cases h1 : c ≥ 97 <;> by_cases h2 : c ≤ 122 <;> by_cases h3 : c ≥ 65 <;> by_cases h4 : c ≤ 90 <;> simp only [h1, h2, h3, h4, if_true, if_false] <;> refine ⟨_, rfl, ?_⟩ <;> simp <;> omega
theorem digit_eq (c : Int) : ∃ b : Bool, spec_l00Digit.f c = some b ∧ (b = true ↔ 48 ≤ c ∧ c ≤ 57) := by
  unfold spec_l00Digit.f
  by_cases h1 : c ≥ 48 <;> simp only [h1, if_true, if_false] <;> refine ⟨_, rfl, ?_⟩ <;> simp <;> omega
theorem impl_end (x : ByteArray) (i : Int) : Ev (fun k => impl_NameOK.j1 k x i false) (decide (1 ≤ (x.size : Int)) && decide ((x.size : Int) ≤ 40)) := by
  refine Ev.step (fun k => impl_NameOK.j1.eq_2 x i false k) (Ev_neg (by decide) ?_)
  refine Ev_bindc (a := decide (1 ≤ (x.size : Int)) && decide ((x.size : Int) ≤ 40)) ?_ (Ev_some _)
  unfold impl_within.f
  by_cases h : 1 ≤ (x.size : Int) <;> simp [h]
theorem impl_go (x : ByteArray) (i : Int) (h0 : 0 ≤ i) (h1 : i < (x.size : Int)) (b : Bool) (hb : b = true ↔ ((97 ≤ bt x i ∧ bt x i ≤ 122) ∨ (65 ≤ bt x i ∧ bt x i ≤ 90) ∨ bt x i = 95) ∨ (i ≠ 0 ∧ 48 ≤ bt x i ∧ bt x i ≤ 57))
    (k : Nat) : impl_NameOK.j1 (k + 1) x i true = if b = true then impl_NameOK.l0 k x (wrap64 (i + 1)) else some false := by
  rw [impl_NameOK.j1.eq_2, if_pos rfl, if_pos h0, if_pos h1]
  generalize bt x i = c at hb ⊢
  by_cases h2 : 97 ≤ c <;> by_cases h3 : c ≤ 122 <;> by_cases h4 : 65 ≤ c <;> by_cases h5 : c ≤ 90 <;> by_cases h6 : c = 95 <;> by_cases h7 : i = 0 <;> by_cases h8 : c < 48 <;> by_cases h9 : c > 57 <;>
    first
    | (exfalso; omega)
    | (have hbt : b = true := by rw [hb]; omega
       subst h6
       simp [hbt])
    | (have hbt : b = true := by rw [hb]; omega
       simp only [h2, h3, h4, h5, h6, h7, h8, h9, hbt, if_true, if_false])
    | (have hbt : ¬ b = true := by rw [hb]; omega
       simp only [h2, h3, h4, h5, h6, h7, h8, h9, hbt, if_true, if_false]; rfl)
theorem NameOK_any (x : ByteArray) (hx : (x.size : Int) ≤ 140737488351232) (d : Nat) : ∀ i : Int, 0 ≤ i → i ≤ (x.size : Int) → (x.size : Int) - i = d → ∃ b : Bool, Ev (fun k => impl_NameOK.l0 k x i) b ∧ (b = true → 1 ≤ (x.size : Int) ∧ (x.size : Int) ≤ 40) := by
  induction d with
  | zero =>
    intro i h0 h1 hd
    exact ⟨_, Ev.step (fun k => impl_NameOK.l0.eq_2 x i k) (Ev_neg (by omega) (impl_end x i)), by simp⟩
  | succ d ih =>
    intro i h0 h1 hd
    by_cases h100 : i < 100
    · obtain ⟨b, hb, hb2⟩ := ih (i + 1) (by omega) (by omega) (by omega)
      have hw : wrap64 (i + 1) = i + 1 := wrap64_id (by omega) (by omega)
      rw [← hw] at hb
      obtain ⟨g, hg⟩ : ∃ g : Bool, (g = true ↔ ((97 ≤ bt x i ∧ bt x i ≤ 122) ∨ (65 ≤ bt x i ∧ bt x i ≤ 90) ∨ bt x i = 95) ∨ (i ≠ 0 ∧ 48 ≤ bt x i ∧ bt x i ≤ 57)) := ⟨decide _, decide_eq_true_iff⟩
      have step : ∀ r, Ev (fun k => if g = true then impl_NameOK.l0 k x (wrap64 (i + 1)) else some false) r → Ev (fun k => impl_NameOK.l0 k x i) r := by
        intro r hr
        refine Ev.step (fun k => impl_NameOK.l0.eq_2 x i k) (Ev_pos (by omega) ?_)
        rw [decide_eq_true h100]
        exact Ev.step (fun k => impl_go x i h0 (by omega) g hg k) hr
      by_cases hgt : g = true
      · exact ⟨b, step b (Ev_pos hgt hb), hb2⟩
      · exact ⟨false, step false (Ev_neg hgt (Ev_some _)), by simp⟩
    · refine ⟨decide (1 ≤ (x.size : Int)) && decide ((x.size : Int) ≤ 40), Ev.step (fun k => impl_NameOK.l0.eq_2 x i k) (Ev_pos (by omega) ?_), ?_⟩
      · rw [decide_eq_false h100]
        exact impl_end x i
      · simp
theorem NameOK_same (x : ByteArray) (hx : 1 ≤ (x.size : Int)) (hx4 : (x.size : Int) ≤ 40) (d : Nat) : ∀ i : Int, 1 ≤ i → i ≤ (x.size : Int) → (x.size : Int) - i = d → ∃ b : Bool, Ev (fun k => impl_NameOK.l0 k x i) b ∧ Ev (fun k => spec_l00Word.l0 k x i) b := by
  induction d with
  | zero =>
    intro i h0 h1 hd
    refine ⟨true, Ev.step (fun k => impl_NameOK.l0.eq_2 x i k) (Ev_neg (by omega) (Ev_eq (impl_end x i) (by simp; omega))), Ev.step (fun k => spec_l00Word.l0.eq_2 x i k) (Ev_neg (by omega) (Ev_some _))⟩
  | succ d ih =>
    intro i h0 h1 hd
    obtain ⟨b, hb, hb2⟩ := ih (i + 1) (by omega) (by omega) (by omega)
    have hw : wrap64 (i + 1) = i + 1 := wrap64_id (by omega) (by omega)
    rw [← hw] at hb hb2
    obtain ⟨l, hl, hl2⟩ := letter_eq (bt x i)
    obtain ⟨g, hg, hg2⟩ := digit_eq (bt x i)
    have step : ∀ r, Ev (fun k => if (l || g) = true then impl_NameOK.l0 k x (wrap64 (i + 1)) else some false) r → Ev (fun k => impl_NameOK.l0 k x i) r := by
      intro r hr
      refine Ev.step (fun k => impl_NameOK.l0.eq_2 x i k) (Ev_pos (by omega) ?_)
      rw [decide_eq_true (by omega)]
      exact Ev.step (fun k => impl_go x i (by omega) (by omega) (l || g) (by rw [Bool.or_eq_true, hl2, hg2]; omega) k) hr
    cases l with
    | true => exact ⟨b, step b (Ev_pos rfl hb), Ev.step (fun k => spec_l00Word.l0.eq_2 x i k) (Ev_pos (by omega) (Ev_pos (by omega) (Ev_bindc hl (Ev_pos rfl hb2))))⟩
    | false =>
      cases g with
      | true => exact ⟨b, step b (Ev_pos rfl hb), Ev.step (fun k => spec_l00Word.l0.eq_2 x i k) (Ev_pos (by omega) (Ev_pos (by omega) (Ev_bindc hl (Ev_neg (by decide) (Ev_bindc hg (Ev_pos rfl hb2))))))⟩
      | false => exact ⟨false, step false (Ev_neg (by decide) (Ev_some _)), Ev.step (fun k => spec_l00Word.l0.eq_2 x i k) (Ev_pos (by omega) (Ev_pos (by omega) (Ev_bindc hl (Ev_neg (by decide) (Ev_bindc hg (Ev_neg (by decide) (Ev_some _)))))))⟩
theorem NameOK_both (x : ByteArray) (hx : (x.size : Int) ≤ 140737488351232) : ∃ b : Bool, Ev (fun k => impl_NameOK.f k x) b ∧ Ev (fun k => spec_NameOK.f k x) b := by
  by_cases h1 : 1 ≤ (x.size : Int) ∧ (x.size : Int) ≤ 40
  · obtain ⟨b, hb, hb2⟩ := NameOK_same x h1.1 h1.2 (x.size - 1) 1 (by omega) (by omega) (by omega)
    have hw : wrap64 ((0 : Int) + 1) = 1 := wrap64_id (by omega) (by omega)
    obtain ⟨l, hl, hl2⟩ := letter_eq (bt x 0)
    have step : ∀ r, Ev (fun k => if l = true then impl_NameOK.l0 k x (wrap64 (0 + 1)) else some false) r → Ev (fun k => impl_NameOK.f k x) r := by
      intro r hr
      refine Ev.step (g := fun k => impl_NameOK.l0 k x 0) (fun k => impl_NameOK.l0.eq_2 x 0 k) (Ev_pos (by omega) ?_)
      rw [decide_eq_true (by omega)]
      exact Ev.step (fun k => impl_go x 0 (by omega) (by omega) l (by rw [hl2]; omega) k) hr
    have spec : ∀ r, Ev (fun k => spec_l00Word.j0 k x (!l)) r → Ev (fun k => spec_NameOK.f k x) r := by
      intro r hr
      exact Ev.bind (g := fun k => spec_l00Word.f k x) (Ev_neg (by omega) (Ev_neg (by omega) (Ev_pos (by omega) (Ev_bindc hl hr)))) (Ev_some _)
    rw [hw] at step
    cases l with
    | true => exact ⟨b, step b (Ev_pos rfl hb), spec b (Ev.step (fun k => spec_l00Word.j0.eq_2 x _ k) (Ev_neg (by decide) hb2))⟩
    | false => exact ⟨false, step false (Ev_neg (by decide) (Ev_some _)), spec false (Ev.step (fun k => spec_l00Word.j0.eq_2 x _ k) (Ev_pos rfl (Ev_some _)))⟩
  · obtain ⟨b, hb, hb2⟩ := NameOK_any x hx x.size 0 (by omega) (by omega) (by omega)
    have hbf : b = false := by cases b with
      | true => exact absurd (hb2 rfl) (by omega)
      | false => rfl
    subst hbf
    refine ⟨false, hb, Ev.bind (g := fun k => spec_l00Word.f k x) (a := false) ?_ (Ev_some _)⟩
    by_cases h2 : (x.size : Int) < 1
    · exact Ev_pos h2 (Ev.step (fun k => spec_l00Word.j0.eq_2 x true k) (Ev_pos rfl (Ev_some _)))
    · exact Ev_neg h2 (Ev_pos (by omega) (Ev.step (fun k => spec_l00Word.j0.eq_2 x true k) (Ev_pos rfl (Ev_some _))))

theorem FnExactNameOK : laws_FnExactNameOK.Pure := by
  intro x hx
  obtain ⟨b, h1, h2⟩ := NameOK_both x (by omega)
  refine Ev.rounds ?_
  by_cases h : (x.size : Int) > 1048576
  · exact Ev_pos h (Ev_some _)
  · exact Ev_neg h (Ev.bind h2 (Ev.bind h1 (Ev_neg (by simp) (Ev_some _))))

end Go.Proofs.Ytjblpjfiiinjbaa.Pure
