/- The program's StateOK answers as the reference's: in plain numbers and lists, no conditions. -/
import Derived.Test.YtfclobfoghbblaaPFnExactStateOKx10
import Derived.OpenShut
namespace Go.Proofs.Ytfclobfoghbblaa.Pure
open Go.RowKit Go.Proofs.Ytfclobfoghbblaa.PFnExactStateOK Go.Proofs.YtfclobfoghbblaaW.PrintWords Go.Proofs.YtfclobfoghbblaaW.PrintLast Go.Proofs.YtfclobfoghbblaaW.PrintMore
set_option linter.unusedVariables false
set_option linter.unusedSimpArgs false

theorem Ev_pos {α : Type} {c : Prop} [Decidable c] {A B : Nat → Option α} {r : α} (h : c) (e : Ev A r) : Ev (fun k => if c then A k else B k) r := by
  simpa only [if_pos h] using e
theorem Ev_neg {α : Type} {c : Prop} [Decidable c] {A B : Nat → Option α} {r : α} (h : ¬ c) (e : Ev B r) : Ev (fun k => if c then A k else B k) r := by
  simpa only [if_neg h] using e
theorem Ev_some {α : Type} (r : α) : Ev (fun _ => some r) r := Ev.now r
theorem Ev_const {α : Type} {x : Option α} {r : α} (h : x = some r) : Ev (fun _ => x) r := ⟨0, fun _ _ => h⟩
theorem Ev_eq {α : Type} {A : Nat → Option α} {r q : α} (h : Ev A r) (e : r = q) : Ev A q := e ▸ h
theorem Ev_bindc {α β : Type} {x : Option α} {f : Nat → α → Option β} {a : α} {r : β} (h : x = some a) (k : Ev (fun n => f n a) r) : Ev (fun n => x.bind (f n)) r := Ev.bind (g := fun _ => x) (Ev_const h) k
theorem wrap64_id {x : Int} (h0 : -9223372036854775808 ≤ x) (h1 : x ≤ 9223372036854775807) : wrap64 x = x := by
  unfold wrap64; omega
theorem int_bounds {x : Int} (h : (Lit.int .i64 x).wf = true) : -9223372036854775808 ≤ x ∧ x < 9223372036854775808 := by
  have := Go.bounds_i64 h
  omega
theorem u8_bounds {l : List Int} (h : ∀ x ∈ l, (Lit.int .u8 x).wf = true) : ∀ x ∈ l, 0 ≤ x ∧ x < 256 := by
  intro x hx
  have := Go.bounds_u8 (h x hx)
  omega

theorem letter_eq (c : Int) : ∃ b : Bool, spec_l00Letter.f c = some b ∧ (b = true ↔ (97 ≤ c ∧ c ≤ 122) ∨ (65 ≤ c ∧ c ≤ 90) ∨ c = 95) := by
  unfold spec_l00Letter.f
  by_cases h1 : c ≥ 97 <;> by_cases h2 : c ≤ 122 <;> by_cases h3 : c ≥ 65 <;> by_cases h4 : c ≤ 90 <;> simp only [h1, h2, h3, h4, if_true, if_false] <;> refine ⟨_, rfl, ?_⟩ <;> simp <;> omega
theorem digit_eq (c : Int) : ∃ b : Bool, spec_l00Digit.f c = some b ∧ (b = true ↔ 48 ≤ c ∧ c ≤ 57) := by
  unfold spec_l00Digit.f
  by_cases h1 : c ≥ 48 <;> simp only [h1, if_true, if_false] <;> refine ⟨_, rfl, ?_⟩ <;> simp <;> omega
theorem impl_end (x : ByteArray) (i : Int) : Ev (fun k => impl_NameOK.j1 k x i false) (decide (1 ≤ (x.size : Int)) && decide ((x.size : Int) ≤ 40)) := by
  refine Ev.step (fun k => impl_NameOK.j1.eq_2 x i false k) (Ev_neg (by decide) ?_)
  refine Ev_bindc (a := decide (1 ≤ (x.size : Int)) && decide ((x.size : Int) ≤ 40)) ?_ (Ev_some _)
  unfold impl_within.f
  by_cases h : 1 ≤ (x.size : Int) <;> simp [h]
theorem impl_go (x : ByteArray) (i : Int) (h0 : 0 ≤ i) (h1 : i < (x.size : Int)) (b : Bool) (hb : b = true ↔ ((97 ≤ bt x i ∧ bt x i ≤ 122) ∨ (65 ≤ bt x i ∧ bt x i ≤ 90) ∨ bt x i = 95) ∨ (i ≠ 0 ∧ 48 ≤ bt x i ∧ bt x i ≤ 57))
    (k : Nat) : impl_NameOK.j1 (k + 1) x i true = if b = true then impl_NameOK.l0 k x (wrap64 (i + 1)) else some false := by
  rw [impl_NameOK.j1.eq_2, if_pos rfl, if_pos h0, if_pos h1]
  generalize bt x i = c at hb ⊢
  by_cases h2 : 97 ≤ c <;> by_cases h3 : c ≤ 122 <;> by_cases h4 : 65 ≤ c <;> by_cases h5 : c ≤ 90 <;> by_cases h6 : c = 95 <;> by_cases h7 : i = 0 <;> by_cases h8 : c < 48 <;> by_cases h9 : c > 57 <;>
    first
    | (exfalso; omega)
    | (have hbt : b = true := by rw [hb]; omega
       subst h6
       simp [hbt])
    | (have hbt : b = true := by rw [hb]; omega
       simp only [h2, h3, h4, h5, h6, h7, h8, h9, hbt, if_true, if_false])
    | (have hbt : ¬ b = true := by rw [hb]; omega
       simp only [h2, h3, h4, h5, h6, h7, h8, h9, hbt, if_true, if_false]; rfl)
theorem NameOK_any (x : ByteArray) (hx : (x.size : Int) ≤ 140737488351232) (d : Nat) : ∀ i : Int, 0 ≤ i → i ≤ (x.size : Int) → (x.size : Int) - i = d → ∃ b : Bool, Ev (fun k => impl_NameOK.l0 k x i) b ∧ (b = true → 1 ≤ (x.size : Int) ∧ (x.size : Int) ≤ 40) := by
  induction d with
  | zero =>
    intro i h0 h1 hd
    exact ⟨_, Ev.step (fun k => impl_NameOK.l0.eq_2 x i k) (Ev_neg (by omega) (impl_end x i)), by simp⟩
  | succ d ih =>
    intro i h0 h1 hd
    by_cases h100 : i < 100
    · obtain ⟨b, hb, hb2⟩ := ih (i + 1) (by omega) (by omega) (by omega)
      have hw : wrap64 (i + 1) = i + 1 := wrap64_id (by omega) (by omega)
      rw [← hw] at hb
      obtain ⟨g, hg⟩ : ∃ g : Bool, (g = true ↔ ((97 ≤ bt x i ∧ bt x i ≤ 122) ∨ (65 ≤ bt x i ∧ bt x i ≤ 90) ∨ bt x i = 95) ∨ (i ≠ 0 ∧ 48 ≤ bt x i ∧ bt x i ≤ 57)) := ⟨decide _, decide_eq_true_iff⟩
      have step : ∀ r, Ev (fun k => if g = true then impl_NameOK.l0 k x (wrap64 (i + 1)) else some false) r → Ev (fun k => impl_NameOK.l0 k x i) r := by
        intro r hr
        refine Ev.step (fun k => impl_NameOK.l0.eq_2 x i k) (Ev_pos (by omega) ?_)
        rw [decide_eq_true h100]
        exact Ev.step (fun k => impl_go x i h0 (by omega) g hg k) hr
      by_cases hgt : g = true
      · exact ⟨b, step b (Ev_pos hgt hb), hb2⟩
      · exact ⟨false, step false (Ev_neg hgt (Ev_some _)), by simp⟩
    · refine ⟨decide (1 ≤ (x.size : Int)) && decide ((x.size : Int) ≤ 40), Ev.step (fun k => impl_NameOK.l0.eq_2 x i k) (Ev_pos (by omega) ?_), ?_⟩
      · rw [decide_eq_false h100]
        exact impl_end x i
      · simp
theorem NameOK_same (x : ByteArray) (hx : 1 ≤ (x.size : Int)) (hx4 : (x.size : Int) ≤ 40) (d : Nat) : ∀ i : Int, 1 ≤ i → i ≤ (x.size : Int) → (x.size : Int) - i = d → ∃ b : Bool, Ev (fun k => impl_NameOK.l0 k x i) b ∧ Ev (fun k => spec_l00Word.l0 k x i) b := by
  induction d with
  | zero =>
    intro i h0 h1 hd
    refine ⟨true, Ev.step (fun k => impl_NameOK.l0.eq_2 x i k) (Ev_neg (by omega) (Ev_eq (impl_end x i) (by simp; omega))), Ev.step (fun k => spec_l00Word.l0.eq_2 x i k) (Ev_neg (by omega) (Ev_some _))⟩
  | succ d ih =>
    intro i h0 h1 hd
    obtain ⟨b, hb, hb2⟩ := ih (i + 1) (by omega) (by omega) (by omega)
    have hw : wrap64 (i + 1) = i + 1 := wrap64_id (by omega) (by omega)
    rw [← hw] at hb hb2
    obtain ⟨l, hl, hl2⟩ := letter_eq (bt x i)
    obtain ⟨g, hg, hg2⟩ := digit_eq (bt x i)
    have step : ∀ r, Ev (fun k => if (l || g) = true then impl_NameOK.l0 k x (wrap64 (i + 1)) else some false) r → Ev (fun k => impl_NameOK.l0 k x i) r := by
      intro r hr
      refine Ev.step (fun k => impl_NameOK.l0.eq_2 x i k) (Ev_pos (by omega) ?_)
      rw [decide_eq_true (by omega)]
      exact Ev.step (fun k => impl_go x i (by omega) (by omega) (l || g) (by rw [Bool.or_eq_true, hl2, hg2]; omega) k) hr
    cases l with
    | true => exact ⟨b, step b (Ev_pos rfl hb), Ev.step (fun k => spec_l00Word.l0.eq_2 x i k) (Ev_pos (by omega) (Ev_pos (by omega) (Ev_bindc hl (Ev_pos rfl hb2))))⟩
    | false =>
      cases g with
      | true => exact ⟨b, step b (Ev_pos rfl hb), Ev.step (fun k => spec_l00Word.l0.eq_2 x i k) (Ev_pos (by omega) (Ev_pos (by omega) (Ev_bindc hl (Ev_neg (by decide) (Ev_bindc hg (Ev_pos rfl hb2))))))⟩
      | false => exact ⟨false, step false (Ev_neg (by decide) (Ev_some _)), Ev.step (fun k => spec_l00Word.l0.eq_2 x i k) (Ev_pos (by omega) (Ev_pos (by omega) (Ev_bindc hl (Ev_neg (by decide) (Ev_bindc hg (Ev_neg (by decide) (Ev_some _)))))))⟩
theorem NameOK_both (x : ByteArray) (hx : (x.size : Int) ≤ 140737488351232) : ∃ b : Bool, Ev (fun k => impl_NameOK.f k x) b ∧ Ev (fun k => spec_NameOK.f k x) b := by
  by_cases h1 : 1 ≤ (x.size : Int) ∧ (x.size : Int) ≤ 40
  · obtain ⟨b, hb, hb2⟩ := NameOK_same x h1.1 h1.2 (x.size - 1) 1 (by omega) (by omega) (by omega)
    have hw : wrap64 ((0 : Int) + 1) = 1 := wrap64_id (by omega) (by omega)
    obtain ⟨l, hl, hl2⟩ := letter_eq (bt x 0)
    have step : ∀ r, Ev (fun k => if l = true then impl_NameOK.l0 k x (wrap64 (0 + 1)) else some false) r → Ev (fun k => impl_NameOK.f k x) r := by
      intro r hr
      refine Ev.step (g := fun k => impl_NameOK.l0 k x 0) (fun k => impl_NameOK.l0.eq_2 x 0 k) (Ev_pos (by omega) ?_)
      rw [decide_eq_true (by omega)]
      exact Ev.step (fun k => impl_go x 0 (by omega) (by omega) l (by rw [hl2]; omega) k) hr
    have spec : ∀ r, Ev (fun k => spec_l00Word.j0 k x (!l)) r → Ev (fun k => spec_NameOK.f k x) r := by
      intro r hr
      exact Ev.bind (g := fun k => spec_l00Word.f k x) (Ev_neg (by omega) (Ev_neg (by omega) (Ev_pos (by omega) (Ev_bindc hl hr)))) (Ev_some _)
    rw [hw] at step
    cases l with
    | true => exact ⟨b, step b (Ev_pos rfl hb), spec b (Ev.step (fun k => spec_l00Word.j0.eq_2 x _ k) (Ev_neg (by decide) hb2))⟩
    | false => exact ⟨false, step false (Ev_neg (by decide) (Ev_some _)), spec false (Ev.step (fun k => spec_l00Word.j0.eq_2 x _ k) (Ev_pos rfl (Ev_some _)))⟩
  · obtain ⟨b, hb, hb2⟩ := NameOK_any x hx x.size 0 (by omega) (by omega) (by omega)
    have hbf : b = false := by cases b with
      | true => exact absurd (hb2 rfl) (by omega)
      | false => rfl
    subst hbf
    refine ⟨false, hb, Ev.bind (g := fun k => spec_l00Word.f k x) (a := false) ?_ (Ev_some _)⟩
    by_cases h2 : (x.size : Int) < 1
    · exact Ev_pos h2 (Ev.step (fun k => spec_l00Word.j0.eq_2 x true k) (Ev_pos rfl (Ev_some _)))
    · exact Ev_neg h2 (Ev_pos (by omega) (Ev.step (fun k => spec_l00Word.j0.eq_2 x true k) (Ev_pos rfl (Ev_some _))))

theorem within_ev (a b c : Int) : impl_within.f a b c = some (decide (b ≤ a ∧ a ≤ c)) := by
  unfold impl_within.f
  by_cases h : b ≤ a
  · rw [if_pos h]; simp [h]
  · rw [if_neg h]; simp [h]
theorem l02In_ev (a b c : Int) : spec_l02In.f a b c = some (decide (b ≤ a ∧ a ≤ c)) := by
  unfold spec_l02In.f
  by_cases h : a ≥ b
  · rw [if_pos h]; simp; omega
  · rw [if_neg h]; simp; omega

theorem isCount_ev (a : Int) : impl_isCount.f a = some (decide (1 ≤ a ∧ a ≤ 1000000)) := by
  unfold impl_isCount.f
  rw [within_ev, Option.bind_some]
def fsz (y : S137) : Nat := y.f0.size + y.f2.size
theorem szFile_ev (y : S137) (h0 : y.f0.size ≤ 9223372036854775807) (h2 : y.f2.size ≤ 9223372036854775807) (a : Int) (ha : 0 ≤ a) (hb : a ≤ 1048576) : ∃ z, laws_szFile.f y.f0 y.f1 y.f2 a = some z ∧ (z = -1 ∨ (0 ≤ z ∧ z ≤ a ∧ y.f0.size ≤ 1048576 ∧ y.f2.size ≤ 1048576)) := by
  unfold laws_szFile.f
  have w1 : wrap64 (a - (y.f0.size : Int)) = a - y.f0.size := wrap64_id (by omega) (by omega)
  rw [w1]
  by_cases c1 : a - (y.f0.size : Int) < 0
  · rw [if_pos c1]; exact ⟨_, rfl, .inl rfl⟩
  · have w2 : wrap64 (a - (y.f0.size : Int) - (y.f2.size : Int)) = a - y.f0.size - y.f2.size := wrap64_id (by omega) (by omega)
    rw [if_neg c1, w2]
    by_cases c2 : a - (y.f0.size : Int) - (y.f2.size : Int) < 0
    · rw [if_pos c2]; exact ⟨_, rfl, .inl rfl⟩
    · rw [if_neg c2]; exact ⟨_, rfl, .inr ⟨by omega, by omega, by omega, by omega⟩⟩
theorem szSession_ev (y : S141) (h2 : y.f2.f2.size ≤ 9223372036854775807) (a : Int) (ha : 0 ≤ a) (hb : a ≤ 1048576) : ∃ z, laws_szSession.f y.f0 y.f1 y.f2.f0 y.f2.f1 y.f2.f2 a = some z ∧ (z = -1 ∨ (0 ≤ z ∧ z ≤ a ∧ y.f2.f2.size ≤ 1048576)) := by
  unfold laws_szSession.f laws_szReply.f
  have w1 : wrap64 (a - (y.f2.f2.size : Int)) = a - y.f2.f2.size := wrap64_id (by omega) (by omega)
  rw [w1]
  by_cases c1 : a - (y.f2.f2.size : Int) < 0
  · rw [if_pos c1]; exact ⟨_, rfl, .inl rfl⟩
  · rw [if_neg c1, Option.bind_some, if_neg c1]; exact ⟨_, rfl, .inr ⟨by omega, by omega, by omega⟩⟩
def toF (y : S137) : S109 := ⟨y.f0, y.f1, y.f2⟩
def toS (y : S141) : S116 := ⟨y.f0, y.f1, ⟨y.f2.f0, y.f2.f1, y.f2.f2⟩⟩
theorem rd137_mid (pre suf : List S137) (r : S137) : rd_T137 (pre ++ r :: suf) (pre.length : Int) = r := by unfold rd_T137; simp [List.getD]
theorem rd109_mid (pre suf : List S109) (r : S109) : rd_T109 (pre ++ r :: suf) (pre.length : Int) = r := by unfold rd_T109; simp [List.getD]
theorem szFileS_go : ∀ (suf pre : List S137) (a : Int), (pre.length : Int) + suf.length ≤ 1048576 → (∀ y ∈ suf, y.f0.size ≤ 9223372036854775807 ∧ y.f2.size ≤ 9223372036854775807) → 0 ≤ a → a ≤ 1048576 → ∃ z, Ev (fun k => laws_szFileS.l0 k (pre ++ suf) a (pre.length : Int)) z ∧ (z = -1 ∨ (0 ≤ z ∧ z ≤ a ∧ ∀ y ∈ suf, y.f0.size ≤ 1048576 ∧ y.f2.size ≤ 1048576)) := by
  intro suf
  induction suf with
  | nil =>
    intro pre a hl h ha hb
    exact ⟨a, Ev.step (fun k => laws_szFileS.l0.eq_2 _ _ _ k) (Ev_neg (by simp) (Ev_some _)), .inr ⟨ha, Int.le_refl _, by simp⟩⟩
  | cons y suf ih =>
    intro pre a hl h ha hb
    simp only [List.length_cons] at hl
    obtain ⟨z, hz, hz2⟩ := szFile_ev y (h y (by simp)).1 (h y (by simp)).2 a ha hb
    have hr := rd137_mid pre suf y
    rcases hz2 with rfl | hz2
    · exact ⟨-1, Ev.step (fun k => laws_szFileS.l0.eq_2 _ _ _ k) (Ev_pos (by simp; omega) (Ev_pos (by omega) (Ev_bindc (by rw [hr]; exact hz) (Ev_pos (by decide) (Ev_some _))))), .inl rfl⟩
    · obtain ⟨q, hq, hq2⟩ := ih (pre ++ [y]) z (by simp; omega) (fun x hx => h x (by simp [hx])) hz2.1 (by omega)
      have hw : wrap64 ((pre.length : Int) + 1) = ((pre ++ [y]).length : Int) := by rw [wrap64_id (by omega) (by omega)]; simp
      rw [← hw, show (pre ++ [y]) ++ suf = pre ++ y :: suf by simp] at hq
      refine ⟨q, Ev.step (fun k => laws_szFileS.l0.eq_2 _ _ _ k) (Ev_pos (by simp; omega) (Ev_pos (by omega) (Ev_bindc (by rw [hr]; exact hz) (Ev_neg (by omega) hq)))), ?_⟩
      rcases hq2 with rfl | ⟨hq3, hq4, hq5⟩
      · exact .inl rfl
      · refine .inr ⟨hq3, by omega, fun x hx => ?_⟩
        rcases List.mem_cons.1 hx with rfl | hx
        · exact hz2.2.2
        · exact hq5 x hx
theorem szFileS_ev (ls : List S137) (hl : ls.length ≤ 9223372036854775807) (h : ∀ y ∈ ls, y.f0.size ≤ 9223372036854775807 ∧ y.f2.size ≤ 9223372036854775807) (a : Int) (ha : 0 ≤ a) (hb : a ≤ 1048576) : ∃ z, Ev (fun k => laws_szFileS.f k ls a) z ∧ (z = -1 ∨ (0 ≤ z ∧ z ≤ a ∧ ls.length ≤ 1048576 ∧ ∀ y ∈ ls, y.f0.size ≤ 1048576 ∧ y.f2.size ≤ 1048576)) := by
  have w1 : wrap64 (a - (ls.length : Int)) = a - ls.length := wrap64_id (by omega) (by omega)
  by_cases c1 : a - (ls.length : Int) < 0
  · exact ⟨-1, Ev_pos (by rw [w1]; exact c1) (Ev_some _), .inl rfl⟩
  · obtain ⟨z, hz, hz2⟩ := szFileS_go ls [] (a - ls.length) (by simp; omega) h (by omega) (by omega)
    refine ⟨z, Ev_neg (by rw [w1]; exact c1) (by rw [w1]; exact hz), ?_⟩
    rcases hz2 with rfl | ⟨h1, h2, h3⟩
    · exact .inl rfl
    · exact .inr ⟨h1, by omega, by omega, h3⟩
theorem toFileS_go : ∀ (suf pre : List S137) (zs : List S109), zs.length = suf.length → (pre.length : Int) + suf.length ≤ 1048576 → Ev (fun k => laws_toFileS.l0 k (pre ++ suf) (pre.map toF ++ zs) (pre.length : Int)) ((pre ++ suf).map toF) := by
  intro suf
  induction suf with
  | nil =>
    intro pre zs hz h
    have : zs = [] := List.eq_nil_of_length_eq_zero (by simpa using hz)
    subst this
    exact Ev_eq (Ev.step (fun k => laws_toFileS.l0.eq_2 _ _ _ k) (Ev_neg (by simp) (Ev_some _))) (by simp)
  | cons y suf ih =>
    intro pre zs hz h
    cases zs with
    | nil => simp at hz
    | cons z zs =>
      simp only [List.length_cons] at hz h
      have e := ih (pre ++ [y]) zs (by omega) (by simp; omega)
      have hw : wrap64 ((pre.length : Int) + 1) = ((pre ++ [y]).length : Int) := by rw [wrap64_id (by omega) (by omega)]; simp
      have h1 : (pre ++ [y]) ++ suf = pre ++ y :: suf := by simp
      have h2 : (pre ++ [y]).map toF ++ zs = (pre.map toF ++ z :: zs).set ((pre.length : Int)).toNat (toF y) := by simp
      have hr := rd137_mid pre suf y
      rw [← hw, h1, h2] at e
      refine Ev.step (fun k => laws_toFileS.l0.eq_2 _ _ _ k) (Ev_pos (by simp; omega) (Ev_pos (by omega) (Ev_bindc (by rw [hr]; rfl) (Ev_pos (by simp; omega) ?_))))
      exact e
theorem toFileS_ev (ls : List S137) (h : (ls.length : Int) ≤ 1048576) : Ev (fun k => laws_toFileS.f k ls) (ls.map toF) := by
  have e := toFileS_go ls [] (List.replicate ls.length z109) (by simp) (by simpa using h)
  exact Ev_pos (by omega) (Ev_pos (by omega) (by simpa using e))
theorem eqFile_self (y : S109) : laws_eqFile.f y.f0 y.f1 y.f2 y.f0 y.f1 y.f2 = some true := by
  unfold laws_eqFile.f
  simp
theorem eqFileS_go (ls : List S109) (hl : (ls.length : Int) ≤ 1048576) : ∀ (suf pre : List S109), ls = pre ++ suf → Ev (fun k => laws_eqFileS.l0 k ls ls (pre.length : Int)) true := by
  intro suf
  induction suf with
  | nil =>
    intro pre h
    exact Ev.step (fun k => laws_eqFileS.l0.eq_2 _ _ _ k) (Ev_neg (by rw [h]; simp) (Ev_some _))
  | cons y suf ih =>
    intro pre h
    have e := ih (pre ++ [y]) (by rw [h]; simp)
    have hln : (ls.length : Int) = pre.length + 1 + suf.length := by rw [h]; simp; omega
    have hw : wrap64 ((pre.length : Int) + 1) = ((pre ++ [y]).length : Int) := by rw [wrap64_id (by omega) (by omega)]; simp
    rw [← hw] at e
    exact Ev.step (fun k => laws_eqFileS.l0.eq_2 _ _ _ k) (Ev_pos (by omega) (Ev_pos (by omega) (Ev_pos (by omega) (Ev_bindc (eqFile_self _) (Ev_pos rfl e)))))
theorem eqFileS_self (ls : List S109) (hl : (ls.length : Int) ≤ 1048576) : Ev (fun k => laws_eqFileS.f k ls ls) true := Ev_pos rfl (eqFileS_go ls hl ls [] rfl)
theorem idxFile_app (a : ByteArray) : ∀ (pre l : List S109) (s : Int), 0 ≤ s → (impl_State_file.idx a pre s = -1 ∧ impl_State_file.idx a (pre ++ l) s = impl_State_file.idx a l (s + pre.length)) ∨ (s ≤ impl_State_file.idx a pre s ∧ impl_State_file.idx a pre s < s + pre.length ∧ impl_State_file.idx a (pre ++ l) s = impl_State_file.idx a pre s)
  | [], l, s, hs => .inl ⟨rfl, by simp⟩
  | x :: pre, l, s, hs => by
    simp only [List.cons_append, impl_State_file.idx, List.length_cons]
    cases hx : (x.f0.toList == a.toList) with
    | true => exact .inr ⟨by simp, by simp; omega, by simp⟩
    | false =>
      simp only [Bool.false_eq_true, if_false]
      have := idxFile_app a pre l (s + 1) (by omega)
      rw [show s + ((pre.length + 1 : Nat) : Int) = s + 1 + (pre.length : Int) by push_cast; omega]
      omega
theorem idxFile_here (pre suf : List S109) (x : S109) : (0 ≤ impl_State_file.idx x.f0 pre 0) ↔ ¬ impl_State_file.idx x.f0 (pre ++ x :: suf) 0 = (pre.length : Int) := by
  have hx : impl_State_file.idx x.f0 (x :: suf) (0 + (pre.length : Int)) = 0 + (pre.length : Int) := by
    rw [impl_State_file.idx, if_pos (by simp)]
  rcases idxFile_app x.f0 pre (x :: suf) 0 (by omega) with ⟨h1, h2⟩ | ⟨h1, h2, h3⟩
  · rw [h1, h2, hx]; omega
  · rw [h3]; omega
theorem l09File_go (a : ByteArray) : ∀ (suf pre : List S109), (pre.length : Int) + suf.length ≤ 1048576 → Ev (fun k => spec_l09File.l0 k (pre ++ suf) a (pre.length : Int)) (impl_State_file.idx a suf (pre.length : Int)) := by
  intro suf
  induction suf with
  | nil =>
    intro pre h
    exact Ev.step (fun k => spec_l09File.l0.eq_2 _ _ _ k) (Ev_neg (by simp) (Ev_some _))
  | cons x suf ih =>
    intro pre h
    simp only [List.length_cons] at h
    have e := ih (pre ++ [x]) (by simp; omega)
    have hw : wrap64 ((pre.length : Int) + 1) = ((pre ++ [x]).length : Int) := by rw [wrap64_id (by omega) (by omega)]; simp
    have hr := rd109_mid pre suf x
    rw [← hw, show (pre ++ [x]) ++ suf = pre ++ x :: suf by simp] at e
    refine Ev.step (fun k => spec_l09File.l0.eq_2 _ _ _ k) (Ev_pos (by simp; omega) (Ev_pos (by omega) ?_))
    rw [hr, impl_State_file.idx]
    by_cases hx : ((x).f0).toList = a.toList
    · exact Ev_pos hx (Ev_eq (Ev_some _) (by rw [if_pos (by simpa using hx)]))
    · refine Ev_neg hx (Ev_eq e ?_)
      rw [if_neg (by simpa using hx), wrap64_id (by omega) (by omega)]
theorem l09File_ev (a : ByteArray) (ls : List S109) (h : (ls.length : Int) ≤ 1048576) : Ev (fun k => spec_l09File.f k ls a) (impl_State_file.idx a ls 0) := l09File_go a ls [] (by simpa using h)
theorem rd141_mid (pre suf : List S141) (r : S141) : rd_T141 (pre ++ r :: suf) (pre.length : Int) = r := by unfold rd_T141; simp [List.getD]
theorem rd116_mid (pre suf : List S116) (r : S116) : rd_T116 (pre ++ r :: suf) (pre.length : Int) = r := by unfold rd_T116; simp [List.getD]
theorem szSessionS_go : ∀ (suf pre : List S141) (a : Int), (pre.length : Int) + suf.length ≤ 1048576 → (∀ y ∈ suf, y.f2.f2.size ≤ 9223372036854775807) → 0 ≤ a → a ≤ 1048576 → ∃ z, Ev (fun k => laws_szSessionS.l0 k (pre ++ suf) a (pre.length : Int)) z ∧ (z = -1 ∨ (0 ≤ z ∧ z ≤ a ∧ ∀ y ∈ suf, y.f2.f2.size ≤ 1048576)) := by
  intro suf
  induction suf with
  | nil =>
    intro pre a hl h ha hb
    exact ⟨a, Ev.step (fun k => laws_szSessionS.l0.eq_2 _ _ _ k) (Ev_neg (by simp) (Ev_some _)), .inr ⟨ha, Int.le_refl _, by simp⟩⟩
  | cons y suf ih =>
    intro pre a hl h ha hb
    simp only [List.length_cons] at hl
    obtain ⟨z, hz, hz2⟩ := szSession_ev y (h y (by simp)) a ha hb
    have hr := rd141_mid pre suf y
    rcases hz2 with rfl | hz2
    · exact ⟨-1, Ev.step (fun k => laws_szSessionS.l0.eq_2 _ _ _ k) (Ev_pos (by simp; omega) (Ev_pos (by omega) (Ev_bindc (by rw [hr]; exact hz) (Ev_pos (by decide) (Ev_some _))))), .inl rfl⟩
    · obtain ⟨q, hq, hq2⟩ := ih (pre ++ [y]) z (by simp; omega) (fun x hx => h x (by simp [hx])) hz2.1 (by omega)
      have hw : wrap64 ((pre.length : Int) + 1) = ((pre ++ [y]).length : Int) := by rw [wrap64_id (by omega) (by omega)]; simp
      rw [← hw, show (pre ++ [y]) ++ suf = pre ++ y :: suf by simp] at hq
      refine ⟨q, Ev.step (fun k => laws_szSessionS.l0.eq_2 _ _ _ k) (Ev_pos (by simp; omega) (Ev_pos (by omega) (Ev_bindc (by rw [hr]; exact hz) (Ev_neg (by omega) hq)))), ?_⟩
      rcases hq2 with rfl | ⟨hq3, hq4, hq5⟩
      · exact .inl rfl
      · refine .inr ⟨hq3, by omega, fun x hx => ?_⟩
        rcases List.mem_cons.1 hx with rfl | hx
        · exact hz2.2.2
        · exact hq5 x hx
theorem szSessionS_ev (ls : List S141) (hl : ls.length ≤ 9223372036854775807) (h : ∀ y ∈ ls, y.f2.f2.size ≤ 9223372036854775807) (a : Int) (ha : 0 ≤ a) (hb : a ≤ 1048576) : ∃ z, Ev (fun k => laws_szSessionS.f k ls a) z ∧ (z = -1 ∨ (0 ≤ z ∧ z ≤ a ∧ ls.length ≤ 1048576 ∧ ∀ y ∈ ls, y.f2.f2.size ≤ 1048576)) := by
  have w1 : wrap64 (a - (ls.length : Int)) = a - ls.length := wrap64_id (by omega) (by omega)
  by_cases c1 : a - (ls.length : Int) < 0
  · exact ⟨-1, Ev_pos (by rw [w1]; exact c1) (Ev_some _), .inl rfl⟩
  · obtain ⟨z, hz, hz2⟩ := szSessionS_go ls [] (a - ls.length) (by simp; omega) h (by omega) (by omega)
    refine ⟨z, Ev_neg (by rw [w1]; exact c1) (by rw [w1]; exact hz), ?_⟩
    rcases hz2 with rfl | ⟨h1, h2, h3⟩
    · exact .inl rfl
    · exact .inr ⟨h1, by omega, by omega, h3⟩
theorem toSessionS_go : ∀ (suf pre : List S141) (zs : List S116), zs.length = suf.length → (pre.length : Int) + suf.length ≤ 1048576 → Ev (fun k => laws_toSessionS.l0 k (pre ++ suf) (pre.map toS ++ zs) (pre.length : Int)) ((pre ++ suf).map toS) := by
  intro suf
  induction suf with
  | nil =>
    intro pre zs hz h
    have : zs = [] := List.eq_nil_of_length_eq_zero (by simpa using hz)
    subst this
    exact Ev_eq (Ev.step (fun k => laws_toSessionS.l0.eq_2 _ _ _ k) (Ev_neg (by simp) (Ev_some _))) (by simp)
  | cons y suf ih =>
    intro pre zs hz h
    cases zs with
    | nil => simp at hz
    | cons z zs =>
      simp only [List.length_cons] at hz h
      have e := ih (pre ++ [y]) zs (by omega) (by simp; omega)
      have hw : wrap64 ((pre.length : Int) + 1) = ((pre ++ [y]).length : Int) := by rw [wrap64_id (by omega) (by omega)]; simp
      have h1 : (pre ++ [y]) ++ suf = pre ++ y :: suf := by simp
      have h2 : (pre ++ [y]).map toS ++ zs = (pre.map toS ++ z :: zs).set ((pre.length : Int)).toNat (toS y) := by simp
      have hr := rd141_mid pre suf y
      rw [← hw, h1, h2] at e
      refine Ev.step (fun k => laws_toSessionS.l0.eq_2 _ _ _ k) (Ev_pos (by simp; omega) (Ev_pos (by omega) (Ev_bindc (by rw [hr]; rfl) (Ev_pos (by simp; omega) ?_))))
      exact e
theorem toSessionS_ev (ls : List S141) (h : (ls.length : Int) ≤ 1048576) : Ev (fun k => laws_toSessionS.f k ls) (ls.map toS) := by
  have e := toSessionS_go ls [] (List.replicate ls.length z116) (by simp) (by simpa using h)
  exact Ev_pos (by omega) (Ev_pos (by omega) (by simpa using e))
theorem eqSession_self (y : S116) : laws_eqSession.f y.f0 y.f1 y.f2.f0 y.f2.f1 y.f2.f2 y.f0 y.f1 y.f2.f0 y.f2.f1 y.f2.f2 = some true := by
  unfold laws_eqSession.f laws_eqReply.f
  simp
theorem eqSessionS_go (ls : List S116) (hl : (ls.length : Int) ≤ 1048576) : ∀ (suf pre : List S116), ls = pre ++ suf → Ev (fun k => laws_eqSessionS.l0 k ls ls (pre.length : Int)) true := by
  intro suf
  induction suf with
  | nil =>
    intro pre h
    exact Ev.step (fun k => laws_eqSessionS.l0.eq_2 _ _ _ k) (Ev_neg (by rw [h]; simp) (Ev_some _))
  | cons y suf ih =>
    intro pre h
    have e := ih (pre ++ [y]) (by rw [h]; simp)
    have hln : (ls.length : Int) = pre.length + 1 + suf.length := by rw [h]; simp; omega
    have hw : wrap64 ((pre.length : Int) + 1) = ((pre ++ [y]).length : Int) := by rw [wrap64_id (by omega) (by omega)]; simp
    rw [← hw] at e
    exact Ev.step (fun k => laws_eqSessionS.l0.eq_2 _ _ _ k) (Ev_pos (by omega) (Ev_pos (by omega) (Ev_pos (by omega) (Ev_bindc (eqSession_self _) (Ev_pos rfl e)))))
theorem eqSessionS_self (ls : List S116) (hl : (ls.length : Int) ≤ 1048576) : Ev (fun k => laws_eqSessionS.f k ls ls) true := Ev_pos rfl (eqSessionS_go ls hl ls [] rfl)
theorem idxSession_app (a : Int) : ∀ (pre l : List S116) (s : Int), 0 ≤ s → (impl_State_session.idx a pre s = -1 ∧ impl_State_session.idx a (pre ++ l) s = impl_State_session.idx a l (s + pre.length)) ∨ (s ≤ impl_State_session.idx a pre s ∧ impl_State_session.idx a pre s < s + pre.length ∧ impl_State_session.idx a (pre ++ l) s = impl_State_session.idx a pre s)
  | [], l, s, hs => .inl ⟨rfl, by simp⟩
  | x :: pre, l, s, hs => by
    simp only [List.cons_append, impl_State_session.idx, List.length_cons]
    cases hx : (x.f0 == a) with
    | true => exact .inr ⟨by simp, by simp; omega, by simp⟩
    | false =>
      simp only [Bool.false_eq_true, if_false]
      have := idxSession_app a pre l (s + 1) (by omega)
      rw [show s + ((pre.length + 1 : Nat) : Int) = s + 1 + (pre.length : Int) by push_cast; omega]
      omega
theorem idxSession_here (pre suf : List S116) (x : S116) : (0 ≤ impl_State_session.idx x.f0 pre 0) ↔ ¬ impl_State_session.idx x.f0 (pre ++ x :: suf) 0 = (pre.length : Int) := by
  have hx : impl_State_session.idx x.f0 (x :: suf) (0 + (pre.length : Int)) = 0 + (pre.length : Int) := by
    rw [impl_State_session.idx, if_pos (by simp)]
  rcases idxSession_app x.f0 pre (x :: suf) 0 (by omega) with ⟨h1, h2⟩ | ⟨h1, h2, h3⟩
  · rw [h1, h2, hx]; omega
  · rw [h3]; omega
theorem l09Session_go (a : Int) : ∀ (suf pre : List S116), (pre.length : Int) + suf.length ≤ 1048576 → Ev (fun k => spec_l09Session.l0 k (pre ++ suf) a (pre.length : Int)) (impl_State_session.idx a suf (pre.length : Int)) := by
  intro suf
  induction suf with
  | nil =>
    intro pre h
    exact Ev.step (fun k => spec_l09Session.l0.eq_2 _ _ _ k) (Ev_neg (by simp) (Ev_some _))
  | cons x suf ih =>
    intro pre h
    simp only [List.length_cons] at h
    have e := ih (pre ++ [x]) (by simp; omega)
    have hw : wrap64 ((pre.length : Int) + 1) = ((pre ++ [x]).length : Int) := by rw [wrap64_id (by omega) (by omega)]; simp
    have hr := rd116_mid pre suf x
    rw [← hw, show (pre ++ [x]) ++ suf = pre ++ x :: suf by simp] at e
    refine Ev.step (fun k => spec_l09Session.l0.eq_2 _ _ _ k) (Ev_pos (by simp; omega) (Ev_pos (by omega) ?_))
    rw [hr, impl_State_session.idx]
    by_cases hx : ((x).f0) = a
    · exact Ev_pos hx (Ev_eq (Ev_some _) (by rw [if_pos (by simpa using hx)]))
    · refine Ev_neg hx (Ev_eq e ?_)
      rw [if_neg (by simpa using hx), wrap64_id (by omega) (by omega)]
theorem l09Session_ev (a : Int) (ls : List S116) (h : (ls.length : Int) ≤ 1048576) : Ev (fun k => spec_l09Session.f k ls a) (impl_State_session.idx a ls 0) := l09Session_go a ls [] (by simpa using h)
/-! the hash's digits -/
def hexb (c : Int) : Bool := decide ((48 ≤ c ∧ c ≤ 57) ∨ (97 ≤ c ∧ c ≤ 102))
def hexFrom (t : ByteArray) : Nat → Nat → Bool
  | _, 0 => true
  | i, n + 1 => hexb (bt t i) && hexFrom t (i + 1) n
theorem contains_go (x : ByteArray) (c : Int) (hx : (x.size : Int) ≤ 1048576) : ∀ (d i : Nat), i + d = x.size → ∃ b : Bool, Ev (fun k => impl_contains.l0 k x c (x.size : Int) (i : Int)) b ∧ (b = true ↔ ∃ j : Nat, i ≤ j ∧ j < x.size ∧ bt x j = c) := by
  intro d
  induction d with
  | zero =>
    intro i hi
    exact ⟨false, Ev.step (fun k => impl_contains.l0.eq_2 _ _ _ _ k) (Ev_neg (by omega) (Ev_some _)), by simp; omega⟩
  | succ d ih =>
    intro i hi
    by_cases h : bt x (i : Int) = c
    · exact ⟨true, Ev.step (fun k => impl_contains.l0.eq_2 _ _ _ _ k) (Ev_pos (by omega) (Ev_pos (by omega) (Ev_pos (by omega) (Ev_pos h (Ev_some _))))), by simp; exact ⟨i, Nat.le_refl _, by omega, h⟩⟩
    · obtain ⟨b, e, hb⟩ := ih (i + 1) (by omega)
      have hw : wrap64 ((i : Int) + 1) = ((i + 1 : Nat) : Int) := by rw [wrap64_id (by omega) (by omega)]; rfl
      rw [← hw] at e
      refine ⟨b, Ev.step (fun k => impl_contains.l0.eq_2 _ _ _ _ k) (Ev_pos (by omega) (Ev_pos (by omega) (Ev_pos (by omega) (Ev_neg h e)))), hb.trans ⟨fun ⟨j, h1, h2, h3⟩ => ⟨j, by omega, h2, h3⟩, fun ⟨j, h1, h2, h3⟩ => ⟨j, ?_, h2, h3⟩⟩⟩
      rcases Nat.lt_or_ge i j with hj | hj
      · omega
      · obtain rfl : i = j := by omega
        exact absurd h3 h
def hexT : ByteArray := ⟨#[48, 49, 50, 51, 52, 53, 54, 55, 56, 57, 97, 98, 99, 100, 101, 102]⟩
theorem hexT_at : ∀ j : Fin 16, bt hexT ((j : Nat) : Int) = if (j : Nat) < 10 then 48 + ((j : Nat) : Int) else 87 + ((j : Nat) : Int) := by decide +kernel
theorem contains_hex (c : Int) : Ev (fun k => impl_contains.f k hexT c) (hexb c) := by
  obtain ⟨b, e, hb⟩ := contains_go hexT c (by decide +kernel) 16 0 (by decide +kernel)
  have hs : hexT.size = 16 := by decide +kernel
  have : b = hexb c := by
    rw [Bool.eq_iff_iff, hb]
    unfold hexb
    rw [decide_eq_true_eq]
    constructor
    · rintro ⟨j, _, h2, h3⟩
      have := hexT_at ⟨j, by omega⟩
      simp only at this
      rw [h3] at this
      split at this <;> omega
    · rintro (h | h)
      · refine ⟨(c - 48).toNat, Nat.zero_le _, by omega, ?_⟩
        have := hexT_at ⟨(c - 48).toNat, by omega⟩
        simp only at this
        rw [this, if_pos (by omega)]
        omega
      · refine ⟨(c - 87).toNat, Nat.zero_le _, by omega, ?_⟩
        have := hexT_at ⟨(c - 87).toNat, by omega⟩
        simp only at this
        rw [this, if_neg (by omega)]
        omega
  rw [← this]
  exact e
theorem shaOK_go (x : ByteArray) (hx : (x.size : Int) ≤ 1048576) : ∀ (d i : Nat), i + d = x.size → Ev (fun k => impl_shaOK.l0 k x (x.size : Int) (i : Int)) (hexFrom x i d && ((x.size : Int) == 64)) := by
  intro d
  induction d with
  | zero =>
    intro i hi
    exact Ev.step (fun k => impl_shaOK.l0.eq_2 _ _ _ k) (Ev_neg (by omega) (Ev_eq (Ev_some _) (by simp [hexFrom])))
  | succ d ih =>
    intro i hi
    have e := ih (i + 1) (by omega)
    have hw : wrap64 ((i : Int) + 1) = ((i + 1 : Nat) : Int) := by rw [wrap64_id (by omega) (by omega)]; rfl
    rw [← hw] at e
    refine Ev.step (fun k => impl_shaOK.l0.eq_2 _ _ _ k) (Ev_pos (by omega) (Ev_pos (by omega) (Ev_pos (by omega) (Ev.bind (contains_hex _) ?_))))
    rw [hexFrom]
    cases hexb (bt x (i : Int)) with
    | true => exact Ev_pos rfl (Ev_eq e (by simp))
    | false => exact Ev_neg (by decide) (Ev_eq (Ev_some _) (by simp))
theorem l09Sha_go (x : ByteArray) (hx : (x.size : Int) ≤ 1048576) : ∀ (d i : Nat), i + d = x.size → Ev (fun k => spec_l09Sha.l0 k x (i : Int)) (hexFrom x i d && (decide ((x.size : Int) = 64) || ((x.size : Int) == 0))) := by
  intro d
  induction d with
  | zero =>
    intro i hi
    refine Ev.step (fun k => spec_l09Sha.l0.eq_2 _ _ k) (Ev_neg (by omega) ?_)
    by_cases h : (x.size : Int) = 64
    · exact Ev_pos h (Ev_eq (Ev_some _) (by simp [hexFrom, h]))
    · exact Ev_neg h (Ev_eq (Ev_some _) (by simp [hexFrom, h]))
  | succ d ih =>
    intro i hi
    have e := ih (i + 1) (by omega)
    have hw : wrap64 ((i : Int) + 1) = ((i + 1 : Nat) : Int) := by rw [wrap64_id (by omega) (by omega)]; rfl
    rw [← hw] at e
    obtain ⟨b, hb, hb2⟩ := digit_eq (bt x (i : Int))
    refine Ev.step (fun k => spec_l09Sha.l0.eq_2 _ _ k) (Ev_pos (by omega) (Ev_pos (by omega) (Ev_bindc hb ?_)))
    rw [hexFrom]
    by_cases h1 : b = true
    · have h2 := hb2.1 h1
      exact Ev_pos h1 (Ev_eq e (by rw [show hexb (bt x (i : Int)) = true from decide_eq_true (.inl h2)]; simp))
    · have h2 : ¬ (48 ≤ bt x (i : Int) ∧ bt x (i : Int) ≤ 57) := fun h => h1 (hb2.2 h)
      refine Ev_neg h1 ?_
      by_cases h3 : bt x (i : Int) < 97
      · exact Ev_pos h3 (Ev_eq (Ev_some _) (by rw [show hexb (bt x (i : Int)) = false from decide_eq_false (by omega)]; simp))
      · by_cases h4 : bt x (i : Int) > 102
        · exact Ev_neg h3 (Ev_pos h4 (Ev_eq (Ev_some _) (by rw [show hexb (bt x (i : Int)) = false from decide_eq_false (by omega)]; simp)))
        · exact Ev_neg h3 (Ev_neg h4 (Ev_eq e (by rw [show hexb (bt x (i : Int)) = true from decide_eq_true (by omega)]; simp)))
theorem empty_len (t : ByteArray) : t.toList.length = t.size := by rw [ByteArray.toList_eq]; simp
theorem empty_iff (t : ByteArray) : (t.toList != ([] : List UInt8)) = !((t.size : Int) == 0) := by
  have hl := empty_len t
  rw [Bool.eq_iff_iff, bne_iff_ne, Bool.not_eq_true', beq_eq_false_iff_ne]
  exact ⟨fun h1 h2 => h1 (List.eq_nil_of_length_eq_zero (by omega)), fun h1 h2 => h1 (by rw [h2] at hl; simp only [List.length_nil] at hl; omega)⟩
theorem empty_iff2 (t : ByteArray) : (t.toList == ([] : List UInt8)) = ((t.size : Int) == 0) := by
  have hl := empty_len t
  rw [Bool.eq_iff_iff, beq_iff_eq, beq_iff_eq]
  exact ⟨fun h2 => by rw [h2] at hl; simp only [List.length_nil] at hl; omega, fun h2 => List.eq_nil_of_length_eq_zero (by omega)⟩
theorem hexFrom_nil (t : ByteArray) (h : (t.size : Int) = 0) : hexFrom t 0 t.size = true := by
  have : t.size = 0 := by omega
  rw [this]; rfl
theorem reply_same (c v : Int) (t : ByteArray) (ht : (t.size : Int) ≤ 1048576) : ∃ b : Bool, Ev (fun k => spec_l09Reply.f k c v t) b ∧ Ev (fun k => impl_replyOK.f k c v t) b := by
  have e1 : Ev (fun k => spec_l09Sha.f k t) _ := l09Sha_go t ht t.size 0 (by omega)
  have e2 : Ev (fun k => impl_shaOK.f k t) _ := shaOK_go t ht t.size 0 (by omega)
  have hn := hexFrom_nil t
  generalize hexFrom t 0 t.size = H at e1 e2 hn
  by_cases hc : c = 0
  · subst hc
    refine ⟨decide (1 ≤ v ∧ v ≤ 1000000) && (H && ((t.size : Int) == 64)), ?_, ?_⟩
    · refine Ev_bindc (l02In_ev _ _ _) (Ev_pos (by decide) (Ev_bindc (l02In_ev _ _ _) ?_))
      by_cases hv : 0 ≤ v ∧ v ≤ 1000000
      · refine Ev_pos (decide_eq_true hv) (Ev.bind e1 ?_)
        rw [empty_iff]
        cases H with
        | false => exact Ev_neg (by simp) (Ev_eq (Ev_some _) (by simp))
        | true =>
          by_cases h64 : (t.size : Int) = 64
          · rw [h64]
            exact Ev_pos (by decide) (Ev_pos (by decide) (Ev_eq (Ev_some _) (by rw [Bool.eq_iff_iff]; simp; omega)))
          · by_cases h0 : (t.size : Int) = 0
            · rw [h0]
              exact Ev_pos (by decide) (Ev_neg (by decide) (Ev_eq (Ev_some _) (by simp)))
            · exact Ev_neg (by rw [decide_eq_false h64, show ((t.size : Int) == 0) = false from beq_eq_false_iff_ne.mpr h0]; decide) (Ev_eq (Ev_some _) (by simp [h64]))
      · exact Ev_neg (by simpa using hv) (Ev_eq (Ev_some _) (by rw [show decide (1 ≤ v ∧ v ≤ 1000000) = false from decide_eq_false (by omega)]; simp))
    · refine Ev_pos rfl (Ev_bindc (isCount_ev v) ?_)
      by_cases hv : 1 ≤ v ∧ v ≤ 1000000
      · exact Ev_pos (decide_eq_true hv) (Ev.bind e2 (Ev_eq (Ev_some _) (by rw [decide_eq_true hv]; simp)))
      · exact Ev_neg (by simpa using hv) (Ev_eq (Ev_some _) (by rw [decide_eq_false hv]; simp))
  · refine ⟨decide (0 ≤ c ∧ c ≤ 15) && (decide (v = 0) && ((t.size : Int) == 0)), ?_, ?_⟩
    · refine Ev_bindc (l02In_ev _ _ _) ?_
      by_cases hc2 : 0 ≤ c ∧ c ≤ 15
      · refine Ev_pos (decide_eq_true hc2) (Ev_bindc (l02In_ev _ _ _) ?_)
        rw [decide_eq_true hc2]
        by_cases hv : 0 ≤ v ∧ v ≤ 1000000
        · refine Ev_pos (decide_eq_true hv) (Ev.bind e1 ?_)
          rw [empty_iff, show (c == 0) = false from beq_eq_false_iff_ne.mpr hc]
          by_cases h0 : (t.size : Int) = 0
          · rw [hn h0, h0]
            refine Ev_pos (by decide) (Ev_pos (by decide) (Ev_eq (Ev_some _) ?_))
            rw [Bool.eq_iff_iff]
            simp
            omega
          · cases H with
            | false => exact Ev_neg (by simp) (Ev_eq (Ev_some _) (by rw [show ((t.size : Int) == 0) = false from beq_eq_false_iff_ne.mpr h0]; simp))
            | true =>
              by_cases h64 : (t.size : Int) = 64
              · rw [h64]; exact Ev_pos (by decide) (Ev_neg (by decide) (Ev_eq (Ev_some _) (by simp)))
              · exact Ev_neg (by rw [decide_eq_false h64, show ((t.size : Int) == 0) = false from beq_eq_false_iff_ne.mpr h0]; decide) (Ev_eq (Ev_some _) (by rw [show ((t.size : Int) == 0) = false from beq_eq_false_iff_ne.mpr h0]; simp))
        · exact Ev_neg (by simpa using hv) (Ev_eq (Ev_some _) (by rw [show decide (v = 0) = false from decide_eq_false (by omega)]; simp))
      · exact Ev_neg (by simpa using hc2) (Ev_eq (Ev_some _) (by rw [decide_eq_false hc2]; simp))
    · refine Ev_neg hc (Ev_bindc (within_ev _ _ _) ?_)
      by_cases hc2 : 0 ≤ c ∧ c ≤ 15
      · refine Ev_pos (decide_eq_true hc2) ?_
        rw [decide_eq_true hc2, empty_iff2]
        by_cases hv : v = 0
        · exact Ev_pos hv (Ev_eq (Ev_some _) (by simp [hv]))
        · exact Ev_neg hv (Ev_eq (Ev_some _) (by simp [hv]))
      · exact Ev_neg (by simpa using hc2) (Ev_eq (Ev_some _) (by rw [decide_eq_false hc2]; simp))
theorem loop_sessions (F : List S109) (S : List S116) (hl : (S.length : Int) ≤ 1048576) (hb : ∀ y ∈ S, y.f2.f2.size ≤ 1048576) : ∀ (suf pre : List S116), S = pre ++ suf → ∃ b : Bool, Ev (fun k => spec_StateOK.l1 k (pre.length : Int) F S) b ∧ Ev (fun k => impl_StateOK.l1 k S (S.length : Int) (pre.length : Int) F S) b := by
  intro suf
  induction suf with
  | nil =>
    intro pre h
    have hle : ¬ (pre.length : Int) < (S.length : Int) := by rw [h]; simp
    exact ⟨true, Ev.step (fun k => spec_StateOK.l1.eq_2 _ _ _ k) (Ev_neg hle (Ev_some _)), Ev.step (fun k => impl_StateOK.l1.eq_2 _ _ _ _ _ k) (Ev_neg hle (Ev_some _))⟩
  | cons x suf ih =>
    intro pre h
    have hln : (S.length : Int) = pre.length + 1 + suf.length := by rw [h]; simp; omega
    obtain ⟨b, e1, e2⟩ := ih (pre ++ [x]) (by rw [h]; simp)
    have hw : wrap64 ((pre.length : Int) + 1) = ((pre ++ [x]).length : Int) := by rw [wrap64_id (by omega) (by omega)]; simp
    rw [← hw] at e1 e2
    have hr : rd_T116 S (pre.length : Int) = x := by rw [h]; exact rd116_mid pre suf x
    have ht : S.take ((pre.length : Int)).toNat = pre := by rw [h]; simp
    obtain ⟨q, r1, r2⟩ := reply_same x.f2.f0 x.f2.f1 x.f2.f2 (by have := hb x (by rw [h]; simp); omega)
    have hid : impl_State_session.f F S x.f0 = some (impl_State_session.idx x.f0 S 0) := if_pos (by omega)
    have hh : (0 ≤ impl_State_session.idx x.f0 pre 0) ↔ ¬ impl_State_session.idx x.f0 S 0 = (pre.length : Int) := by rw [h]; exact idxSession_here pre suf x
    have hf := l09Session_ev x.f0 pre (by omega)
    refine ⟨decide (1 ≤ x.f0 ∧ x.f0 ≤ 1000000) && (decide (1 ≤ x.f1 ∧ x.f1 ≤ 1000000) && (q && (decide (impl_State_session.idx x.f0 S 0 = (pre.length : Int)) && b))), ?_, ?_⟩
    · refine Ev.step (fun k => spec_StateOK.l1.eq_2 _ _ _ k) (Ev_pos (by omega) (Ev_pos (by omega) ?_))
      rw [hr, ht]
      refine Ev_bindc (l02In_ev _ _ _) ?_
      by_cases c1 : 1 ≤ x.f0 ∧ x.f0 ≤ 1000000
      · rw [decide_eq_true c1]
        refine Ev_pos rfl (Ev_bindc (l02In_ev _ _ _) ?_)
        by_cases c2 : 1 ≤ x.f1 ∧ x.f1 ≤ 1000000
        · rw [decide_eq_true c2]
          refine Ev_pos rfl (Ev_pos (by omega) (Ev.bind hf ?_))
          by_cases c3 : 0 ≤ impl_State_session.idx x.f0 pre 0
          · exact Ev_pos c3 (Ev_eq (Ev_some _) (by rw [decide_eq_false (hh.1 c3)]; simp))
          · rw [decide_eq_true (show impl_State_session.idx x.f0 S 0 = (pre.length : Int) from Classical.byContradiction fun hc => c3 (hh.2 hc))]
            refine Ev_neg c3 (Ev.bind r1 ?_)
            cases q with
            | true => exact Ev_pos rfl (Ev_eq e1 (by simp))
            | false => exact Ev_neg (by decide) (Ev_eq (Ev_some _) (by simp))
        · rw [decide_eq_false c2]; exact Ev_neg (by decide) (Ev_eq (Ev_some _) (by simp))
      · rw [decide_eq_false c1]; exact Ev_neg (by decide) (Ev_eq (Ev_some _) (by simp))
    · refine Ev.step (fun k => impl_StateOK.l1.eq_2 _ _ _ _ _ k) (Ev_pos (by omega) (Ev_pos (by omega) (Ev_pos (by omega) ?_)))
      rw [hr]
      refine Ev_bindc (isCount_ev _) ?_
      by_cases c1 : 1 ≤ x.f0 ∧ x.f0 ≤ 1000000
      · rw [decide_eq_true c1]
        refine Ev_pos rfl (Ev_bindc (isCount_ev _) ?_)
        by_cases c2 : 1 ≤ x.f1 ∧ x.f1 ≤ 1000000
        · rw [decide_eq_true c2]
          refine Ev_pos rfl (Ev.bind r2 ?_)
          cases q with
          | false => exact Ev_neg (by decide) (Ev_eq (Ev_some _) (by simp))
          | true =>
            refine Ev_pos rfl (Ev_bindc hid ?_)
            by_cases c3 : impl_State_session.idx x.f0 S 0 = (pre.length : Int)
            · rw [decide_eq_true c3]; exact Ev_pos c3 (Ev_eq e2 (by simp))
            · rw [decide_eq_false c3]; exact Ev_neg c3 (Ev_eq (Ev_some _) (by simp))
        · rw [decide_eq_false c2]; exact Ev_neg (by decide) (Ev_eq (Ev_some _) (by simp))
      · rw [decide_eq_false c1]; exact Ev_neg (by decide) (Ev_eq (Ev_some _) (by simp))
theorem loop_files (F : List S109) (S : List S116) (hl : (F.length : Int) ≤ 1048576) (hb : ∀ y ∈ F, y.f0.size ≤ 1048576 ∧ y.f2.size ≤ 1048576) (hS : (S.length : Int) ≤ 1048576) (hSb : ∀ y ∈ S, y.f2.f2.size ≤ 1048576) : ∀ (suf pre : List S109), F = pre ++ suf → ∃ b : Bool, Ev (fun k => spec_StateOK.l0 k (pre.length : Int) F S) b ∧ Ev (fun k => impl_StateOK.l0 k F (F.length : Int) (pre.length : Int) F S) b := by
  intro suf
  induction suf with
  | nil =>
    intro pre h
    have hle : ¬ (pre.length : Int) < (F.length : Int) := by rw [h]; simp
    obtain ⟨b, e1, e2⟩ := loop_sessions F S hS hSb S [] rfl
    exact ⟨b, Ev.step (fun k => spec_StateOK.l0.eq_2 _ _ _ k) (Ev_neg hle e1), Ev.step (fun k => impl_StateOK.l0.eq_2 _ _ _ _ _ k) (Ev_neg hle e2)⟩
  | cons x suf ih =>
    intro pre h
    have hln : (F.length : Int) = pre.length + 1 + suf.length := by rw [h]; simp; omega
    obtain ⟨b, e1, e2⟩ := ih (pre ++ [x]) (by rw [h]; simp)
    have hw : wrap64 ((pre.length : Int) + 1) = ((pre ++ [x]).length : Int) := by rw [wrap64_id (by omega) (by omega)]; simp
    rw [← hw] at e1 e2
    have hr : rd_T109 F (pre.length : Int) = x := by rw [h]; exact rd109_mid pre suf x
    have ht : F.take ((pre.length : Int)).toNat = pre := by rw [h]; simp
    obtain ⟨q, r2, r1⟩ := NameOK_both x.f0 (by have := (hb x (by rw [h]; simp)).1; omega)
    have hid : impl_State_file.f F S x.f0 = some (impl_State_file.idx x.f0 F 0) := if_pos (by omega)
    have hh : (0 ≤ impl_State_file.idx x.f0 pre 0) ↔ ¬ impl_State_file.idx x.f0 F 0 = (pre.length : Int) := by rw [h]; exact idxFile_here pre suf x
    have hf := l09File_ev x.f0 pre (by omega)
    refine ⟨q && (decide (1 ≤ x.f1 ∧ x.f1 ≤ 1000000) && (decide (¬ (x.f2.size : Int) > 8000) && (decide (impl_State_file.idx x.f0 F 0 = (pre.length : Int)) && b))), ?_, ?_⟩
    · refine Ev.step (fun k => spec_StateOK.l0.eq_2 _ _ _ k) (Ev_pos (by omega) (Ev_pos (by omega) ?_))
      rw [hr, ht]
      refine Ev.bind r1 ?_
      cases q with
      | false => exact Ev_neg (by decide) (Ev_eq (Ev_some _) (by simp))
      | true =>
        refine Ev_pos rfl (Ev_pos (by omega) (Ev.bind hf ?_))
        by_cases c3 : 0 ≤ impl_State_file.idx x.f0 pre 0
        · exact Ev_pos c3 (Ev_eq (Ev_some _) (by rw [decide_eq_false (hh.1 c3)]; simp))
        · rw [decide_eq_true (show impl_State_file.idx x.f0 F 0 = (pre.length : Int) from Classical.byContradiction fun hc => c3 (hh.2 hc))]
          refine Ev_neg c3 (Ev_bindc (l02In_ev _ _ _) ?_)
          by_cases c2 : 1 ≤ x.f1 ∧ x.f1 ≤ 1000000
          · rw [decide_eq_true c2]
            refine Ev_pos rfl ?_
            by_cases c4 : (x.f2.size : Int) > 8000
            · exact Ev_pos c4 (Ev_eq (Ev_some _) (by simp [c4]))
            · exact Ev_neg c4 (Ev_eq e1 (by rw [decide_eq_true c4]; simp))
          · rw [decide_eq_false c2]; exact Ev_neg (by decide) (Ev_eq (Ev_some _) (by simp))
    · refine Ev.step (fun k => impl_StateOK.l0.eq_2 _ _ _ _ _ k) (Ev_pos (by omega) (Ev_pos (by omega) (Ev_pos (by omega) ?_)))
      rw [hr]
      refine Ev.bind r2 ?_
      cases q with
      | false => exact Ev_neg (by decide) (Ev_eq (Ev_some _) (by simp))
      | true =>
        refine Ev_pos rfl (Ev_bindc (isCount_ev _) ?_)
        by_cases c2 : 1 ≤ x.f1 ∧ x.f1 ≤ 1000000
        · rw [decide_eq_true c2]
          refine Ev_pos rfl ?_
          by_cases c4 : (x.f2.size : Int) > 8000
          · exact Ev_pos c4 (Ev_eq (Ev_some _) (by simp [c4]))
          · rw [decide_eq_true c4]
            refine Ev_neg c4 (Ev_bindc hid ?_)
            by_cases c3 : impl_State_file.idx x.f0 F 0 = (pre.length : Int)
            · rw [decide_eq_true c3]; exact Ev_pos c3 (Ev_eq e2 (by simp))
            · rw [decide_eq_false c3]; exact Ev_neg c3 (Ev_eq (Ev_some _) (by simp))
        · rw [decide_eq_false c2]; exact Ev_neg (by decide) (Ev_eq (Ev_some _) (by simp))
theorem state_same (F : List S109) (S : List S116) (hl : (F.length : Int) ≤ 1048576) (hb : ∀ y ∈ F, y.f0.size ≤ 1048576 ∧ y.f2.size ≤ 1048576) (hS : (S.length : Int) ≤ 1048576) (hSb : ∀ y ∈ S, y.f2.f2.size ≤ 1048576) : ∃ b : Bool, Ev (fun k => spec_StateOK.f k F S) b ∧ Ev (fun k => impl_StateOK.f k F S) b := by
  obtain ⟨b, e1, e2⟩ := loop_files F S hl hb hS hSb F [] rfl
  have j1 : ∀ x : Bool, Ev (fun k => spec_StateOK.j0 k x F S) (!x && b) := by
    intro x
    cases x with
    | true => exact Ev.step (fun k => spec_StateOK.j0.eq_2 _ _ _ k) (Ev_pos rfl (Ev_some _))
    | false => exact Ev.step (fun k => spec_StateOK.j0.eq_2 _ _ _ k) (Ev_neg (by decide) e1)
  have j2 : ∀ x : Bool, Ev (fun k => impl_StateOK.j0 k x F S) (!x && b) := by
    intro x
    cases x with
    | true => exact Ev.step (fun k => impl_StateOK.j0.eq_2 _ _ _ k) (Ev_pos rfl (Ev_some _))
    | false => exact Ev.step (fun k => impl_StateOK.j0.eq_2 _ _ _ k) (Ev_neg (by decide) e2)
  by_cases h : (F.length : Int) > 20
  · exact ⟨_, Ev_pos h (j1 _), Ev_pos h (j2 _)⟩
  · exact ⟨_, Ev_neg h (j1 _), Ev_neg h (j2 _)⟩
theorem FnExactStateOK (fs : List S137) (hg : ∀ y ∈ fs, y.f0.size ≤ Go.maxLen ∧ (Lit.int .i64 y.f1).wf = true ∧ y.f2.size ≤ Go.maxLen) (hl : fs.length ≤ 9223372036854775807) (ss : List S141) (hg2 : ∀ y ∈ ss, ((Lit.int .i64 y.f0).wf = true) ∧ ((Lit.int .i64 y.f1).wf = true) ∧ (((Lit.int .i64 y.f2.f0).wf = true) ∧ ((Lit.int .i64 y.f2.f1).wf = true) ∧ (y.f2.f2.size ≤ Go.maxLen))) (hl2 : ss.length ≤ 9223372036854775807) : ∃ k, laws_FnExactStateOK.f k fs ss = some true := by
  refine Ev.rounds ?_
  have hm : Go.maxLen = 9223372036854775807 := by decide
  obtain ⟨z1, e1, h1⟩ := szFileS_ev fs hl (fun y hy => by have := hg y hy; omega) 1048576 (by omega) (by omega)
  rcases h1 with rfl | ⟨h1, h1b, h1c, h1d⟩
  · exact Ev.bind (g := fun k => laws_szState.f k fs ss 1048576) (Ev.bind e1 (Ev_pos (by decide) (Ev_some _))) (Ev_pos (by decide) (Ev_some _))
  obtain ⟨z2, e2, h2⟩ := szSessionS_ev ss hl2 (fun y hy => by have := (hg2 y hy).2.2.2.2; omega) z1 h1 h1b
  rcases h2 with rfl | ⟨h2, h2b, h2c, h2d⟩
  · exact Ev.bind (g := fun k => laws_szState.f k fs ss 1048576) (Ev.bind e1 (Ev_neg (by omega) (Ev.bind e2 (Ev_pos (by decide) (Ev_some _))))) (Ev_pos (by decide) (Ev_some _))
  have eT : Ev (fun k => laws_toState.f k fs ss) (fs.map toF, ss.map toS) := Ev.bind (toFileS_ev fs (by omega)) (Ev.bind (toSessionS_ev ss (by omega)) (Ev_some _))
  obtain ⟨b, s1, s2⟩ := state_same (fs.map toF) (ss.map toS) (by simp; omega) (by intro y hy; obtain ⟨x, hx, rfl⟩ := List.mem_map.1 hy; exact h1d x hx) (by simp; omega) (by intro y hy; obtain ⟨x, hx, rfl⟩ := List.mem_map.1 hy; exact h2d x hx)
  have eq : Ev (fun k => laws_eqState.f k (fs.map toF) (ss.map toS) (fs.map toF) (ss.map toS)) true := Ev.bind (eqFileS_self _ (by simp; omega)) (Ev_pos rfl (Ev.bind (eqSessionS_self _ (by simp; omega)) (Ev_pos rfl (Ev_some _))))
  exact Ev.bind (g := fun k => laws_szState.f k fs ss 1048576) (Ev.bind e1 (Ev_neg (by omega) (Ev.bind e2 (Ev_neg (by omega) (Ev_some _))))) (Ev_neg (by omega) (Ev.bind eT (Ev.bind s1 (Ev.bind eT (Ev.bind s2 (Ev_neg (by simp) (Ev.bind eT (Ev.bind eq (Ev_pos rfl (Ev_some _))))))))))

end Go.Proofs.Ytfclobfoghbblaa.Pure
