/- A blob is found by the key of its bytes as long as something refers to it, and each key is that of its bytes. No conditions. -/
import Derived.Test.YtcgkfijigjcmpaaPFnBlobsx2
import Derived.Test.YtcgkfijigjcmpaaHandFnBlobs
import Derived.Test.YtcgkfijigjcmpaaPureFnExactSha
import Derived.Test.YtcgkfijigjcmpaaPFnBlobsx1
import Derived.OpenShut
namespace Go.Proofs.Ytcgkfijigjcmpaa.PureB
open Go.RowKit Go.Proofs.Ytcgkfijigjcmpaa.PFnBlobs Go.Proofs.YtcgkfijigjcmpaaW.PrintWords Go.Proofs.YtcgkfijigjcmpaaW.PrintLast Go.Proofs.YtcgkfijigjcmpaaW.PrintMore
set_option linter.unusedVariables false
set_option linter.unusedSimpArgs false

theorem Ev_pos {α : Type} {c : Prop} [Decidable c] {A B : Nat → Option α} {r : α} (h : c) (e : Ev A r) : Ev (fun k => if c then A k else B k) r := by
  simpa only [if_pos h] using e
theorem Ev_neg {α : Type} {c : Prop} [Decidable c] {A B : Nat → Option α} {r : α} (h : ¬ c) (e : Ev B r) : Ev (fun k => if c then A k else B k) r := by
  simpa only [if_neg h] using e
theorem Ev_some {α : Type} (r : α) : Ev (fun _ => some r) r := Ev.now r
theorem Ev_const {α : Type} {x : Option α} {r : α} (h : x = some r) : Ev (fun _ => x) r := ⟨0, fun _ _ => h⟩
theorem Ev_eq {α : Type} {A : Nat → Option α} {r q : α} (h : Ev A r) (e : r = q) : Ev A q := e ▸ h
theorem Ev_bindc {α β : Type} {x : Option α} {f : Nat → α → Option β} {a : α} {r : β} (h : x = some a) (k : Ev (fun n => f n a) r) : Ev (fun n => x.bind (f n)) r := Ev.bind (g := fun _ => x) (Ev_const h) k
theorem wrap64_id {x : Int} (h0 : -9223372036854775808 ≤ x) (h1 : x ≤ 9223372036854775807) : wrap64 x = x := by
  unfold wrap64; omega
theorem int_bounds {x : Int} (h : (Lit.int .i64 x).wf = true) : -9223372036854775808 ≤ x ∧ x < 9223372036854775808 := by
  have := Go.bounds_i64 h
  omega
theorem u8_bounds {l : List Int} (h : ∀ x ∈ l, (Lit.int .u8 x).wf = true) : ∀ x ∈ l, 0 ≤ x ∧ x < 256 := by
  intro x hx
  have := Go.bounds_u8 (h x hx)
  omega

theorem rd_u8 {l : List Int} (h : ∀ x ∈ l, 0 ≤ x ∧ x < 256) (i : Int) : 0 ≤ rd l i ∧ rd l i < 256 := by
  unfold rd
  rw [List.getD_eq_getElem?_getD]
  by_cases hi : i.toNat < l.length
  · rw [List.getElem?_eq_getElem hi]
    exact h _ (List.getElem_mem hi)
  · rw [List.getElem?_eq_none (by omega)]
    decide

theorem byte_ok (l : List Int) (hu : ∀ x ∈ l, 0 ≤ x ∧ x < 256) (s1 s2 : Int) (h0 : 0 ≤ s1) (h1 : s1 < 1000000) (h2 : 0 ≤ s2) (h3 : s2 < 2147483648) : ∃ v t, spec_l00Src_byte.f l s1 s2 = some (v, s1 + 1, t) ∧ 0 ≤ v ∧ v < 256 ∧ 0 ≤ t ∧ t < 2147483648 := by
  unfold spec_l00Src_byte.f
  rw [if_pos (by omega)]
  have hr := rd_u8 hu s1
  by_cases c : s1 + 1 ≤ (l.length : Int)
  · rw [if_pos c, if_pos hr]
    exact ⟨_, _, rfl, hr.1, hr.2, Int.emod_nonneg _ (by omega), Int.emod_lt_of_pos _ (by omega)⟩
  · rw [if_neg c]
    by_cases d : s1 + 1 > 3000
    · rw [if_pos d]
      exact ⟨_, _, rfl, by omega, by omega, h2, h3⟩
    · rw [if_neg d]
      exact ⟨_, _, rfl, Int.emod_nonneg _ (by omega), Int.emod_lt_of_pos _ (by omega), Int.emod_nonneg _ (by omega), Int.emod_lt_of_pos _ (by omega)⟩
theorem next_ok (l : List Int) (hu : ∀ x ∈ l, 0 ≤ x ∧ x < 256) (s1 s2 : Int) (h0 : 0 ≤ s1) (h1 : s1 < 1000000) (h2 : 0 ≤ s2) (h3 : s2 < 2147483648) (a : Int) (ha : a ≤ 256) :
    ∃ v p t, spec_l00Src_next.f l s1 s2 a = some (v, p, t) ∧ 0 ≤ v ∧ (v < a ∨ v = 0) ∧ s1 ≤ p ∧ p ≤ s1 + 1 ∧ 0 ≤ t ∧ t < 2147483648 := by
  unfold spec_l00Src_next.f
  by_cases c : a ≤ 1
  · rw [if_pos c]
    exact ⟨0, s1, s2, rfl, by omega, .inr rfl, by omega, by omega, h2, h3⟩
  · rw [if_neg c, if_pos ha]
    obtain ⟨v, t, e, hv, hv2, ht, ht2⟩ := byte_ok l hu s1 s2 h0 h1 h2 h3
    rw [e]
    simp only [Option.bind_some]
    rw [if_neg (by omega), Int.tmod_eq_emod_of_nonneg hv]
    exact ⟨_, _, _, rfl, Int.emod_nonneg _ (by omega), .inl (Int.emod_lt_of_pos _ (by omega)), by omega, by omega, ht, ht2⟩

theorem first_two (a b : Int) : Ev (fun k => impl_first.f k [a, b]) (if a = 0 then b else a) := by
  have s0 : ∀ k, impl_first.l0 (k + 1) [a, b] 2 0 = if a = 0 then impl_first.l0 k [a, b] 2 1 else some a := fun k => by
    simp only [impl_first.l0]
    by_cases h : a = 0 <;> simp [rd, wrap64, h]
  have s1 : ∀ k, impl_first.l0 (k + 1) [a, b] 2 1 = if b = 0 then impl_first.l0 k [a, b] 2 2 else some b := fun k => by
    simp only [impl_first.l0]
    by_cases h : b = 0 <;> simp [rd, wrap64, h]
  have s2 : ∀ k, impl_first.l0 (k + 1) [a, b] 2 2 = some 0 := fun k => by simp [impl_first.l0]
  refine ⟨3, fun k hk => ?_⟩
  obtain ⟨k, rfl⟩ : ∃ m, k = m + 3 := ⟨k - 3, by omega⟩
  show impl_first.l0 (k + 2 + 1) [a, b] 2 0 = _
  rw [s0]
  by_cases ha : a = 0
  · rw [if_pos ha, if_pos ha, s1]
    by_cases hb : b = 0
    · rw [if_pos hb, s2, hb]
    · rw [if_neg hb]
  · rw [if_neg ha, if_neg ha]

theorem unlessOf (b : Bool) (c : Int) : impl_unless.f b c = some (if b = true then 0 else c) := by unfold impl_unless.f; split <;> rfl

theorem clone_ok (l : List Int) (h : (l.length : Int) ≤ 4194304) : slices_Clone_byte_byte.f l = some l := by
  unfold slices_Clone_byte_byte.f
  rw [if_pos (by omega)]

theorem rd61 (pre suf : List S61) (x : S61) : rd_T61 (pre ++ x :: suf) (pre.length : Int) = x := by simp [rd_T61, List.getD]
theorem rd35 (pre suf : List S35) (x : S35) : rd_T35 (pre ++ x :: suf) (pre.length : Int) = x := by simp [rd_T35, List.getD]

/-- What every list of blobs is that acts have made. -/
def blobOK (n : Nat) (l : List S35) : Prop := l.length ≤ 60 ∧ (l.map (fun x => x.f0.toList)).Nodup ∧ ∀ x ∈ l, 0 ≤ x.f1 ∧ x.f1 ≤ (n : Int) ∧ x.f2.length ≤ 2000 ∧ (∀ b ∈ x.f2, 0 ≤ b ∧ b < 256) ∧ x.f0 = strOfNums (Go.Proofs.Ytcgkfijigjcmpaa.PFnExactSha.impl_Sha.out x.f2)
theorem blobOK_more {n : Nat} {l : List S35} (h : blobOK n l) : blobOK (n + 1) l :=
  ⟨h.1, h.2.1, fun x hx => by obtain ⟨h1, h2, h3⟩ := h.2.2 x hx; exact ⟨h1, by omega, h3⟩⟩
theorem implSha_ok (l : List Int) (hl : l.length ≤ 65536) (hu : ∀ x ∈ l, 0 ≤ x ∧ x < 256) : impl_Sha.f l = some (strOfNums (Go.Proofs.Ytcgkfijigjcmpaa.PFnExactSha.impl_Sha.out l)) := by
  unfold impl_Sha.f Go.Proofs.Ytcgkfijigjcmpaa.PFnExactSha.impl_Sha.f
  rw [if_neg (by omega), if_pos (by simpa using hu)]
theorem specSha_ok (l : List Int) (hl : l.length ≤ 65536) (hu : ∀ x ∈ l, 0 ≤ x ∧ x < 256) : Ev (fun k => spec_l04Sha.f k l) (strOfNums (Go.Proofs.Ytcgkfijigjcmpaa.PFnExactSha.impl_Sha.out l)) :=
  Go.Proofs.Ytcgkfijigjcmpaa.Pure.sha_ev l hu hl
theorem blobAtP_none (q : S35 → Bool) : ∀ (l : List S35) (i : Nat), (∀ x ∈ l, q x = false) → blobAtP q l i = none
  | [], _, _ => rfl
  | x :: l, i, h => by
    rw [blobAtP, if_neg (by rw [h x (by simp)]; decide)]
    exact blobAtP_none q l (i + 1) (fun y hy => h y (by simp [hy]))
theorem blobAtP_some (q : S35 → Bool) (x : S35) (suf : List S35) (hx : q x = true) : ∀ (pre : List S35) (i : Nat), (∀ y ∈ pre, q y = false) → blobAtP q (pre ++ x :: suf) i = some (i + pre.length)
  | [], i, _ => by rw [List.nil_append, blobAtP, if_pos hx]; rfl
  | y :: pre, i, h => by
    rw [List.cons_append, blobAtP, if_neg (by rw [h y (by simp)]; decide), blobAtP_some q x suf hx pre (i + 1) (fun z hz => h z (by simp [hz]))]
    congr 1
    simp
    omega
theorem blob_split (q : S35 → Bool) : ∀ l : List S35, (∀ x ∈ l, q x = false) ∨ ∃ pre x suf, l = pre ++ x :: suf ∧ (∀ y ∈ pre, q y = false) ∧ q x = true
  | [] => .inl (by simp)
  | x :: l => by
    by_cases hx : q x = true
    · exact .inr ⟨[], x, l, rfl, by simp, hx⟩
    · have hx2 : q x = false := by simpa using hx
      rcases blob_split q l with h | ⟨pre, z, suf, rfl, h1, h2⟩
      · refine .inl (fun y hy => ?_)
        rcases List.mem_cons.1 hy with rfl | hy
        · exact hx2
        · exact h y hy
      · refine .inr ⟨x :: pre, z, suf, rfl, fun y hy => ?_, h2⟩
        rcases List.mem_cons.1 hy with rfl | hy
        · exact hx2
        · exact h1 y hy
theorem find_none (key : ByteArray) : ∀ (suf pre : List S35), (∀ x ∈ suf, (x.f0.toList == key.toList) = false) → (pre.length : Int) + suf.length ≤ 1048576 → Ev (fun k => spec_l04Find.l0 k (pre ++ suf) key (pre.length : Int)) (-1) := by
  intro suf
  induction suf with
  | nil =>
    intro pre h hl
    exact Ev.step (fun k => spec_l04Find.l0.eq_2 _ _ _ k) (Ev_neg (by simp) (Ev_some _))
  | cons x suf ih =>
    intro pre h hl
    simp only [List.length_cons] at hl
    have e := ih (pre ++ [x]) (fun y hy => h y (by simp [hy])) (by simp; omega)
    have hw : wrap64 ((pre.length : Int) + 1) = ((pre ++ [x]).length : Int) := by rw [wrap64_id (by omega) (by omega)]; simp
    rw [← hw, show (pre ++ [x]) ++ suf = pre ++ x :: suf by simp] at e
    refine Ev.step (fun k => spec_l04Find.l0.eq_2 _ _ _ k) (Ev_pos (by simp; omega) (Ev_pos (by omega) ?_))
    rw [rd35 pre suf x]
    exact Ev_neg (beq_eq_false_iff_ne.1 (h x (by simp))) e
theorem find_some (key : ByteArray) (x : S35) (suf : List S35) (hx : (x.f0.toList == key.toList) = true) : ∀ (mid pre : List S35), (∀ y ∈ mid, (y.f0.toList == key.toList) = false) → (pre.length : Int) + mid.length + suf.length ≤ 1048575 →
    Ev (fun k => spec_l04Find.l0 k (pre ++ (mid ++ x :: suf)) key (pre.length : Int)) ((pre.length : Int) + mid.length) := by
  intro mid
  induction mid with
  | nil =>
    intro pre h hl
    refine Ev.step (fun k => spec_l04Find.l0.eq_2 _ _ _ k) (Ev_pos (by simp; omega) (Ev_pos (by omega) ?_))
    rw [List.nil_append, rd35 pre suf x]
    exact Ev_pos (beq_iff_eq.1 hx) (Ev_eq (Ev_some _) (by simp))
  | cons y mid ih =>
    intro pre h hl
    simp only [List.length_cons] at hl
    have e := ih (pre ++ [y]) (fun z hz => h z (by simp [hz])) (by simp; omega)
    have hw : wrap64 ((pre.length : Int) + 1) = ((pre ++ [y]).length : Int) := by rw [wrap64_id (by omega) (by omega)]; simp
    rw [← hw, show (pre ++ [y]) ++ (mid ++ x :: suf) = pre ++ (y :: (mid ++ x :: suf)) by simp] at e
    refine Ev.step (fun k => spec_l04Find.l0.eq_2 _ _ _ k) (Ev_pos (by simp; omega) (Ev_pos (by omega) ?_))
    rw [List.cons_append, rd35 pre _ y]
    refine Ev_neg (beq_eq_false_iff_ne.1 (h y (by simp))) (Ev_eq e ?_)
    rw [hw]
    simp
    omega
theorem blobPut_at (pre suf : List S35) (x : S35) (r : Int) : blobPut (pre ++ x :: suf) pre.length r = pre ++ ⟨x.f0, r, x.f2⟩ :: suf := by
  unfold blobPut
  rw [rd35]
  simp
theorem blobOK_put {n : Nat} {pre suf : List S35} {x : S35} (h : blobOK n (pre ++ x :: suf)) (r : Int) (h0 : 0 ≤ r) (h1 : r ≤ (n : Int) + 1) : blobOK (n + 1) (pre ++ ⟨x.f0, r, x.f2⟩ :: suf) := by
  refine ⟨by have := h.1; simp at this ⊢; omega, by simpa using h.2.1, fun y hy => ?_⟩
  rcases List.mem_append.1 hy with hy | hy
  · exact (blobOK_more h).2.2 y (by simp [hy])
  · rcases List.mem_cons.1 hy with rfl | hy
    · obtain ⟨_, _, h3⟩ := h.2.2 x (by simp)
      exact ⟨h0, by show r ≤ ((n + 1 : Nat) : Int); omega, h3⟩
    · exact (blobOK_more h).2.2 y (by simp [hy])
theorem blobOK_filter {n : Nat} {l : List S35} (h : blobOK n l) (q : S35 → Bool) : blobOK (n + 1) (l.filter q) :=
  ⟨Nat.le_trans (List.length_filter_le _ _) h.1, h.2.1.sublist (List.Sublist.map _ List.filter_sublist), fun x hx => (blobOK_more h).2.2 x (List.mem_filter.1 hx).1⟩
theorem both_act (a : Int) (d : List Int) (key : ByteArray) (l : List S35) (n : Nat) (h : blobOK n l) (hn : n ≤ 200) (hu : ∀ b ∈ d, 0 ≤ b ∧ b < 256) :
    ∃ r c, impl_blobAct.f l a d key = some (r, c) ∧ Ev (fun k => spec_l04Act.f k l a d key) (r, c) ∧ blobOK (n + 1) r := by
  have hlen := h.1
  by_cases c1 : a = 1
  · by_cases c2 : (2000 : Int) < (d.length : Int)
    · exact ⟨l, 14, by unfold impl_blobAct.f; rw [if_pos c1, if_pos c2], Ev_pos c1 (Ev_pos c2 (Ev_some _)), blobOK_more h⟩
    · have e1 := implSha_ok d (by omega) hu
      have e2 := specSha_ok d (by omega) hu
      obtain ⟨kk, hkk⟩ : ∃ kk, kk = strOfNums (Go.Proofs.Ytcgkfijigjcmpaa.PFnExactSha.impl_Sha.out d) := ⟨_, rfl⟩
      rw [← hkk] at e1 e2
      rcases blob_split (fun x => x.f0.toList == kk.toList) l with hno | ⟨pre, x, suf, rfl, hpre, hx⟩
      · have ha := blobAtP_none (fun x => x.f0.toList == kk.toList) l 0 hno
        have hf := find_none kk l [] hno (by simp; omega)
        by_cases c3 : (l.length : Int) = 60
        · refine ⟨l, 7, ?_, Ev_pos c1 (Ev_neg c2 (Ev.bind e2 (Ev.bind (g := fun k => spec_l04Find.f k l kk) hf (Ev_neg (by decide) (Ev_pos c3 (Ev_some _)))))), blobOK_more h⟩
          unfold impl_blobAct.f
          rw [if_pos c1, if_neg c2, e1, Option.bind_some, ha]
          exact if_pos c3
        · refine ⟨l ++ [⟨kk, 1, d⟩], 0, ?_, Ev_pos c1 (Ev_neg c2 (Ev.bind e2 (Ev.bind (g := fun k => spec_l04Find.f k l kk) hf (Ev_neg (by decide) (Ev_neg c3 (Ev_some _)))))), ?_, ?_, ?_⟩
          · unfold impl_blobAct.f
            rw [if_pos c1, if_neg c2, e1, Option.bind_some, ha]
            exact if_neg c3
          · simp; omega
          · rw [List.map_append, List.nodup_append]
            refine ⟨h.2.1, by simp, fun x hx y hy hxy => ?_⟩
            obtain ⟨z, hz, rfl⟩ := List.mem_map.1 hx
            simp at hy
            have := hno z hz
            rw [hxy, hy] at this
            simp at this
          · intro x hx
            rcases List.mem_append.1 hx with hx | hx
            · exact (blobOK_more h).2.2 x hx
            · obtain rfl := List.mem_singleton.1 hx
              exact ⟨Int.one_nonneg, by show (1 : Int) ≤ ((n + 1 : Nat) : Int); omega, by show d.length ≤ 2000; omega, hu, hkk⟩
      · have ha := blobAtP_some (fun x => x.f0.toList == kk.toList) x suf hx pre 0 hpre
        rw [Nat.zero_add] at ha
        simp at hlen
        have hf := find_some kk x suf hx pre [] hpre (by simp; omega)
        rw [show (([] : List S35).length : Int) + (pre.length : Int) = (pre.length : Int) by simp] at hf
        obtain ⟨hx0, hx1, _⟩ := h.2.2 x (by simp)
        have hw : wrap64 (x.f1 + 1) = x.f1 + 1 := wrap64_id (by omega) (by omega)
        refine ⟨pre ++ ⟨x.f0, x.f1 + 1, x.f2⟩ :: suf, 0, ?_, Ev_pos c1 (Ev_neg c2 (Ev.bind e2 (Ev.bind (g := fun k => spec_l04Find.f k (pre ++ x :: suf) kk) hf (Ev_pos (by omega) (Ev_pos (by simp; omega) (Ev_eq (Ev_some _) ?_)))))), blobOK_put h _ (by omega) (by omega)⟩
        · unfold impl_blobAct.f
          rw [if_pos c1, if_neg c2, e1, Option.bind_some, ha]
          show some (blobPut (pre ++ x :: suf) pre.length (wrap64 ((rd_T35 (pre ++ x :: suf) (pre.length : Int)).f1 + 1)), (0 : Int)) = _
          rw [rd35, hw, blobPut_at]
        · rw [rd35, hw, Int.toNat_natCast, blobPut_at]
  · by_cases c2 : a = 2
    · rcases blob_split (fun x => x.f0.toList == key.toList) l with hno | ⟨pre, x, suf, rfl, hpre, hx⟩
      · have ha := blobAtP_none (fun x => x.f0.toList == key.toList && decide (0 < x.f1)) l 0 (fun x hx => by rw [hno x hx]; rfl)
        have hf := find_none key l [] hno (by simp; omega)
        refine ⟨l, 6, ?_, Ev_neg c1 (Ev_pos c2 (Ev.bind (g := fun k => spec_l04Find.f k l key) hf (Ev_pos (by decide) (Ev_some _)))), blobOK_more h⟩
        unfold impl_blobAct.f
        rw [if_neg c1, if_pos c2, ha]
      · simp at hlen
        have hf := find_some key x suf hx pre [] hpre (by simp; omega)
        rw [show (([] : List S35).length : Int) + (pre.length : Int) = (pre.length : Int) by simp] at hf
        obtain ⟨hx0, hx1, _⟩ := h.2.2 x (by simp)
        by_cases c3 : x.f1 = 0
        · have ha := blobAtP_none (fun x => x.f0.toList == key.toList && decide (0 < x.f1)) (pre ++ x :: suf) 0 (fun y hy => by
            have hnd := h.2.1
            rw [List.map_append, List.map_cons, List.nodup_append] at hnd
            rcases List.mem_append.1 hy with hy | hy
            · rw [hpre y hy]; rfl
            · rcases List.mem_cons.1 hy with rfl | hy
              · rw [c3]; simp
              · have hne : ¬ x.f0.toList ∈ suf.map (fun x => x.f0.toList) := (List.nodup_cons.1 hnd.2.1).1
                have : (y.f0.toList == key.toList) = false := by
                  rw [beq_eq_false_iff_ne]
                  intro he
                  exact hne (List.mem_map.2 ⟨y, hy, he.trans (beq_iff_eq.1 hx).symm⟩)
                rw [this]; rfl)
          refine ⟨pre ++ x :: suf, 6, ?_, Ev_neg c1 (Ev_pos c2 (Ev.bind (g := fun k => spec_l04Find.f k (pre ++ x :: suf) key) hf (Ev_neg (by omega) (Ev_pos (by simp; omega) (Ev_pos (by rw [rd35]; exact c3) (Ev_some _)))))), blobOK_more h⟩
          unfold impl_blobAct.f
          rw [if_neg c1, if_pos c2, ha]
        · have ha := blobAtP_some (fun x => x.f0.toList == key.toList && decide (0 < x.f1)) x suf (by rw [hx]; simp; omega) pre 0 (fun y hy => by rw [hpre y hy]; rfl)
          rw [Nat.zero_add] at ha
          have hw : wrap64 (x.f1 - 1) = x.f1 - 1 := wrap64_id (by omega) (by omega)
          refine ⟨pre ++ ⟨x.f0, x.f1 - 1, x.f2⟩ :: suf, 0, ?_, Ev_neg c1 (Ev_pos c2 (Ev.bind (g := fun k => spec_l04Find.f k (pre ++ x :: suf) key) hf (Ev_neg (by omega) (Ev_pos (by simp; omega) (Ev_neg (by rw [rd35]; exact c3) (Ev_eq (Ev_some _) ?_)))))), blobOK_put h _ (by omega) (by omega)⟩
          · unfold impl_blobAct.f
            rw [if_neg c1, if_pos c2, ha]
            show some (blobPut (pre ++ x :: suf) pre.length (wrap64 ((rd_T35 (pre ++ x :: suf) (pre.length : Int)).f1 - 1)), (0 : Int)) = _
            rw [rd35, hw, blobPut_at]
          · rw [rd35, hw, Int.toNat_natCast, blobPut_at]
    · by_cases c3 : a = 3
      · have hq : l.filter (fun x => !(x.f1 == 0)) = l.filter (fun x => decide (0 < x.f1)) := List.filter_congr (fun x hx => by
          obtain ⟨h0, _⟩ := h.2.2 x hx
          by_cases hz : x.f1 = 0
          · simp [hz]
          · have : 0 < x.f1 := by omega
            simp [hz, this])
        refine ⟨l.filter (fun x => decide (0 < x.f1)), 0, ?_, Ev_neg c1 (Ev_neg c2 (Ev_pos c3 (Ev_some _))), blobOK_filter h _⟩
        unfold impl_blobAct.f
        rw [if_neg c1, if_neg c2, if_pos c3, hq]
      · exact ⟨l, 3, by unfold impl_blobAct.f; rw [if_neg c1, if_neg c2, if_neg c3], Ev_neg c1 (Ev_neg c2 (Ev_neg c3 (Ev_some _))), blobOK_more h⟩
theorem both_blobs_go : ∀ (suf pre : List S61) (c : List Int) (s : List S35), blobOK pre.length s → c.length = pre.length → (pre.length : Int) + suf.length ≤ 200 → (∀ x ∈ suf, ∀ b ∈ x.f1, 0 ≤ b ∧ b < 256) →
    ∃ c' s', Ev (fun k => impl_BlobRun.l0 k (pre ++ suf) (pre.length : Int) c s) (c', s', 0) ∧ Ev (fun k => spec_BlobRun.l0 k (pre ++ suf) (pre.length : Int) c s) (c', s', 0) ∧ blobOK 200 s' ∧ (c'.length : Int) ≤ 200 := by
  intro suf
  induction suf with
  | nil =>
    intro pre c s h hc hn hr
    refine ⟨c, s, Ev.step (fun k => impl_BlobRun.l0.eq_2 _ _ _ _ k) (Ev_neg (by simp) (Ev_some _)), Ev.step (fun k => spec_BlobRun.l0.eq_2 _ _ _ _ k) (Ev_neg (by simp) (Ev_some _)), ?_, by simp at hn; omega⟩
    simp at hn
    exact ⟨h.1, h.2.1, fun x hx => by obtain ⟨h1, h2, h3⟩ := h.2.2 x hx; exact ⟨h1, by omega, h3⟩⟩
  | cons x suf ih =>
    intro pre c s h hc hn hr
    simp only [List.length_cons] at hn
    have hx := hr x (by simp)
    obtain ⟨s1, v, e1, e2, h1⟩ := both_act x.f0 x.f1 x.f2 s pre.length h (by omega) hx
    obtain ⟨c', s', f1, f2, h3, h4⟩ := ih (pre ++ [x]) (c ++ [v]) s1 (by simpa using h1) (by simp; omega) (by simp; omega) (fun y hy => hr y (by simp [hy]))
    have hg := rd61 pre suf x
    have hw : wrap64 ((pre.length : Int) + 1) = ((pre ++ [x]).length : Int) := by rw [wrap64_id (by omega) (by omega)]; simp
    have hs : (pre ++ [x]) ++ suf = pre ++ x :: suf := by simp
    rw [hs, ← hw] at f1 f2
    have hsl : s.length ≤ 1000000 := by have := h.1; omega
    refine ⟨c', s', Ev.step (fun k => impl_BlobRun.l0.eq_2 _ _ _ _ k) (Ev_pos (by simp; omega) (Ev_pos (by omega) ?_)), Ev.step (fun k => spec_BlobRun.l0.eq_2 _ _ _ _ k) (Ev_pos (by simp; omega) (Ev_pos (by omega) ?_)), h3, h4⟩
    · rw [hg, if_pos hsl]
      exact Ev_bindc e1 (Ev_pos (by omega) f1)
    · rw [hg]
      exact Ev.bind (g := fun k => if s.length ≤ 1000000 then spec_l04Act.f k s x.f0 x.f1 x.f2 else none) (Ev_pos hsl e2) (Ev_pos (by omega) f2)
theorem both_blobs (l : List S61) (hl : (l.length : Int) ≤ 1048576) (hr : ∀ x ∈ l, ∀ b ∈ x.f1, 0 ≤ b ∧ b < 256) :
    ∃ c s v, Ev (fun k => impl_BlobRun.f k l) (c, s, v) ∧ Ev (fun k => spec_BlobRun.f k l) (c, s, v) ∧ blobOK 200 s ∧ (c.length : Int) ≤ 200 ∧ ((l.length : Int) ≤ 200 → v = 0) := by
  have hlong : impl_longList.f (l.length : Int) = some (if (l.length : Int) ≤ 4096 then 0 else 2) := by
    unfold impl_longList.f
    rw [unlessOf]
    simp
  have hnil : blobOK 200 [] := ⟨by simp, by simp, by simp⟩
  by_cases h1 : (l.length : Int) ≤ 4096
  · by_cases h2 : (l.length : Int) ≤ 200
    · obtain ⟨c', s', f1, f2, h3, h4⟩ := both_blobs_go l [] [] [] ⟨by simp, by simp, by simp⟩ rfl (by simpa using h2) hr
      refine ⟨c', s', 0, Ev_bindc hlong (Ev_bindc (unlessOf _ _) (Ev.bind (first_two _ _) (Ev_pos ?_ f1))), Ev_neg (by omega) (Ev_neg (by omega) f2), h3, h4, fun _ => rfl⟩
      rw [if_pos h1, if_pos rfl, if_pos (decide_eq_true h2)]
    · refine ⟨[], [], 7, Ev_bindc hlong (Ev_bindc (unlessOf _ _) (Ev.bind (a := 7) (Ev_eq (first_two _ _) ?_) (Ev_neg (by decide) (Ev_some _)))), Ev_neg (by omega) (Ev_pos (by omega) (Ev_some _)), hnil, by simp, fun h => absurd h h2⟩
      rw [if_pos h1, if_pos rfl, if_neg (by simpa using h2)]
  · refine ⟨[], [], 2, Ev_bindc hlong (Ev_bindc (unlessOf _ _) (Ev.bind (a := 2) (Ev_eq (first_two _ _) ?_) (Ev_neg (by decide) (Ev_some _)))), Ev_pos (by omega) (Ev_some _), hnil, by simp, fun h => by omega⟩
    rw [if_neg h1, if_neg (by decide)]

theorem numsB_u8 (t : ByteArray) : ∀ x ∈ numsB t, 0 ≤ x ∧ x < 256 := by
  intro x hx
  unfold numsB at hx
  obtain ⟨b, _, rfl⟩ := List.mem_map.1 hx
  have := b.toNat_lt
  omega
theorem blob_ok (l : List Int) (hu : ∀ x ∈ l, 0 ≤ x ∧ x < 256) (s1 s2 : Int) (h0 : 0 ≤ s1) (h1 : s1 < 1000000) (h2 : 0 ≤ s2) (h3 : s2 < 2147483648) :
    ∃ d p t, spec_l00Src_blob.f l s1 s2 = some (d, p, t) ∧ (∀ x ∈ d, 0 ≤ x ∧ x < 256) ∧ d.length ≤ 1000 ∧ s1 ≤ p ∧ p ≤ s1 + 1 ∧ 0 ≤ t ∧ t < 2147483648 := by
  obtain ⟨v, p, t, e, hv, hv2, hp, hp2, ht, ht2⟩ := next_ok l hu s1 s2 h0 h1 h2 h3 5 (by omega)
  have hL : (spec_l00Src_blob.L.length : Int) = 5 := rfl
  have hlt : v < 5 := by omega
  have hsz : (rdOf ByteArray.empty spec_l00Src_blob.L v).size ≤ 1000 := by
    have : v = 0 ∨ v = 1 ∨ v = 2 ∨ v = 3 ∨ v = 4 := by omega
    rcases this with rfl | rfl | rfl | rfl | rfl <;> decide
  have ep : spec_l00Src_pick.f l s1 s2 spec_l00Src_blob.L = some (rdOf ByteArray.empty spec_l00Src_blob.L v, p, t) := by
    unfold spec_l00Src_pick.f
    rw [hL, if_neg (by omega), e, Option.bind_some, if_pos hv, if_pos hlt]
  refine ⟨_, p, t, by unfold spec_l00Src_blob.f; rw [ep, Option.bind_some, if_pos hsz], numsB_u8 _, by rw [numsB_len]; exact hsz, hp, hp2, ht, ht2⟩
theorem el_ok (l : List Int) (hu : ∀ x ∈ l, 0 ≤ x ∧ x < 256) (t1 : List Int) (hu1 : ∀ x ∈ t1, 0 ≤ x ∧ x < 256) (v s1 s2 : Int) (h0 : 0 ≤ s1) (h1 : s1 < 900000) (h2 : 0 ≤ s2) (h3 : s2 < 2147483648) :
    ∃ x p t, Ev (fun k => spec_l00Src_blobActs.el k l t1 v s1 s2) (x, p, t) ∧ (∀ b ∈ x.f1, 0 ≤ b ∧ b < 256) ∧ s1 ≤ p ∧ p ≤ s1 + 3 ∧ 0 ≤ t ∧ t < 2147483648 := by
  by_cases c0 : v = 0 ∨ v = 1
  · obtain ⟨d, p, t, e, hd, hl, hp, hp2, ht, ht2⟩ := blob_ok l hu s1 s2 h0 (by omega) h2 h3
    have e2 := specSha_ok d (by omega) hd
    exact ⟨_, p, t, Ev_pos c0 (Ev_bindc e (Ev.bind e2 (Ev_some _))), by simp, hp, by omega, ht, ht2⟩
  · by_cases c2 : v = 2
    · exact ⟨_, s1, s2, Ev_neg c0 (Ev_pos c2 (Ev_some _)), by simp, by omega, by omega, h2, h3⟩
    · by_cases c3 : v = 3
      · obtain ⟨u, p, t, e, hv, hv2, hp, hp2, ht, ht2⟩ := next_ok l hu s1 s2 h0 (by omega) h2 h3 3 (by omega)
        have ec : spec_l00Src_chance.f l s1 s2 3 = some ((u == wrap64 (3 - 1)), p, t) := by unfold spec_l00Src_chance.f; rw [e]; rfl
        by_cases cb : (u == wrap64 (3 - 1)) = true
        · obtain ⟨u1, p1, t1', e1, hv1, hv12, hp1, hp12, ht1, ht12⟩ := next_ok l hu p t (by omega) (by omega) ht ht2 6 (by omega)
          obtain ⟨u2, p2, t2, e2, hv2', hv22, hp2', hp22, ht2', ht22⟩ := next_ok l hu p1 t1' (by omega) (by omega) ht1 ht12 2 (by omega)
          refine ⟨_, p2, t2, Ev_neg c0 (Ev_neg c2 (Ev_pos c3 (Ev_bindc ec (Ev_pos cb (Ev_bindc e1 (Ev_bindc e2 (Ev_pos ⟨by omega, by omega⟩ (Ev_some _)))))))), ?_, by omega, by omega, ht2', ht22⟩
          intro b hb
          have := (List.mem_replicate.1 hb).2
          omega
        · exact ⟨_, p, t, Ev_neg c0 (Ev_neg c2 (Ev_pos c3 (Ev_bindc ec (Ev_neg cb (Ev_some _))))), hu1, by omega, by omega, ht, ht2⟩
      · exact ⟨_, s1, s2, Ev_neg c0 (Ev_neg c2 (Ev_neg c3 (Ev_some _))), hu1, by omega, by omega, h2, h3⟩
theorem srcActs_go (l : List Int) (hu : ∀ x ∈ l, 0 ≤ x ∧ x < 256) : ∀ (n : Nat) (x3 : List S61) (s1 s2 : Int), 0 ≤ s1 → s1 + 20 * n < 800000 → 0 ≤ s2 → s2 < 2147483648 → x3.length + n ≤ 1000000 → (∀ x ∈ x3, ∀ b ∈ x.f1, 0 ≤ b ∧ b < 256) →
    ∃ o p t, Ev (fun k => spec_l00Src_blobActs.l0 k x3 (n : Int) l s1 s2) (o, p, t) ∧ o.length = x3.length + n ∧ ∀ x ∈ o, ∀ b ∈ x.f1, 0 ≤ b ∧ b < 256 := by
  intro n
  induction n with
  | zero =>
    intro x3 s1 s2 h0 h1 h2 h3 h4 h5
    exact ⟨x3, s1, s2, Ev.step (fun k => spec_l00Src_blobActs.l0.eq_2 _ _ _ _ _ k) (Ev_neg (by omega) (Ev_some _)), by omega, h5⟩
  | succ n ih =>
    intro x3 s1 s2 h0 h1 h2 h3 h4 h5
    obtain ⟨o1, p1, t1, e1, hl1, _, hp1, hp1', ht1, ht1'⟩ := blob_ok l hu s1 s2 h0 (by omega) h2 h3
    obtain ⟨v, p2, t2, e2, hv, hv2, hp2, hp2', ht2, ht2'⟩ := next_ok l hu p1 t1 (by omega) (by omega) ht1 ht1' 6 (by omega)
    obtain ⟨x, p3, t3, e3, hx, hp3, hp3', ht3, ht3'⟩ := el_ok l hu o1 hl1 v p2 t2 (by omega) (by omega) ht2 ht2'
    have hw : wrap64 (((n + 1 : Nat) : Int) - 1) = (n : Int) := by rw [wrap64_id (by omega) (by omega)]; omega
    obtain ⟨o, p', t', e, h6, h7⟩ := ih (x3 ++ [x]) p3 t3 (by omega) (by omega) ht3 ht3' (by simp; omega) (by
      intro y hy
      rcases List.mem_append.1 hy with hy | hy
      · exact h5 y hy
      · rw [List.mem_singleton.1 hy]; exact hx)
    rw [← hw] at e
    exact ⟨o, p', t', Ev.step (fun k => spec_l00Src_blobActs.l0.eq_2 _ _ _ _ _ k) (Ev_pos (by omega) (Ev_bindc e1 (Ev_bindc e2 (Ev.bind e3 (Ev_pos (by omega) e))))), by simp at h6; omega, h7⟩
theorem actsOf_ev (l : List Int) (hu : ∀ x ∈ l, 0 ≤ x ∧ x < 256) (hl : (l.length : Int) ≤ 1048576) : ∃ y, Ev (fun k => spec_BlobActsOf.f k l) y ∧ y.length ≤ 17 ∧ ∀ x ∈ y, ∀ b ∈ x.f1, 0 ≤ b ∧ b < 256 := by
  have hd : wrap64 ((l.length : Int) / 12) = (l.length : Int) / 12 := wrap64_id (by omega) (by omega)
  have hd2 : wrap64 (1 + (l.length : Int) / 12) = 1 + (l.length : Int) / 12 := wrap64_id (by omega) (by omega)
  obtain ⟨m, hm⟩ : ∃ m, m = mn (1 + (l.length : Int) / 12) 10 := ⟨_, rfl⟩
  have hm1 : 1 ≤ m ∧ m ≤ 10 := by rw [hm]; unfold mn; split <;> omega
  have es : ∀ s1 s2, spec_l00Src_size.f l s1 s2 10 = some (m, s1, s2) := fun s1 s2 => by unfold spec_l00Src_size.f; rw [hd, hd2, ← hm]
  have hs : 0 ≤ (l.length : Int) % 1000 ∧ (l.length : Int) % 1000 < 1000 := ⟨Int.emod_nonneg _ (by omega), Int.emod_lt_of_pos _ (by omega)⟩
  have hw : wrap64 (m + 2) = m + 2 := wrap64_id (by omega) (by omega)
  obtain ⟨v, p, t, e, hv, hv2, hp, hp', ht, ht'⟩ := next_ok l hu 0 ((l.length : Int) % 1000) (by omega) (by omega) (by omega) (by omega) (m + 2) (by omega)
  obtain ⟨n, rfl⟩ := Int.eq_ofNat_of_zero_le hv
  obtain ⟨o, p', t', e', h6, h7⟩ := srcActs_go l hu n [] p t (by omega) (by omega) ht ht' (by simp; omega) (by simp)
  rw [← hw] at e
  exact ⟨o, Ev_bindc (show spec_l00Source.f l = some (l, 0, (l.length : Int) % 1000) from rfl) (Ev.bind (Ev_bindc (es _ _) (Ev_bindc e e')) (Ev_some _)), by simp at h6; omega, h7⟩
theorem sameInts_go (a : List Int) (ha : (a.length : Int) ≤ 281474976710656) (d : Nat) : ∀ i : Int, 0 ≤ i → i ≤ (a.length : Int) → (a.length : Int) - i = d → Ev (fun k => laws_sameInts.l0 k a a i) true := by
  induction d with
  | zero =>
    intro i h0 h1 h2
    exact Ev.step (fun k => laws_sameInts.l0.eq_2 a a i k) (Ev_neg (by omega) (Ev_some _))
  | succ d ih =>
    intro i h0 h1 h2
    have hw : wrap64 (i + 1) = i + 1 := wrap64_id (by omega) (by omega)
    have e := ih (i + 1) (by omega) (by omega) (by omega)
    rw [← hw] at e
    exact Ev.step (fun k => laws_sameInts.l0.eq_2 a a i k) (Ev_pos (by omega) (Ev_pos h0 (Ev_pos (by omega) (Ev_pos rfl e))))
theorem blocks_len : ∀ (n : Nat) (m h : List Int), h.length = 8 → (Go.Proofs.Ytcgkfijigjcmpaa.PFnExactSha.impl_Sha.blocks n m h).length = 8
  | 0, _, _, hh => hh
  | n + 1, m, h, hh => blocks_len n _ _ (by
      show (Go.Proofs.Ytcgkfijigjcmpaa.PFnExactSha.impl_Sha.add _ _ 8).length = 8
      rw [Go.Proofs.Ytcgkfijigjcmpaa.PFnExactSha.impl_Sha.add_len]
      exact hh)
theorem hexes_eq (l : List Int) : (l.flatMap Go.Proofs.Ytcgkfijigjcmpaa.PFnExactSha.impl_Sha.hex).length = 8 * l.length := by
  induction l with
  | nil => rfl
  | cons x l ih => rw [List.flatMap_cons, List.length_append, ih]; simp [Go.Proofs.Ytcgkfijigjcmpaa.PFnExactSha.impl_Sha.hex]; omega
theorem out_len (l : List Int) : (Go.Proofs.Ytcgkfijigjcmpaa.PFnExactSha.impl_Sha.out l).length = 64 := by
  unfold Go.Proofs.Ytcgkfijigjcmpaa.PFnExactSha.impl_Sha.out
  rw [hexes_eq, blocks_len _ _ _ rfl]
theorem long_one (key : ByteArray) (h : key.size ≤ 65536) : Ev (fun k => impl_long.f k [key]) 0 := by
  have s0 : ∀ k, impl_long.l0 (k + 1) [key] 1 0 = impl_long.l0 k [key] 1 1 := fun k => by
    simp only [impl_long.l0]
    have h2 : ¬ (((rdOf ByteArray.empty [key] 0).size : Nat) : Int) > 65536 := by show ¬ ((key.size : Nat) : Int) > 65536; omega
    rw [if_pos (by decide), if_pos (by decide), if_pos (by simp), if_neg h2, wrap64_id (by omega) (by omega)]
    rfl
  have s1 : ∀ k, impl_long.l0 (k + 1) [key] 1 1 = some 0 := fun k => by simp [impl_long.l0]
  refine ⟨2, fun k hk => ?_⟩
  obtain ⟨k, rfl⟩ : ∃ m, k = m + 2 := ⟨k - 2, by omega⟩
  show impl_long.l0 (k + 1 + 1) [key] 1 0 = _
  rw [s0, s1]
theorem get_ok (s : List S35) (h : blobOK 200 s) (x : S35) (hx : x ∈ s) : Ev (fun k => impl_BlobGet.f k s x.f0) (if 0 < x.f1 then (x.f2, 0) else ([], 6)) := by
  have hlen := h.1
  obtain ⟨h0, h1, h2, h3, h4⟩ := h.2.2 x hx
  have hk : x.f0.size ≤ 65536 := by rw [h4, strOfNums_size, out_len]; decide
  have hlong : impl_longList.f (s.length : Int) = some 0 := by
    unfold impl_longList.f
    rw [unlessOf, if_pos (decide_eq_true (by omega))]
    rfl
  have hf : Ev (fun k => impl_first.f k [0, 0]) 0 := Ev_eq (first_two 0 0) rfl
  rcases blob_split (fun y => y.f0.toList == x.f0.toList) s with hno | ⟨pre, y, suf, hs, hpre, hy⟩
  · exact absurd (hno x hx) (by simp)
  · have hyx : y = x := by
      have hnd := h.2.1
      rw [hs] at hx hnd
      rw [List.map_append, List.map_cons, List.nodup_append] at hnd
      rcases List.mem_append.1 hx with hx | hx
      · exact absurd (hpre x hx) (by simp)
      · rcases List.mem_cons.1 hx with rfl | hx
        · rfl
        · exact absurd (List.mem_map.2 ⟨x, hx, (beq_iff_eq.1 hy).symm⟩) (List.nodup_cons.1 hnd.2.1).1
    subst hyx
    have ha := blobAtP_some (fun z => z.f0.toList == y.f0.toList) y suf hy pre 0 hpre
    rw [Nat.zero_add, ← hs] at ha
    have hrd : rd_T35 s (pre.length : Int) = y := by rw [hs]; exact rd35 pre suf y
    have hb : ∀ k, impl_long.f k [y.f0] = some 0 → impl_first.f k [0, 0] = some 0 → impl_BlobGet.f k s y.f0 = some (if 0 < y.f1 then (y.f2, 0) else ([], 6)) := fun k g1 g2 => by
      unfold impl_BlobGet.f
      rw [hlong, Option.bind_some, g1, Option.bind_some, g2, Option.bind_some, if_pos rfl, ha]
      show (if (rd_T35 s (pre.length : Int)).f1 < 1 then some ([], 6) else (impl_Sha.f (rd_T35 s (pre.length : Int)).f2).bind fun t4 => if t4.toList = y.f0.toList then (slices_Clone_byte_byte.f (rd_T35 s (pre.length : Int)).f2).bind fun t5 => some (t5, 0) else none) = _
      rw [hrd]
      by_cases hp : 0 < y.f1
      · have e4 := implSha_ok y.f2 (by omega) h3
        rw [← h4] at e4
        rw [if_pos hp, if_neg (by omega), e4, Option.bind_some, if_pos rfl, clone_ok y.f2 (by omega)]
        rfl
      · rw [if_neg hp, if_pos (by omega)]
    obtain ⟨K1, g1⟩ := long_one y.f0 hk
    obtain ⟨K2, g2⟩ := hf
    exact ⟨K1 + K2, fun k hk_ => hb k (g1 k (by omega)) (g2 k (by omega))⟩
theorem Ev_all {α : Type} {P : Nat → α → Prop} : ∀ l : List α, (∀ x ∈ l, ∃ K, ∀ k, K ≤ k → P k x) → ∃ K, ∀ k, K ≤ k → ∀ x ∈ l, P k x
  | [], _ => ⟨0, fun _ _ x hx => absurd hx (by simp)⟩
  | y :: l, h => by
    obtain ⟨K1, h1⟩ := h y (by simp)
    obtain ⟨K2, h2⟩ := Ev_all l (fun x hx => h x (by simp [hx]))
    refine ⟨K1 + K2, fun k hk x hx => ?_⟩
    rcases List.mem_cons.1 hx with rfl | hx
    · exact h1 k (by omega)
    · exact h2 k (by omega) x hx
theorem FnBlobs (l : List Int) (hu : ∀ x ∈ l, 0 ≤ x ∧ x < 256) (hl : (l.length : Int) ≤ 1048576) :
    ∃ (k : Nat) (y : List S61) (c : List Int) (s : List S35), s.length ≤ 1000000 ∧ spec_BlobActsOf.f k l = some y ∧ impl_BlobRun.f k y = some (c, s, 0) ∧ spec_BlobRun.f k y = some (c, s, 0) ∧ laws_sameInts.f k c c = some true ∧
    ∀ x ∈ s, 0 ≤ x.f1 ∧ x.f0.size = 64 ∧ impl_Sha.f x.f2 = some x.f0 ∧ (0 < x.f1 → impl_BlobGet.f k s x.f0 = some (x.f2, 0)) ∧ (x.f1 = 0 → impl_BlobGet.f k s x.f0 = some ([], 6)) := by
  obtain ⟨y, ⟨k1, e1⟩, hy, hr⟩ := actsOf_ev l hu hl
  obtain ⟨c, s, v, ⟨k2, e2⟩, ⟨k3, e3⟩, hs, hc, hv⟩ := both_blobs y (by omega) hr
  obtain rfl := hv (by omega)
  obtain ⟨k4, e4⟩ : Ev (fun k => laws_sameInts.f k c c) true := Ev_pos rfl (sameInts_go c (by omega) c.length 0 (by omega) (by omega) (by omega))
  obtain ⟨k5, e5⟩ := Ev_all (P := fun (k : Nat) (x : S35) => impl_BlobGet.f k s x.f0 = some (if 0 < x.f1 then (x.f2, 0) else ([], 6))) s (fun x hx => get_ok s hs x hx)
  refine ⟨k1 + k2 + k3 + k4 + k5, y, c, s, by have := hs.1; omega, e1 _ (by omega), e2 _ (by omega), e3 _ (by omega), e4 _ (by omega), fun x hx => ?_⟩
  obtain ⟨h0, h1, h2, h3, h4⟩ := hs.2.2 x hx
  have e := e5 (k1 + k2 + k3 + k4 + k5) (by omega) x hx
  refine ⟨h0, by rw [h4, strOfNums_size, out_len], by rw [h4]; exact implSha_ok x.f2 (by omega) h3, fun hp => ?_, fun hp => ?_⟩
  · rw [if_pos hp] at e; exact e
  · rw [if_neg (by omega)] at e; exact e

end Go.Proofs.Ytcgkfijigjcmpaa.PureB
