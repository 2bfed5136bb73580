/- More of the matchers' plain words: no program in sight. -/
import Derived.Test.YtlpabbcgichaoaaMatFnExactFind
import Derived.Test.YtlpabbcgichaoaaHw
namespace Go.Proofs.Ytlpabbcgichaoaa.PFnExactFind
open Go.RowKit Go.Proofs.YtlpabbcgichaoaaW.PrintWords Go.Proofs.YtlpabbcgichaoaaW.PrintLast Go.Proofs.YtlpabbcgichaoaaW.PrintMore
set_option linter.unusedVariables false
set_option linter.unusedSimpArgs false
theorem RB_zero (den : Nat → Mt) (N n M : Nat) (q : Nat) (hq : q = N * (n + 1) * (n + 1)) : RB den N n (List.replicate q 0) M := by
 subst hq
 refine ⟨by simp, fun k i j _ _ _ _ => .inl ?_⟩
 unfold ent
 rw [List.getD_eq_getElem?_getD, List.getElem?_replicate]
 split <;> rfl
theorem mk_root (tx : Nat → Int) (n : Nat) (x : S31) (hw : rxW x) : ∃ den spf, ndGood tx n (mk x []).1 den spf ∧ Stands (mk x []).1 den spf (mk x []).2 (mat tx n x) (sp tx n x) := by
 obtain ⟨den, spf, h1, _, h2⟩ := (mk_good tx n _).1 x (Nat.le_refl _) hw [] (fun _ => catM (fun _ _ => false) (fun _ _ => false)) (fun _ _ _ o => o) (fun k y hy => by simp at hy)
 exact ⟨den, spf, h1, h2⟩
mutual
def rxT : S31 → Prop
 | ⟨_, _, _, s, l⟩ => s.size < 4611686018427387904 ∧ rxTL l
def rxTL : List S31 → Prop
 | [] => True
 | x :: l => rxT x ∧ rxTL l
end
def ndT (ns : List S85) : Prop := ∀ x ∈ ns, x.f2.size < 4611686018427387904
theorem ndT_add {ns : List S85} (h : ndT ns) (x : S85) (hx : x.f2.size < 4611686018427387904) : ndT (ns ++ [x]) := fun y hy => by
 rw [List.mem_append, List.mem_singleton] at hy
 rcases hy with hy | rfl
 ·
  exact h y hy
 ·
  exact hx
theorem mkOpt_T (a : Nat) : ∀ (c rest : Nat) (ns : List S85), ndT ns → ndT (mkOpt a c rest ns).1 := by
 intro c
 induction c with
 | zero => intro rest ns h; exact h
 | succ c ih => intro rest ns h; rw [mkOpt]; exact ih _ _ (ndT_add (ndT_add h _ (by show (0 : Nat) < _; decide)) _ (by show (0 : Nat) < _; decide))
theorem mkTimes_T (a : Nat) : ∀ (c rest : Nat) (ns : List S85), ndT ns → ndT (mkTimes a c rest ns).1 := by
 intro c
 induction c with
 | zero => intro rest ns h; exact h
 | succ c ih => intro rest ns h; rw [mkTimes]; exact ih _ _ (ndT_add h _ (by show (0 : Nat) < _; decide))
theorem mkRep_T (a : Nat) (n m : Int) (ns : List S85) (h : ndT ns) : ndT (mkRep a n m ns).1 := by
 unfold mkRep
 by_cases c : m < 0
 ·
  rw [if_pos c]; exact mkTimes_T _ _ _ _ (ndT_add (ndT_add h _ (by show (0 : Nat) < _; decide)) _ (by show (0 : Nat) < _; decide))
 ·
  rw [if_neg c]; exact mkTimes_T _ _ _ _ (mkOpt_T _ _ _ _ (ndT_add h _ (by show (0 : Nat) < _; decide)))
theorem mk_T : ∀ (N : Nat),
  (∀ x : S31, SizeOf.sizeOf x ≤ N → rxT x → ∀ ns : List S85, ndT ns → ndT (mk x ns).1) ∧
  (∀ l : List S31, SizeOf.sizeOf l ≤ N → rxTL l → ∀ ns : List S85, ndT ns → ndT (mkHd l ns).1 ∧ ∀ kd, ndT (mkL kd l ns).1) := by
 intro N
 induction N with
 | zero =>
  refine ⟨fun x hx => ?_, fun l hl => ?_⟩
  ·
   cases x; simp at hx
  ·
   cases l <;> simp at hl
 | succ N ih =>
  refine ⟨?_, ?_⟩
  ·
   rintro ⟨k, a, m, s, l⟩ hx hw ns h
   have hl : SizeOf.sizeOf l ≤ N := by simp at hx; omega
   rw [rxT] at hw
   have hh := (ih.2 l hl hw.2 ns h)
   rw [mk]
   by_cases c6 : k = 6
   ·
    simp only [if_pos c6]; exact ndT_add hh.1 _ (by show (0 : Nat) < _; decide)
   by_cases c7 : k = 7 ∨ k = 8
   ·
    simp only [if_neg c6, if_pos c7]
    by_cases ce : l.isEmpty = true
    ·
     rw [if_pos ce]; exact ndT_add h _ (by show (0 : Nat) < _; decide)
    ·
     rw [if_neg ce]; exact hh.2 k
   by_cases c9 : k = 9
   ·
    simp only [if_neg c6, if_neg c7, if_pos c9]; exact mkRep_T _ _ _ _ hh.1
   ·
    simp only [if_neg c6, if_neg c7, if_neg c9]; exact ndT_add h _ hw.1
  ·
   intro l hl hw ns h
   cases l with
   | nil => exact ⟨h, fun kd => by rw [mkL]; exact h⟩
   | cons x l =>
    rw [rxTL] at hw
    have hx2 : SizeOf.sizeOf x ≤ N := by simp at hl; omega
    have hl2 : SizeOf.sizeOf l ≤ N := by simp at hl; omega
    refine ⟨by rw [mkHd]; exact ih.1 x hx2 hw.1 ns h, fun kd => ?_⟩
    rw [mkL]
    by_cases ce : l.isEmpty = true
    ·
     simp only [if_pos ce]; exact ih.1 x hx2 hw.1 ns h
    ·
     simp only [if_neg ce]; exact ndT_add (ih.1 x hx2 hw.1 _ ((ih.2 l hl2 hw.2 ns h).2 kd)) _ (by show (0 : Nat) < _; decide)
theorem adL_step (l : List S31) (i : Nat) (h : i < l.length) (ns1 : List (S31 × List Int)) : adL (l.drop i) ns1 = ((adL (l.drop (i + 1)) (ad (l.getD i ⟨0, 0, 0, ⟨#[]⟩, []⟩) ns1)).1, (ns1.length : Int) :: (adL (l.drop (i + 1)) (ad (l.getD i ⟨0, 0, 0, ⟨#[]⟩, []⟩) ns1)).2) := by
 rw [List.drop_eq_getElem_cons h, adL]
 have : l[i] = l.getD i ⟨0, 0, 0, ⟨#[]⟩, []⟩ := by
  rw [List.getD_eq_getElem?_getD, List.getElem?_eq_getElem h]
  rfl
 rw [this]
theorem ad_len : ∀ (N : Nat),
  (∀ x : S31, SizeOf.sizeOf x ≤ N → ∀ ns, (ad x ns).length = ns.length + cnt x) ∧
  (∀ l : List S31, SizeOf.sizeOf l ≤ N → ∀ ns, (adL l ns).1.length = ns.length + cntL l) := by
 intro N
 induction N with
 | zero =>
  refine ⟨fun x hx => ?_, fun l hl => ?_⟩
  ·
   cases x; simp at hx
  ·
   cases l <;> simp at hl
 | succ N ih =>
  refine ⟨?_, ?_⟩
  ·
   rintro ⟨k, a, m, s, l⟩ hx ns
   have hl : SizeOf.sizeOf l ≤ N := by simp at hx; omega
   rw [ad, cnt]
   simp only [List.length_set]
   rw [ih.2 l hl]
   simp
   omega
  ·
   intro l hl ns
   cases l with
   | nil => rw [adL, cntL]; rfl
   | cons x l =>
    have hx2 : SizeOf.sizeOf x ≤ N := by simp at hl; omega
    have hl2 : SizeOf.sizeOf l ≤ N := by simp at hl; omega
    rw [adL, cntL]
    simp only
    rw [ih.2 l hl2, ih.1 x hx2]
    omega
def rowOf (n : Nat) (f : Nat → Bool) : List Bool := (List.range (n + 1)).map f
theorem rowOf_len (n : Nat) (f : Nat → Bool) : (rowOf n f).length = n + 1 := by unfold rowOf; simp
theorem rowOf_len' {L n : Nat} (h : L = n + 1) (f : Nat → Bool) : (rowOf n f).length = L := (rowOf_len n f).trans h.symm
theorem rowOf_congr {n : Nat} {f g : Nat → Bool} (h : ∀ j, j ≤ n → f j = g j) : rowOf n f = rowOf n g := by
 unfold rowOf
 exact List.map_congr_left (fun j hj => h j (by rw [List.mem_range] at hj; omega))
theorem rowOf_at (n : Nat) (f : Nat → Bool) (j : Nat) (h : j ≤ n) : (rowOf n f)[j]? = some (f j) := by
 unfold rowOf
 rw [List.getElem?_map, List.getElem?_range (by omega)]
 rfl
theorem rowOf_set (n : Nat) (f : Nat → Bool) (i : Nat) (b : Bool) : (rowOf n f).set i b = rowOf n (fun j => if j = i then b else f j) := by
 apply List.ext_getElem?
 intro j
 by_cases hj : j ≤ n
 ·
  rw [rowOf_at n _ j hj, List.getElem?_set]
  by_cases h : i = j
  ·
   subst h
   rw [if_pos rfl, rowOf_len, if_pos (by omega), if_pos rfl]
  ·
   rw [if_neg h, rowOf_at n _ j hj, if_neg (fun e => h e.symm)]
 ·
  rw [List.getElem?_eq_none (by rw [List.length_set, rowOf_len]; omega), List.getElem?_eq_none (by rw [rowOf_len]; omega)]
theorem rowOf_none (n : Nat) : List.replicate (n + 1) false = rowOf n (fun _ => false) := by
 apply List.ext_getElem?
 intro j
 by_cases hj : j ≤ n
 ·
  rw [rowOf_at n _ j hj, List.getElem?_replicate, if_pos (by omega)]
 ·
  rw [List.getElem?_eq_none (by simp; omega), List.getElem?_eq_none (by rw [rowOf_len]; omega)]
theorem catM_le {a b : Mt} {i j : Nat} (h : catM a b i j = true) : i ≤ j := by
 obtain ⟨k, p, q, _⟩ := anyK_iff.1 h
 omega
theorem timesM_le {a r : Mt} (hr : ∀ i j, r i j = true → i ≤ j) : ∀ n i j, timesM a r n i j = true → i ≤ j := by
 intro n
 cases n with
 | zero => exact hr
 | succ n => intro i j h; exact catM_le h
theorem optM_le (a : Mt) : ∀ m i j, optM a m i j = true → i ≤ j := by
 intro m i j h
 cases m with
 | zero => have := beq_iff_eq.1 (show (i == j) = true from h); omega
 | succ m =>
  rw [optM, Bool.or_eq_true] at h
  rcases h with h | h
  ·
   have := beq_iff_eq.1 h; omega
  ·
   obtain ⟨k, p, q, _⟩ := anyK_iff.1 h; omega
theorem tailM_le (a : Mt) (n : Nat) (m : Int) (i j : Nat) (h : tailM a n m i j = true) : i ≤ j := by
 unfold tailM at h
 by_cases c : m < 0
 ·
  rw [if_pos c] at h; exact starF_le a _ i j h
 ·
  rw [if_neg c] at h; exact optM_le a _ i j h
theorem mat_le (tx : Nat → Int) (n : Nat) : ∀ (N : Nat),
  (∀ x : S31, SizeOf.sizeOf x ≤ N → ∀ i j, mat tx n x i j = true → i ≤ j) ∧
  (∀ l : List S31, SizeOf.sizeOf l ≤ N → ∀ i j, (matHd tx n l i j = true → i ≤ j) ∧ (matCat tx n l i j = true → i ≤ j) ∧ (matAlt tx n l i j = true → i ≤ j)) := by
 intro N
 induction N with
 | zero =>
  refine ⟨fun x hx => ?_, fun l hl => ?_⟩
  ·
   cases x; simp at hx
  ·
   cases l <;> simp at hl
 | succ N ih =>
  refine ⟨?_, ?_⟩
  ·
   rintro ⟨k, a, m, s, l⟩ hx i j h
   have hl : SizeOf.sizeOf l ≤ N := by simp at hx; omega
   obtain ⟨h1, h2, h3⟩ := ih.2 l hl i j
   rw [mat] at h
   by_cases c1 : k = 1
   ·
    simp only [if_pos c1, Bool.and_eq_true] at h; have := beq_iff_eq.1 h.1; omega
   by_cases c2 : k = 2
   ·
    simp only [if_neg c1, if_pos c2] at h; have := beq_iff_eq.1 h; omega
   by_cases c3 : k = 3
   ·
    simp only [if_neg c1, if_neg c2, if_pos c3, Bool.and_eq_true] at h; have := beq_iff_eq.1 h.1; omega
   by_cases c4 : k = 4
   ·
    simp only [if_neg c1, if_neg c2, if_neg c3, if_pos c4, Bool.and_eq_true] at h; have := beq_iff_eq.1 h.1; omega
   by_cases c5 : k = 5
   ·
    simp only [if_neg c1, if_neg c2, if_neg c3, if_neg c4, if_pos c5, Bool.and_eq_true] at h; have := beq_iff_eq.1 h.2; omega
   by_cases c6 : k = 6
   ·
    simp only [if_neg c1, if_neg c2, if_neg c3, if_neg c4, if_neg c5, if_pos c6] at h; exact h1 h
   by_cases c7 : k = 7
   ·
    simp only [if_neg c1, if_neg c2, if_neg c3, if_neg c4, if_neg c5, if_neg c6, if_pos c7] at h; exact h2 h
   by_cases c8 : k = 8
   ·
    simp only [if_neg c1, if_neg c2, if_neg c3, if_neg c4, if_neg c5, if_neg c6, if_neg c7, if_pos c8] at h; exact h3 h
   by_cases c9 : k = 9
   ·
    simp only [if_neg c1, if_neg c2, if_neg c3, if_neg c4, if_neg c5, if_neg c6, if_neg c7, if_neg c8, if_pos c9] at h
    exact timesM_le (fun i j => tailM_le _ _ _ i j) _ i j h
   ·
    simp only [if_neg c1, if_neg c2, if_neg c3, if_neg c4, if_neg c5, if_neg c6, if_neg c7, if_neg c8, if_neg c9] at h; exact absurd h (by simp)
  ·
   intro l hl i j
   cases l with
   | nil =>
    rw [matHd, matCat, matAlt]
    exact ⟨fun h => absurd h (by simp), fun h => by have := beq_iff_eq.1 h; omega, fun h => absurd h (by simp)⟩
   | cons x l =>
    have hx2 : SizeOf.sizeOf x ≤ N := by simp at hl; omega
    have hl2 : SizeOf.sizeOf l ≤ N := by simp at hl; omega
    rw [matHd, matCat, matAlt]
    refine ⟨ih.1 x hx2 i j, catM_le, fun h => ?_⟩
    rw [Bool.or_eq_true] at h
    exact h.elim (ih.1 x hx2 i j) (ih.2 l hl2 i j).2.2
theorem optI_le (a : Mt) : ∀ m i j, optI a m i j = true → i ≤ j := fun m i j h => by rw [← opt_eq] at h; exact optM_le a m i j h
theorem onw_le (tx : Nat → Int) (n : Nat) (x : S31) (d i j : Nat) (h : onw tx n x d i j = true) : i ≤ j := by
 obtain ⟨k, a, m, s, l⟩ := x
 rw [onw] at h
 by_cases c : k = 7
 ·
  rw [if_pos c] at h; exact ((mat_le tx n _).2 _ (Nat.le_refl _) i j).2.1 h
 ·
  rw [if_neg c] at h
  by_cases c2 : d < a.toNat
  ·
   rw [if_pos c2] at h; exact timesM_le (fun i j => tailM_le _ _ _ i j) _ i j h
  ·
   rw [if_neg c2] at h
   by_cases c3 : m < 0
   ·
    rw [if_pos c3] at h; exact starF_le _ _ i j h
   ·
    rw [if_neg c3] at h; exact optI_le _ _ i j h
def accK (f : Nat → Bool) (c : Nat → Bool) (g : Mt) (e : Nat) : Nat → Bool := fun j => f j || (List.range e).any fun q => c q && g q j
theorem accK_zero (f : Nat → Bool) (c : Nat → Bool) (g : Mt) : accK f c g 0 = f := by funext j; simp [accK]
theorem accK_yes (f : Nat → Bool) (c : Nat → Bool) (g : Mt) (e : Nat) (h : c e = true) : accK f c g (e + 1) = fun j => accK f c g e j || g e j := by
 funext j
 simp only [accK, List.range_succ, List.any_append, List.any_cons, List.any_nil, h, Bool.true_and, Bool.or_false, Bool.or_assoc]
theorem accK_no (f : Nat → Bool) (c : Nat → Bool) (g : Mt) (e : Nat) (h : c e = false) : accK f c g (e + 1) = accK f c g e := by
 funext j
 simp only [accK, List.range_succ, List.any_append, List.any_cons, List.any_nil, h, Bool.false_and, Bool.or_false]
theorem accK_all {f : Nat → Bool} {c : Nat → Bool} {g : Mt} {n lo : Nat} {p : Nat → Nat → Bool} (hg : ∀ q j, g q j = true → q ≤ j) (hc : ∀ q, q ≤ n → (c q = true → lo ≤ q)) (j : Nat) (hj : j ≤ n) (hp : ∀ q, lo ≤ q → q ≤ j → (c q && g q j) = p q j) : accK f c g (n + 1) j = (f j || anyK lo j fun q => p q j) := by
 unfold accK
 congr 1
 rw [Bool.eq_iff_iff, List.any_eq_true, anyK_iff]
 constructor
 ·
  rintro ⟨q, hq, h⟩
  rw [List.mem_range] at hq
  have h2 := h
  rw [Bool.and_eq_true] at h2
  have h3 := hc q (by omega) h2.1
  have h4 := hg q j h2.2
  exact ⟨q, h3, h4, by rw [← hp q h3 h4]; exact h⟩
 ·
  rintro ⟨q, h1, h2, h⟩
  exact ⟨q, by rw [List.mem_range]; omega, by rw [hp q h1 h2]; exact h⟩
theorem imMu {n i e b d d2 : Nat} (h : i ≤ e) (hn : e ≤ n) (hd : (d2 = d + 1 ∧ d < b + 21) ∨ (i < e ∧ d2 ≤ b + 21)) : (n - e) * (b + 22) + (b + 21 - d2) < (n - i) * (b + 22) + (b + 21 - d) := by
 by_cases c : i < e
 ·
  have h1 : (n - e + 1) * (b + 22) ≤ (n - i) * (b + 22) := Nat.mul_le_mul_right _ (by omega)
  rw [Nat.add_mul] at h1
  omega
 ·
  obtain rfl : i = e := by omega
  rcases hd with ⟨h1, h2⟩ | ⟨h1, h2⟩
  ·
   omega
  ·
   omega
theorem imCat (tx : Nat → Int) (n : Nat) (f0 f1 f2 : Int) (f3 : ByteArray) (l : List S31) (d i : Nat) (y : S31) (h0 : f0 = 7) (hd : d < l.length) (hy : l[d]? = some y) :
  rowOf n (accK (fun _ => false) (fun q => mat tx n y i q) (onw tx n ⟨f0, f1, f2, f3, l⟩ (d + 1)) (n + 1)) = rowOf n (onw tx n ⟨f0, f1, f2, f3, l⟩ d i) := by
 subst h0
 have hy2 : l[d] = y := by rw [List.getElem?_eq_getElem hd] at hy; exact Option.some.inj hy
 refine rowOf_congr (fun j hj => ?_)
 rw [accK_all (lo := i) (p := fun q j => mat tx n y i q && onw tx n ⟨7, f1, f2, f3, l⟩ (d + 1) q j) (fun q j h => onw_le tx n _ _ q j h) (fun q _ h => (mat_le tx n _).1 y (Nat.le_refl _) i q h) j hj (fun q _ _ => rfl), onw_cat tx n f1 f2 f3 l d hd, hy2, Bool.false_or]
 rfl
theorem imMust (tx : Nat → Int) (n : Nat) (f0 f1 f2 : Int) (f3 : ByteArray) (l : List S31) (d i : Nat) (y : S31) (h0 : f0 = 9) (hd : d < f1.toNat) (hy : l[0]? = some y) :
  rowOf n (accK (fun _ => false) (fun q => mat tx n y i q) (onw tx n ⟨f0, f1, f2, f3, l⟩ (d + 1)) (n + 1)) = rowOf n (onw tx n ⟨f0, f1, f2, f3, l⟩ d i) := by
 subst h0
 have hh : matHd tx n l = mat tx n y := by
  cases l with
  | nil => simp at hy
  | cons z l => rw [matHd]; simp at hy; rw [hy]
 refine rowOf_congr (fun j hj => ?_)
 rw [accK_all (lo := i) (p := fun q j => mat tx n y i q && onw tx n ⟨9, f1, f2, f3, l⟩ (d + 1) q j) (fun q j h => onw_le tx n _ _ q j h) (fun q _ h => (mat_le tx n _).1 y (Nat.le_refl _) i q h) j hj (fun q _ _ => rfl), onw_must tx n f1 f2 f3 l d hd, hh, Bool.false_or]
 rfl
theorem imMore (tx : Nat → Int) (n : Nat) (f0 f1 f2 : Int) (f3 : ByteArray) (l : List S31) (d i : Nat) (y : S31) (h0 : f0 = 9) (hd : ¬ d < f1.toNat) (hm : f2 < 0 ∨ (d : Int) < f2) (hy : l[0]? = some y) :
  rowOf n (accK (fun j => if j = i then true else false) (fun q => mat tx n y i q && decide (i < q)) (onw tx n ⟨f0, f1, f2, f3, l⟩ (d + 1)) (n + 1)) = rowOf n (onw tx n ⟨f0, f1, f2, f3, l⟩ d i) := by
 subst h0
 have hh : matHd tx n l = mat tx n y := by
  cases l with
  | nil => simp at hy
  | cons z l => rw [matHd]; simp at hy; rw [hy]
 refine rowOf_congr (fun j hj => ?_)
 rw [accK_all (lo := i + 1) (p := fun q j => mat tx n y i q && onw tx n ⟨9, f1, f2, f3, l⟩ (d + 1) q j) (fun q j h => onw_le tx n _ _ q j h) (fun q _ h => by rw [Bool.and_eq_true, decide_eq_true_eq] at h; omega) j hj (fun q h1 _ => by rw [decide_eq_true (show i < q by omega), Bool.and_true])]
 have e : (if j = i then true else false) = (i == j) := by
  by_cases c : i = j
  ·
   subst c; simp
  ·
   rw [if_neg (fun h => c h.symm)]; exact (beq_eq_false_iff_ne.2 c).symm
 rw [e]
 by_cases c : f2 < 0
 ·
  rw [onw_star tx n f1 f2 f3 l d hd c i j, hh]
 ·
  rw [onw_opt tx n f1 f2 f3 l d hd c (hm.resolve_left c) i j, hh]
theorem imStop (tx : Nat → Int) (n : Nat) (f0 f1 f2 : Int) (f3 : ByteArray) (l : List S31) (d i : Nat) (h0 : f0 = 9) (hd : ¬ d < f1.toNat) (hm : ¬ f2 < 0) (hm2 : ¬ (d : Int) < f2) :
  rowOf n (fun j => if j = i then true else false) = rowOf n (onw tx n ⟨f0, f1, f2, f3, l⟩ d i) := by
 subst h0
 refine rowOf_congr (fun j hj => ?_)
 rw [onw_end tx n f1 f2 f3 l d hd hm hm2 i j]
 by_cases c : i = j
 ·
  subst c; simp
 ·
  rw [if_neg (fun h => c h.symm)]; exact (beq_eq_false_iff_ne.2 c).symm
end Go.Proofs.Ytlpabbcgichaoaa.PFnExactFind
