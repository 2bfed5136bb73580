import Derived.Test.YtlpabbcgichaoaaPFnExactFindx0
import Derived.Test.YtlpabbcgichaoaaWWords
section
namespace Go.Proofs.Ytlpabbcgichaoaa.PFnExactFind
set_option linter.unusedVariables false
set_option linter.unusedSimpArgs false
def anyK (lo hi : Nat) (p : Nat → Bool) : Bool := (List.range (hi + 1 - lo)).any fun d => p (lo + d)
theorem anyK_iff {lo hi : Nat} {p : Nat → Bool} : anyK lo hi p = true ↔ ∃ k, lo ≤ k ∧ k ≤ hi ∧ p k = true := by
 unfold anyK
 rw [List.any_eq_true]
 constructor
 ·
  rintro ⟨d, hd, hp⟩
  rw [List.mem_range] at hd
  exact ⟨lo + d, by omega, by omega, hp⟩
 ·
  rintro ⟨k, h1, h2, hp⟩
  exact ⟨k - lo, by rw [List.mem_range]; omega, by rwa [show lo + (k - lo) = k by omega]⟩
theorem anyK_congr {lo hi : Nat} {p q : Nat → Bool} (h : ∀ k, lo ≤ k → k ≤ hi → p k = q k) : anyK lo hi p = anyK lo hi q := by
 rw [Bool.eq_iff_iff, anyK_iff, anyK_iff]
 constructor
 ·
  rintro ⟨k, h1, h2, hp⟩; exact ⟨k, h1, h2, by rw [← h k h1 h2]; exact hp⟩
 ·
  rintro ⟨k, h1, h2, hp⟩; exact ⟨k, h1, h2, by rw [h k h1 h2]; exact hp⟩
def lastK (lo : Nat) (p : Nat → Bool) : Nat → Option Nat
 | 0 => if lo = 0 ∧ p 0 = true then some 0 else none
 | h + 1 => if h + 1 < lo then none else if p (h + 1) = true then some (h + 1) else lastK lo p h
theorem lastK_some {lo : Nat} {p : Nat → Bool} : ∀ {hi k : Nat}, lastK lo p hi = some k → lo ≤ k ∧ k ≤ hi ∧ p k = true ∧ ∀ q, k < q → q ≤ hi → p q = false
 | 0, k, h => by
  rw [lastK] at h
  by_cases c : lo = 0 ∧ p 0 = true
  ·
   rw [if_pos c] at h
   obtain rfl := Option.some.inj h
   exact ⟨by omega, by omega, c.2, fun q h1 h2 => by omega⟩
  ·
   rw [if_neg c] at h; exact absurd h (by simp)
 | m + 1, k, h => by
  rw [lastK] at h
  by_cases c : m + 1 < lo
  ·
   rw [if_pos c] at h; exact absurd h (by simp)
  ·
   rw [if_neg c] at h
   by_cases d : p (m + 1) = true
   ·
    rw [if_pos d] at h
    obtain rfl := Option.some.inj h
    exact ⟨by omega, by omega, d, fun q h1 h2 => by omega⟩
   ·
    rw [if_neg d] at h
    obtain ⟨h1, h2, h3, h4⟩ := lastK_some h
    refine ⟨h1, by omega, h3, fun q h5 h6 => ?_⟩
    by_cases e : q = m + 1
    ·
     rw [e]; simpa using d
    ·
     exact h4 q h5 (by omega)
theorem lastK_none {lo : Nat} {p : Nat → Bool} : ∀ {hi : Nat}, lastK lo p hi = none → ∀ k, lo ≤ k → k ≤ hi → p k = false
 | 0, h, k, h1, h2 => by
  rw [lastK] at h
  by_cases c : lo = 0 ∧ p 0 = true
  ·
   rw [if_pos c] at h; exact absurd h (by simp)
  ·
   obtain rfl : k = 0 := by omega
   obtain rfl : lo = 0 := by omega
   simpa using c
 | m + 1, h, k, h1, h2 => by
  rw [lastK] at h
  by_cases c : m + 1 < lo
  ·
   omega
  ·
   rw [if_neg c] at h
   by_cases d : p (m + 1) = true
   ·
    rw [if_pos d] at h; exact absurd h (by simp)
   ·
    rw [if_neg d] at h
    by_cases e : k = m + 1
    ·
     rw [e]; simpa using d
    ·
     exact lastK_none h k h1 (by omega)
theorem lastK_is {lo hi : Nat} {p : Nat → Bool} (h : anyK lo hi p = true) : ∃ k, lastK lo p hi = some k := by
 obtain ⟨k, h1, h2, h3⟩ := anyK_iff.1 h
 cases hk : lastK lo p hi with
 | some k => exact ⟨k, rfl⟩
 | none => rw [lastK_none hk k h1 h2] at h3; exact absurd h3 (by simp)
theorem lastK_eq {lo hi k : Nat} {p : Nat → Bool} (h1 : lo ≤ k) (h2 : k ≤ hi) (h3 : p k = true) (h4 : ∀ q, k < q → q ≤ hi → p q = false) : lastK lo p hi = some k := by
 obtain ⟨k', hk⟩ := lastK_is (anyK_iff.2 ⟨k, h1, h2, h3⟩)
 obtain ⟨a, b, c, d⟩ := lastK_some hk
 rw [hk]
 congr 1
 rcases Nat.lt_trichotomy k k' with h | h | h
 ·
  rw [h4 k' h b] at c; exact absurd c (by simp)
 ·
  exact h.symm
 ·
  rw [d k h h2] at h3; exact absurd h3 (by simp)
theorem lastK_congr {lo hi : Nat} {p q : Nat → Bool} (h : ∀ k, lo ≤ k → k ≤ hi → p k = q k) : lastK lo p hi = lastK lo q hi := by
 cases hk : lastK lo q hi with
 | some k =>
  obtain ⟨a, b, c, d⟩ := lastK_some hk
  exact lastK_eq a b (by rw [h k a b]; exact c) (fun r h1 h2 => by rw [h r (by omega) h2]; exact d r h1 h2)
 | none =>
  cases hp : lastK lo p hi with
  | none => rfl
  | some k =>
   obtain ⟨a, b, c, _⟩ := lastK_some hp
   rw [h k a b, lastK_none hk k a b] at c
   exact absurd c (by simp)
abbrev Mt := Nat → Nat → Bool
def catM (a b : Mt) : Mt := fun i j => anyK i j fun k => a i k && b k j
def starF (a : Mt) : Nat → Mt
 | 0, i, j => i == j
 | f + 1, i, j => i == j || anyK (i + 1) j fun k => a i k && starF a f k j
def starM (a : Mt) : Mt := fun i j => starF a (j - i) i j
theorem starF_more (a : Mt) : ∀ f i j, j - i ≤ f → starF a f i j = starF a (j - i) i j := by
 intro f
 induction f using Nat.strongRecOn with
 | ind f ih =>
  intro i j h
  cases f with
  | zero => rw [show j - i = 0 by omega]
  | succ f =>
   cases hd : j - i with
   | zero =>
    have : anyK (i + 1) j (fun k => a i k && starF a f k j) = false := by
     rw [Bool.eq_false_iff]
     intro hc
     obtain ⟨k, h1, h2, _⟩ := anyK_iff.1 hc
     omega
    rw [starF, starF, this]
    simp
   | succ m =>
    rw [starF, starF]
    congr 1
    refine anyK_congr (fun k h1 h2 => ?_)
    congr 1
    rw [ih f (by omega) k j (by omega), ih m (by omega) k j (by omega)]
theorem starM_eq (a : Mt) (i j : Nat) : starM a i j = (i == j || anyK (i + 1) j fun k => a i k && starM a k j) := by
 unfold starM
 rw [← starF_more a (j - i + 1) i j (by omega), starF]
 congr 1
 refine anyK_congr (fun k h1 h2 => ?_)
 rw [starF_more a (j - i) k j (by omega)]
def optM (a : Mt) : Nat → Mt
 | 0, i, j => i == j
 | m + 1, i, j => i == j || anyK i j fun k => a i k && optM a m k j
def optI (a : Mt) : Nat → Mt
 | 0, i, j => i == j
 | m + 1, i, j => i == j || anyK (i + 1) j fun k => a i k && optI a m k j
theorem optI_more (a : Mt) : ∀ m i j, optI a m i j = true → optI a (m + 1) i j = true := by
 intro m
 induction m with
 | zero =>
  intro i j h
  have h2 : (i == j) = true := h
  show (i == j || _) = true
  rw [h2]; rfl
 | succ m ih =>
  intro i j h
  rw [optI] at h ⊢
  rcases (Bool.or_eq_true _ _).mp h with h | h
  ·
   simp [h]
  ·
   obtain ⟨k, h1, h2, h3⟩ := anyK_iff.1 h
   rw [Bool.and_eq_true] at h3
   rw [Bool.or_eq_true]
   exact .inr (anyK_iff.2 ⟨k, h1, h2, by rw [Bool.and_eq_true]; exact ⟨h3.1, ih k j h3.2⟩⟩)
theorem opt_eq (a : Mt) : ∀ m i j, optM a m i j = optI a m i j := by
 intro m
 induction m with
 | zero => intro i j; rfl
 | succ m ih =>
  intro i j
  rw [Bool.eq_iff_iff, optM, optI, Bool.or_eq_true, Bool.or_eq_true]
  constructor
  ·
   rintro (h | h)
   ·
    exact .inl h
   ·
    obtain ⟨k, h1, h2, h3⟩ := anyK_iff.1 h
    rw [Bool.and_eq_true, ih] at h3
    by_cases hk : k = i
    ·
     subst hk
     have := optI_more a m k j h3.2
     exact (Bool.or_eq_true _ _).mp this
    ·
     exact .inr (anyK_iff.2 ⟨k, by omega, h2, by rw [Bool.and_eq_true]; exact h3⟩)
  ·
   rintro (h | h)
   ·
    exact .inl h
   ·
    obtain ⟨k, h1, h2, h3⟩ := anyK_iff.1 h
    exact .inr (anyK_iff.2 ⟨k, by omega, h2, by rw [ih]; exact h3⟩)
def timesM (a rest : Mt) : Nat → Mt
 | 0 => rest
 | n + 1 => catM a (timesM a rest n)
def tailM (a : Mt) (n : Nat) (m : Int) : Mt := if m < 0 then starM a else optM a (m - n).toNat
def repM (a : Mt) (n : Nat) (m : Int) : Mt := timesM a (tailM a n m) n
def inS (s : ByteArray) (c : Int) : Bool := s.data.toList.any fun b => ((b.toNat : Nat) : Int) == c
mutual
def mat (tx : Nat → Int) (n : Nat) : S31 → Mt
 | ⟨k, a, m, s, l⟩ => fun i j =>
  if k = 1 then j == i + 1 && decide (tx i = a)
  else if k = 2 then j == i + 1
  else if k = 3 then j == i + 1 && inS s (tx i)
  else if k = 4 then i == 0 && j == 0
  else if k = 5 then i == n && j == i
  else if k = 6 then matHd tx n l i j
  else if k = 7 then matCat tx n l i j
  else if k = 8 then matAlt tx n l i j
  else if k = 9 then repM (matHd tx n l) a.toNat m i j
  else false
def matHd (tx : Nat → Int) (n : Nat) : List S31 → Mt
 | [] => fun _ _ => false
 | x :: _ => mat tx n x
def matCat (tx : Nat → Int) (n : Nat) : List S31 → Mt
 | [] => fun i j => i == j
 | x :: l => catM (mat tx n x) (matCat tx n l)
def matAlt (tx : Nat → Int) (n : Nat) : List S31 → Mt
 | [] => fun _ _ => false
 | x :: l => fun i j => mat tx n x i j || matAlt tx n l i j
end
def spTimes (a rest : Mt) (sa sr : Nat → Nat → List Int → List Int) : Nat → Nat → Nat → List Int → List Int
 | 0, i, j, out => sr i j out
 | n + 1, i, j, out => match lastK i (fun k => a i k && timesM a rest n k j) j with
  | some k => spTimes a rest sa sr n k j (sa i k out)
  | none => out
def spStarF (a : Mt) (sa : Nat → Nat → List Int → List Int) : Nat → Nat → Nat → List Int → List Int
 | 0, _, _, out => out
 | f + 1, i, j, out => if i < j then (match lastK (i + 1) (fun k => a i k && starM a k j) j with
   | some k => spStarF a sa f k j (sa i k out)
   | none => out) else out
def spOpt (a : Mt) (sa : Nat → Nat → List Int → List Int) : Nat → Nat → Nat → List Int → List Int
 | 0, _, _, out => out
 | m + 1, i, j, out => if i < j then (match lastK (i + 1) (fun k => a i k && optM a m k j) j with
   | some k => spOpt a sa m k j (sa i k out)
   | none => out) else out
def spTail (a : Mt) (sa : Nat → Nat → List Int → List Int) (n : Nat) (m : Int) : Nat → Nat → List Int → List Int := if m < 0 then fun i j => spStarF a sa (j - i) i j else spOpt a sa (m - n).toNat
mutual
def sp (tx : Nat → Int) (n : Nat) : S31 → Nat → Nat → List Int → List Int
 | ⟨k, a, m, _, l⟩ => fun i j out =>
  if k = 6 then spHd tx n l i j ((out.set (2 * a).toNat (i : Int)).set (2 * a + 1).toNat (j : Int))
  else if k = 7 then spCat tx n l i j out
  else if k = 8 then spAlt tx n l i j out
  else if k = 9 then spTimes (matHd tx n l) (tailM (matHd tx n l) a.toNat m) (spHd tx n l) (spTail (matHd tx n l) (spHd tx n l) a.toNat m) a.toNat i j out
  else out
def spHd (tx : Nat → Int) (n : Nat) : List S31 → Nat → Nat → List Int → List Int
 | [] => fun _ _ out => out
 | x :: _ => sp tx n x
def spCat (tx : Nat → Int) (n : Nat) : List S31 → Nat → Nat → List Int → List Int
 | [] => fun _ _ out => out
 | x :: l => fun i j out => match lastK i (fun k => mat tx n x i k && matCat tx n l k j) j with
  | some k => spCat tx n l k j (sp tx n x i k out)
  | none => out
def spAlt (tx : Nat → Int) (n : Nat) : List S31 → Nat → Nat → List Int → List Int
 | [] => fun _ _ out => out
 | x :: l => fun i j out => if mat tx n x i j = true then sp tx n x i j out else spAlt tx n l i j out
end
theorem opt_last (a : Mt) (m i j : Nat) (hij : i < j) (h : optM a (m + 1) i j = true) : lastK i (fun k => a i k && optM a m k j) j = lastK (i + 1) (fun k => a i k && optM a m k j) j := by
 have h2 : optI a (m + 1) i j = true := by rw [← opt_eq]; exact h
 rw [optI, Bool.or_eq_true] at h2
 have h3 : anyK (i + 1) j (fun k => a i k && optM a m k j) = true := by
  rcases h2 with h2 | h2
  ·
   have := beq_iff_eq.1 h2; omega
  ·
   obtain ⟨k, p, q, r⟩ := anyK_iff.1 h2
   exact anyK_iff.2 ⟨k, p, q, by rw [opt_eq]; exact r⟩
 obtain ⟨k, hk⟩ := lastK_is h3
 obtain ⟨p, q, r, s⟩ := lastK_some hk
 rw [hk]
 exact lastK_eq (by omega) q r s
def onw (tx : Nat → Int) (n : Nat) : S31 → Nat → Mt
 | ⟨k, a, m, _, l⟩, d => if k = 7 then matCat tx n (l.drop d) else if d < a.toNat then timesM (matHd tx n l) (tailM (matHd tx n l) a.toNat m) (a.toNat - d) else if m < 0 then starM (matHd tx n l) else optI (matHd tx n l) (m - d).toNat
theorem onw_cat (tx : Nat → Int) (n : Nat) (a m : Int) (s : ByteArray) (l : List S31) (d : Nat) (hd : d < l.length) : onw tx n ⟨7, a, m, s, l⟩ d = catM (mat tx n l[d]) (onw tx n ⟨7, a, m, s, l⟩ (d + 1)) := by
 rw [onw, onw, if_pos rfl, if_pos rfl, List.drop_eq_getElem_cons hd, matCat]
theorem onw_cat_end (tx : Nat → Int) (n : Nat) (a m : Int) (s : ByteArray) (l : List S31) (i j : Nat) : onw tx n ⟨7, a, m, s, l⟩ l.length i j = (i == j) := by
 rw [onw, if_pos rfl, List.drop_eq_nil_of_le (Nat.le_refl _), matCat]
theorem tail_eq (a : Mt) (n : Nat) (m : Int) : tailM a n m = if m < 0 then starM a else optI a (m - n).toNat := by
 unfold tailM
 by_cases h : m < 0
 ·
  rw [if_pos h, if_pos h]
 ·
  rw [if_neg h, if_neg h]
  funext i j
  exact opt_eq a _ i j
theorem onw_must (tx : Nat → Int) (n : Nat) (a m : Int) (s : ByteArray) (l : List S31) (d : Nat) (hd : d < a.toNat) : onw tx n ⟨9, a, m, s, l⟩ d = catM (matHd tx n l) (onw tx n ⟨9, a, m, s, l⟩ (d + 1)) := by
 rw [onw, onw, if_neg (show ¬ ((9 : Int) = 7) by decide), if_neg (show ¬ ((9 : Int) = 7) by decide), if_pos hd]
 obtain ⟨q, hq⟩ : ∃ q, a.toNat - d = q + 1 := ⟨a.toNat - d - 1, by omega⟩
 rw [hq, timesM]
 by_cases h : d + 1 < a.toNat
 ·
  rw [if_pos h, show a.toNat - (d + 1) = q by omega]
 ·
  rw [if_neg h, show q = 0 by omega, timesM, tail_eq, show d + 1 = a.toNat by omega]
theorem onw_star (tx : Nat → Int) (n : Nat) (a m : Int) (s : ByteArray) (l : List S31) (d : Nat) (hd : ¬ d < a.toNat) (hm : m < 0) (i j : Nat) :
  onw tx n ⟨9, a, m, s, l⟩ d i j = (i == j || anyK (i + 1) j fun k => matHd tx n l i k && onw tx n ⟨9, a, m, s, l⟩ (d + 1) k j) := by
 rw [onw, if_neg (by decide), if_neg hd, if_pos hm, starM_eq]
 congr 1
 refine anyK_congr (fun k _ _ => ?_)
 rw [onw, if_neg (by decide), if_neg (by omega), if_pos hm]
theorem onw_same (tx : Nat → Int) (n : Nat) (a m : Int) (s : ByteArray) (l : List S31) (d : Nat) (hd : ¬ d < a.toNat) (hm : m < 0) : onw tx n ⟨9, a, m, s, l⟩ d = onw tx n ⟨9, a, m, s, l⟩ a.toNat := by
 rw [onw, onw, if_neg (show ¬ ((9 : Int) = 7) by decide), if_neg hd, if_pos hm, if_neg (show ¬ ((9 : Int) = 7) by decide), if_neg (by omega), if_pos hm]
theorem onw_opt (tx : Nat → Int) (n : Nat) (a m : Int) (s : ByteArray) (l : List S31) (d : Nat) (hd : ¬ d < a.toNat) (hm : ¬ m < 0) (hdm : (d : Int) < m) (i j : Nat) :
  onw tx n ⟨9, a, m, s, l⟩ d i j = (i == j || anyK (i + 1) j fun k => matHd tx n l i k && onw tx n ⟨9, a, m, s, l⟩ (d + 1) k j) := by
 obtain ⟨q, hq⟩ : ∃ q, (m - (d : Int)).toNat = q + 1 := ⟨(m - (d : Int)).toNat - 1, by omega⟩
 rw [onw, if_neg (by decide), if_neg hd, if_neg hm, hq, optI]
 congr 1
 refine anyK_congr (fun k _ _ => ?_)
 rw [onw, if_neg (by decide), if_neg (by omega), if_neg hm, show (m - ((d + 1 : Nat) : Int)).toNat = q by omega]
theorem onw_end (tx : Nat → Int) (n : Nat) (a m : Int) (s : ByteArray) (l : List S31) (d : Nat) (hd : ¬ d < a.toNat) (hm : ¬ m < 0) (hdm : ¬ (d : Int) < m) (i j : Nat) : onw tx n ⟨9, a, m, s, l⟩ d i j = (i == j) := by
 rw [onw, if_neg (by decide), if_neg hd, if_neg hm, show (m - (d : Int)).toNat = 0 by omega]
 rfl
theorem onw_zero (tx : Nat → Int) (n : Nat) (k a m : Int) (s : ByteArray) (l : List S31) (hk : k = 7 ∨ k = 9) (i j : Nat) : onw tx n ⟨k, a, m, s, l⟩ 0 i j = mat tx n ⟨k, a, m, s, l⟩ i j := by
 rcases hk with rfl | rfl
 ·
  rw [onw, if_pos rfl, List.drop_zero, mat]
  rfl
 ·
  rw [onw, if_neg (by decide), mat]
  simp only [show ¬ ((9 : Int) = 1) by decide, show ¬ ((9 : Int) = 2) by decide, show ¬ ((9 : Int) = 3) by decide, show ¬ ((9 : Int) = 4) by decide, show ¬ ((9 : Int) = 5) by decide, show ¬ ((9 : Int) = 6) by decide, show ¬ ((9 : Int) = 7) by decide, show ¬ ((9 : Int) = 8) by decide, if_false, if_true]
  unfold repM
  by_cases h : 0 < a.toNat
  ·
   rw [if_pos h, Nat.sub_zero]
  ·
   rw [if_neg h, tail_eq, show a.toNat = 0 by omega, timesM]
abbrev Spf := Nat → Nat → List Int → List Int
def ndMat (tx : Nat → Int) (n : Nat) (x : S85) (den : Nat → Mt) : Mt := fun i j =>
 if x.f0 = 1 then j == i + 1 && decide (tx i = x.f1)
 else if x.f0 = 2 then j == i + 1
 else if x.f0 = 3 then j == i + 1 && inS x.f2 (tx i)
 else if x.f0 = 4 then i == 0 && j == 0
 else if x.f0 = 5 then i == n && j == i
 else if x.f0 = 21 then i == j
 else if x.f0 = 6 then den x.f3.toNat i j
 else if x.f0 = 8 then den x.f3.toNat i j || den x.f4.toNat i j
 else if x.f0 = 20 then i == j || den x.f3.toNat i j
 else if x.f0 = 9 then starM (den x.f3.toNat) i j
 else catM (den x.f3.toNat) (den x.f4.toNat) i j
def ndSp (x : S85) (den : Nat → Mt) (spf : Nat → Spf) : Spf := fun i j out =>
 if x.f0 = 6 then spf x.f3.toNat i j ((out.set (2 * x.f1).toNat (i : Int)).set (2 * x.f1 + 1).toNat (j : Int))
 else if x.f0 = 8 then (if den x.f3.toNat i j = true then spf x.f3.toNat i j out else spf x.f4.toNat i j out)
 else if x.f0 = 20 then (if i < j then spf x.f3.toNat i j out else out)
 else if x.f0 = 9 then spStarF (den x.f3.toNat) (spf x.f3.toNat) (j - i) i j out
 else if x.f0 = 7 then (match lastK i (fun k => den x.f3.toNat i k && den x.f4.toNat k j) j with
  | some k => spf x.f4.toNat k j (spf x.f3.toNat i k out)
  | none => out)
 else out
def ndOk (x : S85) (k : Nat) : Prop := 0 ≤ x.f3 ∧ 0 ≤ x.f4 ∧ (x.f0 = 6 ∨ x.f0 = 8 ∨ x.f0 = 20 ∨ x.f0 = 9 ∨ x.f0 = 7 → x.f3.toNat < k) ∧ (x.f0 = 8 ∨ x.f0 = 7 → x.f4.toNat < k)
def ndGood (tx : Nat → Int) (n : Nat) (ns : List S85) (den : Nat → Mt) (spf : Nat → Spf) : Prop :=
 ∀ (k : Nat) (x : S85), ns[k]? = some x → ndOk x k ∧ (1 ≤ x.f0 ∧ x.f0 ≤ 9 ∨ x.f0 = 20 ∨ x.f0 = 21) ∧ (∀ i j, den k i j = ndMat tx n x den i j) ∧ ∀ i j out, spf k i j out = ndSp x den spf i j out
theorem ndMat_congr {tx : Nat → Int} {n : Nat} {x : S85} {k : Nat} (h : ndOk x k) (hk : 1 ≤ x.f0 ∧ x.f0 ≤ 9 ∨ x.f0 = 20 ∨ x.f0 = 21) {den den' : Nat → Mt} (hd : ∀ q, q < k → den' q = den q) (i j : Nat) : ndMat tx n x den' i j = ndMat tx n x den i j := by
 obtain ⟨_, _, h3, h4⟩ := h
 unfold ndMat
 by_cases c1 : x.f0 = 1
 ·
  rw [if_pos c1, if_pos c1]
 by_cases c2 : x.f0 = 2
 ·
  rw [if_neg c1, if_neg c1, if_pos c2, if_pos c2]
 by_cases c3 : x.f0 = 3
 ·
  simp only [if_neg c1, if_neg c2, if_pos c3]
 by_cases c4 : x.f0 = 4
 ·
  simp only [if_neg c1, if_neg c2, if_neg c3, if_pos c4]
 by_cases c5 : x.f0 = 5
 ·
  simp only [if_neg c1, if_neg c2, if_neg c3, if_neg c4, if_pos c5]
 by_cases c21 : x.f0 = 21
 ·
  simp only [if_neg c1, if_neg c2, if_neg c3, if_neg c4, if_neg c5, if_pos c21]
 have ha := hd _ (h3 (by omega))
 by_cases c6 : x.f0 = 6
 ·
  simp only [if_neg c1, if_neg c2, if_neg c3, if_neg c4, if_neg c5, if_neg c21, if_pos c6, ha]
 by_cases c8 : x.f0 = 8
 ·
  simp only [if_neg c1, if_neg c2, if_neg c3, if_neg c4, if_neg c5, if_neg c21, if_neg c6, if_pos c8, ha, hd _ (h4 (by omega))]
 by_cases c20 : x.f0 = 20
 ·
  simp only [if_neg c1, if_neg c2, if_neg c3, if_neg c4, if_neg c5, if_neg c21, if_neg c6, if_neg c8, if_pos c20, ha]
 by_cases c9 : x.f0 = 9
 ·
  simp only [if_neg c1, if_neg c2, if_neg c3, if_neg c4, if_neg c5, if_neg c21, if_neg c6, if_neg c8, if_neg c20, if_pos c9, ha]
 simp only [if_neg c1, if_neg c2, if_neg c3, if_neg c4, if_neg c5, if_neg c21, if_neg c6, if_neg c8, if_neg c20, if_neg c9, ha, hd _ (h4 (by omega))]
theorem ndSp_congr {x : S85} {k : Nat} (h : ndOk x k) {den den' : Nat → Mt} {spf spf' : Nat → Spf} (hd : ∀ q, q < k → den' q = den q ∧ spf' q = spf q) (i j : Nat) (out : List Int) : ndSp x den' spf' i j out = ndSp x den spf i j out := by
 obtain ⟨_, _, h3, h4⟩ := h
 unfold ndSp
 by_cases c6 : x.f0 = 6
 ·
  simp only [if_pos c6, (hd _ (h3 (by omega))).2]
 by_cases c8 : x.f0 = 8
 ·
  simp only [if_neg c6, if_pos c8, (hd _ (h3 (by omega))).1, (hd _ (h3 (by omega))).2, (hd _ (h4 (by omega))).2]
 by_cases c20 : x.f0 = 20
 ·
  simp only [if_neg c6, if_neg c8, if_pos c20, (hd _ (h3 (by omega))).2]
 by_cases c9 : x.f0 = 9
 ·
  simp only [if_neg c6, if_neg c8, if_neg c20, if_pos c9, (hd _ (h3 (by omega))).1, (hd _ (h3 (by omega))).2]
 by_cases c7 : x.f0 = 7
 ·
  simp only [if_neg c6, if_neg c8, if_neg c20, if_neg c9, if_pos c7, (hd _ (h3 (by omega))).1, (hd _ (h3 (by omega))).2, (hd _ (h4 (by omega))).1, (hd _ (h4 (by omega))).2]
 simp only [if_neg c6, if_neg c8, if_neg c20, if_neg c9, if_neg c7]
theorem nd_add {tx : Nat → Int} {n : Nat} {ns : List S85} {den : Nat → Mt} {spf : Nat → Spf} (h : ndGood tx n ns den spf) (x : S85) (hx : ndOk x ns.length) (hk : 1 ≤ x.f0 ∧ x.f0 ≤ 9 ∨ x.f0 = 20 ∨ x.f0 = 21) :
  ∃ den' spf', ndGood tx n (ns ++ [x]) den' spf' ∧ (∀ q, q < ns.length → den' q = den q ∧ spf' q = spf q) ∧ den' ns.length = ndMat tx n x den ∧ spf' ns.length = ndSp x den spf := by
 refine ⟨fun q => if q = ns.length then ndMat tx n x den else den q, fun q => if q = ns.length then ndSp x den spf else spf q, fun k y hy => ?_, fun q hq => ⟨if_neg (by omega), if_neg (by omega)⟩, if_pos rfl, if_pos rfl⟩
 have hlt : k < ns.length + 1 := by have := (List.getElem?_eq_some_iff.1 hy).1; simp at this; exact this
 have hsame : ∀ q, q < ns.length → (if q = ns.length then ndMat tx n x den else den q) = den q ∧ (if q = ns.length then ndSp x den spf else spf q) = spf q := fun q hq => ⟨if_neg (by omega), if_neg (by omega)⟩
 by_cases hq : k = ns.length
 ·
  subst hq
  have hyx : y = x := by simpa using hy.symm
  subst hyx
  refine ⟨hx, hk, fun i j => ?_, fun i j out => ?_⟩
  ·
   rw [ndMat_congr hx hk (fun q hq => (hsame q hq).1)]; exact congrFun (congrFun (if_pos rfl) i) j
  ·
   rw [ndSp_congr hx (fun q hq => hsame q hq)]; exact congrFun (congrFun (congrFun (if_pos rfl) i) j) out
 ·
  have hy2 : ns[k]? = some y := by rw [List.getElem?_append_left (by omega)] at hy; exact hy
  obtain ⟨g1, g2, g3, g4⟩ := h k y hy2
  refine ⟨g1, g2, fun i j => ?_, fun i j out => ?_⟩
  ·
   rw [ndMat_congr g1 g2 (fun q hq2 => (hsame q (by omega)).1), ← g3]; exact congrFun (congrFun (if_neg hq) i) j
  ·
   rw [ndSp_congr g1 (fun q hq2 => hsame q (by omega)), ← g4]; exact congrFun (congrFun (congrFun (if_neg hq) i) j) out
def nd0 : S85 := ⟨21, 0, ⟨#[]⟩, 0, 0⟩
def nd2 (k : Int) (a b : Nat) : S85 := ⟨k, 0, ⟨#[]⟩, (a : Int), (b : Int)⟩
def mkOpt (a : Nat) : Nat → Nat → List S85 → List S85 × Nat
 | 0, rest, ns => (ns, rest)
 | c + 1, rest, ns => mkOpt a c (ns.length + 1) (ns ++ [nd2 7 a rest] ++ [nd2 20 ns.length 0])
def mkTimes (a : Nat) : Nat → Nat → List S85 → List S85 × Nat
 | 0, rest, ns => (ns, rest)
 | c + 1, rest, ns => mkTimes a c ns.length (ns ++ [nd2 7 a rest])
def mkRep (a : Nat) (n m : Int) (ns : List S85) : List S85 × Nat :=
 if m < 0 then mkTimes a n.toNat (ns.length + 1) (ns ++ [nd0] ++ [nd2 9 a 0])
 else mkTimes a n.toNat (mkOpt a (m - n).toNat ns.length (ns ++ [nd0])).2 (mkOpt a (m - n).toNat ns.length (ns ++ [nd0])).1
mutual
def mk : S31 → List S85 → List S85 × Nat
 | ⟨k, a, m, s, l⟩ => fun ns =>
  if k = 6 then ((mkHd l ns).1 ++ [⟨6, a, ⟨#[]⟩, ((mkHd l ns).2 : Int), 0⟩], (mkHd l ns).1.length)
  else if k = 7 ∨ k = 8 then (if l.isEmpty = true then (ns ++ [nd0], ns.length) else mkL k l ns)
  else if k = 9 then mkRep (mkHd l ns).2 a m (mkHd l ns).1
  else (ns ++ [⟨k, a, s, 0, 0⟩], ns.length)
def mkHd : List S31 → List S85 → List S85 × Nat
 | [] => fun ns => (ns, 0)
 | x :: _ => mk x
def mkL (kd : Int) : List S31 → List S85 → List S85 × Nat
 | [] => fun ns => (ns, 0)
 | x :: l => fun ns => if l.isEmpty = true then mk x ns else ((mk x (mkL kd l ns).1).1 ++ [nd2 kd (mk x (mkL kd l ns).1).2 (mkL kd l ns).2], (mk x (mkL kd l ns).1).1.length)
end
mutual
def rxW : S31 → Prop
 | ⟨k, a, m, _, l⟩ => 1 ≤ k ∧ k ≤ 9 ∧ (k = 6 ∨ k = 9 → l.length = 1) ∧ (k = 9 → 0 ≤ a ∧ a ≤ 20 ∧ (m < 0 ∨ a ≤ m ∧ m ≤ 20)) ∧ (k = 8 → 1 ≤ l.length) ∧ (k = 6 → 1 ≤ a ∧ a ≤ 9) ∧ rxWL l
def rxWL : List S31 → Prop
 | [] => True
 | x :: l => rxW x ∧ rxWL l
end
def Same (a b : Mt) : Prop := ∀ i j, i ≤ j → a i j = b i j
def SameS (a : Mt) (s t : Spf) : Prop := ∀ i j out, i ≤ j → a i j = true → s i j out = t i j out
theorem catM_same {a a' b b' : Mt} (h1 : Same a a') (h2 : Same b b') (i j : Nat) : catM a b i j = catM a' b' i j :=
 anyK_congr (fun k p q => by rw [h1 i k p, h2 k j q])
theorem starF_same {a a' : Mt} (h : Same a a') : ∀ f i j, starF a f i j = starF a' f i j := by
 intro f
 induction f with
 | zero => intro i j; rfl
 | succ f ih =>
  intro i j
  rw [starF, starF]
  congr 1
  exact anyK_congr (fun k p q => by rw [h i k (by omega), ih k j])
theorem starM_same {a a' : Mt} (h : Same a a') (i j : Nat) : starM a i j = starM a' i j := starF_same h _ i j
theorem starF_le (a : Mt) : ∀ f i j, starF a f i j = true → i ≤ j := by
 intro f
 induction f with
 | zero => intro i j h; have := beq_iff_eq.1 (show (i == j) = true from h); omega
 | succ f ih =>
  intro i j h
  rw [starF, Bool.or_eq_true] at h
  rcases h with h | h
  ·
   have := beq_iff_eq.1 h; omega
  ·
   obtain ⟨k, p, q, _⟩ := anyK_iff.1 h; omega
theorem spStar_same {a a' : Mt} {s s' : Spf} (h : Same a a') (hs : SameS a s s') : ∀ f i j out, spStarF a s f i j out = spStarF a' s' f i j out := by
 intro f
 induction f with
 | zero => intro i j out; rfl
 | succ f ih =>
  intro i j out
  rw [spStarF, spStarF]
  by_cases c : i < j
  ·
   rw [if_pos c, if_pos c, lastK_congr (q := fun k => a' i k && starM a' k j) (fun k p q => by rw [h i k (by omega), starM_same h])]
   cases hk : lastK (i + 1) (fun k => a' i k && starM a' k j) j with
   | none => rfl
   | some k =>
    obtain ⟨p, q, r, _⟩ := lastK_some hk
    rw [Bool.and_eq_true] at r
    simp only
    rw [hs i k out (by omega) (by rw [h i k (by omega)]; exact r.1), ih]
  ·
   rw [if_neg c, if_neg c]
def Ext (ns ns' : List S85) (den den' : Nat → Mt) (spf spf' : Nat → Spf) : Prop := ns.length ≤ ns'.length ∧ ∀ q, q < ns.length → den' q = den q ∧ spf' q = spf q
theorem Ext.trans {ns ns' ns2 : List S85} {d d' d2 : Nat → Mt} {s s' s2 : Nat → Spf} (h : Ext ns ns' d d' s s') (h2 : Ext ns' ns2 d' d2 s' s2) : Ext ns ns2 d d2 s s2 :=
 ⟨Nat.le_trans h.1 h2.1, fun q hq => ⟨(h2.2 q (by have := h.1; omega)).1.trans (h.2 q hq).1, (h2.2 q (by have := h.1; omega)).2.trans (h.2 q hq).2⟩⟩
theorem Ext.refl (ns : List S85) (d : Nat → Mt) (s : Nat → Spf) : Ext ns ns d d s s := ⟨Nat.le_refl _, fun _ _ => ⟨rfl, rfl⟩⟩
def Stands (ns : List S85) (den : Nat → Mt) (spf : Nat → Spf) (k : Nat) (M : Mt) (S : Spf) : Prop := k < ns.length ∧ Same (den k) M ∧ SameS (den k) (spf k) S
theorem Stands.ext {ns ns' : List S85} {d d' : Nat → Mt} {s s' : Nat → Spf} {k : Nat} {M : Mt} {S : Spf} (h : Stands ns d s k M S) (he : Ext ns ns' d d' s s') : Stands ns' d' s' k M S := by
 obtain ⟨h1, h2, h3⟩ := h
 obtain ⟨e1, e2⟩ := he.2 k h1
 have := he.1
 exact ⟨by omega, by rw [e1]; exact h2, by rw [e1, e2]; exact h3⟩
def spBoth (a r : Mt) (sa sr : Spf) : Spf := fun i j out => match lastK i (fun k => a i k && r k j) j with
 | some k => sr k j (sa i k out)
 | none => out
theorem spBoth_same {a a' r r' : Mt} {s s' t t' : Spf} (h : Same a a') (hr : Same r r') (hs : SameS a s s') (ht : SameS r t t') (i j : Nat) (out : List Int) : spBoth a r s t i j out = spBoth a' r' s' t' i j out := by
 unfold spBoth
 rw [lastK_congr (q := fun k => a' i k && r' k j) (fun k p q => by rw [h i k p, hr k j q])]
 cases hk : lastK i (fun k => a' i k && r' k j) j with
 | none => rfl
 | some k =>
  obtain ⟨p, q, w, _⟩ := lastK_some hk
  rw [Bool.and_eq_true] at w
  simp only
  rw [hs i k out p (by rw [h i k p]; exact w.1), ht k j _ q (by rw [hr k j q]; exact w.2)]
theorem add7 {tx : Nat → Int} {n : Nat} {ns : List S85} {den : Nat → Mt} {spf : Nat → Spf} (h : ndGood tx n ns den spf) {a r : Nat} {A R : Mt} {SA SR : Spf} (ha : Stands ns den spf a A SA) (hr : Stands ns den spf r R SR) :
  ∃ den' spf', ndGood tx n (ns ++ [nd2 7 a r]) den' spf' ∧ Ext ns (ns ++ [nd2 7 a r]) den den' spf spf' ∧ Stands (ns ++ [nd2 7 a r]) den' spf' ns.length (catM A R) (spBoth A R SA SR) := by
 obtain ⟨den', spf', g, e, e1, e2⟩ := nd_add h (nd2 7 a r) ⟨Int.natCast_nonneg _, Int.natCast_nonneg _, fun _ => by simpa [nd2] using ha.1, fun _ => by simpa [nd2] using hr.1⟩ (.inl ⟨by show (1 : Int) ≤ 7; decide, by show (7 : Int) ≤ 9; decide⟩)
 refine ⟨den', spf', g, ⟨by simp, e⟩, by simp, fun i j hij => ?_, fun i j out hij hm => ?_⟩
 ·
  rw [e1]; exact catM_same ha.2.1 hr.2.1 i j
 ·
  rw [e2]; exact spBoth_same ha.2.1 hr.2.1 ha.2.2 hr.2.2 i j out
theorem times_good {tx : Nat → Int} {n : Nat} {a : Nat} {A R : Mt} {SA SR : Spf} : ∀ (c : Nat) (ns : List S85) (den : Nat → Mt) (spf : Nat → Spf) (b r : Nat), ndGood tx n ns den spf → Stands ns den spf a A SA → Stands ns den spf r (timesM A R b) (spTimes A R SA SR b) →
  ∃ den' spf', ndGood tx n (mkTimes a c r ns).1 den' spf' ∧ Ext ns (mkTimes a c r ns).1 den den' spf spf' ∧ Stands (mkTimes a c r ns).1 den' spf' (mkTimes a c r ns).2 (timesM A R (b + c)) (spTimes A R SA SR (b + c)) := by
 intro c
 induction c with
 | zero => intro ns den spf b r h ha hr; exact ⟨den, spf, h, Ext.refl _ _ _, hr⟩
 | succ c ih =>
  intro ns den spf b r h ha hr
  obtain ⟨d1, s1, g1, e1, t1⟩ := add7 h ha hr
  obtain ⟨d2, s2, g2, e2, t2⟩ := ih (ns ++ [nd2 7 a r]) d1 s1 (b + 1) ns.length g1 (ha.ext e1) t1
  rw [show b + (c + 1) = b + 1 + c by omega]
  exact ⟨d2, s2, g2, e1.trans e2, t2⟩
theorem opt_good {tx : Nat → Int} {n : Nat} {a : Nat} {A : Mt} {SA : Spf} : ∀ (c : Nat) (ns : List S85) (den : Nat → Mt) (spf : Nat → Spf) (b r : Nat), ndGood tx n ns den spf → Stands ns den spf a A SA → Stands ns den spf r (optM A b) (spOpt A SA b) →
  ∃ den' spf', ndGood tx n (mkOpt a c r ns).1 den' spf' ∧ Ext ns (mkOpt a c r ns).1 den den' spf spf' ∧ Stands (mkOpt a c r ns).1 den' spf' (mkOpt a c r ns).2 (optM A (b + c)) (spOpt A SA (b + c)) := by
 intro c
 induction c with
 | zero => intro ns den spf b r h ha hr; exact ⟨den, spf, h, Ext.refl _ _ _, hr⟩
 | succ c ih =>
  intro ns den spf b r h ha hr
  obtain ⟨d1, s1, g1, e1, t1⟩ := add7 h ha hr
  have hl : (ns ++ [nd2 7 a r]).length = ns.length + 1 := by simp
  obtain ⟨d2, s2, g2, e2, e3, e4⟩ := nd_add g1 (nd2 20 ns.length 0) ⟨Int.natCast_nonneg _, Int.natCast_nonneg _, fun _ => by simp [nd2], fun hc => by simp [nd2] at hc⟩ (.inr (.inl rfl))
  have E2 : Ext (ns ++ [nd2 7 a r]) (ns ++ [nd2 7 a r] ++ [nd2 20 ns.length 0]) d1 d2 s1 s2 := ⟨by simp, e2⟩
  have T2 : Stands (ns ++ [nd2 7 a r] ++ [nd2 20 ns.length 0]) d2 s2 (ns.length + 1) (optM A (b + 1)) (spOpt A SA (b + 1)) := by
   rw [hl] at e3 e4
   refine ⟨by simp, fun i j hij => ?_, fun i j out hij hm => ?_⟩
   ·
    rw [e3]
    show (i == j || d1 ns.length i j) = _
    rw [t1.2.1 i j hij]
    rfl
   ·
    rw [e4]
    show (if i < j then s1 ns.length i j out else out) = _
    rw [spOpt]
    by_cases hc : i < j
    ·
     rw [if_pos hc, if_pos hc]
     have hm2 : optM A (b + 1) i j = true := by
      rw [e3] at hm
      have h2 : (i == j || d1 ns.length i j) = true := hm
      rw [t1.2.1 i j hij] at h2
      exact h2
     have hd : d1 ns.length i j = true := by
      rw [t1.2.1 i j hij]
      have h2 : (i == j || catM A (optM A b) i j) = true := hm2
      rw [Bool.or_eq_true] at h2
      rcases h2 with h2 | h2
      ·
       have := beq_iff_eq.1 h2; omega
      ·
       exact h2
     rw [t1.2.2 i j out hij hd]
     show (match lastK i (fun k => A i k && optM A b k j) j with | some k => spOpt A SA b k j (SA i k out) | none => out) = _
     rw [opt_last A b i j hc hm2]
    ·
     rw [if_neg hc, if_neg hc]
  obtain ⟨d3, s3, g3, e5, t3⟩ := ih (ns ++ [nd2 7 a r] ++ [nd2 20 ns.length 0]) d2 s2 (b + 1) (ns.length + 1) g2 ((ha.ext e1).ext E2) T2
  rw [show b + (c + 1) = b + 1 + c by omega]
  exact ⟨d3, s3, g3, (e1.trans E2).trans e5, t3⟩
theorem rep_good {tx : Nat → Int} {n : Nat} {a : Nat} {A : Mt} {SA : Spf} (b : Nat) (m : Int) (ns : List S85) (den : Nat → Mt) (spf : Nat → Spf) (h : ndGood tx n ns den spf) (ha : Stands ns den spf a A SA) :
  ∃ den' spf', ndGood tx n (mkRep a b m ns).1 den' spf' ∧ Ext ns (mkRep a b m ns).1 den den' spf spf' ∧ Stands (mkRep a b m ns).1 den' spf' (mkRep a b m ns).2 (repM A b m) (spTimes A (tailM A b m) SA (spTail A SA b m) b) := by
 obtain ⟨d1, s1, g1, e1, e2, e3⟩ := nd_add h nd0 ⟨by decide, by decide, fun hc => by simp [nd0] at hc, fun hc => by simp [nd0] at hc⟩ (.inr (.inr rfl))
 have E1 : Ext ns (ns ++ [nd0]) den d1 spf s1 := ⟨by simp, e1⟩
 unfold mkRep
 by_cases hm : m < 0
 ·
  rw [if_pos hm]
  have ha1 := ha.ext E1
  obtain ⟨d2, s2, g2, f1, f2, f3⟩ := nd_add g1 (nd2 9 a 0) ⟨Int.natCast_nonneg _, Int.natCast_nonneg _, fun _ => by simpa [nd2] using ha1.1, fun hc => by simp [nd2] at hc⟩ (.inl ⟨by show (1 : Int) ≤ 9; decide, by show (9 : Int) ≤ 9; decide⟩)
  have E2 : Ext (ns ++ [nd0]) (ns ++ [nd0] ++ [nd2 9 a 0]) d1 d2 s1 s2 := ⟨by simp, f1⟩
  have hl : (ns ++ [nd0]).length = ns.length + 1 := by simp
  rw [hl] at f2 f3
  have T2 : Stands (ns ++ [nd0] ++ [nd2 9 a 0]) d2 s2 (ns.length + 1) (timesM A (tailM A b m) 0) (spTimes A (tailM A b m) SA (spTail A SA b m) 0) := by
   refine ⟨by simp, fun i j hij => ?_, fun i j out hij hq => ?_⟩
   ·
    rw [f2, timesM]
    unfold tailM
    rw [if_pos hm]
    exact starM_same ha1.2.1 i j
   ·
    rw [f3, spTimes]
    unfold spTail
    rw [if_pos hm]
    exact spStar_same ha1.2.1 ha1.2.2 _ i j out
  obtain ⟨d3, s3, g3, e5, t3⟩ := times_good b _ d2 s2 0 (ns.length + 1) g2 (ha1.ext E2) T2
  rw [Int.toNat_natCast]
  rw [Nat.zero_add] at t3
  exact ⟨d3, s3, g3, (E1.trans E2).trans e5, t3⟩
 ·
  rw [if_neg hm]
  have T1 : Stands (ns ++ [nd0]) d1 s1 ns.length (optM A 0) (spOpt A SA 0) := by
   refine ⟨by simp, fun i j hij => ?_, fun i j out hij hq => ?_⟩
   ·
    rw [e2]; rfl
   ·
    rw [e3]; rfl
  obtain ⟨d2, s2, g2, E2, t2⟩ := opt_good (m - b).toNat _ d1 s1 0 ns.length g1 (ha.ext E1) T1
  rw [Nat.zero_add] at t2
  have T2 : Stands (mkOpt a (m - b).toNat ns.length (ns ++ [nd0])).1 d2 s2 (mkOpt a (m - b).toNat ns.length (ns ++ [nd0])).2 (timesM A (tailM A b m) 0) (spTimes A (tailM A b m) SA (spTail A SA b m) 0) := by
   obtain ⟨p, q, r⟩ := t2
   refine ⟨p, fun i j hij => ?_, fun i j out hij hq => ?_⟩
   ·
    rw [q i j hij, timesM]; unfold tailM; rw [if_neg hm]
   ·
    rw [r i j out hij hq, spTimes]; unfold spTail; rw [if_neg hm]
  obtain ⟨d3, s3, g3, e5, t3⟩ := times_good b _ d2 s2 0 _ g2 ((ha.ext E1).ext E2) T2
  rw [Int.toNat_natCast]
  rw [Nat.zero_add] at t3
  exact ⟨d3, s3, g3, (E1.trans E2).trans e5, t3⟩
theorem cat_nil (a : Mt) : Same a (catM a (fun i j => i == j)) := by
 intro i j hij
 unfold catM
 rw [Bool.eq_iff_iff, anyK_iff]
 constructor
 ·
  intro h; exact ⟨j, hij, Nat.le_refl _, by simp [h]⟩
 ·
  rintro ⟨k, _, _, h⟩
  rw [Bool.and_eq_true] at h
  rw [beq_iff_eq.1 h.2] at h
  exact h.1
theorem last_nil (a : Mt) {i j : Nat} (hij : i ≤ j) (h : a i j = true) : lastK i (fun k => a i k && k == j) j = some j :=
 lastK_eq hij (Nat.le_refl _) (by simp [h]) (fun q h1 h2 => by omega)
theorem mk_good (tx : Nat → Int) (n : Nat) : ∀ (N : Nat),
  (∀ x : S31, SizeOf.sizeOf x ≤ N → rxW x → ∀ (ns : List S85) (den : Nat → Mt) (spf : Nat → Spf), ndGood tx n ns den spf →
   ∃ den' spf', ndGood tx n (mk x ns).1 den' spf' ∧ Ext ns (mk x ns).1 den den' spf spf' ∧ Stands (mk x ns).1 den' spf' (mk x ns).2 (mat tx n x) (sp tx n x)) ∧
  (∀ l : List S31, SizeOf.sizeOf l ≤ N → rxWL l → l ≠ [] → ∀ (ns : List S85) (den : Nat → Mt) (spf : Nat → Spf), ndGood tx n ns den spf →
   (∃ den' spf', ndGood tx n (mkL 7 l ns).1 den' spf' ∧ Ext ns (mkL 7 l ns).1 den den' spf spf' ∧ Stands (mkL 7 l ns).1 den' spf' (mkL 7 l ns).2 (matCat tx n l) (spCat tx n l)) ∧
   (∃ den' spf', ndGood tx n (mkL 8 l ns).1 den' spf' ∧ Ext ns (mkL 8 l ns).1 den den' spf spf' ∧ Stands (mkL 8 l ns).1 den' spf' (mkL 8 l ns).2 (matAlt tx n l) (spAlt tx n l))) := by
 intro N
 induction N with
 | zero =>
  refine ⟨fun x hx => ?_, fun l hl => ?_⟩
  ·
   cases x; simp at hx
  ·
   cases l <;> simp at hl
 | succ N ih =>
  refine ⟨?_, ?_⟩
  ·
   rintro ⟨k, a, m, s, l⟩ hx hw ns den spf h
   have hl : SizeOf.sizeOf l ≤ N := by simp at hx; omega
   rw [rxW] at hw
   obtain ⟨k1, k2, w1, w2, w3, w4, w5⟩ := hw
   by_cases c6 : k = 6
   ·
    obtain ⟨y, rfl⟩ := List.length_eq_one_iff.1 (w1 (.inl c6))
    have hy : SizeOf.sizeOf y ≤ N := by simp at hl; omega
    rw [rxWL] at w5
    obtain ⟨d1, s1, g1, e1, t1⟩ := ih.1 y hy w5.1 ns den spf h
    obtain ⟨d2, s2, g2, f1, f2, f3⟩ := nd_add g1 ⟨6, a, ⟨#[]⟩, ((mk y ns).2 : Int), 0⟩ ⟨Int.natCast_nonneg _, Int.le_refl _, fun _ => by simpa using t1.1, fun hc => by simp at hc⟩ (.inl ⟨by show (1 : Int) ≤ 6; decide, by show (6 : Int) ≤ 9; decide⟩)
    have em : mk ⟨k, a, m, s, [y]⟩ ns = ((mk y ns).1 ++ [⟨6, a, ⟨#[]⟩, ((mk y ns).2 : Int), 0⟩], (mk y ns).1.length) := by
     rw [mk]; simp only [if_pos c6]; rw [mkHd]
    rw [em]
    refine ⟨d2, s2, g2, e1.trans ⟨by simp, f1⟩, by simp, fun i j hij => ?_, fun i j out hij hm => ?_⟩
    ·
     rw [f2, mat]
     simp only [c6]
     show d1 (mk y ns).2 i j = _
     rw [t1.2.1 i j hij]
     rfl
    ·
     rw [f3, sp]
     simp only [if_pos c6]
     show s1 (mk y ns).2 i j ((out.set (2 * a).toNat (i : Int)).set (2 * a + 1).toNat (j : Int)) = _
     rw [f2] at hm
     rw [t1.2.2 i j _ hij hm]
     rfl
   by_cases c7 : k = 7 ∨ k = 8
   ·
    by_cases ce : l.isEmpty = true
    ·
     obtain rfl : l = [] := List.isEmpty_iff.1 ce
     have c7' : k = 7 := by
      rcases c7 with c7 | c7
      ·
       exact c7
      ·
       have := w3 c7; simp at this
     obtain ⟨d1, s1, g1, e1, e2, e3⟩ := nd_add h nd0 ⟨by decide, by decide, fun hc => by simp [nd0] at hc, fun hc => by simp [nd0] at hc⟩ (.inr (.inr rfl))
     have em : mk ⟨k, a, m, s, []⟩ ns = (ns ++ [nd0], ns.length) := by rw [mk]; simp only [if_neg c6, if_pos c7]; rfl
     rw [em]
     subst c7'
     refine ⟨d1, s1, g1, ⟨by simp, e1⟩, by simp, fun i j hij => ?_, fun i j out hij hm => ?_⟩
     ·
      rw [e2, mat, matCat]; rfl
     ·
      rw [e3, sp, spCat]; rfl
    ·
     have em : mk ⟨k, a, m, s, l⟩ ns = mkL k l ns := by rw [mk]; simp only [if_neg c6, if_pos c7]; rw [if_neg ce]
     rw [em]
     have hne : l ≠ [] := fun hc => ce (by rw [hc]; rfl)
     obtain ⟨p7, p8⟩ := ih.2 l hl w5 hne ns den spf h
     rcases c7 with c7 | c7
     ·
      subst c7
      obtain ⟨d1, s1, g1, e1, t1, t2, t3⟩ := p7
      refine ⟨d1, s1, g1, e1, t1, fun i j hij => ?_, fun i j out hij hm => ?_⟩
      ·
       rw [t2 i j hij, mat]; rfl
      ·
       rw [t3 i j out hij hm, sp]; rfl
     ·
      subst c7
      obtain ⟨d1, s1, g1, e1, t1, t2, t3⟩ := p8
      refine ⟨d1, s1, g1, e1, t1, fun i j hij => ?_, fun i j out hij hm => ?_⟩
      ·
       rw [t2 i j hij, mat]; rfl
      ·
       rw [t3 i j out hij hm, sp]; rfl
   by_cases c9 : k = 9
   ·
    obtain ⟨y, rfl⟩ := List.length_eq_one_iff.1 (w1 (.inr c9))
    have hy : SizeOf.sizeOf y ≤ N := by simp at hl; omega
    rw [rxWL] at w5
    obtain ⟨d1, s1, g1, e1, t1⟩ := ih.1 y hy w5.1 ns den spf h
    obtain ⟨q, rfl⟩ := Int.eq_ofNat_of_zero_le (w2 c9).1
    obtain ⟨d2, s2, g2, e2, t2⟩ := rep_good q m _ d1 s1 g1 t1
    have em : mk ⟨k, (q : Int), m, s, [y]⟩ ns = mkRep (mk y ns).2 (q : Int) m (mk y ns).1 := by
     rw [mk]; simp only [if_neg c6, if_neg c7, if_pos c9]; rw [mkHd]
    rw [em]
    subst c9
    refine ⟨d2, s2, g2, e1.trans e2, t2.1, fun i j hij => ?_, fun i j out hij hm => ?_⟩
    ·
     rw [t2.2.1 i j hij, mat]; rfl
    ·
     rw [t2.2.2 i j out hij hm, sp]; rfl
   ·
    obtain ⟨d1, s1, g1, e1, e2, e3⟩ := nd_add h ⟨k, a, s, 0, 0⟩ ⟨Int.le_refl _, Int.le_refl _, fun hc => by simp at hc; omega, fun hc => by simp at hc; omega⟩ (.inl ⟨k1, k2⟩)
    have em : mk ⟨k, a, m, s, l⟩ ns = (ns ++ [⟨k, a, s, 0, 0⟩], ns.length) := by rw [mk]; simp only [if_neg c6, if_neg c7, if_neg c9]
    rw [em]
    refine ⟨d1, s1, g1, ⟨by simp, e1⟩, by simp, fun i j hij => ?_, fun i j out hij hm => ?_⟩
    ·
     rw [e2, mat]
     unfold ndMat
     have hk : k = 1 ∨ k = 2 ∨ k = 3 ∨ k = 4 ∨ k = 5 := by omega
     rcases hk with rfl | rfl | rfl | rfl | rfl <;> rfl
    ·
     rw [e3, sp]
     unfold ndSp
     have hk : k = 1 ∨ k = 2 ∨ k = 3 ∨ k = 4 ∨ k = 5 := by omega
     rcases hk with rfl | rfl | rfl | rfl | rfl <;> rfl
  ·
   intro l hl hw hne ns den spf h
   cases l with
   | nil => exact absurd rfl hne
   | cons x l =>
    rw [rxWL] at hw
    have hx : SizeOf.sizeOf x ≤ N := by simp at hl; omega
    have hl2 : SizeOf.sizeOf l ≤ N := by simp at hl; omega
    by_cases ce : l.isEmpty = true
    ·
     obtain rfl : l = [] := List.isEmpty_iff.1 ce
     obtain ⟨d1, s1, g1, e1, t1, t2, t3⟩ := ih.1 x hx hw.1 ns den spf h
     have em : ∀ kd, mkL kd [x] ns = mk x ns := fun kd => by rw [mkL]; exact if_pos rfl
     rw [em, em]
     refine ⟨⟨d1, s1, g1, e1, t1, fun i j hij => ?_, fun i j out hij hm => ?_⟩, ⟨d1, s1, g1, e1, t1, fun i j hij => ?_, fun i j out hij hm => ?_⟩⟩
     ·
      rw [t2 i j hij, matCat, matCat]; exact cat_nil _ i j hij
     ·
      rw [t3 i j out hij hm, spCat]
      rw [t2 i j hij] at hm
      have hlast : lastK i (fun k => mat tx n x i k && matCat tx n [] k j) j = some j := by rw [matCat]; exact last_nil _ hij hm
      show sp tx n x i j out = (match lastK i (fun k => mat tx n x i k && matCat tx n [] k j) j with | some k => spCat tx n [] k j (sp tx n x i k out) | none => out)
      rw [hlast]
      show sp tx n x i j out = spCat tx n [] j j (sp tx n x i j out)
      rw [spCat]
     ·
      rw [t2 i j hij, matAlt, matAlt]; simp
     ·
      rw [t3 i j out hij hm, spAlt]
      rw [t2 i j hij] at hm
      show sp tx n x i j out = (if mat tx n x i j = true then sp tx n x i j out else spAlt tx n [] i j out)
      rw [if_pos hm]
    ·
     have hne2 : l ≠ [] := fun hc => ce (by rw [hc]; rfl)
     obtain ⟨p7, p8⟩ := ih.2 l hl2 hw.2 hne2 ns den spf h
     have em : ∀ kd, mkL kd (x :: l) ns = ((mk x (mkL kd l ns).1).1 ++ [nd2 kd (mk x (mkL kd l ns).1).2 (mkL kd l ns).2], (mk x (mkL kd l ns).1).1.length) := fun kd => by rw [mkL]; exact if_neg ce
     rw [em, em]
     refine ⟨?_, ?_⟩
     ·
      obtain ⟨d1, s1, g1, e1, t1⟩ := p7
      obtain ⟨d2, s2, g2, e2, t2⟩ := ih.1 x hx hw.1 _ d1 s1 g1
      obtain ⟨d3, s3, g3, e3, t3⟩ := add7 g2 t2 (t1.ext e2)
      refine ⟨d3, s3, g3, (e1.trans e2).trans e3, t3.1, fun i j hij => ?_, fun i j out hij hm => ?_⟩
      ·
       rw [t3.2.1 i j hij, matCat]
      ·
       rw [t3.2.2 i j out hij hm, spCat]; rfl
     ·
      obtain ⟨d1, s1, g1, e1, t1⟩ := p8
      obtain ⟨d2, s2, g2, e2, t2⟩ := ih.1 x hx hw.1 _ d1 s1 g1
      have t1' := t1.ext e2
      obtain ⟨d3, s3, g3, f1, f2, f3⟩ := nd_add g2 (nd2 8 (mk x (mkL 8 l ns).1).2 (mkL 8 l ns).2) ⟨Int.natCast_nonneg _, Int.natCast_nonneg _, fun _ => by simpa [nd2] using t2.1, fun _ => by simpa [nd2] using t1'.1⟩ (.inl ⟨by show (1 : Int) ≤ 8; decide, by show (8 : Int) ≤ 9; decide⟩)
      have h8 : ∀ i j, ndMat tx n (nd2 8 (mk x (mkL 8 l ns).1).2 (mkL 8 l ns).2) d2 i j = (d2 (mk x (mkL 8 l ns).1).2 i j || d2 (mkL 8 l ns).2 i j) := fun i j => rfl
      refine ⟨d3, s3, g3, (e1.trans e2).trans ⟨by simp, f1⟩, by simp, fun i j hij => ?_, fun i j out hij hm => ?_⟩
      ·
       rw [f2, h8, matAlt, t2.2.1 i j hij, t1'.2.1 i j hij]
      ·
       rw [f2, h8] at hm
       rw [f3, spAlt]
       show (if d2 (mk x (mkL 8 l ns).1).2 i j = true then s2 (mk x (mkL 8 l ns).1).2 i j out else s2 (mkL 8 l ns).2 i j out) = _
       by_cases ca : d2 (mk x (mkL 8 l ns).1).2 i j = true
       ·
        rw [if_pos ca, t2.2.2 i j out hij ca]
        rw [t2.2.1 i j hij] at ca
        exact (if_pos ca).symm
       ·
        rw [if_neg ca]
        have cb : d2 (mkL 8 l ns).2 i j = true := by
         rw [Bool.or_eq_true] at hm
         exact hm.resolve_left ca
        rw [t1'.2.2 i j out hij cb]
        rw [t2.2.1 i j hij] at ca
        exact (if_neg ca).symm
mutual
def ad : S31 → List (S31 × List Int) → List (S31 × List Int)
 | ⟨k, a, m, s, l⟩ => fun ns => (adL l (ns ++ [(⟨k, a, m, s, l⟩, [])])).1.set ns.length (⟨k, a, m, s, l⟩, (adL l (ns ++ [(⟨k, a, m, s, l⟩, [])])).2)
def adL : List S31 → List (S31 × List Int) → List (S31 × List Int) × List Int
 | [] => fun ns => (ns, [])
 | x :: l => fun ns => ((adL l (ad x ns)).1, (ns.length : Int) :: (adL l (ad x ns)).2)
end
def naAt (ns : List (S31 × List Int)) (k : Nat) : Prop := ∀ r ks, ns[k]? = some (r, ks) → ks.length = r.f4.length ∧ ∀ (q : Nat) (y : S31), r.f4[q]? = some y → ∃ (p : Nat) (ks' : List Int), ks[q]? = some (p : Int) ∧ ns[p]? = some (y, ks')
theorem naAt_more {ns ns' : List (S31 × List Int)} {k : Nat} (hk : k < ns.length) (h : naAt ns k) (hp : ∀ q v, ns[q]? = some v → ∃ ks', ns'[q]? = some (v.1, ks') ∧ (q = k → ks' = v.2)) : naAt ns' k := by
 intro r ks hr
 obtain ⟨v, hv⟩ : ∃ v, ns[k]? = some v := ⟨_, List.getElem?_eq_getElem hk⟩
 obtain ⟨ks2, h2, h3⟩ := hp k v hv
 rw [hr] at h2
 injection h2 with h2
 injection h2 with h4 h5
 subst h4
 have h6 := h3 rfl
 obtain ⟨v1, v2⟩ := v
 simp only at h6
 obtain ⟨g1, g2⟩ := h v1 v2 hv
 rw [h5, h6]
 refine ⟨g1, fun q y hy => ?_⟩
 obtain ⟨p, ks', e1, e2⟩ := g2 q y hy
 obtain ⟨ks3, e3, _⟩ := hp p _ e2
 exact ⟨p, ks3, e1, e3⟩
theorem ad_good : ∀ (N : Nat),
  (∀ x : S31, SizeOf.sizeOf x ≤ N → ∀ ns, ns.length < (ad x ns).length ∧ (∀ q, q < ns.length → (ad x ns)[q]? = ns[q]?) ∧ (∃ ks, (ad x ns)[ns.length]? = some (x, ks)) ∧ ∀ k, ns.length ≤ k → k < (ad x ns).length → naAt (ad x ns) k) ∧
  (∀ l : List S31, SizeOf.sizeOf l ≤ N → ∀ ns, ns.length ≤ (adL l ns).1.length ∧ (∀ q, q < ns.length → (adL l ns).1[q]? = ns[q]?) ∧ (adL l ns).2.length = l.length ∧
   (∀ (q : Nat) (y : S31), l[q]? = some y → ∃ (p : Nat) (ks' : List Int), (adL l ns).2[q]? = some (p : Int) ∧ ns.length ≤ p ∧ (adL l ns).1[p]? = some (y, ks')) ∧ ∀ k, ns.length ≤ k → k < (adL l ns).1.length → naAt (adL l ns).1 k) := by
 intro N
 induction N with
 | zero =>
  refine ⟨fun x hx => ?_, fun l hl => ?_⟩
  ·
   cases x; simp at hx
  ·
   cases l <;> simp at hl
 | succ N ih =>
  refine ⟨?_, ?_⟩
  ·
   rintro ⟨k, a, m, s, l⟩ hx ns
   have hl : SizeOf.sizeOf l ≤ N := by simp at hx; omega
   obtain ⟨h1, h2, h3, h4, h5⟩ := ih.2 l hl (ns ++ [(⟨k, a, m, s, l⟩, [])])
   rw [ad]
   simp only
   obtain ⟨P, hP⟩ : ∃ P, P = adL l (ns ++ [((⟨k, a, m, s, l⟩ : S31), ([] : List Int))]) := ⟨_, rfl⟩
   rw [← hP] at h1 h2 h3 h4 h5 ⊢
   have hln : (ns ++ [((⟨k, a, m, s, l⟩ : S31), ([] : List Int))]).length = ns.length + 1 := by simp
   rw [hln] at h1 h2 h4 h5
   have hset : ∀ q, q ≠ ns.length → (P.1.set ns.length (⟨k, a, m, s, l⟩, P.2))[q]? = P.1[q]? := fun q hq => by rw [List.getElem?_set]; rw [if_neg (fun e => hq e.symm)]
   have hat : (P.1.set ns.length ((⟨k, a, m, s, l⟩ : S31), P.2))[ns.length]? = some (⟨k, a, m, s, l⟩, P.2) := by rw [List.getElem?_set]; rw [if_pos rfl, if_pos (by omega)]
   refine ⟨by rw [List.length_set]; omega, fun q hq => ?_, ⟨_, hat⟩, fun q hq1 hq2 => ?_⟩
   ·
    rw [hset q (by omega), h2 q (by omega), List.getElem?_append_left hq]
   ·
    rw [List.length_set] at hq2
    by_cases hq : q = ns.length
    ·
     subst hq
     intro r ks hr
     rw [hat] at hr
     injection hr with hr
     injection hr with e1 e2
     subst e1 e2
     refine ⟨h3, fun u y hy => ?_⟩
     obtain ⟨p, ks', g1, g2, g3⟩ := h4 u y hy
     exact ⟨p, ks', g1, by rw [hset p (by omega)]; exact g3⟩
    ·
     refine naAt_more (ns := P.1) (by omega) (h5 q (by omega) hq2) (fun u v hv => ?_)
     by_cases hu : u = ns.length
     ·
      subst hu
      have hv2 := h2 ns.length (by omega)
      rw [hv] at hv2
      simp at hv2
      refine ⟨P.2, ?_, fun e => absurd e.symm hq⟩
      rw [hat, hv2]
     ·
      exact ⟨v.2, by rw [hset u hu, hv], fun _ => rfl⟩
  ·
   intro l hl ns
   cases l with
   | nil =>
    rw [adL]
    exact ⟨Nat.le_refl _, fun _ _ => rfl, rfl, fun q y hy => by simp at hy, fun k hk1 hk2 => by simp only at hk2; omega⟩
   | cons x l =>
    have hx : SizeOf.sizeOf x ≤ N := by simp at hl; omega
    have hl2 : SizeOf.sizeOf l ≤ N := by simp at hl; omega
    obtain ⟨a1, a2, ⟨ks, a3⟩, a4⟩ := ih.1 x hx ns
    obtain ⟨b1, b2, b3, b4, b5⟩ := ih.2 l hl2 (ad x ns)
    rw [adL]
    simp only
    refine ⟨by omega, fun q hq => by rw [b2 q (by omega), a2 q hq], by simp [b3], fun q y hy => ?_, fun k hk1 hk2 => ?_⟩
    ·
     cases q with
     | zero =>
      obtain rfl : x = y := by simpa using hy
      exact ⟨ns.length, ks, rfl, Nat.le_refl _, by rw [b2 _ a1]; exact a3⟩
     | succ q =>
      obtain ⟨p, ks', g1, g2, g3⟩ := b4 q y (by simpa using hy)
      exact ⟨p, ks', by simpa using g1, by omega, g3⟩
    ·
     by_cases hk : k < (ad x ns).length
     ·
      exact naAt_more hk (a4 k hk1 hk) (fun q v hv => ⟨v.2, by rw [b2 q (by have := (List.getElem?_eq_some_iff.1 hv).1; exact this)]; exact hv, fun _ => rfl⟩)
     ·
      exact b5 k (by omega) hk2
def ix (n k i j : Nat) : Nat := (k * (n + 1) + i) * (n + 1) + j
def mu (n k i j : Nat) : Nat := k * (n + 2) + (j - i)
def ent (kn : List Int) (n k i j : Nat) : Int := kn.getD (ix n k i j) 0
def Rt (den : Nat → Mt) (kn : List Int) (n k i j : Nat) : Prop := ent kn n k i j = 0 ∨ (ent kn n k i j = 1 ∧ den k i j = false) ∨ (ent kn n k i j = 2 ∧ den k i j = true)
def RB (den : Nat → Mt) (N n : Nat) (kn : List Int) (m : Nat) : Prop := kn.length = N * (n + 1) * (n + 1) ∧ ∀ k i j, k < N → i ≤ j → j ≤ n → mu n k i j < m → Rt den kn n k i j
def St (den : Nat → Mt) (N n : Nat) (kn kn' : List Int) (m : Nat) : Prop := RB den N n kn' m ∧ ∀ k i j, k < N → i ≤ j → j ≤ n → m ≤ mu n k i j → ent kn' n k i j = ent kn n k i j
theorem St.rb {den : Nat → Mt} {N n : Nat} {kn kn' : List Int} {m : Nat} (h : St den N n kn kn' m) : RB den N n kn' m := h.1
theorem ix_lt {N n k i j : Nat} (hk : k < N) (hi : i ≤ n) (hj : j ≤ n) : ix n k i j < N * (n + 1) * (n + 1) := by
 unfold ix
 have h1 : k * (n + 1) + i + 1 ≤ N * (n + 1) := by
  have : (k + 1) * (n + 1) ≤ N * (n + 1) := Nat.mul_le_mul_right _ hk
  rw [Nat.add_mul] at this
  omega
 have h2 := Nat.mul_le_mul_right (n + 1) h1
 rw [Nat.add_mul _ 1] at h2
 omega
theorem ix_inj {n k i j k' i' j' : Nat} (hi : i ≤ n) (hj : j ≤ n) (hi' : i' ≤ n) (hj' : j' ≤ n) (h : ix n k i j = ix n k' i' j') : k = k' ∧ i = i' ∧ j = j' := by
 unfold ix at h
 have hp : 0 < n + 1 := by omega
 have e1 : ∀ a b : Nat, b ≤ n → (a * (n + 1) + b) % (n + 1) = b := fun a b hb => by rw [Nat.mul_comm, Nat.mul_add_mod]; exact Nat.mod_eq_of_lt (by omega)
 have e2 : ∀ a b : Nat, b ≤ n → (a * (n + 1) + b) / (n + 1) = a := fun a b hb => by rw [Nat.mul_comm, Nat.mul_add_div hp, Nat.div_eq_of_lt (by omega), Nat.add_zero]
 have a1 := congrArg (· % (n + 1)) h
 have a2 := congrArg (· / (n + 1)) h
 simp only [e1 _ _ hj, e1 _ _ hj', e2 _ _ hj, e2 _ _ hj'] at a1 a2
 have b1 := congrArg (· % (n + 1)) a2
 have b2 := congrArg (· / (n + 1)) a2
 simp only [e1 _ _ hi, e1 _ _ hi', e2 _ _ hi, e2 _ _ hi'] at b1 b2
 exact ⟨b2, b1, a1⟩
theorem RB.down {den : Nat → Mt} {N n : Nat} {kn : List Int} {m m0 : Nat} (h : RB den N n kn m) (hm : m0 ≤ m) : RB den N n kn m0 := ⟨h.1, fun k i j a b c d => h.2 k i j a b c (by omega)⟩
theorem St.refl {den : Nat → Mt} {N n : Nat} {kn : List Int} {m : Nat} (h : RB den N n kn m) : St den N n kn kn m := ⟨h, fun _ _ _ _ _ _ _ => rfl⟩
theorem St.trans {den : Nat → Mt} {N n : Nat} {kn kn' kn2 : List Int} {m : Nat} (h : St den N n kn kn' m) (h2 : St den N n kn' kn2 m) : St den N n kn kn2 m := ⟨h2.1, fun k i j a b c d => (h2.2 k i j a b c d).trans (h.2 k i j a b c d)⟩
theorem St.up {den : Nat → Mt} {N n : Nat} {kn kn' : List Int} {m m0 : Nat} (h : St den N n kn kn' m0) (hR : RB den N n kn m) (hm : m0 ≤ m) : St den N n kn kn' m := by
 refine ⟨⟨h.1.1, fun k i j a b c d => ?_⟩, fun k i j a b c d => h.2 k i j a b c (by omega)⟩
 by_cases hc : mu n k i j < m0
 ·
  exact h.1.2 k i j a b c hc
 ·
  have := hR.2 k i j a b c d
  unfold Rt at this ⊢
  rw [h.2 k i j a b c (by omega)]
  exact this
theorem ent_set {kn : List Int} {N n k i j k' i' j' : Nat} (hl : kn.length = N * (n + 1) * (n + 1)) (hk : k < N) (hi : i ≤ n) (hj : j ≤ n) (hi' : i' ≤ n) (hj' : j' ≤ n) (x : Int) : ent (kn.set (ix n k i j) x) n k' i' j' = if k = k' ∧ i = i' ∧ j = j' then x else ent kn n k' i' j' := by
 unfold ent
 have hlt : ix n k i j < kn.length := by rw [hl]; exact ix_lt hk hi hj
 by_cases h : k = k' ∧ i = i' ∧ j = j'
 ·
  obtain ⟨rfl, rfl, rfl⟩ := h
  rw [if_pos ⟨rfl, rfl, rfl⟩]
  simp [List.getD_eq_getElem?_getD, hlt]
 ·
  rw [if_neg h]
  have hne : ix n k i j ≠ ix n k' i' j' := fun e => h (ix_inj hi hj hi' hj' e)
  simp [List.getD_eq_getElem?_getD, List.getElem?_set_ne hne]
theorem RB.note {den : Nat → Mt} {N n : Nat} {kn : List Int} {k i j : Nat} (h : RB den N n kn (mu n k i j + 1)) (hk : k < N) (hij : i ≤ j) (hj : j ≤ n) : RB den N n (kn.set (ix n k i j) 1) (mu n k i j) := by
 refine ⟨by rw [List.length_set]; exact h.1, fun k' i' j' a b c d => ?_⟩
 have := h.2 k' i' j' a b c (by omega)
 have hne : ¬ (k = k' ∧ i = i' ∧ j = j') := fun e => by obtain ⟨rfl, rfl, rfl⟩ := e; omega
 unfold Rt at this ⊢
 rw [ent_set h.1 hk (by omega) hj (by omega) c, if_neg hne]
 exact this
theorem St.asked {den : Nat → Mt} {N n : Nat} {kn kn2 : List Int} {k i j : Nat} (h : RB den N n kn (mu n k i j + 1)) (hk : k < N) (hij : i ≤ j) (hj : j ≤ n) (h2 : St den N n (kn.set (ix n k i j) 1) kn2 (mu n k i j)) : ent kn2 n k i j = 1 := by
 rw [h2.2 k i j hk hij hj (Nat.le_refl _), ent_set h.1 hk (by omega) hj (by omega) hj, if_pos ⟨rfl, rfl, rfl⟩]
theorem St.no {den : Nat → Mt} {N n : Nat} {kn kn2 : List Int} {k i j : Nat} (h : RB den N n kn (mu n k i j + 1)) (hk : k < N) (hij : i ≤ j) (hj : j ≤ n) (h2 : St den N n (kn.set (ix n k i j) 1) kn2 (mu n k i j)) (hd : den k i j = false) : St den N n kn kn2 (mu n k i j + 1) := by
 refine ⟨⟨h2.1.1, fun k' i' j' a b c d => ?_⟩, fun k' i' j' a b c d => ?_⟩
 ·
  by_cases hm : mu n k' i' j' < mu n k i j
  ·
   exact h2.1.2 k' i' j' a b c hm
  ·
   by_cases he : k = k' ∧ i = i' ∧ j = j'
   ·
    obtain ⟨rfl, rfl, rfl⟩ := he
    exact .inr (.inl ⟨St.asked h hk hij hj h2, hd⟩)
   ·
    have := h.2 k' i' j' a b c d
    unfold Rt at this ⊢
    rw [h2.2 k' i' j' a b c (by omega), ent_set h.1 hk (by omega) hj (by omega) c, if_neg he]
    exact this
 ·
  have he : ¬ (k = k' ∧ i = i' ∧ j = j') := fun e => by obtain ⟨rfl, rfl, rfl⟩ := e; omega
  rw [h2.2 k' i' j' a b c (by omega), ent_set h.1 hk (by omega) hj (by omega) c, if_neg he]
theorem St.yes {den : Nat → Mt} {N n : Nat} {kn kn2 : List Int} {k i j : Nat} (h : RB den N n kn (mu n k i j + 1)) (hk : k < N) (hij : i ≤ j) (hj : j ≤ n) (h2 : St den N n (kn.set (ix n k i j) 1) kn2 (mu n k i j)) (hd : den k i j = true) : St den N n kn (kn2.set (ix n k i j) 2) (mu n k i j + 1) := by
 have hl := h2.1.1
 refine ⟨⟨by rw [List.length_set]; exact hl, fun k' i' j' a b c d => ?_⟩, fun k' i' j' a b c d => ?_⟩
 ·
  by_cases he : k = k' ∧ i = i' ∧ j = j'
  ·
   obtain ⟨rfl, rfl, rfl⟩ := he
   refine .inr (.inr ⟨?_, hd⟩)
   rw [ent_set hl hk (by omega) hj (by omega) hj, if_pos ⟨rfl, rfl, rfl⟩]
  ·
   unfold Rt
   rw [ent_set hl hk (by omega) hj (by omega) c, if_neg he]
   by_cases hm : mu n k' i' j' < mu n k i j
   ·
    exact h2.1.2 k' i' j' a b c hm
   ·
    have := h.2 k' i' j' a b c d
    rw [h2.2 k' i' j' a b c (by omega), ent_set h.1 hk (by omega) hj (by omega) c, if_neg he]
    exact this
 ·
  have he : ¬ (k = k' ∧ i = i' ∧ j = j') := fun e => by obtain ⟨rfl, rfl, rfl⟩ := e; omega
  rw [ent_set hl hk (by omega) hj (by omega) c, if_neg he, h2.2 k' i' j' a b c (by omega), ent_set h.1 hk (by omega) hj (by omega) c, if_neg he]
theorem ent_two {kn : List Int} {N n k i j : Nat} (hl : kn.length = N * (n + 1) * (n + 1)) (hk : k < N) (hi : i ≤ n) (hj : j ≤ n) : ent (kn.set (ix n k i j) 2) n k i j = 2 := by
 rw [ent_set hl hk hi hj hi hj, if_pos ⟨rfl, rfl, rfl⟩]
def spl (a b : Mt) (least i j : Nat) : Int := match lastK least (fun k => a i k && b k j) j with
 | some k => (k : Int)
 | none => -1
theorem spl_any (a b : Mt) (least i j : Nat) : decide (0 ≤ spl a b least i j) = anyK least j fun k => a i k && b k j := by
 unfold spl
 cases h : lastK least (fun k => a i k && b k j) j with
 | some k =>
  obtain ⟨p, q, r, _⟩ := lastK_some h
  rw [anyK_iff.2 ⟨k, p, q, r⟩]
  simp only [decide_eq_true_eq]
  omega
 | none =>
  have hn := lastK_none h
  have : anyK least j (fun k => a i k && b k j) = false := by
   rw [Bool.eq_false_iff]
   intro hc
   obtain ⟨k, p, q, r⟩ := anyK_iff.1 hc
   rw [hn k p q] at r
   exact absurd r (by simp)
  rw [this]
  decide
theorem spl_none {a b : Mt} {least i j : Nat} (h : ∀ k, least ≤ k → k ≤ j → (a i k && b k j) = false) : spl a b least i j = -1 := by
 unfold spl
 cases hc : lastK least (fun k => a i k && b k j) j with
 | none => rfl
 | some k => obtain ⟨p, q, r, _⟩ := lastK_some hc; rw [h k p q] at r; exact absurd r (by simp)
theorem spl_at {a b : Mt} {least i j k : Nat} (h1 : least ≤ k) (h2 : k ≤ j) (h3 : (a i k && b k j) = true) (h4 : ∀ q, k < q → q ≤ j → (a i q && b q j) = false) : spl a b least i j = (k : Int) := by
 unfold spl
 rw [lastK_eq h1 h2 h3 h4]
theorem mu_kid {n k k' i j : Nat} (h : k' < k) (hj : j ≤ n) (i' j' : Nat) (hj' : j' ≤ n) : mu n k' i' j' < mu n k i j := by
 unfold mu
 have : (k' + 1) * (n + 2) ≤ k * (n + 2) := Nat.mul_le_mul_right _ h
 rw [Nat.add_mul] at this
 omega
theorem mu_rest {n k i j q : Nat} (h : i < q) (hq : q ≤ j) : mu n k q j < mu n k i j := by
 unfold mu
 omega
theorem ndMat_cat {tx : Nat → Int} {n : Nat} {x : S85} (den : Nat → Mt) (h : x.f0 = 7) (i j : Nat) : ndMat tx n x den i j = decide (0 ≤ spl (den x.f3.toNat) (den x.f4.toNat) i i j) := by
 rw [spl_any]
 unfold ndMat
 rw [h]
 rfl
theorem ndMat_star {tx : Nat → Int} {n : Nat} {x : S85} {den : Nat → Mt} {k : Nat} (h : x.f0 = 9) (hk : ∀ i j, den k i j = ndMat tx n x den i j) (i j : Nat) : ndMat tx n x den i j = (i == j || decide (0 ≤ spl (den x.f3.toNat) (den k) (i + 1) i j)) := by
 have hd : den k = starM (den x.f3.toNat) := by
  funext p q
  rw [hk]
  unfold ndMat
  rw [h]
  rfl
 rw [spl_any, ← hk, hd]
 exact starM_eq _ i j
mutual
def cnt : S31 → Nat
 | ⟨_, _, _, _, l⟩ => 1 + cntL l
def cntL : List S31 → Nat
 | [] => 0
 | x :: l => cnt x + cntL l
end
theorem mkOpt_len (a : Nat) : ∀ (c rest : Nat) (ns : List S85), (mkOpt a c rest ns).1.length = ns.length + 2 * c := by
 intro c
 induction c with
 | zero => intro rest ns; rfl
 | succ c ih => intro rest ns; rw [mkOpt, ih]; simp; omega
theorem mkTimes_len (a : Nat) : ∀ (c rest : Nat) (ns : List S85), (mkTimes a c rest ns).1.length = ns.length + c := by
 intro c
 induction c with
 | zero => intro rest ns; rfl
 | succ c ih => intro rest ns; rw [mkTimes, ih]; simp; omega
theorem mkRep_len (a : Nat) (n m : Int) (ns : List S85) (h : 0 ≤ n ∧ n ≤ 20 ∧ (m < 0 ∨ n ≤ m ∧ m ≤ 20)) : (mkRep a n m ns).1.length ≤ ns.length + 43 := by
 unfold mkRep
 by_cases c : m < 0
 ·
  rw [if_pos c, mkTimes_len]; simp; omega
 ·
  rw [if_neg c, mkTimes_len, mkOpt_len]; simp; omega
theorem mk_len : ∀ (N : Nat),
  (∀ x : S31, SizeOf.sizeOf x ≤ N → rxW x → ∀ ns : List S85, (mk x ns).1.length + 1 ≤ ns.length + 45 * cnt x) ∧
  (∀ l : List S31, SizeOf.sizeOf l ≤ N → rxWL l → l ≠ [] → ∀ (kd : Int) (ns : List S85), (mkL kd l ns).1.length + 1 ≤ ns.length + 45 * cntL l) := by
 intro N
 induction N with
 | zero =>
  refine ⟨fun x hx => ?_, fun l hl => ?_⟩
  ·
   cases x; simp at hx
  ·
   cases l <;> simp at hl
 | succ N ih =>
  refine ⟨?_, ?_⟩
  ·
   rintro ⟨k, a, m, s, l⟩ hx hw ns
   have hl : SizeOf.sizeOf l ≤ N := by simp at hx; omega
   rw [rxW] at hw
   obtain ⟨k1, k2, w1, w2, w3, w4, w5⟩ := hw
   rw [cnt]
   by_cases c6 : k = 6
   ·
    obtain ⟨y, rfl⟩ := List.length_eq_one_iff.1 (w1 (.inl c6))
    have hy : SizeOf.sizeOf y ≤ N := by simp at hl; omega
    rw [rxWL] at w5
    have := ih.1 y hy w5.1 ns
    rw [mk]; simp only [if_pos c6]; rw [mkHd, cntL, cntL]
    simp
    omega
   by_cases c7 : k = 7 ∨ k = 8
   ·
    by_cases ce : l.isEmpty = true
    ·
     rw [mk]; simp only [if_neg c6, if_pos c7, if_pos ce]; simp; omega
    ·
     rw [mk]; simp only [if_neg c6, if_pos c7]; rw [if_neg ce]
     have := ih.2 l hl w5 (fun hc => ce (by rw [hc]; rfl)) k ns
     omega
   by_cases c9 : k = 9
   ·
    obtain ⟨y, rfl⟩ := List.length_eq_one_iff.1 (w1 (.inr c9))
    have hy : SizeOf.sizeOf y ≤ N := by simp at hl; omega
    rw [rxWL] at w5
    have h1 := ih.1 y hy w5.1 ns
    have h2 := mkRep_len (mk y ns).2 a m (mk y ns).1 (w2 c9)
    rw [mk]; simp only [if_neg c6, if_neg c7, if_pos c9]; rw [mkHd, cntL, cntL]
    omega
   ·
    rw [mk]; simp only [if_neg c6, if_neg c7, if_neg c9]; simp; omega
  ·
   intro l hl hw hne kd ns
   cases l with
   | nil => exact absurd rfl hne
   | cons x l =>
    rw [rxWL] at hw
    have hx2 : SizeOf.sizeOf x ≤ N := by simp at hl; omega
    have hl2 : SizeOf.sizeOf l ≤ N := by simp at hl; omega
    rw [mkL, cntL]
    by_cases ce : l.isEmpty = true
    ·
     simp only [if_pos ce]
     have := ih.1 x hx2 hw.1 ns
     omega
    ·
     simp only [if_neg ce]
     have h1 := ih.2 l hl2 hw.2 (fun hc => ce (by rw [hc]; rfl)) kd ns
     have h2 := ih.1 x hx2 hw.1 (mkL kd l ns).1
     simp only [List.length_append, List.length_cons, List.length_nil]
     omega
theorem mkL_last (kd : Int) (l : List S31) (ns : List S85) (i : Nat) (h : i + 1 = l.length) : mkL kd (l.drop i) ns = mk (l.getD i ⟨0, 0, 0, ⟨#[]⟩, []⟩) ns := by
 rw [List.drop_eq_getElem_cons (by omega), List.drop_eq_nil_of_le (by omega), mkL]
 simp only [List.isEmpty_nil, if_true]
 rw [List.getD_eq_getElem?_getD, List.getElem?_eq_getElem (by omega)]
 rfl
theorem mkL_step (kd : Int) (l : List S31) (ns : List S85) (i : Nat) (h : i + 1 < l.length) : mkL kd (l.drop i) ns = ((mk (l.getD i ⟨0, 0, 0, ⟨#[]⟩, []⟩) (mkL kd (l.drop (i + 1)) ns).1).1 ++ [nd2 kd (mk (l.getD i ⟨0, 0, 0, ⟨#[]⟩, []⟩) (mkL kd (l.drop (i + 1)) ns).1).2 (mkL kd (l.drop (i + 1)) ns).2], (mk (l.getD i ⟨0, 0, 0, ⟨#[]⟩, []⟩) (mkL kd (l.drop (i + 1)) ns).1).1.length) := by
 rw [List.drop_eq_getElem_cons (by omega), mkL]
 have hn : ¬ ((l.drop (i + 1)).isEmpty = true) := by
  rw [List.isEmpty_iff]
  intro hc
  have := congrArg List.length hc
  simp at this
  omega
 simp only [if_neg hn]
 have : l[i] = l.getD i ⟨0, 0, 0, ⟨#[]⟩, []⟩ := by
  rw [List.getD_eq_getElem?_getD, List.getElem?_eq_getElem (by omega)]
  rfl
 rw [this]
theorem rxWL_at : ∀ (l : List S31) (i : Nat), rxWL l → i < l.length → rxW (l.getD i ⟨0, 0, 0, ⟨#[]⟩, []⟩)
 | [], i, _, h => by simp at h
 | x :: l, 0, hw, _ => by rw [rxWL] at hw; exact hw.1
 | x :: l, i + 1, hw, h => by rw [rxWL] at hw; have := rxWL_at l i hw.2 (by simpa using h); simpa using this
theorem cntL_at : ∀ (l : List S31) (i : Nat), i < l.length → cntL (l.drop (i + 1)) + cnt (l.getD i ⟨0, 0, 0, ⟨#[]⟩, []⟩) = cntL (l.drop i)
 | [], i, h => by simp at h
 | x :: l, 0, _ => by simp only [List.drop_succ_cons, List.drop_zero, List.getD_cons_zero]; rw [cntL]; omega
 | x :: l, i + 1, h => by simp only [List.drop_succ_cons, List.getD_cons_succ]; exact cntL_at l i (by simpa using h)
theorem cntL_le (l : List S31) : ∀ i, cntL (l.drop i) ≤ cntL l := by
 induction l with
 | nil => intro i; simp
 | cons x l ih =>
  intro i
  cases i with
  | zero => exact Nat.le_refl _
  | succ i => rw [List.drop_succ_cons, cntL]; have := ih i; omega
theorem size_at (l : List S31) (i : Nat) (h : i < l.length) : SizeOf.sizeOf (l.getD i ⟨0, 0, 0, ⟨#[]⟩, []⟩) < SizeOf.sizeOf l := by
 rw [List.getD_eq_getElem?_getD, List.getElem?_eq_getElem h]
 exact List.sizeOf_lt_of_mem (List.getElem_mem h)
theorem rxWL_drop : ∀ (l : List S31) (i : Nat), rxWL l → rxWL (l.drop i)
 | [], i, _ => by simp [rxWL]
 | x :: l, 0, hw => hw
 | x :: l, i + 1, hw => by rw [rxWL] at hw; exact rxWL_drop l i hw.2
theorem mkL_len (kd : Int) (l : List S31) (i : Nat) (h : i < l.length) (hw : rxWL l) (ns : List S85) : (mkL kd (l.drop i) ns).1.length + 1 ≤ ns.length + 45 * cntL (l.drop i) :=
 (mk_len _).2 (l.drop i) (Nat.le_refl _) (rxWL_drop l i hw) (fun hc => by have := congrArg List.length hc; simp at this; omega) kd ns
theorem cntL_ge : ∀ l : List S31, l.length ≤ cntL l
 | [] => Nat.zero_le _
 | x :: l => by
  have h := cntL_ge l
  have : 1 ≤ cnt x := by cases x; rw [cnt]; omega
  rw [cntL]
  simp only [List.length_cons]
  omega
theorem wrap_nat {z : Int} {x : Nat} (hz : z = (x : Int)) (h : x < 9223372036854775808) : Go.RowKit.wrap64 z = (x : Int) := by subst hz; unfold Go.RowKit.wrap64; omega
end Go.Proofs.Ytlpabbcgichaoaa.PFnExactFind
end
section
namespace Go.Proofs.Ytlpabbcgichaoaa.PFnExactFind
open Go.RowKit Go.Proofs.YtlpabbcgichaoaaW.PrintWords Go.Proofs.YtlpabbcgichaoaaW.PrintLast Go.Proofs.YtlpabbcgichaoaaW.PrintMore
set_option linter.unusedVariables false
set_option linter.unusedSimpArgs false
theorem RB_zero (den : Nat → Mt) (N n M : Nat) (q : Nat) (hq : q = N * (n + 1) * (n + 1)) : RB den N n (List.replicate q 0) M := by
 subst hq
 refine ⟨by simp, fun k i j _ _ _ _ => .inl ?_⟩
 unfold ent
 rw [List.getD_eq_getElem?_getD, List.getElem?_replicate]
 split <;> rfl
theorem mk_root (tx : Nat → Int) (n : Nat) (x : S31) (hw : rxW x) : ∃ den spf, ndGood tx n (mk x []).1 den spf ∧ Stands (mk x []).1 den spf (mk x []).2 (mat tx n x) (sp tx n x) := by
 obtain ⟨den, spf, h1, _, h2⟩ := (mk_good tx n _).1 x (Nat.le_refl _) hw [] (fun _ => catM (fun _ _ => false) (fun _ _ => false)) (fun _ _ _ o => o) (fun k y hy => by simp at hy)
 exact ⟨den, spf, h1, h2⟩
mutual
def rxT : S31 → Prop
 | ⟨_, _, _, s, l⟩ => s.size < 4611686018427387904 ∧ rxTL l
def rxTL : List S31 → Prop
 | [] => True
 | x :: l => rxT x ∧ rxTL l
end
def ndT (ns : List S85) : Prop := ∀ x ∈ ns, x.f2.size < 4611686018427387904
theorem ndT_add {ns : List S85} (h : ndT ns) (x : S85) (hx : x.f2.size < 4611686018427387904) : ndT (ns ++ [x]) := fun y hy => by
 rw [List.mem_append, List.mem_singleton] at hy
 rcases hy with hy | rfl
 ·
  exact h y hy
 ·
  exact hx
theorem mkOpt_T (a : Nat) : ∀ (c rest : Nat) (ns : List S85), ndT ns → ndT (mkOpt a c rest ns).1 := by
 intro c
 induction c with
 | zero => intro rest ns h; exact h
 | succ c ih => intro rest ns h; rw [mkOpt]; exact ih _ _ (ndT_add (ndT_add h _ (by show (0 : Nat) < _; decide)) _ (by show (0 : Nat) < _; decide))
theorem mkTimes_T (a : Nat) : ∀ (c rest : Nat) (ns : List S85), ndT ns → ndT (mkTimes a c rest ns).1 := by
 intro c
 induction c with
 | zero => intro rest ns h; exact h
 | succ c ih => intro rest ns h; rw [mkTimes]; exact ih _ _ (ndT_add h _ (by show (0 : Nat) < _; decide))
theorem mkRep_T (a : Nat) (n m : Int) (ns : List S85) (h : ndT ns) : ndT (mkRep a n m ns).1 := by
 unfold mkRep
 by_cases c : m < 0
 ·
  rw [if_pos c]; exact mkTimes_T _ _ _ _ (ndT_add (ndT_add h _ (by show (0 : Nat) < _; decide)) _ (by show (0 : Nat) < _; decide))
 ·
  rw [if_neg c]; exact mkTimes_T _ _ _ _ (mkOpt_T _ _ _ _ (ndT_add h _ (by show (0 : Nat) < _; decide)))
theorem mk_T : ∀ (N : Nat),
  (∀ x : S31, SizeOf.sizeOf x ≤ N → rxT x → ∀ ns : List S85, ndT ns → ndT (mk x ns).1) ∧
  (∀ l : List S31, SizeOf.sizeOf l ≤ N → rxTL l → ∀ ns : List S85, ndT ns → ndT (mkHd l ns).1 ∧ ∀ kd, ndT (mkL kd l ns).1) := by
 intro N
 induction N with
 | zero =>
  refine ⟨fun x hx => ?_, fun l hl => ?_⟩
  ·
   cases x; simp at hx
  ·
   cases l <;> simp at hl
 | succ N ih =>
  refine ⟨?_, ?_⟩
  ·
   rintro ⟨k, a, m, s, l⟩ hx hw ns h
   have hl : SizeOf.sizeOf l ≤ N := by simp at hx; omega
   rw [rxT] at hw
   have hh := (ih.2 l hl hw.2 ns h)
   rw [mk]
   by_cases c6 : k = 6
   ·
    simp only [if_pos c6]; exact ndT_add hh.1 _ (by show (0 : Nat) < _; decide)
   by_cases c7 : k = 7 ∨ k = 8
   ·
    simp only [if_neg c6, if_pos c7]
    by_cases ce : l.isEmpty = true
    ·
     rw [if_pos ce]; exact ndT_add h _ (by show (0 : Nat) < _; decide)
    ·
     rw [if_neg ce]; exact hh.2 k
   by_cases c9 : k = 9
   ·
    simp only [if_neg c6, if_neg c7, if_pos c9]; exact mkRep_T _ _ _ _ hh.1
   ·
    simp only [if_neg c6, if_neg c7, if_neg c9]; exact ndT_add h _ hw.1
  ·
   intro l hl hw ns h
   cases l with
   | nil => exact ⟨h, fun kd => by rw [mkL]; exact h⟩
   | cons x l =>
    rw [rxTL] at hw
    have hx2 : SizeOf.sizeOf x ≤ N := by simp at hl; omega
    have hl2 : SizeOf.sizeOf l ≤ N := by simp at hl; omega
    refine ⟨by rw [mkHd]; exact ih.1 x hx2 hw.1 ns h, fun kd => ?_⟩
    rw [mkL]
    by_cases ce : l.isEmpty = true
    ·
     simp only [if_pos ce]; exact ih.1 x hx2 hw.1 ns h
    ·
     simp only [if_neg ce]; exact ndT_add (ih.1 x hx2 hw.1 _ ((ih.2 l hl2 hw.2 ns h).2 kd)) _ (by show (0 : Nat) < _; decide)
theorem adL_step (l : List S31) (i : Nat) (h : i < l.length) (ns1 : List (S31 × List Int)) : adL (l.drop i) ns1 = ((adL (l.drop (i + 1)) (ad (l.getD i ⟨0, 0, 0, ⟨#[]⟩, []⟩) ns1)).1, (ns1.length : Int) :: (adL (l.drop (i + 1)) (ad (l.getD i ⟨0, 0, 0, ⟨#[]⟩, []⟩) ns1)).2) := by
 rw [List.drop_eq_getElem_cons h, adL]
 have : l[i] = l.getD i ⟨0, 0, 0, ⟨#[]⟩, []⟩ := by
  rw [List.getD_eq_getElem?_getD, List.getElem?_eq_getElem h]
  rfl
 rw [this]
theorem ad_len : ∀ (N : Nat),
  (∀ x : S31, SizeOf.sizeOf x ≤ N → ∀ ns, (ad x ns).length = ns.length + cnt x) ∧
  (∀ l : List S31, SizeOf.sizeOf l ≤ N → ∀ ns, (adL l ns).1.length = ns.length + cntL l) := by
 intro N
 induction N with
 | zero =>
  refine ⟨fun x hx => ?_, fun l hl => ?_⟩
  ·
   cases x; simp at hx
  ·
   cases l <;> simp at hl
 | succ N ih =>
  refine ⟨?_, ?_⟩
  ·
   rintro ⟨k, a, m, s, l⟩ hx ns
   have hl : SizeOf.sizeOf l ≤ N := by simp at hx; omega
   rw [ad, cnt]
   simp only [List.length_set]
   rw [ih.2 l hl]
   simp
   omega
  ·
   intro l hl ns
   cases l with
   | nil => rw [adL, cntL]; rfl
   | cons x l =>
    have hx2 : SizeOf.sizeOf x ≤ N := by simp at hl; omega
    have hl2 : SizeOf.sizeOf l ≤ N := by simp at hl; omega
    rw [adL, cntL]
    simp only
    rw [ih.2 l hl2, ih.1 x hx2]
    omega
def rowOf (n : Nat) (f : Nat → Bool) : List Bool := (List.range (n + 1)).map f
theorem rowOf_len (n : Nat) (f : Nat → Bool) : (rowOf n f).length = n + 1 := by unfold rowOf; simp
theorem rowOf_len' {L n : Nat} (h : L = n + 1) (f : Nat → Bool) : (rowOf n f).length = L := (rowOf_len n f).trans h.symm
theorem rowOf_congr {n : Nat} {f g : Nat → Bool} (h : ∀ j, j ≤ n → f j = g j) : rowOf n f = rowOf n g := by
 unfold rowOf
 exact List.map_congr_left (fun j hj => h j (by rw [List.mem_range] at hj; omega))
theorem rowOf_at (n : Nat) (f : Nat → Bool) (j : Nat) (h : j ≤ n) : (rowOf n f)[j]? = some (f j) := by
 unfold rowOf
 rw [List.getElem?_map, List.getElem?_range (by omega)]
 rfl
theorem rowOf_set (n : Nat) (f : Nat → Bool) (i : Nat) (b : Bool) : (rowOf n f).set i b = rowOf n (fun j => if j = i then b else f j) := by
 apply List.ext_getElem?
 intro j
 by_cases hj : j ≤ n
 ·
  rw [rowOf_at n _ j hj, List.getElem?_set]
  by_cases h : i = j
  ·
   subst h
   rw [if_pos rfl, rowOf_len, if_pos (by omega), if_pos rfl]
  ·
   rw [if_neg h, rowOf_at n _ j hj, if_neg (fun e => h e.symm)]
 ·
  rw [List.getElem?_eq_none (by rw [List.length_set, rowOf_len]; omega), List.getElem?_eq_none (by rw [rowOf_len]; omega)]
theorem rowOf_none (n : Nat) : List.replicate (n + 1) false = rowOf n (fun _ => false) := by
 apply List.ext_getElem?
 intro j
 by_cases hj : j ≤ n
 ·
  rw [rowOf_at n _ j hj, List.getElem?_replicate, if_pos (by omega)]
 ·
  rw [List.getElem?_eq_none (by simp; omega), List.getElem?_eq_none (by rw [rowOf_len]; omega)]
theorem catM_le {a b : Mt} {i j : Nat} (h : catM a b i j = true) : i ≤ j := by
 obtain ⟨k, p, q, _⟩ := anyK_iff.1 h
 omega
theorem timesM_le {a r : Mt} (hr : ∀ i j, r i j = true → i ≤ j) : ∀ n i j, timesM a r n i j = true → i ≤ j := by
 intro n
 cases n with
 | zero => exact hr
 | succ n => intro i j h; exact catM_le h
theorem optM_le (a : Mt) : ∀ m i j, optM a m i j = true → i ≤ j := by
 intro m i j h
 cases m with
 | zero => have := beq_iff_eq.1 (show (i == j) = true from h); omega
 | succ m =>
  rw [optM, Bool.or_eq_true] at h
  rcases h with h | h
  ·
   have := beq_iff_eq.1 h; omega
  ·
   obtain ⟨k, p, q, _⟩ := anyK_iff.1 h; omega
theorem tailM_le (a : Mt) (n : Nat) (m : Int) (i j : Nat) (h : tailM a n m i j = true) : i ≤ j := by
 unfold tailM at h
 by_cases c : m < 0
 ·
  rw [if_pos c] at h; exact starF_le a _ i j h
 ·
  rw [if_neg c] at h; exact optM_le a _ i j h
theorem mat_le (tx : Nat → Int) (n : Nat) : ∀ (N : Nat),
  (∀ x : S31, SizeOf.sizeOf x ≤ N → ∀ i j, mat tx n x i j = true → i ≤ j) ∧
  (∀ l : List S31, SizeOf.sizeOf l ≤ N → ∀ i j, (matHd tx n l i j = true → i ≤ j) ∧ (matCat tx n l i j = true → i ≤ j) ∧ (matAlt tx n l i j = true → i ≤ j)) := by
 intro N
 induction N with
 | zero =>
  refine ⟨fun x hx => ?_, fun l hl => ?_⟩
  ·
   cases x; simp at hx
  ·
   cases l <;> simp at hl
 | succ N ih =>
  refine ⟨?_, ?_⟩
  ·
   rintro ⟨k, a, m, s, l⟩ hx i j h
   have hl : SizeOf.sizeOf l ≤ N := by simp at hx; omega
   obtain ⟨h1, h2, h3⟩ := ih.2 l hl i j
   rw [mat] at h
   by_cases c1 : k = 1
   ·
    simp only [if_pos c1, Bool.and_eq_true] at h; have := beq_iff_eq.1 h.1; omega
   by_cases c2 : k = 2
   ·
    simp only [if_neg c1, if_pos c2] at h; have := beq_iff_eq.1 h; omega
   by_cases c3 : k = 3
   ·
    simp only [if_neg c1, if_neg c2, if_pos c3, Bool.and_eq_true] at h; have := beq_iff_eq.1 h.1; omega
   by_cases c4 : k = 4
   ·
    simp only [if_neg c1, if_neg c2, if_neg c3, if_pos c4, Bool.and_eq_true] at h; have := beq_iff_eq.1 h.1; omega
   by_cases c5 : k = 5
   ·
    simp only [if_neg c1, if_neg c2, if_neg c3, if_neg c4, if_pos c5, Bool.and_eq_true] at h; have := beq_iff_eq.1 h.2; omega
   by_cases c6 : k = 6
   ·
    simp only [if_neg c1, if_neg c2, if_neg c3, if_neg c4, if_neg c5, if_pos c6] at h; exact h1 h
   by_cases c7 : k = 7
   ·
    simp only [if_neg c1, if_neg c2, if_neg c3, if_neg c4, if_neg c5, if_neg c6, if_pos c7] at h; exact h2 h
   by_cases c8 : k = 8
   ·
    simp only [if_neg c1, if_neg c2, if_neg c3, if_neg c4, if_neg c5, if_neg c6, if_neg c7, if_pos c8] at h; exact h3 h
   by_cases c9 : k = 9
   ·
    simp only [if_neg c1, if_neg c2, if_neg c3, if_neg c4, if_neg c5, if_neg c6, if_neg c7, if_neg c8, if_pos c9] at h
    exact timesM_le (fun i j => tailM_le _ _ _ i j) _ i j h
   ·
    simp only [if_neg c1, if_neg c2, if_neg c3, if_neg c4, if_neg c5, if_neg c6, if_neg c7, if_neg c8, if_neg c9] at h; exact absurd h (by simp)
  ·
   intro l hl i j
   cases l with
   | nil =>
    rw [matHd, matCat, matAlt]
    exact ⟨fun h => absurd h (by simp), fun h => by have := beq_iff_eq.1 h; omega, fun h => absurd h (by simp)⟩
   | cons x l =>
    have hx2 : SizeOf.sizeOf x ≤ N := by simp at hl; omega
    have hl2 : SizeOf.sizeOf l ≤ N := by simp at hl; omega
    rw [matHd, matCat, matAlt]
    refine ⟨ih.1 x hx2 i j, catM_le, fun h => ?_⟩
    rw [Bool.or_eq_true] at h
    exact h.elim (ih.1 x hx2 i j) (ih.2 l hl2 i j).2.2
theorem optI_le (a : Mt) : ∀ m i j, optI a m i j = true → i ≤ j := fun m i j h => by rw [← opt_eq] at h; exact optM_le a m i j h
theorem onw_le (tx : Nat → Int) (n : Nat) (x : S31) (d i j : Nat) (h : onw tx n x d i j = true) : i ≤ j := by
 obtain ⟨k, a, m, s, l⟩ := x
 rw [onw] at h
 by_cases c : k = 7
 ·
  rw [if_pos c] at h; exact ((mat_le tx n _).2 _ (Nat.le_refl _) i j).2.1 h
 ·
  rw [if_neg c] at h
  by_cases c2 : d < a.toNat
  ·
   rw [if_pos c2] at h; exact timesM_le (fun i j => tailM_le _ _ _ i j) _ i j h
  ·
   rw [if_neg c2] at h
   by_cases c3 : m < 0
   ·
    rw [if_pos c3] at h; exact starF_le _ _ i j h
   ·
    rw [if_neg c3] at h; exact optI_le _ _ i j h
def accK (f : Nat → Bool) (c : Nat → Bool) (g : Mt) (e : Nat) : Nat → Bool := fun j => f j || (List.range e).any fun q => c q && g q j
theorem accK_zero (f : Nat → Bool) (c : Nat → Bool) (g : Mt) : accK f c g 0 = f := by funext j; simp [accK]
theorem accK_yes (f : Nat → Bool) (c : Nat → Bool) (g : Mt) (e : Nat) (h : c e = true) : accK f c g (e + 1) = fun j => accK f c g e j || g e j := by
 funext j
 simp only [accK, List.range_succ, List.any_append, List.any_cons, List.any_nil, h, Bool.true_and, Bool.or_false, Bool.or_assoc]
theorem accK_no (f : Nat → Bool) (c : Nat → Bool) (g : Mt) (e : Nat) (h : c e = false) : accK f c g (e + 1) = accK f c g e := by
 funext j
 simp only [accK, List.range_succ, List.any_append, List.any_cons, List.any_nil, h, Bool.false_and, Bool.or_false]
theorem accK_all {f : Nat → Bool} {c : Nat → Bool} {g : Mt} {n lo : Nat} {p : Nat → Nat → Bool} (hg : ∀ q j, g q j = true → q ≤ j) (hc : ∀ q, q ≤ n → (c q = true → lo ≤ q)) (j : Nat) (hj : j ≤ n) (hp : ∀ q, lo ≤ q → q ≤ j → (c q && g q j) = p q j) : accK f c g (n + 1) j = (f j || anyK lo j fun q => p q j) := by
 unfold accK
 congr 1
 rw [Bool.eq_iff_iff, List.any_eq_true, anyK_iff]
 constructor
 ·
  rintro ⟨q, hq, h⟩
  rw [List.mem_range] at hq
  have h2 := h
  rw [Bool.and_eq_true] at h2
  have h3 := hc q (by omega) h2.1
  have h4 := hg q j h2.2
  exact ⟨q, h3, h4, by rw [← hp q h3 h4]; exact h⟩
 ·
  rintro ⟨q, h1, h2, h⟩
  exact ⟨q, by rw [List.mem_range]; omega, by rw [hp q h1 h2]; exact h⟩
theorem imMu {n i e b d d2 : Nat} (h : i ≤ e) (hn : e ≤ n) (hd : (d2 = d + 1 ∧ d < b + 21) ∨ (i < e ∧ d2 ≤ b + 21)) : (n - e) * (b + 22) + (b + 21 - d2) < (n - i) * (b + 22) + (b + 21 - d) := by
 by_cases c : i < e
 ·
  have h1 : (n - e + 1) * (b + 22) ≤ (n - i) * (b + 22) := Nat.mul_le_mul_right _ (by omega)
  rw [Nat.add_mul] at h1
  omega
 ·
  obtain rfl : i = e := by omega
  rcases hd with ⟨h1, h2⟩ | ⟨h1, h2⟩
  ·
   omega
  ·
   omega
theorem imCat (tx : Nat → Int) (n : Nat) (f0 f1 f2 : Int) (f3 : ByteArray) (l : List S31) (d i : Nat) (y : S31) (h0 : f0 = 7) (hd : d < l.length) (hy : l[d]? = some y) :
  rowOf n (accK (fun _ => false) (fun q => mat tx n y i q) (onw tx n ⟨f0, f1, f2, f3, l⟩ (d + 1)) (n + 1)) = rowOf n (onw tx n ⟨f0, f1, f2, f3, l⟩ d i) := by
 subst h0
 have hy2 : l[d] = y := by rw [List.getElem?_eq_getElem hd] at hy; exact Option.some.inj hy
 refine rowOf_congr (fun j hj => ?_)
 rw [accK_all (lo := i) (p := fun q j => mat tx n y i q && onw tx n ⟨7, f1, f2, f3, l⟩ (d + 1) q j) (fun q j h => onw_le tx n _ _ q j h) (fun q _ h => (mat_le tx n _).1 y (Nat.le_refl _) i q h) j hj (fun q _ _ => rfl), onw_cat tx n f1 f2 f3 l d hd, hy2, Bool.false_or]
 rfl
theorem imMust (tx : Nat → Int) (n : Nat) (f0 f1 f2 : Int) (f3 : ByteArray) (l : List S31) (d i : Nat) (y : S31) (h0 : f0 = 9) (hd : d < f1.toNat) (hy : l[0]? = some y) :
  rowOf n (accK (fun _ => false) (fun q => mat tx n y i q) (onw tx n ⟨f0, f1, f2, f3, l⟩ (d + 1)) (n + 1)) = rowOf n (onw tx n ⟨f0, f1, f2, f3, l⟩ d i) := by
 subst h0
 have hh : matHd tx n l = mat tx n y := by
  cases l with
  | nil => simp at hy
  | cons z l => rw [matHd]; simp at hy; rw [hy]
 refine rowOf_congr (fun j hj => ?_)
 rw [accK_all (lo := i) (p := fun q j => mat tx n y i q && onw tx n ⟨9, f1, f2, f3, l⟩ (d + 1) q j) (fun q j h => onw_le tx n _ _ q j h) (fun q _ h => (mat_le tx n _).1 y (Nat.le_refl _) i q h) j hj (fun q _ _ => rfl), onw_must tx n f1 f2 f3 l d hd, hh, Bool.false_or]
 rfl
theorem imMore (tx : Nat → Int) (n : Nat) (f0 f1 f2 : Int) (f3 : ByteArray) (l : List S31) (d i : Nat) (y : S31) (h0 : f0 = 9) (hd : ¬ d < f1.toNat) (hm : f2 < 0 ∨ (d : Int) < f2) (hy : l[0]? = some y) :
  rowOf n (accK (fun j => if j = i then true else false) (fun q => mat tx n y i q && decide (i < q)) (onw tx n ⟨f0, f1, f2, f3, l⟩ (d + 1)) (n + 1)) = rowOf n (onw tx n ⟨f0, f1, f2, f3, l⟩ d i) := by
 subst h0
 have hh : matHd tx n l = mat tx n y := by
  cases l with
  | nil => simp at hy
  | cons z l => rw [matHd]; simp at hy; rw [hy]
 refine rowOf_congr (fun j hj => ?_)
 rw [accK_all (lo := i + 1) (p := fun q j => mat tx n y i q && onw tx n ⟨9, f1, f2, f3, l⟩ (d + 1) q j) (fun q j h => onw_le tx n _ _ q j h) (fun q _ h => by rw [Bool.and_eq_true, decide_eq_true_eq] at h; omega) j hj (fun q h1 _ => by rw [decide_eq_true (show i < q by omega), Bool.and_true])]
 have e : (if j = i then true else false) = (i == j) := by
  by_cases c : i = j
  ·
   subst c; simp
  ·
   rw [if_neg (fun h => c h.symm)]; exact (beq_eq_false_iff_ne.2 c).symm
 rw [e]
 by_cases c : f2 < 0
 ·
  rw [onw_star tx n f1 f2 f3 l d hd c i j, hh]
 ·
  rw [onw_opt tx n f1 f2 f3 l d hd c (hm.resolve_left c) i j, hh]
theorem imStop (tx : Nat → Int) (n : Nat) (f0 f1 f2 : Int) (f3 : ByteArray) (l : List S31) (d i : Nat) (h0 : f0 = 9) (hd : ¬ d < f1.toNat) (hm : ¬ f2 < 0) (hm2 : ¬ (d : Int) < f2) :
  rowOf n (fun j => if j = i then true else false) = rowOf n (onw tx n ⟨f0, f1, f2, f3, l⟩ d i) := by
 subst h0
 refine rowOf_congr (fun j hj => ?_)
 rw [onw_end tx n f1 f2 f3 l d hd hm hm2 i j]
 by_cases c : i = j
 ·
  subst c; simp
 ·
  rw [if_neg (fun h => c h.symm)]; exact (beq_eq_false_iff_ne.2 c).symm
theorem spStarF_fuel {A : Mt} {sa : Spf} : ∀ (f g p j : Nat) (out : List Int), j - p ≤ f → j - p ≤ g → spStarF A sa f p j out = spStarF A sa g p j out := by
 intro f
 induction f with
 | zero =>
  intro g p j out h1 h2
  cases g with
  | zero => rfl
  | succ g => rw [spStarF, spStarF, if_neg (by omega)]
 | succ f ih =>
  intro g p j out h1 h2
  cases g with
  | zero => rw [spStarF, spStarF, if_neg (by omega)]
  | succ g =>
   rw [spStarF, spStarF]
   by_cases hp : p < j
   ·
    rw [if_pos hp, if_pos hp]
    rcases hl : lastK (p + 1) (fun k => A p k && starM A k j) j with _ | k
    ·
     rfl
    ·
     obtain ⟨h3, h4, _⟩ := lastK_some hl
     exact ih g k j _ (by omega) (by omega)
   ·
    rw [if_neg hp, if_neg hp]
theorem span_star {A K : Mt} {sa : Spf} (hK : ∀ i j, K i j = starM A i j) {p j : Nat} (hp : p < j) (h : 0 ≤ spl A K (p + 1) p j) :
  ∃ q, p + 1 ≤ q ∧ q ≤ j ∧ A p q = true ∧ K q j = true ∧ spl A K (p + 1) p j = (q : Int) ∧ ∀ out, spStarF A sa (j - p) p j out = spStarF A sa (j - q) q j (sa p q out) := by
 have e : lastK (p + 1) (fun k => A p k && K k j) j = lastK (p + 1) (fun k => A p k && starM A k j) j := lastK_congr fun k _ _ => by rw [hK]
 unfold spl at h ⊢
 rcases hl : lastK (p + 1) (fun k => A p k && K k j) j with _ | q
 ·
  rw [hl] at h; exact absurd h (by decide)
 ·
  obtain ⟨h1, h2, h3, _⟩ := lastK_some hl
  rw [Bool.and_eq_true] at h3
  refine ⟨q, h1, h2, h3.1, h3.2, rfl, fun out => ?_⟩
  obtain ⟨d, hd⟩ : ∃ d, j - p = d + 1 := ⟨j - p - 1, by omega⟩
  rw [hd, spStarF, if_pos hp, ← e, hl]
  exact spStarF_fuel _ _ _ _ _ (by omega) (Nat.le_refl _)
theorem span_cat {A B : Mt} {i j : Nat} (h : 0 ≤ spl A B i i j) :
  ∃ q, i ≤ q ∧ q ≤ j ∧ A i q = true ∧ B q j = true ∧ spl A B i i j = (q : Int) ∧ lastK i (fun k => A i k && B k j) j = some q := by
 unfold spl at h ⊢
 rcases hl : lastK i (fun k => A i k && B k j) j with _ | q
 ·
  rw [hl] at h; exact absurd h (by decide)
 ·
  obtain ⟨h1, h2, h3, _⟩ := lastK_some hl
  rw [Bool.and_eq_true] at h3
  exact ⟨q, h1, h2, h3.1, h3.2, rfl, rfl⟩
theorem mu_max {n N k i j : Nat} (h : k < N) (hj : j ≤ n) : mu n k i j < N * (n + 2) := by
 unfold mu
 have : (k + 1) * (n + 2) ≤ N * (n + 2) := Nat.mul_le_mul_right _ h
 rw [Nat.add_mul] at this
 omega
def findFrom (M : Mt) (n : Nat) : Nat → Nat → Option (Nat × Nat)
 | 0, _ => none
 | d + 1, p => match lastK p (fun q => M p q) n with
  | some q => some (p, q)
  | none => findFrom M n d (p + 1)
def findL (M : Mt) (S : Spf) (gs n p : Nat) : List Int := match findFrom M n (n + 1 - p) p with
 | some (a, b) => S a b ((a : Int) :: (b : Int) :: List.replicate (2 * gs) (-1))
 | none => []
theorem findFrom_step {M : Mt} {n p : Nat} (hp : p ≤ n) (h : ∀ q, p ≤ q → q ≤ n → M p q = false) : findFrom M n (n + 1 - p) p = findFrom M n (n + 1 - (p + 1)) (p + 1) := by
 obtain ⟨d, hd⟩ : ∃ d, n + 1 - p = d + 1 := ⟨n - p, by omega⟩
 rw [hd, show n + 1 - (p + 1) = d by omega, findFrom]
 rcases hl : lastK p (fun q => M p q) n with _ | q
 ·
  rfl
 ·
  obtain ⟨h1, h2, h3, _⟩ := lastK_some hl
  rw [h q h1 h2] at h3
  exact absurd h3 (by decide)
theorem findFrom_here {M : Mt} {n p q : Nat} (h1 : p ≤ q) (h2 : q ≤ n) (h3 : M p q = true) (h4 : ∀ q', q < q' → q' ≤ n → M p q' = false) : findFrom M n (n + 1 - p) p = some (p, q) := by
 obtain ⟨d, hd⟩ : ∃ d, n + 1 - p = d + 1 := ⟨n - p, by omega⟩
 rw [hd, findFrom, lastK_eq h1 h2 h3 h4]
theorem findFrom_end {M : Mt} {n p : Nat} (h : n < p) : findFrom M n (n + 1 - p) p = none := by
 rw [show n + 1 - p = 0 by omega, findFrom]
theorem rep_more (a b : Int) (c : Nat) : (a :: b :: List.replicate (2 * c) (-1)) ++ [-1, -1] = a :: b :: List.replicate (2 * (c + 1)) (-1 : Int) := by
 rw [show 2 * (c + 1) = 2 * c + 2 by omega, ← List.replicate_append_replicate]
 rfl
def grB (ns : List S85) (gs : Nat) : Bool := ns.all fun y => y.f0 != 6 || (decide (0 ≤ y.f1) && decide (2 * y.f1 + 1 < ((2 * gs + 2 : Nat) : Int)))
theorem grB_iff {ns : List S85} {gs : Nat} : grB ns gs = true ↔ ∀ (q : Nat) (y : S85), ns[q]? = some y → y.f0 = 6 → 0 ≤ y.f1 ∧ 2 * y.f1 + 1 < ((2 * gs + 2 : Nat) : Int) := by
 unfold grB
 rw [List.all_eq_true]
 constructor
 ·
  intro h q y hy h6
  have h1 := h y (List.mem_of_getElem? hy)
  rw [bne_eq_false_iff_eq.mpr h6, Bool.false_or, Bool.and_eq_true] at h1
  exact ⟨of_decide_eq_true h1.1, of_decide_eq_true h1.2⟩
 ·
  intro h y hy
  obtain ⟨q, hq⟩ := List.getElem?_of_mem hy
  by_cases h6 : y.f0 = 6
  ·
   obtain ⟨h1, h2⟩ := h q y hq h6
   rw [decide_eq_true h1, decide_eq_true h2]
   simp
  ·
   rw [bne_iff_ne.mpr h6]
   rfl
theorem imRowStep (tx : Nat → Int) (n i : Nat) (x : S31) (yes b : Bool) (hm : ∀ j, mat tx n x i j = (j == i + 1 && b)) (hy : i < n → yes = b) : rowOf n (fun j => false || (yes && j == i + 1)) = rowOf n (mat tx n x i) := rowOf_congr (fun j hj => by
 rw [hm]
 by_cases c : j = i + 1
 ·
  rw [hy (by omega)]
  simp [c]
 ·
  have h2 : (j == i + 1) = false := beq_eq_false_iff_ne.2 c
  rw [h2]; simp)
theorem imChar (tx : Nat → Int) (n i : Nat) (a m : Int) (s : ByteArray) (l : List S31) (j : Nat) : mat tx n ⟨1, a, m, s, l⟩ i j = (j == i + 1 && decide (tx i = a)) := by rw [mat]; rfl
theorem imAny (tx : Nat → Int) (n i : Nat) (a m : Int) (s : ByteArray) (l : List S31) (j : Nat) : mat tx n ⟨2, a, m, s, l⟩ i j = (j == i + 1 && true) := by rw [mat, Bool.and_true]; rfl
theorem imSet (tx : Nat → Int) (n i : Nat) (a m : Int) (s : ByteArray) (l : List S31) (j : Nat) : mat tx n ⟨3, a, m, s, l⟩ i j = (j == i + 1 && inS s (tx i)) := by rw [mat]; rfl
theorem imBegin (tx : Nat → Int) (n i : Nat) (a m : Int) (s : ByteArray) (l : List S31) : rowOf n (fun j => if j = i then (i == 0) else false) = rowOf n (mat tx n ⟨4, a, m, s, l⟩ i) := rowOf_congr (fun j hj => by
 rw [mat]
 show _ = (i == 0 && j == 0)
 by_cases c : j = i
 ·
  subst c; simp
 ·
  rw [if_neg c]
  by_cases d : i = 0
  ·
   subst d; simp [c]
  ·
   simp [d])
theorem imEnd (tx : Nat → Int) (n i : Nat) (a m : Int) (s : ByteArray) (l : List S31) : rowOf n (fun j => if j = i then (i == n) else false) = rowOf n (mat tx n ⟨5, a, m, s, l⟩ i) := rowOf_congr (fun j hj => by
 rw [mat]
 show _ = (i == n && j == i)
 by_cases c : j = i
 ·
  subst c; simp
 ·
  simp [c])
theorem imGroup (tx : Nat → Int) (n i : Nat) (a m : Int) (s : ByteArray) (l : List S31) (y : S31) (hy : l[0]? = some y) : rowOf n (fun j => false || mat tx n y i j) = rowOf n (mat tx n ⟨6, a, m, s, l⟩ i) := rowOf_congr (fun j hj => by
 rw [mat, Bool.false_or]
 show _ = matHd tx n l i j
 cases l with
 | nil => simp at hy
 | cons z l => rw [matHd]; simp at hy; rw [hy])
theorem matAlt_any (tx : Nat → Int) (n i j : Nat) : ∀ l : List S31, matAlt tx n l i j = l.any fun y => mat tx n y i j
 | [] => by rw [matAlt]; rfl
 | x :: l => by rw [matAlt, List.any_cons]; show (mat tx n x i j || matAlt tx n l i j) = _; rw [matAlt_any tx n i j l]
theorem imAlt (tx : Nat → Int) (n i : Nat) (a m : Int) (s : ByteArray) (l : List S31) : rowOf n (fun j => (l.take l.length).any fun y => mat tx n y i j) = rowOf n (mat tx n ⟨8, a, m, s, l⟩ i) := rowOf_congr (fun j hj => by
 rw [mat, List.take_length]
 exact (matAlt_any tx n i j l).symm)
theorem imAltStep (tx : Nat → Int) (n i q : Nat) (l : List S31) (y : S31) (hy : l[q]? = some y) : (fun j => (l.take q).any (fun y => mat tx n y i j) || mat tx n y i j) = fun j => (l.take (q + 1)).any fun y => mat tx n y i j := by
 funext j
 rw [List.take_add_one, hy]
 simp
theorem imSeq (tx : Nat → Int) (n i : Nat) (k a m : Int) (s : ByteArray) (l : List S31) (hk : k = 7 ∨ k = 9) : rowOf n (fun j => false || onw tx n ⟨k, a, m, s, l⟩ 0 i j) = rowOf n (mat tx n ⟨k, a, m, s, l⟩ i) := rowOf_congr (fun j hj => by rw [Bool.false_or]; exact onw_zero tx n k a m s l hk i j)
def repSt (A : Mt) (sa : Spf) (n : Nat) (m : Int) (d p j : Nat) (out : List Int) : List Int :=
 if d < n then spTimes A (tailM A n m) sa (spTail A sa n m) (n - d) p j out else if m < 0 then spStarF A sa (j - p) p j out else spOpt A sa (m - d).toNat p j out
theorem rep_start (tx : Nat → Int) (n : Nat) (a m : Int) (s : ByteArray) (l : List S31) (i j : Nat) (out : List Int) : sp tx n ⟨9, a, m, s, l⟩ i j out = repSt (matHd tx n l) (spHd tx n l) a.toNat m 0 i j out := by
 rw [sp]
 simp only [show ¬ ((9 : Int) = 6) by decide, show ¬ ((9 : Int) = 7) by decide, show ¬ ((9 : Int) = 8) by decide, if_false, if_true]
 unfold repSt
 by_cases h : 0 < a.toNat
 ·
  rw [if_pos h, Nat.sub_zero]
 ·
  rw [if_neg h, show a.toNat = 0 by omega, spTimes]
  unfold spTail
  by_cases c : m < 0
  ·
   rw [if_pos c, if_pos c]
  ·
   rw [if_neg c, if_neg c]
theorem rep_must (tx : Nat → Int) (n : Nat) (a m : Int) (s : ByteArray) (l : List S31) (d p j : Nat) (hd : d < a.toNat) (h : onw tx n ⟨9, a, m, s, l⟩ d p j = true) :
  ∃ r, p ≤ r ∧ r ≤ j ∧ matHd tx n l p r = true ∧ onw tx n ⟨9, a, m, s, l⟩ (d + 1) r j = true ∧ lastK p (fun k => matHd tx n l p k && onw tx n ⟨9, a, m, s, l⟩ (d + 1) k j) j = some r ∧
   ∀ out, repSt (matHd tx n l) (spHd tx n l) a.toNat m d p j out = repSt (matHd tx n l) (spHd tx n l) a.toNat m (d + 1) r j (spHd tx n l p r out) := by
 have e := onw_must tx n a m s l d hd
 rw [e, catM] at h
 obtain ⟨r, hr⟩ := lastK_is h
 obtain ⟨h1, h2, h3, _⟩ := lastK_some hr
 rw [Bool.and_eq_true] at h3
 refine ⟨r, h1, h2, h3.1, h3.2, hr, fun out => ?_⟩
 obtain ⟨q, hq⟩ : ∃ q, a.toNat - d = q + 1 := ⟨a.toNat - d - 1, by omega⟩
 have e2 : ∀ k, onw tx n ⟨9, a, m, s, l⟩ (d + 1) k j = timesM (matHd tx n l) (tailM (matHd tx n l) a.toNat m) q k j := fun k => by
  rw [onw, if_neg (by decide)]
  by_cases h : d + 1 < a.toNat
  ·
   rw [if_pos h, show a.toNat - (d + 1) = q by omega]
  ·
   rw [if_neg h, show q = 0 by omega, timesM, tail_eq, show d + 1 = a.toNat by omega]
 rw [lastK_congr (q := fun k => matHd tx n l p k && timesM (matHd tx n l) (tailM (matHd tx n l) a.toNat m) q k j) (fun k _ _ => by rw [e2])] at hr
 unfold repSt
 rw [if_pos hd, hq, spTimes, hr]
 dsimp only
 by_cases h : d + 1 < a.toNat
 ·
  rw [if_pos h, show a.toNat - (d + 1) = q by omega]
 ·
  rw [if_neg h, show q = 0 by omega, spTimes]
  unfold spTail
  by_cases c : m < 0
  ·
   rw [if_pos c, if_pos c]
  ·
   rw [if_neg c, if_neg c, show ((d + 1 : Nat) : Int) = (a.toNat : Int) by omega]
theorem rep_on (tx : Nat → Int) (n : Nat) (a m : Int) (s : ByteArray) (l : List S31) (d p j : Nat) (hd : ¬ d < a.toNat) (hp : p < j) (h : onw tx n ⟨9, a, m, s, l⟩ d p j = true) :
  (m < 0 ∨ (d : Int) < m) ∧ ∃ r, p + 1 ≤ r ∧ r ≤ j ∧ matHd tx n l p r = true ∧ onw tx n ⟨9, a, m, s, l⟩ (d + 1) r j = true ∧ lastK (p + 1) (fun k => matHd tx n l p k && onw tx n ⟨9, a, m, s, l⟩ (d + 1) k j) j = some r ∧
   ∀ out, repSt (matHd tx n l) (spHd tx n l) a.toNat m d p j out = repSt (matHd tx n l) (spHd tx n l) a.toNat m (d + 1) r j (spHd tx n l p r out) := by
 have hne : (p == j) = false := beq_eq_false_iff_ne.mpr (by omega)
 by_cases c : m < 0
 ·
  rw [onw_star tx n a m s l d hd c, hne, Bool.false_or] at h
  obtain ⟨r, hr⟩ := lastK_is h
  obtain ⟨h1, h2, h3, _⟩ := lastK_some hr
  rw [Bool.and_eq_true] at h3
  refine ⟨.inl c, r, h1, h2, h3.1, h3.2, hr, fun out => ?_⟩
  have e2 : ∀ k, onw tx n ⟨9, a, m, s, l⟩ (d + 1) k j = starM (matHd tx n l) k j := fun k => by rw [onw, if_neg (by decide), if_neg (by omega), if_pos c]
  rw [lastK_congr (q := fun k => matHd tx n l p k && starM (matHd tx n l) k j) (fun k _ _ => by rw [e2])] at hr
  unfold repSt
  rw [if_neg hd, if_pos c, if_neg (by omega), if_pos c]
  obtain ⟨q, hq⟩ : ∃ q, j - p = q + 1 := ⟨j - p - 1, by omega⟩
  rw [hq, spStarF, if_pos hp, hr]
  exact spStarF_fuel _ _ _ _ _ (by omega) (Nat.le_refl _)
 ·
  by_cases hm : (d : Int) < m
  ·
   rw [onw_opt tx n a m s l d hd c hm, hne, Bool.false_or] at h
   obtain ⟨r, hr⟩ := lastK_is h
   obtain ⟨h1, h2, h3, _⟩ := lastK_some hr
   rw [Bool.and_eq_true] at h3
   refine ⟨.inr hm, r, h1, h2, h3.1, h3.2, hr, fun out => ?_⟩
   obtain ⟨q, hq⟩ : ∃ q, (m - (d : Int)).toNat = q + 1 := ⟨(m - (d : Int)).toNat - 1, by omega⟩
   have e2 : ∀ k, onw tx n ⟨9, a, m, s, l⟩ (d + 1) k j = optM (matHd tx n l) q k j := fun k => by rw [onw, if_neg (by decide), if_neg (by omega), if_neg c, show (m - ((d + 1 : Nat) : Int)).toNat = q by omega, opt_eq]
   rw [lastK_congr (q := fun k => matHd tx n l p k && optM (matHd tx n l) q k j) (fun k _ _ => by rw [e2])] at hr
   unfold repSt
   rw [if_neg hd, if_neg c, if_neg (by omega), if_neg c, hq, spOpt, if_pos hp, hr, show (m - ((d + 1 : Nat) : Int)).toNat = q by omega]
  ·
   rw [onw_end tx n a m s l d hd c hm, hne] at h
   exact absurd h (by decide)
theorem rep_stop (A : Mt) (sa : Spf) (n : Nat) (m : Int) (d p j : Nat) (out : List Int) (hd : ¬ d < n) (hp : ¬ p < j) : repSt A sa n m d p j out = out := by
 unfold repSt
 rw [if_neg hd]
 by_cases c : m < 0
 ·
  rw [if_pos c, show j - p = 0 by omega, spStarF]
 ·
  rw [if_neg c]
  cases (m - (d : Int)).toNat with
  | zero => rw [spOpt]
  | succ q => rw [spOpt, if_neg hp]
theorem cat_on (tx : Nat → Int) (n : Nat) (a m : Int) (s : ByteArray) (l : List S31) (d p j : Nat) (y : S31) (hy : l[d]? = some y) (h : onw tx n ⟨7, a, m, s, l⟩ d p j = true) :
  ∃ r, p ≤ r ∧ r ≤ j ∧ mat tx n y p r = true ∧ onw tx n ⟨7, a, m, s, l⟩ (d + 1) r j = true ∧ lastK p (fun k => mat tx n y p k && onw tx n ⟨7, a, m, s, l⟩ (d + 1) k j) j = some r ∧
   ∀ out, spCat tx n (l.drop d) p j out = spCat tx n (l.drop (d + 1)) r j (sp tx n y p r out) := by
 have hd : d < l.length := (List.getElem?_eq_some_iff.1 hy).1
 have he : l[d] = y := (List.getElem?_eq_some_iff.1 hy).2
 rw [onw_cat tx n a m s l d hd, catM, he] at h
 obtain ⟨r, hr⟩ := lastK_is h
 obtain ⟨h1, h2, h3, _⟩ := lastK_some hr
 rw [Bool.and_eq_true] at h3
 refine ⟨r, h1, h2, h3.1, h3.2, hr, fun out => ?_⟩
 have e2 : ∀ k, onw tx n ⟨7, a, m, s, l⟩ (d + 1) k j = matCat tx n (l.drop (d + 1)) k j := fun k => by rw [onw, if_pos rfl]
 rw [lastK_congr (q := fun k => mat tx n y p k && matCat tx n (l.drop (d + 1)) k j) (fun k _ _ => by rw [e2])] at hr
 rw [List.drop_eq_getElem_cons hd, he, spCat]
 dsimp only
 rw [hr]
theorem hd_y (tx : Nat → Int) (n : Nat) (l : List S31) (y : S31) (hy : l[0]? = some y) : matHd tx n l = mat tx n y ∧ spHd tx n l = sp tx n y := by
 cases l with
 | nil => simp at hy
 | cons z l => rw [matHd, spHd]; simp at hy; rw [hy]; exact ⟨rfl, rfl⟩
theorem alt_here (tx : Nat → Int) (n : Nat) (l : List S31) (d i j : Nat) (y : S31) (out : List Int) (hy : l[d]? = some y) (h : mat tx n y i j = true) : spAlt tx n (l.drop d) i j out = sp tx n y i j out := by
 have hd : d < l.length := (List.getElem?_eq_some_iff.1 hy).1
 have he : l[d] = y := (List.getElem?_eq_some_iff.1 hy).2
 rw [List.drop_eq_getElem_cons hd, he, spAlt]
 exact if_pos h
theorem alt_on (tx : Nat → Int) (n : Nat) (l : List S31) (d i j : Nat) (y : S31) (out : List Int) (hy : l[d]? = some y) (h : mat tx n y i j = false) : spAlt tx n (l.drop d) i j out = spAlt tx n (l.drop (d + 1)) i j out ∧ matAlt tx n (l.drop d) i j = matAlt tx n (l.drop (d + 1)) i j := by
 have hd : d < l.length := (List.getElem?_eq_some_iff.1 hy).1
 have he : l[d] = y := (List.getElem?_eq_some_iff.1 hy).2
 rw [List.drop_eq_getElem_cons hd, he, spAlt, matAlt]
 dsimp only
 rw [h]
 exact ⟨rfl, Bool.false_or _⟩
theorem mat_kinds (tx : Nat → Int) (n : Nat) (a m : Int) (s : ByteArray) (l : List S31) (i j : Nat) (out : List Int) :
  (mat tx n ⟨6, a, m, s, l⟩ i j = matHd tx n l i j ∧ sp tx n ⟨6, a, m, s, l⟩ i j out = spHd tx n l i j ((out.set (2 * a).toNat (i : Int)).set (2 * a + 1).toNat (j : Int))) ∧
  (mat tx n ⟨7, a, m, s, l⟩ i j = onw tx n ⟨7, a, m, s, l⟩ 0 i j ∧ sp tx n ⟨7, a, m, s, l⟩ i j out = spCat tx n (l.drop 0) i j out) ∧
  (mat tx n ⟨8, a, m, s, l⟩ i j = matAlt tx n (l.drop 0) i j ∧ sp tx n ⟨8, a, m, s, l⟩ i j out = spAlt tx n (l.drop 0) i j out) := by
 refine ⟨⟨?_, ?_⟩, ⟨(onw_zero tx n 7 a m s l (.inl rfl) i j).symm, ?_⟩, ⟨?_, ?_⟩⟩
 ·
  rw [mat]; rfl
 ·
  rw [sp]; rfl
 ·
  rw [sp]; rfl
 ·
  rw [mat]; rfl
 ·
  rw [sp]; rfl
theorem sp_none (tx : Nat → Int) (n : Nat) (k a m : Int) (s : ByteArray) (l : List S31) (i j : Nat) (out : List Int) (h6 : k ≠ 6) (h7 : k ≠ 7) (h8 : k ≠ 8) (h9 : k ≠ 9) : sp tx n ⟨k, a, m, s, l⟩ i j out = out := by
 rw [sp]
 dsimp only
 rw [if_neg h6, if_neg h7, if_neg h8, if_neg h9]
def grI (ns : List (S31 × List Int)) (gs : Nat) : Bool := ns.all fun y => y.1.f0 != 6 || (decide (0 ≤ y.1.f1) && decide (2 * y.1.f1 + 1 < ((2 * gs + 2 : Nat) : Int)))
theorem grI_iff {ns : List (S31 × List Int)} {gs : Nat} : grI ns gs = true ↔ ∀ (q : Nat) (y : S31) (ks : List Int), ns[q]? = some (y, ks) → y.f0 = 6 → 0 ≤ y.f1 ∧ 2 * y.f1 + 1 < ((2 * gs + 2 : Nat) : Int) := by
 unfold grI
 rw [List.all_eq_true]
 constructor
 ·
  intro h q y ks hy h6
  have h1 := h (y, ks) (List.mem_of_getElem? hy)
  dsimp only at h1
  rw [bne_eq_false_iff_eq.mpr h6, Bool.false_or, Bool.and_eq_true] at h1
  exact ⟨of_decide_eq_true h1.1, of_decide_eq_true h1.2⟩
 ·
  rintro h ⟨y, ks⟩ hy
  obtain ⟨q, hq⟩ := List.getElem?_of_mem hy
  dsimp only
  by_cases h6 : y.f0 = 6
  ·
   obtain ⟨h1, h2⟩ := h q y ks hq h6
   rw [decide_eq_true h1, decide_eq_true h2]
   simp
  ·
   rw [bne_iff_ne.mpr h6]
   rfl
mutual
def okB : S31 → Bool
 | ⟨k, a, m, s, l⟩ => decide (1 ≤ k ∧ k ≤ 9) && ((!decide (k = 6 ∨ k = 9) || decide (l.length = 1)) && ((!decide (k = 9) || decide (0 ≤ a ∧ a ≤ 20 ∧ (m < 0 ∨ a ≤ m ∧ m ≤ 20))) && ((!decide (k = 8) || decide (1 ≤ l.length)) && ((!decide (k = 6) || decide (1 ≤ a ∧ a ≤ 9)) && (decide (s.size < 4611686018427387904) && okBL l)))))
def okBL : List S31 → Bool
 | [] => true
 | x :: l => okB x && okBL l
end
theorem okB_W : ∀ (N : Nat), (∀ x : S31, SizeOf.sizeOf x ≤ N → okB x = true → rxW x ∧ rxT x) ∧ (∀ l : List S31, SizeOf.sizeOf l ≤ N → okBL l = true → rxWL l ∧ rxTL l) := by
 intro N
 induction N with
 | zero =>
  refine ⟨fun x hx => ?_, fun l hl => ?_⟩
  ·
   cases x; simp at hx
  ·
   cases l <;> simp at hl
 | succ N ih =>
  refine ⟨?_, ?_⟩
  ·
   rintro ⟨k, a, m, s, l⟩ hx h
   have hl : SizeOf.sizeOf l ≤ N := by simp at hx; omega
   rw [okB] at h
   simp only [Bool.and_eq_true, Bool.or_eq_true, Bool.not_eq_true', decide_eq_true_eq, decide_eq_false_iff_not] at h
   obtain ⟨h1, h2, h3, h4, h5, h6, h7⟩ := h
   obtain ⟨i1, i2⟩ := ih.2 l hl h7
   rw [rxW, rxT]
   exact ⟨⟨h1.1, h1.2, fun h => h2.resolve_left (fun c => c h), fun h => h3.resolve_left (fun c => c h), fun h => h4.resolve_left (fun c => c h), fun h => h5.resolve_left (fun c => c h), i1⟩, h6, i2⟩
  ·
   intro l hl h
   cases l with
   | nil => exact ⟨by rw [rxWL]; trivial, by rw [rxTL]; trivial⟩
   | cons x l =>
    rw [okBL, Bool.and_eq_true] at h
    have hx2 : SizeOf.sizeOf x ≤ N := by simp at hl; omega
    have hl2 : SizeOf.sizeOf l ≤ N := by simp at hl; omega
    obtain ⟨a1, a2⟩ := ih.1 x hx2 h.1
    obtain ⟨b1, b2⟩ := ih.2 l hl2 h.2
    exact ⟨by rw [rxWL]; exact ⟨a1, b1⟩, by rw [rxTL]; exact ⟨a2, b2⟩⟩
theorem rxWL_mem : ∀ (l : List S31), rxWL l → ∀ y ∈ l, rxW y
 | [], _, y, hy => by simp at hy
 | x :: l, h, y, hy => by
  rw [rxWL] at h
  rcases List.mem_cons.1 hy with rfl | hy
  ·
   exact h.1
  ·
   exact rxWL_mem l h.2 y hy
theorem rxTL_mem : ∀ (l : List S31), rxTL l → ∀ y ∈ l, rxT y
 | [], _, y, hy => by simp at hy
 | x :: l, h, y, hy => by
  rw [rxTL] at h
  rcases List.mem_cons.1 hy with rfl | hy
  ·
   exact h.1
  ·
   exact rxTL_mem l h.2 y hy
theorem cntL_mem : ∀ (l : List S31), ∀ y ∈ l, cnt y ≤ cntL l
 | [], y, hy => by simp at hy
 | x :: l, y, hy => by
  rw [cntL]
  rcases List.mem_cons.1 hy with rfl | hy
  ·
   omega
  ·
   have := cntL_mem l y hy; omega
theorem ad_all {P : S31 → Prop} (hP : ∀ k a m s (l : List S31), P ⟨k, a, m, s, l⟩ → ∀ y ∈ l, P y) : ∀ (N : Nat),
  (∀ x : S31, SizeOf.sizeOf x ≤ N → P x → ∀ ns : List (S31 × List Int), (∀ v ∈ ns, P v.1) → ∀ v ∈ ad x ns, P v.1) ∧
  (∀ l : List S31, SizeOf.sizeOf l ≤ N → (∀ y ∈ l, P y) → ∀ ns : List (S31 × List Int), (∀ v ∈ ns, P v.1) → ∀ v ∈ (adL l ns).1, P v.1) := by
 intro N
 induction N with
 | zero =>
  refine ⟨fun x hx => ?_, fun l hl => ?_⟩
  ·
   cases x; simp at hx
  ·
   cases l <;> simp at hl
 | succ N ih =>
  refine ⟨?_, ?_⟩
  ·
   rintro ⟨k, a, m, s, l⟩ hx h ns hn v hv
   have hl : SizeOf.sizeOf l ≤ N := by simp at hx; omega
   rw [ad] at hv
   simp only at hv
   rcases List.mem_or_eq_of_mem_set hv with hv | rfl
   ·
    refine ih.2 l hl (hP _ _ _ _ _ h) _ (fun v hv => ?_) v hv
    rw [List.mem_append, List.mem_singleton] at hv
    rcases hv with hv | rfl
    ·
     exact hn v hv
    ·
     exact h
   ·
    exact h
  ·
   intro l hl h ns hn
   cases l with
   | nil => rw [adL]; exact hn
   | cons x l =>
    have hx2 : SizeOf.sizeOf x ≤ N := by simp at hl; omega
    have hl2 : SizeOf.sizeOf l ≤ N := by simp at hl; omega
    rw [adL]
    exact ih.2 l hl2 (fun y hy => h y (by simp [hy])) _ (ih.1 x hx2 (h x (by simp)) ns hn)
theorem ad_na (x : S31) (k : Nat) : naAt (ad x []) k := by
 by_cases h : k < (ad x []).length
 ·
  exact ((ad_good _).1 x (Nat.le_refl _) []).2.2.2 k (Nat.zero_le _) h
 ·
  intro r ks hr
  rw [List.getElem?_eq_none (by omega)] at hr
  exact absurd hr (by simp)
theorem ad_zero (x : S31) : ∃ ks, (ad x [])[0]? = some (x, ks) := ((ad_good _).1 x (Nat.le_refl _) []).2.2.1
end Go.Proofs.Ytlpabbcgichaoaa.PFnExactFind
end
