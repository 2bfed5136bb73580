/- What a tree matches, what the nodes of the reference stand for, how the program numbers nodes: plain, no program in sight. -/
import Derived.Test.YtlpabbcgichaoaaPFnExactFindx0
namespace Go.Proofs.Ytlpabbcgichaoaa.PFnExactFind
set_option linter.unusedVariables false
set_option linter.unusedSimpArgs false
def anyK (lo hi : Nat) (p : Nat → Bool) : Bool := (List.range (hi + 1 - lo)).any fun d => p (lo + d)
theorem anyK_iff {lo hi : Nat} {p : Nat → Bool} : anyK lo hi p = true ↔ ∃ k, lo ≤ k ∧ k ≤ hi ∧ p k = true := by
 unfold anyK
 rw [List.any_eq_true]
 constructor
 ·
  rintro ⟨d, hd, hp⟩
  rw [List.mem_range] at hd
  exact ⟨lo + d, by omega, by omega, hp⟩
 ·
  rintro ⟨k, h1, h2, hp⟩
  exact ⟨k - lo, by rw [List.mem_range]; omega, by rwa [show lo + (k - lo) = k by omega]⟩
theorem anyK_congr {lo hi : Nat} {p q : Nat → Bool} (h : ∀ k, lo ≤ k → k ≤ hi → p k = q k) : anyK lo hi p = anyK lo hi q := by
 rw [Bool.eq_iff_iff, anyK_iff, anyK_iff]
 constructor
 ·
  rintro ⟨k, h1, h2, hp⟩; exact ⟨k, h1, h2, by rw [← h k h1 h2]; exact hp⟩
 ·
  rintro ⟨k, h1, h2, hp⟩; exact ⟨k, h1, h2, by rw [h k h1 h2]; exact hp⟩
def lastK (lo : Nat) (p : Nat → Bool) : Nat → Option Nat
 | 0 => if lo = 0 ∧ p 0 = true then some 0 else none
 | h + 1 => if h + 1 < lo then none else if p (h + 1) = true then some (h + 1) else lastK lo p h
theorem lastK_some {lo : Nat} {p : Nat → Bool} : ∀ {hi k : Nat}, lastK lo p hi = some k → lo ≤ k ∧ k ≤ hi ∧ p k = true ∧ ∀ q, k < q → q ≤ hi → p q = false
 | 0, k, h => by
  rw [lastK] at h
  by_cases c : lo = 0 ∧ p 0 = true
  ·
   rw [if_pos c] at h
   obtain rfl := Option.some.inj h
   exact ⟨by omega, by omega, c.2, fun q h1 h2 => by omega⟩
  ·
   rw [if_neg c] at h; exact absurd h (by simp)
 | m + 1, k, h => by
  rw [lastK] at h
  by_cases c : m + 1 < lo
  ·
   rw [if_pos c] at h; exact absurd h (by simp)
  ·
   rw [if_neg c] at h
   by_cases d : p (m + 1) = true
   ·
    rw [if_pos d] at h
    obtain rfl := Option.some.inj h
    exact ⟨by omega, by omega, d, fun q h1 h2 => by omega⟩
   ·
    rw [if_neg d] at h
    obtain ⟨h1, h2, h3, h4⟩ := lastK_some h
    refine ⟨h1, by omega, h3, fun q h5 h6 => ?_⟩
    by_cases e : q = m + 1
    ·
     rw [e]; simpa using d
    ·
     exact h4 q h5 (by omega)
theorem lastK_none {lo : Nat} {p : Nat → Bool} : ∀ {hi : Nat}, lastK lo p hi = none → ∀ k, lo ≤ k → k ≤ hi → p k = false
 | 0, h, k, h1, h2 => by
  rw [lastK] at h
  by_cases c : lo = 0 ∧ p 0 = true
  ·
   rw [if_pos c] at h; exact absurd h (by simp)
  ·
   obtain rfl : k = 0 := by omega
   obtain rfl : lo = 0 := by omega
   simpa using c
 | m + 1, h, k, h1, h2 => by
  rw [lastK] at h
  by_cases c : m + 1 < lo
  ·
   omega
  ·
   rw [if_neg c] at h
   by_cases d : p (m + 1) = true
   ·
    rw [if_pos d] at h; exact absurd h (by simp)
   ·
    rw [if_neg d] at h
    by_cases e : k = m + 1
    ·
     rw [e]; simpa using d
    ·
     exact lastK_none h k h1 (by omega)
theorem lastK_is {lo hi : Nat} {p : Nat → Bool} (h : anyK lo hi p = true) : ∃ k, lastK lo p hi = some k := by
 obtain ⟨k, h1, h2, h3⟩ := anyK_iff.1 h
 cases hk : lastK lo p hi with
 | some k => exact ⟨k, rfl⟩
 | none => rw [lastK_none hk k h1 h2] at h3; exact absurd h3 (by simp)
theorem lastK_eq {lo hi k : Nat} {p : Nat → Bool} (h1 : lo ≤ k) (h2 : k ≤ hi) (h3 : p k = true) (h4 : ∀ q, k < q → q ≤ hi → p q = false) : lastK lo p hi = some k := by
 obtain ⟨k', hk⟩ := lastK_is (anyK_iff.2 ⟨k, h1, h2, h3⟩)
 obtain ⟨a, b, c, d⟩ := lastK_some hk
 rw [hk]
 congr 1
 rcases Nat.lt_trichotomy k k' with h | h | h
 ·
  rw [h4 k' h b] at c; exact absurd c (by simp)
 ·
  exact h.symm
 ·
  rw [d k h h2] at h3; exact absurd h3 (by simp)
theorem lastK_congr {lo hi : Nat} {p q : Nat → Bool} (h : ∀ k, lo ≤ k → k ≤ hi → p k = q k) : lastK lo p hi = lastK lo q hi := by
 cases hk : lastK lo q hi with
 | some k =>
  obtain ⟨a, b, c, d⟩ := lastK_some hk
  exact lastK_eq a b (by rw [h k a b]; exact c) (fun r h1 h2 => by rw [h r (by omega) h2]; exact d r h1 h2)
 | none =>
  cases hp : lastK lo p hi with
  | none => rfl
  | some k =>
   obtain ⟨a, b, c, _⟩ := lastK_some hp
   rw [h k a b, lastK_none hk k a b] at c
   exact absurd c (by simp)
abbrev Mt := Nat → Nat → Bool
def catM (a b : Mt) : Mt := fun i j => anyK i j fun k => a i k && b k j
def starF (a : Mt) : Nat → Mt
 | 0, i, j => i == j
 | f + 1, i, j => i == j || anyK (i + 1) j fun k => a i k && starF a f k j
def starM (a : Mt) : Mt := fun i j => starF a (j - i) i j
theorem starF_more (a : Mt) : ∀ f i j, j - i ≤ f → starF a f i j = starF a (j - i) i j := by
 intro f
 induction f using Nat.strongRecOn with
 | ind f ih =>
  intro i j h
  cases f with
  | zero => rw [show j - i = 0 by omega]
  | succ f =>
   cases hd : j - i with
   | zero =>
    have : anyK (i + 1) j (fun k => a i k && starF a f k j) = false := by
     rw [Bool.eq_false_iff]
     intro hc
     obtain ⟨k, h1, h2, _⟩ := anyK_iff.1 hc
     omega
    rw [starF, starF, this]
    simp
   | succ m =>
    rw [starF, starF]
    congr 1
    refine anyK_congr (fun k h1 h2 => ?_)
    congr 1
    rw [ih f (by omega) k j (by omega), ih m (by omega) k j (by omega)]
theorem starM_eq (a : Mt) (i j : Nat) : starM a i j = (i == j || anyK (i + 1) j fun k => a i k && starM a k j) := by
 unfold starM
 rw [← starF_more a (j - i + 1) i j (by omega), starF]
 congr 1
 refine anyK_congr (fun k h1 h2 => ?_)
 rw [starF_more a (j - i) k j (by omega)]
def optM (a : Mt) : Nat → Mt
 | 0, i, j => i == j
 | m + 1, i, j => i == j || anyK i j fun k => a i k && optM a m k j
def optI (a : Mt) : Nat → Mt
 | 0, i, j => i == j
 | m + 1, i, j => i == j || anyK (i + 1) j fun k => a i k && optI a m k j
theorem optI_more (a : Mt) : ∀ m i j, optI a m i j = true → optI a (m + 1) i j = true := by
 intro m
 induction m with
 | zero =>
  intro i j h
  have h2 : (i == j) = true := h
  show (i == j || _) = true
  rw [h2]; rfl
 | succ m ih =>
  intro i j h
  rw [optI] at h ⊢
  rcases (Bool.or_eq_true _ _).mp h with h | h
  ·
   simp [h]
  ·
   obtain ⟨k, h1, h2, h3⟩ := anyK_iff.1 h
   rw [Bool.and_eq_true] at h3
   rw [Bool.or_eq_true]
   exact .inr (anyK_iff.2 ⟨k, h1, h2, by rw [Bool.and_eq_true]; exact ⟨h3.1, ih k j h3.2⟩⟩)
theorem opt_eq (a : Mt) : ∀ m i j, optM a m i j = optI a m i j := by
 intro m
 induction m with
 | zero => intro i j; rfl
 | succ m ih =>
  intro i j
  rw [Bool.eq_iff_iff, optM, optI, Bool.or_eq_true, Bool.or_eq_true]
  constructor
  ·
   rintro (h | h)
   ·
    exact .inl h
   ·
    obtain ⟨k, h1, h2, h3⟩ := anyK_iff.1 h
    rw [Bool.and_eq_true, ih] at h3
    by_cases hk : k = i
    ·
     subst hk
     have := optI_more a m k j h3.2
     exact (Bool.or_eq_true _ _).mp this
    ·
     exact .inr (anyK_iff.2 ⟨k, by omega, h2, by rw [Bool.and_eq_true]; exact h3⟩)
  ·
   rintro (h | h)
   ·
    exact .inl h
   ·
    obtain ⟨k, h1, h2, h3⟩ := anyK_iff.1 h
    exact .inr (anyK_iff.2 ⟨k, by omega, h2, by rw [ih]; exact h3⟩)
def timesM (a rest : Mt) : Nat → Mt
 | 0 => rest
 | n + 1 => catM a (timesM a rest n)
def tailM (a : Mt) (n : Nat) (m : Int) : Mt := if m < 0 then starM a else optM a (m - n).toNat
def repM (a : Mt) (n : Nat) (m : Int) : Mt := timesM a (tailM a n m) n
def inS (s : ByteArray) (c : Int) : Bool := s.data.toList.any fun b => ((b.toNat : Nat) : Int) == c
mutual
def mat (tx : Nat → Int) (n : Nat) : S31 → Mt
 | ⟨k, a, m, s, l⟩ => fun i j =>
  if k = 1 then j == i + 1 && decide (tx i = a)
  else if k = 2 then j == i + 1
  else if k = 3 then j == i + 1 && inS s (tx i)
  else if k = 4 then i == 0 && j == 0
  else if k = 5 then i == n && j == i
  else if k = 6 then matHd tx n l i j
  else if k = 7 then matCat tx n l i j
  else if k = 8 then matAlt tx n l i j
  else if k = 9 then repM (matHd tx n l) a.toNat m i j
  else false
def matHd (tx : Nat → Int) (n : Nat) : List S31 → Mt
 | [] => fun _ _ => false
 | x :: _ => mat tx n x
def matCat (tx : Nat → Int) (n : Nat) : List S31 → Mt
 | [] => fun i j => i == j
 | x :: l => catM (mat tx n x) (matCat tx n l)
def matAlt (tx : Nat → Int) (n : Nat) : List S31 → Mt
 | [] => fun _ _ => false
 | x :: l => fun i j => mat tx n x i j || matAlt tx n l i j
end
def spTimes (a rest : Mt) (sa sr : Nat → Nat → List Int → List Int) : Nat → Nat → Nat → List Int → List Int
 | 0, i, j, out => sr i j out
 | n + 1, i, j, out => match lastK i (fun k => a i k && timesM a rest n k j) j with
  | some k => spTimes a rest sa sr n k j (sa i k out)
  | none => out
def spStarF (a : Mt) (sa : Nat → Nat → List Int → List Int) : Nat → Nat → Nat → List Int → List Int
 | 0, _, _, out => out
 | f + 1, i, j, out => if i < j then (match lastK (i + 1) (fun k => a i k && starM a k j) j with
   | some k => spStarF a sa f k j (sa i k out)
   | none => out) else out
def spOpt (a : Mt) (sa : Nat → Nat → List Int → List Int) : Nat → Nat → Nat → List Int → List Int
 | 0, _, _, out => out
 | m + 1, i, j, out => if i < j then (match lastK (i + 1) (fun k => a i k && optM a m k j) j with
   | some k => spOpt a sa m k j (sa i k out)
   | none => out) else out
def spTail (a : Mt) (sa : Nat → Nat → List Int → List Int) (n : Nat) (m : Int) : Nat → Nat → List Int → List Int := if m < 0 then fun i j => spStarF a sa (j - i) i j else spOpt a sa (m - n).toNat
mutual
def sp (tx : Nat → Int) (n : Nat) : S31 → Nat → Nat → List Int → List Int
 | ⟨k, a, m, _, l⟩ => fun i j out =>
  if k = 6 then spHd tx n l i j ((out.set (2 * a).toNat (i : Int)).set (2 * a + 1).toNat (j : Int))
  else if k = 7 then spCat tx n l i j out
  else if k = 8 then spAlt tx n l i j out
  else if k = 9 then spTimes (matHd tx n l) (tailM (matHd tx n l) a.toNat m) (spHd tx n l) (spTail (matHd tx n l) (spHd tx n l) a.toNat m) a.toNat i j out
  else out
def spHd (tx : Nat → Int) (n : Nat) : List S31 → Nat → Nat → List Int → List Int
 | [] => fun _ _ out => out
 | x :: _ => sp tx n x
def spCat (tx : Nat → Int) (n : Nat) : List S31 → Nat → Nat → List Int → List Int
 | [] => fun _ _ out => out
 | x :: l => fun i j out => match lastK i (fun k => mat tx n x i k && matCat tx n l k j) j with
  | some k => spCat tx n l k j (sp tx n x i k out)
  | none => out
def spAlt (tx : Nat → Int) (n : Nat) : List S31 → Nat → Nat → List Int → List Int
 | [] => fun _ _ out => out
 | x :: l => fun i j out => if mat tx n x i j = true then sp tx n x i j out else spAlt tx n l i j out
end
theorem opt_last (a : Mt) (m i j : Nat) (hij : i < j) (h : optM a (m + 1) i j = true) : lastK i (fun k => a i k && optM a m k j) j = lastK (i + 1) (fun k => a i k && optM a m k j) j := by
 have h2 : optI a (m + 1) i j = true := by rw [← opt_eq]; exact h
 rw [optI, Bool.or_eq_true] at h2
 have h3 : anyK (i + 1) j (fun k => a i k && optM a m k j) = true := by
  rcases h2 with h2 | h2
  ·
   have := beq_iff_eq.1 h2; omega
  ·
   obtain ⟨k, p, q, r⟩ := anyK_iff.1 h2
   exact anyK_iff.2 ⟨k, p, q, by rw [opt_eq]; exact r⟩
 obtain ⟨k, hk⟩ := lastK_is h3
 obtain ⟨p, q, r, s⟩ := lastK_some hk
 rw [hk]
 exact lastK_eq (by omega) q r s
def onw (tx : Nat → Int) (n : Nat) : S31 → Nat → Mt
 | ⟨k, a, m, _, l⟩, d => if k = 7 then matCat tx n (l.drop d) else if d < a.toNat then timesM (matHd tx n l) (tailM (matHd tx n l) a.toNat m) (a.toNat - d) else if m < 0 then starM (matHd tx n l) else optI (matHd tx n l) (m - d).toNat
theorem onw_cat (tx : Nat → Int) (n : Nat) (a m : Int) (s : ByteArray) (l : List S31) (d : Nat) (hd : d < l.length) : onw tx n ⟨7, a, m, s, l⟩ d = catM (mat tx n l[d]) (onw tx n ⟨7, a, m, s, l⟩ (d + 1)) := by
 rw [onw, onw, if_pos rfl, if_pos rfl, List.drop_eq_getElem_cons hd, matCat]
theorem onw_cat_end (tx : Nat → Int) (n : Nat) (a m : Int) (s : ByteArray) (l : List S31) (i j : Nat) : onw tx n ⟨7, a, m, s, l⟩ l.length i j = (i == j) := by
 rw [onw, if_pos rfl, List.drop_eq_nil_of_le (Nat.le_refl _), matCat]
theorem tail_eq (a : Mt) (n : Nat) (m : Int) : tailM a n m = if m < 0 then starM a else optI a (m - n).toNat := by
 unfold tailM
 by_cases h : m < 0
 ·
  rw [if_pos h, if_pos h]
 ·
  rw [if_neg h, if_neg h]
  funext i j
  exact opt_eq a _ i j
theorem onw_must (tx : Nat → Int) (n : Nat) (a m : Int) (s : ByteArray) (l : List S31) (d : Nat) (hd : d < a.toNat) : onw tx n ⟨9, a, m, s, l⟩ d = catM (matHd tx n l) (onw tx n ⟨9, a, m, s, l⟩ (d + 1)) := by
 rw [onw, onw, if_neg (show ¬ ((9 : Int) = 7) by decide), if_neg (show ¬ ((9 : Int) = 7) by decide), if_pos hd]
 obtain ⟨q, hq⟩ : ∃ q, a.toNat - d = q + 1 := ⟨a.toNat - d - 1, by omega⟩
 rw [hq, timesM]
 by_cases h : d + 1 < a.toNat
 ·
  rw [if_pos h, show a.toNat - (d + 1) = q by omega]
 ·
  rw [if_neg h, show q = 0 by omega, timesM, tail_eq, show d + 1 = a.toNat by omega]
theorem onw_star (tx : Nat → Int) (n : Nat) (a m : Int) (s : ByteArray) (l : List S31) (d : Nat) (hd : ¬ d < a.toNat) (hm : m < 0) (i j : Nat) :
  onw tx n ⟨9, a, m, s, l⟩ d i j = (i == j || anyK (i + 1) j fun k => matHd tx n l i k && onw tx n ⟨9, a, m, s, l⟩ (d + 1) k j) := by
 rw [onw, if_neg (by decide), if_neg hd, if_pos hm, starM_eq]
 congr 1
 refine anyK_congr (fun k _ _ => ?_)
 rw [onw, if_neg (by decide), if_neg (by omega), if_pos hm]
theorem onw_same (tx : Nat → Int) (n : Nat) (a m : Int) (s : ByteArray) (l : List S31) (d : Nat) (hd : ¬ d < a.toNat) (hm : m < 0) : onw tx n ⟨9, a, m, s, l⟩ d = onw tx n ⟨9, a, m, s, l⟩ a.toNat := by
 rw [onw, onw, if_neg (show ¬ ((9 : Int) = 7) by decide), if_neg hd, if_pos hm, if_neg (show ¬ ((9 : Int) = 7) by decide), if_neg (by omega), if_pos hm]
theorem onw_opt (tx : Nat → Int) (n : Nat) (a m : Int) (s : ByteArray) (l : List S31) (d : Nat) (hd : ¬ d < a.toNat) (hm : ¬ m < 0) (hdm : (d : Int) < m) (i j : Nat) :
  onw tx n ⟨9, a, m, s, l⟩ d i j = (i == j || anyK (i + 1) j fun k => matHd tx n l i k && onw tx n ⟨9, a, m, s, l⟩ (d + 1) k j) := by
 obtain ⟨q, hq⟩ : ∃ q, (m - (d : Int)).toNat = q + 1 := ⟨(m - (d : Int)).toNat - 1, by omega⟩
 rw [onw, if_neg (by decide), if_neg hd, if_neg hm, hq, optI]
 congr 1
 refine anyK_congr (fun k _ _ => ?_)
 rw [onw, if_neg (by decide), if_neg (by omega), if_neg hm, show (m - ((d + 1 : Nat) : Int)).toNat = q by omega]
theorem onw_end (tx : Nat → Int) (n : Nat) (a m : Int) (s : ByteArray) (l : List S31) (d : Nat) (hd : ¬ d < a.toNat) (hm : ¬ m < 0) (hdm : ¬ (d : Int) < m) (i j : Nat) : onw tx n ⟨9, a, m, s, l⟩ d i j = (i == j) := by
 rw [onw, if_neg (by decide), if_neg hd, if_neg hm, show (m - (d : Int)).toNat = 0 by omega]
 rfl
theorem onw_zero (tx : Nat → Int) (n : Nat) (k a m : Int) (s : ByteArray) (l : List S31) (hk : k = 7 ∨ k = 9) (i j : Nat) : onw tx n ⟨k, a, m, s, l⟩ 0 i j = mat tx n ⟨k, a, m, s, l⟩ i j := by
 rcases hk with rfl | rfl
 ·
  rw [onw, if_pos rfl, List.drop_zero, mat]
  rfl
 ·
  rw [onw, if_neg (by decide), mat]
  simp only [show ¬ ((9 : Int) = 1) by decide, show ¬ ((9 : Int) = 2) by decide, show ¬ ((9 : Int) = 3) by decide, show ¬ ((9 : Int) = 4) by decide, show ¬ ((9 : Int) = 5) by decide, show ¬ ((9 : Int) = 6) by decide, show ¬ ((9 : Int) = 7) by decide, show ¬ ((9 : Int) = 8) by decide, if_false, if_true]
  unfold repM
  by_cases h : 0 < a.toNat
  ·
   rw [if_pos h, Nat.sub_zero]
  ·
   rw [if_neg h, tail_eq, show a.toNat = 0 by omega, timesM]
abbrev Spf := Nat → Nat → List Int → List Int
def ndMat (tx : Nat → Int) (n : Nat) (x : S85) (den : Nat → Mt) : Mt := fun i j =>
 if x.f0 = 1 then j == i + 1 && decide (tx i = x.f1)
 else if x.f0 = 2 then j == i + 1
 else if x.f0 = 3 then j == i + 1 && inS x.f2 (tx i)
 else if x.f0 = 4 then i == 0 && j == 0
 else if x.f0 = 5 then i == n && j == i
 else if x.f0 = 21 then i == j
 else if x.f0 = 6 then den x.f3.toNat i j
 else if x.f0 = 8 then den x.f3.toNat i j || den x.f4.toNat i j
 else if x.f0 = 20 then i == j || den x.f3.toNat i j
 else if x.f0 = 9 then starM (den x.f3.toNat) i j
 else catM (den x.f3.toNat) (den x.f4.toNat) i j
def ndSp (x : S85) (den : Nat → Mt) (spf : Nat → Spf) : Spf := fun i j out =>
 if x.f0 = 6 then spf x.f3.toNat i j ((out.set (2 * x.f1).toNat (i : Int)).set (2 * x.f1 + 1).toNat (j : Int))
 else if x.f0 = 8 then (if den x.f3.toNat i j = true then spf x.f3.toNat i j out else spf x.f4.toNat i j out)
 else if x.f0 = 20 then (if i < j then spf x.f3.toNat i j out else out)
 else if x.f0 = 9 then spStarF (den x.f3.toNat) (spf x.f3.toNat) (j - i) i j out
 else if x.f0 = 7 then (match lastK i (fun k => den x.f3.toNat i k && den x.f4.toNat k j) j with
  | some k => spf x.f4.toNat k j (spf x.f3.toNat i k out)
  | none => out)
 else out
def ndOk (x : S85) (k : Nat) : Prop := 0 ≤ x.f3 ∧ 0 ≤ x.f4 ∧ (x.f0 = 6 ∨ x.f0 = 8 ∨ x.f0 = 20 ∨ x.f0 = 9 ∨ x.f0 = 7 → x.f3.toNat < k) ∧ (x.f0 = 8 ∨ x.f0 = 7 → x.f4.toNat < k)
def ndGood (tx : Nat → Int) (n : Nat) (ns : List S85) (den : Nat → Mt) (spf : Nat → Spf) : Prop :=
 ∀ (k : Nat) (x : S85), ns[k]? = some x → ndOk x k ∧ (1 ≤ x.f0 ∧ x.f0 ≤ 9 ∨ x.f0 = 20 ∨ x.f0 = 21) ∧ (∀ i j, den k i j = ndMat tx n x den i j) ∧ ∀ i j out, spf k i j out = ndSp x den spf i j out
theorem ndMat_congr {tx : Nat → Int} {n : Nat} {x : S85} {k : Nat} (h : ndOk x k) (hk : 1 ≤ x.f0 ∧ x.f0 ≤ 9 ∨ x.f0 = 20 ∨ x.f0 = 21) {den den' : Nat → Mt} (hd : ∀ q, q < k → den' q = den q) (i j : Nat) : ndMat tx n x den' i j = ndMat tx n x den i j := by
 obtain ⟨_, _, h3, h4⟩ := h
 unfold ndMat
 by_cases c1 : x.f0 = 1
 ·
  rw [if_pos c1, if_pos c1]
 by_cases c2 : x.f0 = 2
 ·
  rw [if_neg c1, if_neg c1, if_pos c2, if_pos c2]
 by_cases c3 : x.f0 = 3
 ·
  simp only [if_neg c1, if_neg c2, if_pos c3]
 by_cases c4 : x.f0 = 4
 ·
  simp only [if_neg c1, if_neg c2, if_neg c3, if_pos c4]
 by_cases c5 : x.f0 = 5
 ·
  simp only [if_neg c1, if_neg c2, if_neg c3, if_neg c4, if_pos c5]
 by_cases c21 : x.f0 = 21
 ·
  simp only [if_neg c1, if_neg c2, if_neg c3, if_neg c4, if_neg c5, if_pos c21]
 have ha := hd _ (h3 (by omega))
 by_cases c6 : x.f0 = 6
 ·
  simp only [if_neg c1, if_neg c2, if_neg c3, if_neg c4, if_neg c5, if_neg c21, if_pos c6, ha]
 by_cases c8 : x.f0 = 8
 ·
  simp only [if_neg c1, if_neg c2, if_neg c3, if_neg c4, if_neg c5, if_neg c21, if_neg c6, if_pos c8, ha, hd _ (h4 (by omega))]
 by_cases c20 : x.f0 = 20
 ·
  simp only [if_neg c1, if_neg c2, if_neg c3, if_neg c4, if_neg c5, if_neg c21, if_neg c6, if_neg c8, if_pos c20, ha]
 by_cases c9 : x.f0 = 9
 ·
  simp only [if_neg c1, if_neg c2, if_neg c3, if_neg c4, if_neg c5, if_neg c21, if_neg c6, if_neg c8, if_neg c20, if_pos c9, ha]
 simp only [if_neg c1, if_neg c2, if_neg c3, if_neg c4, if_neg c5, if_neg c21, if_neg c6, if_neg c8, if_neg c20, if_neg c9, ha, hd _ (h4 (by omega))]
theorem ndSp_congr {x : S85} {k : Nat} (h : ndOk x k) {den den' : Nat → Mt} {spf spf' : Nat → Spf} (hd : ∀ q, q < k → den' q = den q ∧ spf' q = spf q) (i j : Nat) (out : List Int) : ndSp x den' spf' i j out = ndSp x den spf i j out := by
 obtain ⟨_, _, h3, h4⟩ := h
 unfold ndSp
 by_cases c6 : x.f0 = 6
 ·
  simp only [if_pos c6, (hd _ (h3 (by omega))).2]
 by_cases c8 : x.f0 = 8
 ·
  simp only [if_neg c6, if_pos c8, (hd _ (h3 (by omega))).1, (hd _ (h3 (by omega))).2, (hd _ (h4 (by omega))).2]
 by_cases c20 : x.f0 = 20
 ·
  simp only [if_neg c6, if_neg c8, if_pos c20, (hd _ (h3 (by omega))).2]
 by_cases c9 : x.f0 = 9
 ·
  simp only [if_neg c6, if_neg c8, if_neg c20, if_pos c9, (hd _ (h3 (by omega))).1, (hd _ (h3 (by omega))).2]
 by_cases c7 : x.f0 = 7
 ·
  simp only [if_neg c6, if_neg c8, if_neg c20, if_neg c9, if_pos c7, (hd _ (h3 (by omega))).1, (hd _ (h3 (by omega))).2, (hd _ (h4 (by omega))).1, (hd _ (h4 (by omega))).2]
 simp only [if_neg c6, if_neg c8, if_neg c20, if_neg c9, if_neg c7]
theorem nd_add {tx : Nat → Int} {n : Nat} {ns : List S85} {den : Nat → Mt} {spf : Nat → Spf} (h : ndGood tx n ns den spf) (x : S85) (hx : ndOk x ns.length) (hk : 1 ≤ x.f0 ∧ x.f0 ≤ 9 ∨ x.f0 = 20 ∨ x.f0 = 21) :
  ∃ den' spf', ndGood tx n (ns ++ [x]) den' spf' ∧ (∀ q, q < ns.length → den' q = den q ∧ spf' q = spf q) ∧ den' ns.length = ndMat tx n x den ∧ spf' ns.length = ndSp x den spf := by
 refine ⟨fun q => if q = ns.length then ndMat tx n x den else den q, fun q => if q = ns.length then ndSp x den spf else spf q, fun k y hy => ?_, fun q hq => ⟨if_neg (by omega), if_neg (by omega)⟩, if_pos rfl, if_pos rfl⟩
 have hlt : k < ns.length + 1 := by have := (List.getElem?_eq_some_iff.1 hy).1; simp at this; exact this
 have hsame : ∀ q, q < ns.length → (if q = ns.length then ndMat tx n x den else den q) = den q ∧ (if q = ns.length then ndSp x den spf else spf q) = spf q := fun q hq => ⟨if_neg (by omega), if_neg (by omega)⟩
 by_cases hq : k = ns.length
 ·
  subst hq
  have hyx : y = x := by simpa using hy.symm
  subst hyx
  refine ⟨hx, hk, fun i j => ?_, fun i j out => ?_⟩
  ·
   rw [ndMat_congr hx hk (fun q hq => (hsame q hq).1)]; exact congrFun (congrFun (if_pos rfl) i) j
  ·
   rw [ndSp_congr hx (fun q hq => hsame q hq)]; exact congrFun (congrFun (congrFun (if_pos rfl) i) j) out
 ·
  have hy2 : ns[k]? = some y := by rw [List.getElem?_append_left (by omega)] at hy; exact hy
  obtain ⟨g1, g2, g3, g4⟩ := h k y hy2
  refine ⟨g1, g2, fun i j => ?_, fun i j out => ?_⟩
  ·
   rw [ndMat_congr g1 g2 (fun q hq2 => (hsame q (by omega)).1), ← g3]; exact congrFun (congrFun (if_neg hq) i) j
  ·
   rw [ndSp_congr g1 (fun q hq2 => hsame q (by omega)), ← g4]; exact congrFun (congrFun (congrFun (if_neg hq) i) j) out
def nd0 : S85 := ⟨21, 0, ⟨#[]⟩, 0, 0⟩
def nd2 (k : Int) (a b : Nat) : S85 := ⟨k, 0, ⟨#[]⟩, (a : Int), (b : Int)⟩
def mkOpt (a : Nat) : Nat → Nat → List S85 → List S85 × Nat
 | 0, rest, ns => (ns, rest)
 | c + 1, rest, ns => mkOpt a c (ns.length + 1) (ns ++ [nd2 7 a rest] ++ [nd2 20 ns.length 0])
def mkTimes (a : Nat) : Nat → Nat → List S85 → List S85 × Nat
 | 0, rest, ns => (ns, rest)
 | c + 1, rest, ns => mkTimes a c ns.length (ns ++ [nd2 7 a rest])
def mkRep (a : Nat) (n m : Int) (ns : List S85) : List S85 × Nat :=
 if m < 0 then mkTimes a n.toNat (ns.length + 1) (ns ++ [nd0] ++ [nd2 9 a 0])
 else mkTimes a n.toNat (mkOpt a (m - n).toNat ns.length (ns ++ [nd0])).2 (mkOpt a (m - n).toNat ns.length (ns ++ [nd0])).1
mutual
def mk : S31 → List S85 → List S85 × Nat
 | ⟨k, a, m, s, l⟩ => fun ns =>
  if k = 6 then ((mkHd l ns).1 ++ [⟨6, a, ⟨#[]⟩, ((mkHd l ns).2 : Int), 0⟩], (mkHd l ns).1.length)
  else if k = 7 ∨ k = 8 then (if l.isEmpty = true then (ns ++ [nd0], ns.length) else mkL k l ns)
  else if k = 9 then mkRep (mkHd l ns).2 a m (mkHd l ns).1
  else (ns ++ [⟨k, a, s, 0, 0⟩], ns.length)
def mkHd : List S31 → List S85 → List S85 × Nat
 | [] => fun ns => (ns, 0)
 | x :: _ => mk x
def mkL (kd : Int) : List S31 → List S85 → List S85 × Nat
 | [] => fun ns => (ns, 0)
 | x :: l => fun ns => if l.isEmpty = true then mk x ns else ((mk x (mkL kd l ns).1).1 ++ [nd2 kd (mk x (mkL kd l ns).1).2 (mkL kd l ns).2], (mk x (mkL kd l ns).1).1.length)
end
mutual
def rxW : S31 → Prop
 | ⟨k, a, m, _, l⟩ => 1 ≤ k ∧ k ≤ 9 ∧ (k = 6 ∨ k = 9 → l.length = 1) ∧ (k = 9 → 0 ≤ a ∧ a ≤ 20 ∧ (m < 0 ∨ a ≤ m ∧ m ≤ 20)) ∧ (k = 8 → 1 ≤ l.length) ∧ (k = 6 → 1 ≤ a ∧ a ≤ 9) ∧ rxWL l
def rxWL : List S31 → Prop
 | [] => True
 | x :: l => rxW x ∧ rxWL l
end
def Same (a b : Mt) : Prop := ∀ i j, i ≤ j → a i j = b i j
def SameS (a : Mt) (s t : Spf) : Prop := ∀ i j out, i ≤ j → a i j = true → s i j out = t i j out
theorem catM_same {a a' b b' : Mt} (h1 : Same a a') (h2 : Same b b') (i j : Nat) : catM a b i j = catM a' b' i j :=
 anyK_congr (fun k p q => by rw [h1 i k p, h2 k j q])
theorem starF_same {a a' : Mt} (h : Same a a') : ∀ f i j, starF a f i j = starF a' f i j := by
 intro f
 induction f with
 | zero => intro i j; rfl
 | succ f ih =>
  intro i j
  rw [starF, starF]
  congr 1
  exact anyK_congr (fun k p q => by rw [h i k (by omega), ih k j])
theorem starM_same {a a' : Mt} (h : Same a a') (i j : Nat) : starM a i j = starM a' i j := starF_same h _ i j
theorem starF_le (a : Mt) : ∀ f i j, starF a f i j = true → i ≤ j := by
 intro f
 induction f with
 | zero => intro i j h; have := beq_iff_eq.1 (show (i == j) = true from h); omega
 | succ f ih =>
  intro i j h
  rw [starF, Bool.or_eq_true] at h
  rcases h with h | h
  ·
   have := beq_iff_eq.1 h; omega
  ·
   obtain ⟨k, p, q, _⟩ := anyK_iff.1 h; omega
theorem spStar_same {a a' : Mt} {s s' : Spf} (h : Same a a') (hs : SameS a s s') : ∀ f i j out, spStarF a s f i j out = spStarF a' s' f i j out := by
 intro f
 induction f with
 | zero => intro i j out; rfl
 | succ f ih =>
  intro i j out
  rw [spStarF, spStarF]
  by_cases c : i < j
  ·
   rw [if_pos c, if_pos c, lastK_congr (q := fun k => a' i k && starM a' k j) (fun k p q => by rw [h i k (by omega), starM_same h])]
   cases hk : lastK (i + 1) (fun k => a' i k && starM a' k j) j with
   | none => rfl
   | some k =>
    obtain ⟨p, q, r, _⟩ := lastK_some hk
    rw [Bool.and_eq_true] at r
    simp only
    rw [hs i k out (by omega) (by rw [h i k (by omega)]; exact r.1), ih]
  ·
   rw [if_neg c, if_neg c]
def Ext (ns ns' : List S85) (den den' : Nat → Mt) (spf spf' : Nat → Spf) : Prop := ns.length ≤ ns'.length ∧ ∀ q, q < ns.length → den' q = den q ∧ spf' q = spf q
theorem Ext.trans {ns ns' ns2 : List S85} {d d' d2 : Nat → Mt} {s s' s2 : Nat → Spf} (h : Ext ns ns' d d' s s') (h2 : Ext ns' ns2 d' d2 s' s2) : Ext ns ns2 d d2 s s2 :=
 ⟨Nat.le_trans h.1 h2.1, fun q hq => ⟨(h2.2 q (by have := h.1; omega)).1.trans (h.2 q hq).1, (h2.2 q (by have := h.1; omega)).2.trans (h.2 q hq).2⟩⟩
theorem Ext.refl (ns : List S85) (d : Nat → Mt) (s : Nat → Spf) : Ext ns ns d d s s := ⟨Nat.le_refl _, fun _ _ => ⟨rfl, rfl⟩⟩
def Stands (ns : List S85) (den : Nat → Mt) (spf : Nat → Spf) (k : Nat) (M : Mt) (S : Spf) : Prop := k < ns.length ∧ Same (den k) M ∧ SameS (den k) (spf k) S
theorem Stands.ext {ns ns' : List S85} {d d' : Nat → Mt} {s s' : Nat → Spf} {k : Nat} {M : Mt} {S : Spf} (h : Stands ns d s k M S) (he : Ext ns ns' d d' s s') : Stands ns' d' s' k M S := by
 obtain ⟨h1, h2, h3⟩ := h
 obtain ⟨e1, e2⟩ := he.2 k h1
 have := he.1
 exact ⟨by omega, by rw [e1]; exact h2, by rw [e1, e2]; exact h3⟩
def spBoth (a r : Mt) (sa sr : Spf) : Spf := fun i j out => match lastK i (fun k => a i k && r k j) j with
 | some k => sr k j (sa i k out)
 | none => out
theorem spBoth_same {a a' r r' : Mt} {s s' t t' : Spf} (h : Same a a') (hr : Same r r') (hs : SameS a s s') (ht : SameS r t t') (i j : Nat) (out : List Int) : spBoth a r s t i j out = spBoth a' r' s' t' i j out := by
 unfold spBoth
 rw [lastK_congr (q := fun k => a' i k && r' k j) (fun k p q => by rw [h i k p, hr k j q])]
 cases hk : lastK i (fun k => a' i k && r' k j) j with
 | none => rfl
 | some k =>
  obtain ⟨p, q, w, _⟩ := lastK_some hk
  rw [Bool.and_eq_true] at w
  simp only
  rw [hs i k out p (by rw [h i k p]; exact w.1), ht k j _ q (by rw [hr k j q]; exact w.2)]
theorem add7 {tx : Nat → Int} {n : Nat} {ns : List S85} {den : Nat → Mt} {spf : Nat → Spf} (h : ndGood tx n ns den spf) {a r : Nat} {A R : Mt} {SA SR : Spf} (ha : Stands ns den spf a A SA) (hr : Stands ns den spf r R SR) :
  ∃ den' spf', ndGood tx n (ns ++ [nd2 7 a r]) den' spf' ∧ Ext ns (ns ++ [nd2 7 a r]) den den' spf spf' ∧ Stands (ns ++ [nd2 7 a r]) den' spf' ns.length (catM A R) (spBoth A R SA SR) := by
 obtain ⟨den', spf', g, e, e1, e2⟩ := nd_add h (nd2 7 a r) ⟨Int.natCast_nonneg _, Int.natCast_nonneg _, fun _ => by simpa [nd2] using ha.1, fun _ => by simpa [nd2] using hr.1⟩ (.inl ⟨by show (1 : Int) ≤ 7; decide, by show (7 : Int) ≤ 9; decide⟩)
 refine ⟨den', spf', g, ⟨by simp, e⟩, by simp, fun i j hij => ?_, fun i j out hij hm => ?_⟩
 ·
  rw [e1]; exact catM_same ha.2.1 hr.2.1 i j
 ·
  rw [e2]; exact spBoth_same ha.2.1 hr.2.1 ha.2.2 hr.2.2 i j out
theorem times_good {tx : Nat → Int} {n : Nat} {a : Nat} {A R : Mt} {SA SR : Spf} : ∀ (c : Nat) (ns : List S85) (den : Nat → Mt) (spf : Nat → Spf) (b r : Nat), ndGood tx n ns den spf → Stands ns den spf a A SA → Stands ns den spf r (timesM A R b) (spTimes A R SA SR b) →
  ∃ den' spf', ndGood tx n (mkTimes a c r ns).1 den' spf' ∧ Ext ns (mkTimes a c r ns).1 den den' spf spf' ∧ Stands (mkTimes a c r ns).1 den' spf' (mkTimes a c r ns).2 (timesM A R (b + c)) (spTimes A R SA SR (b + c)) := by
 intro c
 induction c with
 | zero => intro ns den spf b r h ha hr; exact ⟨den, spf, h, Ext.refl _ _ _, hr⟩
 | succ c ih =>
  intro ns den spf b r h ha hr
  obtain ⟨d1, s1, g1, e1, t1⟩ := add7 h ha hr
  obtain ⟨d2, s2, g2, e2, t2⟩ := ih (ns ++ [nd2 7 a r]) d1 s1 (b + 1) ns.length g1 (ha.ext e1) t1
  rw [show b + (c + 1) = b + 1 + c by omega]
  exact ⟨d2, s2, g2, e1.trans e2, t2⟩
theorem opt_good {tx : Nat → Int} {n : Nat} {a : Nat} {A : Mt} {SA : Spf} : ∀ (c : Nat) (ns : List S85) (den : Nat → Mt) (spf : Nat → Spf) (b r : Nat), ndGood tx n ns den spf → Stands ns den spf a A SA → Stands ns den spf r (optM A b) (spOpt A SA b) →
  ∃ den' spf', ndGood tx n (mkOpt a c r ns).1 den' spf' ∧ Ext ns (mkOpt a c r ns).1 den den' spf spf' ∧ Stands (mkOpt a c r ns).1 den' spf' (mkOpt a c r ns).2 (optM A (b + c)) (spOpt A SA (b + c)) := by
 intro c
 induction c with
 | zero => intro ns den spf b r h ha hr; exact ⟨den, spf, h, Ext.refl _ _ _, hr⟩
 | succ c ih =>
  intro ns den spf b r h ha hr
  obtain ⟨d1, s1, g1, e1, t1⟩ := add7 h ha hr
  have hl : (ns ++ [nd2 7 a r]).length = ns.length + 1 := by simp
  obtain ⟨d2, s2, g2, e2, e3, e4⟩ := nd_add g1 (nd2 20 ns.length 0) ⟨Int.natCast_nonneg _, Int.natCast_nonneg _, fun _ => by simp [nd2], fun hc => by simp [nd2] at hc⟩ (.inr (.inl rfl))
  have E2 : Ext (ns ++ [nd2 7 a r]) (ns ++ [nd2 7 a r] ++ [nd2 20 ns.length 0]) d1 d2 s1 s2 := ⟨by simp, e2⟩
  have T2 : Stands (ns ++ [nd2 7 a r] ++ [nd2 20 ns.length 0]) d2 s2 (ns.length + 1) (optM A (b + 1)) (spOpt A SA (b + 1)) := by
   rw [hl] at e3 e4
   refine ⟨by simp, fun i j hij => ?_, fun i j out hij hm => ?_⟩
   ·
    rw [e3]
    show (i == j || d1 ns.length i j) = _
    rw [t1.2.1 i j hij]
    rfl
   ·
    rw [e4]
    show (if i < j then s1 ns.length i j out else out) = _
    rw [spOpt]
    by_cases hc : i < j
    ·
     rw [if_pos hc, if_pos hc]
     have hm2 : optM A (b + 1) i j = true := by
      rw [e3] at hm
      have h2 : (i == j || d1 ns.length i j) = true := hm
      rw [t1.2.1 i j hij] at h2
      exact h2
     have hd : d1 ns.length i j = true := by
      rw [t1.2.1 i j hij]
      have h2 : (i == j || catM A (optM A b) i j) = true := hm2
      rw [Bool.or_eq_true] at h2
      rcases h2 with h2 | h2
      ·
       have := beq_iff_eq.1 h2; omega
      ·
       exact h2
     rw [t1.2.2 i j out hij hd]
     show (match lastK i (fun k => A i k && optM A b k j) j with | some k => spOpt A SA b k j (SA i k out) | none => out) = _
     rw [opt_last A b i j hc hm2]
    ·
     rw [if_neg hc, if_neg hc]
  obtain ⟨d3, s3, g3, e5, t3⟩ := ih (ns ++ [nd2 7 a r] ++ [nd2 20 ns.length 0]) d2 s2 (b + 1) (ns.length + 1) g2 ((ha.ext e1).ext E2) T2
  rw [show b + (c + 1) = b + 1 + c by omega]
  exact ⟨d3, s3, g3, (e1.trans E2).trans e5, t3⟩
theorem rep_good {tx : Nat → Int} {n : Nat} {a : Nat} {A : Mt} {SA : Spf} (b : Nat) (m : Int) (ns : List S85) (den : Nat → Mt) (spf : Nat → Spf) (h : ndGood tx n ns den spf) (ha : Stands ns den spf a A SA) :
  ∃ den' spf', ndGood tx n (mkRep a b m ns).1 den' spf' ∧ Ext ns (mkRep a b m ns).1 den den' spf spf' ∧ Stands (mkRep a b m ns).1 den' spf' (mkRep a b m ns).2 (repM A b m) (spTimes A (tailM A b m) SA (spTail A SA b m) b) := by
 obtain ⟨d1, s1, g1, e1, e2, e3⟩ := nd_add h nd0 ⟨by decide, by decide, fun hc => by simp [nd0] at hc, fun hc => by simp [nd0] at hc⟩ (.inr (.inr rfl))
 have E1 : Ext ns (ns ++ [nd0]) den d1 spf s1 := ⟨by simp, e1⟩
 unfold mkRep
 by_cases hm : m < 0
 ·
  rw [if_pos hm]
  have ha1 := ha.ext E1
  obtain ⟨d2, s2, g2, f1, f2, f3⟩ := nd_add g1 (nd2 9 a 0) ⟨Int.natCast_nonneg _, Int.natCast_nonneg _, fun _ => by simpa [nd2] using ha1.1, fun hc => by simp [nd2] at hc⟩ (.inl ⟨by show (1 : Int) ≤ 9; decide, by show (9 : Int) ≤ 9; decide⟩)
  have E2 : Ext (ns ++ [nd0]) (ns ++ [nd0] ++ [nd2 9 a 0]) d1 d2 s1 s2 := ⟨by simp, f1⟩
  have hl : (ns ++ [nd0]).length = ns.length + 1 := by simp
  rw [hl] at f2 f3
  have T2 : Stands (ns ++ [nd0] ++ [nd2 9 a 0]) d2 s2 (ns.length + 1) (timesM A (tailM A b m) 0) (spTimes A (tailM A b m) SA (spTail A SA b m) 0) := by
   refine ⟨by simp, fun i j hij => ?_, fun i j out hij hq => ?_⟩
   ·
    rw [f2, timesM]
    unfold tailM
    rw [if_pos hm]
    exact starM_same ha1.2.1 i j
   ·
    rw [f3, spTimes]
    unfold spTail
    rw [if_pos hm]
    exact spStar_same ha1.2.1 ha1.2.2 _ i j out
  obtain ⟨d3, s3, g3, e5, t3⟩ := times_good b _ d2 s2 0 (ns.length + 1) g2 (ha1.ext E2) T2
  rw [Int.toNat_natCast]
  rw [Nat.zero_add] at t3
  exact ⟨d3, s3, g3, (E1.trans E2).trans e5, t3⟩
 ·
  rw [if_neg hm]
  have T1 : Stands (ns ++ [nd0]) d1 s1 ns.length (optM A 0) (spOpt A SA 0) := by
   refine ⟨by simp, fun i j hij => ?_, fun i j out hij hq => ?_⟩
   ·
    rw [e2]; rfl
   ·
    rw [e3]; rfl
  obtain ⟨d2, s2, g2, E2, t2⟩ := opt_good (m - b).toNat _ d1 s1 0 ns.length g1 (ha.ext E1) T1
  rw [Nat.zero_add] at t2
  have T2 : Stands (mkOpt a (m - b).toNat ns.length (ns ++ [nd0])).1 d2 s2 (mkOpt a (m - b).toNat ns.length (ns ++ [nd0])).2 (timesM A (tailM A b m) 0) (spTimes A (tailM A b m) SA (spTail A SA b m) 0) := by
   obtain ⟨p, q, r⟩ := t2
   refine ⟨p, fun i j hij => ?_, fun i j out hij hq => ?_⟩
   ·
    rw [q i j hij, timesM]; unfold tailM; rw [if_neg hm]
   ·
    rw [r i j out hij hq, spTimes]; unfold spTail; rw [if_neg hm]
  obtain ⟨d3, s3, g3, e5, t3⟩ := times_good b _ d2 s2 0 _ g2 ((ha.ext E1).ext E2) T2
  rw [Int.toNat_natCast]
  rw [Nat.zero_add] at t3
  exact ⟨d3, s3, g3, (E1.trans E2).trans e5, t3⟩
theorem cat_nil (a : Mt) : Same a (catM a (fun i j => i == j)) := by
 intro i j hij
 unfold catM
 rw [Bool.eq_iff_iff, anyK_iff]
 constructor
 ·
  intro h; exact ⟨j, hij, Nat.le_refl _, by simp [h]⟩
 ·
  rintro ⟨k, _, _, h⟩
  rw [Bool.and_eq_true] at h
  rw [beq_iff_eq.1 h.2] at h
  exact h.1
theorem last_nil (a : Mt) {i j : Nat} (hij : i ≤ j) (h : a i j = true) : lastK i (fun k => a i k && k == j) j = some j :=
 lastK_eq hij (Nat.le_refl _) (by simp [h]) (fun q h1 h2 => by omega)
theorem mk_good (tx : Nat → Int) (n : Nat) : ∀ (N : Nat),
  (∀ x : S31, SizeOf.sizeOf x ≤ N → rxW x → ∀ (ns : List S85) (den : Nat → Mt) (spf : Nat → Spf), ndGood tx n ns den spf →
   ∃ den' spf', ndGood tx n (mk x ns).1 den' spf' ∧ Ext ns (mk x ns).1 den den' spf spf' ∧ Stands (mk x ns).1 den' spf' (mk x ns).2 (mat tx n x) (sp tx n x)) ∧
  (∀ l : List S31, SizeOf.sizeOf l ≤ N → rxWL l → l ≠ [] → ∀ (ns : List S85) (den : Nat → Mt) (spf : Nat → Spf), ndGood tx n ns den spf →
   (∃ den' spf', ndGood tx n (mkL 7 l ns).1 den' spf' ∧ Ext ns (mkL 7 l ns).1 den den' spf spf' ∧ Stands (mkL 7 l ns).1 den' spf' (mkL 7 l ns).2 (matCat tx n l) (spCat tx n l)) ∧
   (∃ den' spf', ndGood tx n (mkL 8 l ns).1 den' spf' ∧ Ext ns (mkL 8 l ns).1 den den' spf spf' ∧ Stands (mkL 8 l ns).1 den' spf' (mkL 8 l ns).2 (matAlt tx n l) (spAlt tx n l))) := by
 intro N
 induction N with
 | zero =>
  refine ⟨fun x hx => ?_, fun l hl => ?_⟩
  ·
   cases x; simp at hx
  ·
   cases l <;> simp at hl
 | succ N ih =>
  refine ⟨?_, ?_⟩
  ·
   rintro ⟨k, a, m, s, l⟩ hx hw ns den spf h
   have hl : SizeOf.sizeOf l ≤ N := by simp at hx; omega
   rw [rxW] at hw
   obtain ⟨k1, k2, w1, w2, w3, w4, w5⟩ := hw
   by_cases c6 : k = 6
   ·
    obtain ⟨y, rfl⟩ := List.length_eq_one_iff.1 (w1 (.inl c6))
    have hy : SizeOf.sizeOf y ≤ N := by simp at hl; omega
    rw [rxWL] at w5
    obtain ⟨d1, s1, g1, e1, t1⟩ := ih.1 y hy w5.1 ns den spf h
    obtain ⟨d2, s2, g2, f1, f2, f3⟩ := nd_add g1 ⟨6, a, ⟨#[]⟩, ((mk y ns).2 : Int), 0⟩ ⟨Int.natCast_nonneg _, Int.le_refl _, fun _ => by simpa using t1.1, fun hc => by simp at hc⟩ (.inl ⟨by show (1 : Int) ≤ 6; decide, by show (6 : Int) ≤ 9; decide⟩)
    have em : mk ⟨k, a, m, s, [y]⟩ ns = ((mk y ns).1 ++ [⟨6, a, ⟨#[]⟩, ((mk y ns).2 : Int), 0⟩], (mk y ns).1.length) := by
     rw [mk]; simp only [if_pos c6]; rw [mkHd]
    rw [em]
    refine ⟨d2, s2, g2, e1.trans ⟨by simp, f1⟩, by simp, fun i j hij => ?_, fun i j out hij hm => ?_⟩
    ·
     rw [f2, mat]
     simp only [c6]
     show d1 (mk y ns).2 i j = _
     rw [t1.2.1 i j hij]
     rfl
    ·
     rw [f3, sp]
     simp only [if_pos c6]
     show s1 (mk y ns).2 i j ((out.set (2 * a).toNat (i : Int)).set (2 * a + 1).toNat (j : Int)) = _
     rw [f2] at hm
     rw [t1.2.2 i j _ hij hm]
     rfl
   by_cases c7 : k = 7 ∨ k = 8
   ·
    by_cases ce : l.isEmpty = true
    ·
     obtain rfl : l = [] := List.isEmpty_iff.1 ce
     have c7' : k = 7 := by
      rcases c7 with c7 | c7
      ·
       exact c7
      ·
       have := w3 c7; simp at this
     obtain ⟨d1, s1, g1, e1, e2, e3⟩ := nd_add h nd0 ⟨by decide, by decide, fun hc => by simp [nd0] at hc, fun hc => by simp [nd0] at hc⟩ (.inr (.inr rfl))
     have em : mk ⟨k, a, m, s, []⟩ ns = (ns ++ [nd0], ns.length) := by rw [mk]; simp only [if_neg c6, if_pos c7]; rfl
     rw [em]
     subst c7'
     refine ⟨d1, s1, g1, ⟨by simp, e1⟩, by simp, fun i j hij => ?_, fun i j out hij hm => ?_⟩
     ·
      rw [e2, mat, matCat]; rfl
     ·
      rw [e3, sp, spCat]; rfl
    ·
     have em : mk ⟨k, a, m, s, l⟩ ns = mkL k l ns := by rw [mk]; simp only [if_neg c6, if_pos c7]; rw [if_neg ce]
     rw [em]
     have hne : l ≠ [] := fun hc => ce (by rw [hc]; rfl)
     obtain ⟨p7, p8⟩ := ih.2 l hl w5 hne ns den spf h
     rcases c7 with c7 | c7
     ·
      subst c7
      obtain ⟨d1, s1, g1, e1, t1, t2, t3⟩ := p7
      refine ⟨d1, s1, g1, e1, t1, fun i j hij => ?_, fun i j out hij hm => ?_⟩
      ·
       rw [t2 i j hij, mat]; rfl
      ·
       rw [t3 i j out hij hm, sp]; rfl
     ·
      subst c7
      obtain ⟨d1, s1, g1, e1, t1, t2, t3⟩ := p8
      refine ⟨d1, s1, g1, e1, t1, fun i j hij => ?_, fun i j out hij hm => ?_⟩
      ·
       rw [t2 i j hij, mat]; rfl
      ·
       rw [t3 i j out hij hm, sp]; rfl
   by_cases c9 : k = 9
   ·
    obtain ⟨y, rfl⟩ := List.length_eq_one_iff.1 (w1 (.inr c9))
    have hy : SizeOf.sizeOf y ≤ N := by simp at hl; omega
    rw [rxWL] at w5
    obtain ⟨d1, s1, g1, e1, t1⟩ := ih.1 y hy w5.1 ns den spf h
    obtain ⟨q, rfl⟩ := Int.eq_ofNat_of_zero_le (w2 c9).1
    obtain ⟨d2, s2, g2, e2, t2⟩ := rep_good q m _ d1 s1 g1 t1
    have em : mk ⟨k, (q : Int), m, s, [y]⟩ ns = mkRep (mk y ns).2 (q : Int) m (mk y ns).1 := by
     rw [mk]; simp only [if_neg c6, if_neg c7, if_pos c9]; rw [mkHd]
    rw [em]
    subst c9
    refine ⟨d2, s2, g2, e1.trans e2, t2.1, fun i j hij => ?_, fun i j out hij hm => ?_⟩
    ·
     rw [t2.2.1 i j hij, mat]; rfl
    ·
     rw [t2.2.2 i j out hij hm, sp]; rfl
   ·
    obtain ⟨d1, s1, g1, e1, e2, e3⟩ := nd_add h ⟨k, a, s, 0, 0⟩ ⟨Int.le_refl _, Int.le_refl _, fun hc => by simp at hc; omega, fun hc => by simp at hc; omega⟩ (.inl ⟨k1, k2⟩)
    have em : mk ⟨k, a, m, s, l⟩ ns = (ns ++ [⟨k, a, s, 0, 0⟩], ns.length) := by rw [mk]; simp only [if_neg c6, if_neg c7, if_neg c9]
    rw [em]
    refine ⟨d1, s1, g1, ⟨by simp, e1⟩, by simp, fun i j hij => ?_, fun i j out hij hm => ?_⟩
    ·
     rw [e2, mat]
     unfold ndMat
     have hk : k = 1 ∨ k = 2 ∨ k = 3 ∨ k = 4 ∨ k = 5 := by omega
     rcases hk with rfl | rfl | rfl | rfl | rfl <;> rfl
    ·
     rw [e3, sp]
     unfold ndSp
     have hk : k = 1 ∨ k = 2 ∨ k = 3 ∨ k = 4 ∨ k = 5 := by omega
     rcases hk with rfl | rfl | rfl | rfl | rfl <;> rfl
  ·
   intro l hl hw hne ns den spf h
   cases l with
   | nil => exact absurd rfl hne
   | cons x l =>
    rw [rxWL] at hw
    have hx : SizeOf.sizeOf x ≤ N := by simp at hl; omega
    have hl2 : SizeOf.sizeOf l ≤ N := by simp at hl; omega
    by_cases ce : l.isEmpty = true
    ·
     obtain rfl : l = [] := List.isEmpty_iff.1 ce
     obtain ⟨d1, s1, g1, e1, t1, t2, t3⟩ := ih.1 x hx hw.1 ns den spf h
     have em : ∀ kd, mkL kd [x] ns = mk x ns := fun kd => by rw [mkL]; exact if_pos rfl
     rw [em, em]
     refine ⟨⟨d1, s1, g1, e1, t1, fun i j hij => ?_, fun i j out hij hm => ?_⟩, ⟨d1, s1, g1, e1, t1, fun i j hij => ?_, fun i j out hij hm => ?_⟩⟩
     ·
      rw [t2 i j hij, matCat, matCat]; exact cat_nil _ i j hij
     ·
      rw [t3 i j out hij hm, spCat]
      rw [t2 i j hij] at hm
      have hlast : lastK i (fun k => mat tx n x i k && matCat tx n [] k j) j = some j := by rw [matCat]; exact last_nil _ hij hm
      show sp tx n x i j out = (match lastK i (fun k => mat tx n x i k && matCat tx n [] k j) j with | some k => spCat tx n [] k j (sp tx n x i k out) | none => out)
      rw [hlast]
      show sp tx n x i j out = spCat tx n [] j j (sp tx n x i j out)
      rw [spCat]
     ·
      rw [t2 i j hij, matAlt, matAlt]; simp
     ·
      rw [t3 i j out hij hm, spAlt]
      rw [t2 i j hij] at hm
      show sp tx n x i j out = (if mat tx n x i j = true then sp tx n x i j out else spAlt tx n [] i j out)
      rw [if_pos hm]
    ·
     have hne2 : l ≠ [] := fun hc => ce (by rw [hc]; rfl)
     obtain ⟨p7, p8⟩ := ih.2 l hl2 hw.2 hne2 ns den spf h
     have em : ∀ kd, mkL kd (x :: l) ns = ((mk x (mkL kd l ns).1).1 ++ [nd2 kd (mk x (mkL kd l ns).1).2 (mkL kd l ns).2], (mk x (mkL kd l ns).1).1.length) := fun kd => by rw [mkL]; exact if_neg ce
     rw [em, em]
     refine ⟨?_, ?_⟩
     ·
      obtain ⟨d1, s1, g1, e1, t1⟩ := p7
      obtain ⟨d2, s2, g2, e2, t2⟩ := ih.1 x hx hw.1 _ d1 s1 g1
      obtain ⟨d3, s3, g3, e3, t3⟩ := add7 g2 t2 (t1.ext e2)
      refine ⟨d3, s3, g3, (e1.trans e2).trans e3, t3.1, fun i j hij => ?_, fun i j out hij hm => ?_⟩
      ·
       rw [t3.2.1 i j hij, matCat]
      ·
       rw [t3.2.2 i j out hij hm, spCat]; rfl
     ·
      obtain ⟨d1, s1, g1, e1, t1⟩ := p8
      obtain ⟨d2, s2, g2, e2, t2⟩ := ih.1 x hx hw.1 _ d1 s1 g1
      have t1' := t1.ext e2
      obtain ⟨d3, s3, g3, f1, f2, f3⟩ := nd_add g2 (nd2 8 (mk x (mkL 8 l ns).1).2 (mkL 8 l ns).2) ⟨Int.natCast_nonneg _, Int.natCast_nonneg _, fun _ => by simpa [nd2] using t2.1, fun _ => by simpa [nd2] using t1'.1⟩ (.inl ⟨by show (1 : Int) ≤ 8; decide, by show (8 : Int) ≤ 9; decide⟩)
      have h8 : ∀ i j, ndMat tx n (nd2 8 (mk x (mkL 8 l ns).1).2 (mkL 8 l ns).2) d2 i j = (d2 (mk x (mkL 8 l ns).1).2 i j || d2 (mkL 8 l ns).2 i j) := fun i j => rfl
      refine ⟨d3, s3, g3, (e1.trans e2).trans ⟨by simp, f1⟩, by simp, fun i j hij => ?_, fun i j out hij hm => ?_⟩
      ·
       rw [f2, h8, matAlt, t2.2.1 i j hij, t1'.2.1 i j hij]
      ·
       rw [f2, h8] at hm
       rw [f3, spAlt]
       show (if d2 (mk x (mkL 8 l ns).1).2 i j = true then s2 (mk x (mkL 8 l ns).1).2 i j out else s2 (mkL 8 l ns).2 i j out) = _
       by_cases ca : d2 (mk x (mkL 8 l ns).1).2 i j = true
       ·
        rw [if_pos ca, t2.2.2 i j out hij ca]
        rw [t2.2.1 i j hij] at ca
        exact (if_pos ca).symm
       ·
        rw [if_neg ca]
        have cb : d2 (mkL 8 l ns).2 i j = true := by
         rw [Bool.or_eq_true] at hm
         exact hm.resolve_left ca
        rw [t1'.2.2 i j out hij cb]
        rw [t2.2.1 i j hij] at ca
        exact (if_neg ca).symm
mutual
def ad : S31 → List (S31 × List Int) → List (S31 × List Int)
 | ⟨k, a, m, s, l⟩ => fun ns => (adL l (ns ++ [(⟨k, a, m, s, l⟩, [])])).1.set ns.length (⟨k, a, m, s, l⟩, (adL l (ns ++ [(⟨k, a, m, s, l⟩, [])])).2)
def adL : List S31 → List (S31 × List Int) → List (S31 × List Int) × List Int
 | [] => fun ns => (ns, [])
 | x :: l => fun ns => ((adL l (ad x ns)).1, (ns.length : Int) :: (adL l (ad x ns)).2)
end
def naAt (ns : List (S31 × List Int)) (k : Nat) : Prop := ∀ r ks, ns[k]? = some (r, ks) → ks.length = r.f4.length ∧ ∀ (q : Nat) (y : S31), r.f4[q]? = some y → ∃ (p : Nat) (ks' : List Int), ks[q]? = some (p : Int) ∧ ns[p]? = some (y, ks')
theorem naAt_more {ns ns' : List (S31 × List Int)} {k : Nat} (hk : k < ns.length) (h : naAt ns k) (hp : ∀ q v, ns[q]? = some v → ∃ ks', ns'[q]? = some (v.1, ks') ∧ (q = k → ks' = v.2)) : naAt ns' k := by
 intro r ks hr
 obtain ⟨v, hv⟩ : ∃ v, ns[k]? = some v := ⟨_, List.getElem?_eq_getElem hk⟩
 obtain ⟨ks2, h2, h3⟩ := hp k v hv
 rw [hr] at h2
 injection h2 with h2
 injection h2 with h4 h5
 subst h4
 have h6 := h3 rfl
 obtain ⟨v1, v2⟩ := v
 simp only at h6
 obtain ⟨g1, g2⟩ := h v1 v2 hv
 rw [h5, h6]
 refine ⟨g1, fun q y hy => ?_⟩
 obtain ⟨p, ks', e1, e2⟩ := g2 q y hy
 obtain ⟨ks3, e3, _⟩ := hp p _ e2
 exact ⟨p, ks3, e1, e3⟩
theorem ad_good : ∀ (N : Nat),
  (∀ x : S31, SizeOf.sizeOf x ≤ N → ∀ ns, ns.length < (ad x ns).length ∧ (∀ q, q < ns.length → (ad x ns)[q]? = ns[q]?) ∧ (∃ ks, (ad x ns)[ns.length]? = some (x, ks)) ∧ ∀ k, ns.length ≤ k → k < (ad x ns).length → naAt (ad x ns) k) ∧
  (∀ l : List S31, SizeOf.sizeOf l ≤ N → ∀ ns, ns.length ≤ (adL l ns).1.length ∧ (∀ q, q < ns.length → (adL l ns).1[q]? = ns[q]?) ∧ (adL l ns).2.length = l.length ∧
   (∀ (q : Nat) (y : S31), l[q]? = some y → ∃ (p : Nat) (ks' : List Int), (adL l ns).2[q]? = some (p : Int) ∧ ns.length ≤ p ∧ (adL l ns).1[p]? = some (y, ks')) ∧ ∀ k, ns.length ≤ k → k < (adL l ns).1.length → naAt (adL l ns).1 k) := by
 intro N
 induction N with
 | zero =>
  refine ⟨fun x hx => ?_, fun l hl => ?_⟩
  ·
   cases x; simp at hx
  ·
   cases l <;> simp at hl
 | succ N ih =>
  refine ⟨?_, ?_⟩
  ·
   rintro ⟨k, a, m, s, l⟩ hx ns
   have hl : SizeOf.sizeOf l ≤ N := by simp at hx; omega
   obtain ⟨h1, h2, h3, h4, h5⟩ := ih.2 l hl (ns ++ [(⟨k, a, m, s, l⟩, [])])
   rw [ad]
   simp only
   obtain ⟨P, hP⟩ : ∃ P, P = adL l (ns ++ [((⟨k, a, m, s, l⟩ : S31), ([] : List Int))]) := ⟨_, rfl⟩
   rw [← hP] at h1 h2 h3 h4 h5 ⊢
   have hln : (ns ++ [((⟨k, a, m, s, l⟩ : S31), ([] : List Int))]).length = ns.length + 1 := by simp
   rw [hln] at h1 h2 h4 h5
   have hset : ∀ q, q ≠ ns.length → (P.1.set ns.length (⟨k, a, m, s, l⟩, P.2))[q]? = P.1[q]? := fun q hq => by rw [List.getElem?_set]; rw [if_neg (fun e => hq e.symm)]
   have hat : (P.1.set ns.length ((⟨k, a, m, s, l⟩ : S31), P.2))[ns.length]? = some (⟨k, a, m, s, l⟩, P.2) := by rw [List.getElem?_set]; rw [if_pos rfl, if_pos (by omega)]
   refine ⟨by rw [List.length_set]; omega, fun q hq => ?_, ⟨_, hat⟩, fun q hq1 hq2 => ?_⟩
   ·
    rw [hset q (by omega), h2 q (by omega), List.getElem?_append_left hq]
   ·
    rw [List.length_set] at hq2
    by_cases hq : q = ns.length
    ·
     subst hq
     intro r ks hr
     rw [hat] at hr
     injection hr with hr
     injection hr with e1 e2
     subst e1 e2
     refine ⟨h3, fun u y hy => ?_⟩
     obtain ⟨p, ks', g1, g2, g3⟩ := h4 u y hy
     exact ⟨p, ks', g1, by rw [hset p (by omega)]; exact g3⟩
    ·
     refine naAt_more (ns := P.1) (by omega) (h5 q (by omega) hq2) (fun u v hv => ?_)
     by_cases hu : u = ns.length
     ·
      subst hu
      have hv2 := h2 ns.length (by omega)
      rw [hv] at hv2
      simp at hv2
      refine ⟨P.2, ?_, fun e => absurd e.symm hq⟩
      rw [hat, hv2]
     ·
      exact ⟨v.2, by rw [hset u hu, hv], fun _ => rfl⟩
  ·
   intro l hl ns
   cases l with
   | nil =>
    rw [adL]
    exact ⟨Nat.le_refl _, fun _ _ => rfl, rfl, fun q y hy => by simp at hy, fun k hk1 hk2 => by simp only at hk2; omega⟩
   | cons x l =>
    have hx : SizeOf.sizeOf x ≤ N := by simp at hl; omega
    have hl2 : SizeOf.sizeOf l ≤ N := by simp at hl; omega
    obtain ⟨a1, a2, ⟨ks, a3⟩, a4⟩ := ih.1 x hx ns
    obtain ⟨b1, b2, b3, b4, b5⟩ := ih.2 l hl2 (ad x ns)
    rw [adL]
    simp only
    refine ⟨by omega, fun q hq => by rw [b2 q (by omega), a2 q hq], by simp [b3], fun q y hy => ?_, fun k hk1 hk2 => ?_⟩
    ·
     cases q with
     | zero =>
      obtain rfl : x = y := by simpa using hy
      exact ⟨ns.length, ks, rfl, Nat.le_refl _, by rw [b2 _ a1]; exact a3⟩
     | succ q =>
      obtain ⟨p, ks', g1, g2, g3⟩ := b4 q y (by simpa using hy)
      exact ⟨p, ks', by simpa using g1, by omega, g3⟩
    ·
     by_cases hk : k < (ad x ns).length
     ·
      exact naAt_more hk (a4 k hk1 hk) (fun q v hv => ⟨v.2, by rw [b2 q (by have := (List.getElem?_eq_some_iff.1 hv).1; exact this)]; exact hv, fun _ => rfl⟩)
     ·
      exact b5 k (by omega) hk2
def ix (n k i j : Nat) : Nat := (k * (n + 1) + i) * (n + 1) + j
def mu (n k i j : Nat) : Nat := k * (n + 2) + (j - i)
def ent (kn : List Int) (n k i j : Nat) : Int := kn.getD (ix n k i j) 0
def Rt (den : Nat → Mt) (kn : List Int) (n k i j : Nat) : Prop := ent kn n k i j = 0 ∨ (ent kn n k i j = 1 ∧ den k i j = false) ∨ (ent kn n k i j = 2 ∧ den k i j = true)
def RB (den : Nat → Mt) (N n : Nat) (kn : List Int) (m : Nat) : Prop := kn.length = N * (n + 1) * (n + 1) ∧ ∀ k i j, k < N → i ≤ j → j ≤ n → mu n k i j < m → Rt den kn n k i j
def St (den : Nat → Mt) (N n : Nat) (kn kn' : List Int) (m : Nat) : Prop := RB den N n kn' m ∧ ∀ k i j, k < N → i ≤ j → j ≤ n → m ≤ mu n k i j → ent kn' n k i j = ent kn n k i j
theorem St.rb {den : Nat → Mt} {N n : Nat} {kn kn' : List Int} {m : Nat} (h : St den N n kn kn' m) : RB den N n kn' m := h.1
theorem ix_lt {N n k i j : Nat} (hk : k < N) (hi : i ≤ n) (hj : j ≤ n) : ix n k i j < N * (n + 1) * (n + 1) := by
 unfold ix
 have h1 : k * (n + 1) + i + 1 ≤ N * (n + 1) := by
  have : (k + 1) * (n + 1) ≤ N * (n + 1) := Nat.mul_le_mul_right _ hk
  rw [Nat.add_mul] at this
  omega
 have h2 := Nat.mul_le_mul_right (n + 1) h1
 rw [Nat.add_mul _ 1] at h2
 omega
theorem ix_inj {n k i j k' i' j' : Nat} (hi : i ≤ n) (hj : j ≤ n) (hi' : i' ≤ n) (hj' : j' ≤ n) (h : ix n k i j = ix n k' i' j') : k = k' ∧ i = i' ∧ j = j' := by
 unfold ix at h
 have hp : 0 < n + 1 := by omega
 have e1 : ∀ a b : Nat, b ≤ n → (a * (n + 1) + b) % (n + 1) = b := fun a b hb => by rw [Nat.mul_comm, Nat.mul_add_mod]; exact Nat.mod_eq_of_lt (by omega)
 have e2 : ∀ a b : Nat, b ≤ n → (a * (n + 1) + b) / (n + 1) = a := fun a b hb => by rw [Nat.mul_comm, Nat.mul_add_div hp, Nat.div_eq_of_lt (by omega), Nat.add_zero]
 have a1 := congrArg (· % (n + 1)) h
 have a2 := congrArg (· / (n + 1)) h
 simp only [e1 _ _ hj, e1 _ _ hj', e2 _ _ hj, e2 _ _ hj'] at a1 a2
 have b1 := congrArg (· % (n + 1)) a2
 have b2 := congrArg (· / (n + 1)) a2
 simp only [e1 _ _ hi, e1 _ _ hi', e2 _ _ hi, e2 _ _ hi'] at b1 b2
 exact ⟨b2, b1, a1⟩
theorem RB.down {den : Nat → Mt} {N n : Nat} {kn : List Int} {m m0 : Nat} (h : RB den N n kn m) (hm : m0 ≤ m) : RB den N n kn m0 := ⟨h.1, fun k i j a b c d => h.2 k i j a b c (by omega)⟩
theorem St.refl {den : Nat → Mt} {N n : Nat} {kn : List Int} {m : Nat} (h : RB den N n kn m) : St den N n kn kn m := ⟨h, fun _ _ _ _ _ _ _ => rfl⟩
theorem St.trans {den : Nat → Mt} {N n : Nat} {kn kn' kn2 : List Int} {m : Nat} (h : St den N n kn kn' m) (h2 : St den N n kn' kn2 m) : St den N n kn kn2 m := ⟨h2.1, fun k i j a b c d => (h2.2 k i j a b c d).trans (h.2 k i j a b c d)⟩
theorem St.up {den : Nat → Mt} {N n : Nat} {kn kn' : List Int} {m m0 : Nat} (h : St den N n kn kn' m0) (hR : RB den N n kn m) (hm : m0 ≤ m) : St den N n kn kn' m := by
 refine ⟨⟨h.1.1, fun k i j a b c d => ?_⟩, fun k i j a b c d => h.2 k i j a b c (by omega)⟩
 by_cases hc : mu n k i j < m0
 ·
  exact h.1.2 k i j a b c hc
 ·
  have := hR.2 k i j a b c d
  unfold Rt at this ⊢
  rw [h.2 k i j a b c (by omega)]
  exact this
theorem ent_set {kn : List Int} {N n k i j k' i' j' : Nat} (hl : kn.length = N * (n + 1) * (n + 1)) (hk : k < N) (hi : i ≤ n) (hj : j ≤ n) (hi' : i' ≤ n) (hj' : j' ≤ n) (x : Int) : ent (kn.set (ix n k i j) x) n k' i' j' = if k = k' ∧ i = i' ∧ j = j' then x else ent kn n k' i' j' := by
 unfold ent
 have hlt : ix n k i j < kn.length := by rw [hl]; exact ix_lt hk hi hj
 by_cases h : k = k' ∧ i = i' ∧ j = j'
 ·
  obtain ⟨rfl, rfl, rfl⟩ := h
  rw [if_pos ⟨rfl, rfl, rfl⟩]
  simp [List.getD_eq_getElem?_getD, hlt]
 ·
  rw [if_neg h]
  have hne : ix n k i j ≠ ix n k' i' j' := fun e => h (ix_inj hi hj hi' hj' e)
  simp [List.getD_eq_getElem?_getD, List.getElem?_set_ne hne]
theorem RB.note {den : Nat → Mt} {N n : Nat} {kn : List Int} {k i j : Nat} (h : RB den N n kn (mu n k i j + 1)) (hk : k < N) (hij : i ≤ j) (hj : j ≤ n) : RB den N n (kn.set (ix n k i j) 1) (mu n k i j) := by
 refine ⟨by rw [List.length_set]; exact h.1, fun k' i' j' a b c d => ?_⟩
 have := h.2 k' i' j' a b c (by omega)
 have hne : ¬ (k = k' ∧ i = i' ∧ j = j') := fun e => by obtain ⟨rfl, rfl, rfl⟩ := e; omega
 unfold Rt at this ⊢
 rw [ent_set h.1 hk (by omega) hj (by omega) c, if_neg hne]
 exact this
theorem St.asked {den : Nat → Mt} {N n : Nat} {kn kn2 : List Int} {k i j : Nat} (h : RB den N n kn (mu n k i j + 1)) (hk : k < N) (hij : i ≤ j) (hj : j ≤ n) (h2 : St den N n (kn.set (ix n k i j) 1) kn2 (mu n k i j)) : ent kn2 n k i j = 1 := by
 rw [h2.2 k i j hk hij hj (Nat.le_refl _), ent_set h.1 hk (by omega) hj (by omega) hj, if_pos ⟨rfl, rfl, rfl⟩]
theorem St.no {den : Nat → Mt} {N n : Nat} {kn kn2 : List Int} {k i j : Nat} (h : RB den N n kn (mu n k i j + 1)) (hk : k < N) (hij : i ≤ j) (hj : j ≤ n) (h2 : St den N n (kn.set (ix n k i j) 1) kn2 (mu n k i j)) (hd : den k i j = false) : St den N n kn kn2 (mu n k i j + 1) := by
 refine ⟨⟨h2.1.1, fun k' i' j' a b c d => ?_⟩, fun k' i' j' a b c d => ?_⟩
 ·
  by_cases hm : mu n k' i' j' < mu n k i j
  ·
   exact h2.1.2 k' i' j' a b c hm
  ·
   by_cases he : k = k' ∧ i = i' ∧ j = j'
   ·
    obtain ⟨rfl, rfl, rfl⟩ := he
    exact .inr (.inl ⟨St.asked h hk hij hj h2, hd⟩)
   ·
    have := h.2 k' i' j' a b c d
    unfold Rt at this ⊢
    rw [h2.2 k' i' j' a b c (by omega), ent_set h.1 hk (by omega) hj (by omega) c, if_neg he]
    exact this
 ·
  have he : ¬ (k = k' ∧ i = i' ∧ j = j') := fun e => by obtain ⟨rfl, rfl, rfl⟩ := e; omega
  rw [h2.2 k' i' j' a b c (by omega), ent_set h.1 hk (by omega) hj (by omega) c, if_neg he]
theorem St.yes {den : Nat → Mt} {N n : Nat} {kn kn2 : List Int} {k i j : Nat} (h : RB den N n kn (mu n k i j + 1)) (hk : k < N) (hij : i ≤ j) (hj : j ≤ n) (h2 : St den N n (kn.set (ix n k i j) 1) kn2 (mu n k i j)) (hd : den k i j = true) : St den N n kn (kn2.set (ix n k i j) 2) (mu n k i j + 1) := by
 have hl := h2.1.1
 refine ⟨⟨by rw [List.length_set]; exact hl, fun k' i' j' a b c d => ?_⟩, fun k' i' j' a b c d => ?_⟩
 ·
  by_cases he : k = k' ∧ i = i' ∧ j = j'
  ·
   obtain ⟨rfl, rfl, rfl⟩ := he
   refine .inr (.inr ⟨?_, hd⟩)
   rw [ent_set hl hk (by omega) hj (by omega) hj, if_pos ⟨rfl, rfl, rfl⟩]
  ·
   unfold Rt
   rw [ent_set hl hk (by omega) hj (by omega) c, if_neg he]
   by_cases hm : mu n k' i' j' < mu n k i j
   ·
    exact h2.1.2 k' i' j' a b c hm
   ·
    have := h.2 k' i' j' a b c d
    rw [h2.2 k' i' j' a b c (by omega), ent_set h.1 hk (by omega) hj (by omega) c, if_neg he]
    exact this
 ·
  have he : ¬ (k = k' ∧ i = i' ∧ j = j') := fun e => by obtain ⟨rfl, rfl, rfl⟩ := e; omega
  rw [ent_set hl hk (by omega) hj (by omega) c, if_neg he, h2.2 k' i' j' a b c (by omega), ent_set h.1 hk (by omega) hj (by omega) c, if_neg he]
theorem ent_two {kn : List Int} {N n k i j : Nat} (hl : kn.length = N * (n + 1) * (n + 1)) (hk : k < N) (hi : i ≤ n) (hj : j ≤ n) : ent (kn.set (ix n k i j) 2) n k i j = 2 := by
 rw [ent_set hl hk hi hj hi hj, if_pos ⟨rfl, rfl, rfl⟩]
def spl (a b : Mt) (least i j : Nat) : Int := match lastK least (fun k => a i k && b k j) j with
 | some k => (k : Int)
 | none => -1
theorem spl_any (a b : Mt) (least i j : Nat) : decide (0 ≤ spl a b least i j) = anyK least j fun k => a i k && b k j := by
 unfold spl
 cases h : lastK least (fun k => a i k && b k j) j with
 | some k =>
  obtain ⟨p, q, r, _⟩ := lastK_some h
  rw [anyK_iff.2 ⟨k, p, q, r⟩]
  simp only [decide_eq_true_eq]
  omega
 | none =>
  have hn := lastK_none h
  have : anyK least j (fun k => a i k && b k j) = false := by
   rw [Bool.eq_false_iff]
   intro hc
   obtain ⟨k, p, q, r⟩ := anyK_iff.1 hc
   rw [hn k p q] at r
   exact absurd r (by simp)
  rw [this]
  decide
theorem spl_none {a b : Mt} {least i j : Nat} (h : ∀ k, least ≤ k → k ≤ j → (a i k && b k j) = false) : spl a b least i j = -1 := by
 unfold spl
 cases hc : lastK least (fun k => a i k && b k j) j with
 | none => rfl
 | some k => obtain ⟨p, q, r, _⟩ := lastK_some hc; rw [h k p q] at r; exact absurd r (by simp)
theorem spl_at {a b : Mt} {least i j k : Nat} (h1 : least ≤ k) (h2 : k ≤ j) (h3 : (a i k && b k j) = true) (h4 : ∀ q, k < q → q ≤ j → (a i q && b q j) = false) : spl a b least i j = (k : Int) := by
 unfold spl
 rw [lastK_eq h1 h2 h3 h4]
theorem mu_kid {n k k' i j : Nat} (h : k' < k) (hj : j ≤ n) (i' j' : Nat) (hj' : j' ≤ n) : mu n k' i' j' < mu n k i j := by
 unfold mu
 have : (k' + 1) * (n + 2) ≤ k * (n + 2) := Nat.mul_le_mul_right _ h
 rw [Nat.add_mul] at this
 omega
theorem mu_rest {n k i j q : Nat} (h : i < q) (hq : q ≤ j) : mu n k q j < mu n k i j := by
 unfold mu
 omega
theorem ndMat_cat {tx : Nat → Int} {n : Nat} {x : S85} (den : Nat → Mt) (h : x.f0 = 7) (i j : Nat) : ndMat tx n x den i j = decide (0 ≤ spl (den x.f3.toNat) (den x.f4.toNat) i i j) := by
 rw [spl_any]
 unfold ndMat
 rw [h]
 rfl
theorem ndMat_star {tx : Nat → Int} {n : Nat} {x : S85} {den : Nat → Mt} {k : Nat} (h : x.f0 = 9) (hk : ∀ i j, den k i j = ndMat tx n x den i j) (i j : Nat) : ndMat tx n x den i j = (i == j || decide (0 ≤ spl (den x.f3.toNat) (den k) (i + 1) i j)) := by
 have hd : den k = starM (den x.f3.toNat) := by
  funext p q
  rw [hk]
  unfold ndMat
  rw [h]
  rfl
 rw [spl_any, ← hk, hd]
 exact starM_eq _ i j
mutual
def cnt : S31 → Nat
 | ⟨_, _, _, _, l⟩ => 1 + cntL l
def cntL : List S31 → Nat
 | [] => 0
 | x :: l => cnt x + cntL l
end
theorem mkOpt_len (a : Nat) : ∀ (c rest : Nat) (ns : List S85), (mkOpt a c rest ns).1.length = ns.length + 2 * c := by
 intro c
 induction c with
 | zero => intro rest ns; rfl
 | succ c ih => intro rest ns; rw [mkOpt, ih]; simp; omega
theorem mkTimes_len (a : Nat) : ∀ (c rest : Nat) (ns : List S85), (mkTimes a c rest ns).1.length = ns.length + c := by
 intro c
 induction c with
 | zero => intro rest ns; rfl
 | succ c ih => intro rest ns; rw [mkTimes, ih]; simp; omega
theorem mkRep_len (a : Nat) (n m : Int) (ns : List S85) (h : 0 ≤ n ∧ n ≤ 20 ∧ (m < 0 ∨ n ≤ m ∧ m ≤ 20)) : (mkRep a n m ns).1.length ≤ ns.length + 43 := by
 unfold mkRep
 by_cases c : m < 0
 ·
  rw [if_pos c, mkTimes_len]; simp; omega
 ·
  rw [if_neg c, mkTimes_len, mkOpt_len]; simp; omega
theorem mk_len : ∀ (N : Nat),
  (∀ x : S31, SizeOf.sizeOf x ≤ N → rxW x → ∀ ns : List S85, (mk x ns).1.length + 1 ≤ ns.length + 45 * cnt x) ∧
  (∀ l : List S31, SizeOf.sizeOf l ≤ N → rxWL l → l ≠ [] → ∀ (kd : Int) (ns : List S85), (mkL kd l ns).1.length + 1 ≤ ns.length + 45 * cntL l) := by
 intro N
 induction N with
 | zero =>
  refine ⟨fun x hx => ?_, fun l hl => ?_⟩
  ·
   cases x; simp at hx
  ·
   cases l <;> simp at hl
 | succ N ih =>
  refine ⟨?_, ?_⟩
  ·
   rintro ⟨k, a, m, s, l⟩ hx hw ns
   have hl : SizeOf.sizeOf l ≤ N := by simp at hx; omega
   rw [rxW] at hw
   obtain ⟨k1, k2, w1, w2, w3, w4, w5⟩ := hw
   rw [cnt]
   by_cases c6 : k = 6
   ·
    obtain ⟨y, rfl⟩ := List.length_eq_one_iff.1 (w1 (.inl c6))
    have hy : SizeOf.sizeOf y ≤ N := by simp at hl; omega
    rw [rxWL] at w5
    have := ih.1 y hy w5.1 ns
    rw [mk]; simp only [if_pos c6]; rw [mkHd, cntL, cntL]
    simp
    omega
   by_cases c7 : k = 7 ∨ k = 8
   ·
    by_cases ce : l.isEmpty = true
    ·
     rw [mk]; simp only [if_neg c6, if_pos c7, if_pos ce]; simp; omega
    ·
     rw [mk]; simp only [if_neg c6, if_pos c7]; rw [if_neg ce]
     have := ih.2 l hl w5 (fun hc => ce (by rw [hc]; rfl)) k ns
     omega
   by_cases c9 : k = 9
   ·
    obtain ⟨y, rfl⟩ := List.length_eq_one_iff.1 (w1 (.inr c9))
    have hy : SizeOf.sizeOf y ≤ N := by simp at hl; omega
    rw [rxWL] at w5
    have h1 := ih.1 y hy w5.1 ns
    have h2 := mkRep_len (mk y ns).2 a m (mk y ns).1 (w2 c9)
    rw [mk]; simp only [if_neg c6, if_neg c7, if_pos c9]; rw [mkHd, cntL, cntL]
    omega
   ·
    rw [mk]; simp only [if_neg c6, if_neg c7, if_neg c9]; simp; omega
  ·
   intro l hl hw hne kd ns
   cases l with
   | nil => exact absurd rfl hne
   | cons x l =>
    rw [rxWL] at hw
    have hx2 : SizeOf.sizeOf x ≤ N := by simp at hl; omega
    have hl2 : SizeOf.sizeOf l ≤ N := by simp at hl; omega
    rw [mkL, cntL]
    by_cases ce : l.isEmpty = true
    ·
     simp only [if_pos ce]
     have := ih.1 x hx2 hw.1 ns
     omega
    ·
     simp only [if_neg ce]
     have h1 := ih.2 l hl2 hw.2 (fun hc => ce (by rw [hc]; rfl)) kd ns
     have h2 := ih.1 x hx2 hw.1 (mkL kd l ns).1
     simp only [List.length_append, List.length_cons, List.length_nil]
     omega
theorem mkL_last (kd : Int) (l : List S31) (ns : List S85) (i : Nat) (h : i + 1 = l.length) : mkL kd (l.drop i) ns = mk (l.getD i ⟨0, 0, 0, ⟨#[]⟩, []⟩) ns := by
 rw [List.drop_eq_getElem_cons (by omega), List.drop_eq_nil_of_le (by omega), mkL]
 simp only [List.isEmpty_nil, if_true]
 rw [List.getD_eq_getElem?_getD, List.getElem?_eq_getElem (by omega)]
 rfl
theorem mkL_step (kd : Int) (l : List S31) (ns : List S85) (i : Nat) (h : i + 1 < l.length) : mkL kd (l.drop i) ns = ((mk (l.getD i ⟨0, 0, 0, ⟨#[]⟩, []⟩) (mkL kd (l.drop (i + 1)) ns).1).1 ++ [nd2 kd (mk (l.getD i ⟨0, 0, 0, ⟨#[]⟩, []⟩) (mkL kd (l.drop (i + 1)) ns).1).2 (mkL kd (l.drop (i + 1)) ns).2], (mk (l.getD i ⟨0, 0, 0, ⟨#[]⟩, []⟩) (mkL kd (l.drop (i + 1)) ns).1).1.length) := by
 rw [List.drop_eq_getElem_cons (by omega), mkL]
 have hn : ¬ ((l.drop (i + 1)).isEmpty = true) := by
  rw [List.isEmpty_iff]
  intro hc
  have := congrArg List.length hc
  simp at this
  omega
 simp only [if_neg hn]
 have : l[i] = l.getD i ⟨0, 0, 0, ⟨#[]⟩, []⟩ := by
  rw [List.getD_eq_getElem?_getD, List.getElem?_eq_getElem (by omega)]
  rfl
 rw [this]
theorem rxWL_at : ∀ (l : List S31) (i : Nat), rxWL l → i < l.length → rxW (l.getD i ⟨0, 0, 0, ⟨#[]⟩, []⟩)
 | [], i, _, h => by simp at h
 | x :: l, 0, hw, _ => by rw [rxWL] at hw; exact hw.1
 | x :: l, i + 1, hw, h => by rw [rxWL] at hw; have := rxWL_at l i hw.2 (by simpa using h); simpa using this
theorem cntL_at : ∀ (l : List S31) (i : Nat), i < l.length → cntL (l.drop (i + 1)) + cnt (l.getD i ⟨0, 0, 0, ⟨#[]⟩, []⟩) = cntL (l.drop i)
 | [], i, h => by simp at h
 | x :: l, 0, _ => by simp only [List.drop_succ_cons, List.drop_zero, List.getD_cons_zero]; rw [cntL]; omega
 | x :: l, i + 1, h => by simp only [List.drop_succ_cons, List.getD_cons_succ]; exact cntL_at l i (by simpa using h)
theorem cntL_le (l : List S31) : ∀ i, cntL (l.drop i) ≤ cntL l := by
 induction l with
 | nil => intro i; simp
 | cons x l ih =>
  intro i
  cases i with
  | zero => exact Nat.le_refl _
  | succ i => rw [List.drop_succ_cons, cntL]; have := ih i; omega
theorem size_at (l : List S31) (i : Nat) (h : i < l.length) : SizeOf.sizeOf (l.getD i ⟨0, 0, 0, ⟨#[]⟩, []⟩) < SizeOf.sizeOf l := by
 rw [List.getD_eq_getElem?_getD, List.getElem?_eq_getElem h]
 exact List.sizeOf_lt_of_mem (List.getElem_mem h)
theorem rxWL_drop : ∀ (l : List S31) (i : Nat), rxWL l → rxWL (l.drop i)
 | [], i, _ => by simp [rxWL]
 | x :: l, 0, hw => hw
 | x :: l, i + 1, hw => by rw [rxWL] at hw; exact rxWL_drop l i hw.2
theorem mkL_len (kd : Int) (l : List S31) (i : Nat) (h : i < l.length) (hw : rxWL l) (ns : List S85) : (mkL kd (l.drop i) ns).1.length + 1 ≤ ns.length + 45 * cntL (l.drop i) :=
 (mk_len _).2 (l.drop i) (Nat.le_refl _) (rxWL_drop l i hw) (fun hc => by have := congrArg List.length hc; simp at this; omega) kd ns
theorem cntL_ge : ∀ l : List S31, l.length ≤ cntL l
 | [] => Nat.zero_le _
 | x :: l => by
  have h := cntL_ge l
  have : 1 ≤ cnt x := by cases x; rw [cnt]; omega
  rw [cntL]
  simp only [List.length_cons]
  omega
theorem wrap_nat {z : Int} {x : Nat} (hz : z = (x : Int)) (h : x < 9223372036854775808) : Go.RowKit.wrap64 z = (x : Int) := by subst hz; unfold Go.RowKit.wrap64; omega
end Go.Proofs.Ytlpabbcgichaoaa.PFnExactFind
