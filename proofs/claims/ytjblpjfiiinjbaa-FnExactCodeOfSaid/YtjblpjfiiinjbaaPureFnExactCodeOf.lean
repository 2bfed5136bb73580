/- FnExactCodeOf: for every text the program's CodeOf and the reference's answer the same code. No conditions. -/
import Derived.Test.YtjblpjfiiinjbaaPFnExactCodeOfx1
namespace Go.Proofs.Ytjblpjfiiinjbaa.Pure
open Go.RowKit Go.Proofs.Ytjblpjfiiinjbaa.PFnExactCodeOf Go.Proofs.YtjblpjfiiinjbaaW.PrintWords Go.Proofs.YtjblpjfiiinjbaaW.PrintLast Go.Proofs.YtjblpjfiiinjbaaW.PrintMore

theorem Ev_pos {α : Type} {c : Prop} [Decidable c] {A B : Nat → Option α} {r : α} (h : c) (e : Ev A r) : Ev (fun k => if c then A k else B k) r := by
  simpa only [if_pos h] using e
theorem Ev_neg {α : Type} {c : Prop} [Decidable c] {A B : Nat → Option α} {r : α} (h : ¬ c) (e : Ev B r) : Ev (fun k => if c then A k else B k) r := by
  simpa only [if_neg h] using e
theorem Ev_some {α : Type} (r : α) : Ev (fun _ => some r) r := Ev.now r
theorem Ev_const {α : Type} {x : Option α} {r : α} (h : x = some r) : Ev (fun _ => x) r := ⟨0, fun _ _ => h⟩
theorem Ev_eq {α : Type} {A : Nat → Option α} {r q : α} (h : Ev A r) (e : r = q) : Ev A q := e ▸ h
theorem Ev_bindc {α β : Type} {x : Option α} {f : Nat → α → Option β} {a : α} {r : β} (h : x = some a) (k : Ev (fun n => f n a) r) : Ev (fun n => x.bind (f n)) r := Ev.bind (g := fun _ => x) (Ev_const h) k
theorem wrap64_id {x : Int} (h0 : -9223372036854775808 ≤ x) (h1 : x ≤ 9223372036854775807) : wrap64 x = x := by
  unfold wrap64; omega

def words16 : List ByteArray := [(⟨#[111, 107]⟩ : ByteArray), (⟨#[98, 97, 100]⟩ : ByteArray), (⟨#[108, 111, 110, 103]⟩ : ByteArray), (⟨#[102, 111, 114, 109]⟩ : ByteArray), (⟨#[115, 121, 110, 116, 97, 120]⟩ : ByteArray), (⟨#[114, 97, 110, 103, 101]⟩ : ByteArray), (⟨#[110, 111, 110, 101]⟩ : ByteArray), (⟨#[109, 97, 110, 121]⟩ : ByteArray), (⟨#[115, 117, 109]⟩ : ByteArray), (⟨#[110, 97, 109, 101]⟩ : ByteArray), (⟨#[118, 101, 114, 115, 105, 111, 110]⟩ : ByteArray), (⟨#[102, 111, 114, 98, 105, 100]⟩ : ByteArray), (⟨#[108, 97, 98, 101, 108]⟩ : ByteArray), (⟨#[115, 116, 101, 112, 115]⟩ : ByteArray), (⟨#[115, 105, 122, 101]⟩ : ByteArray), (⟨#[115, 116, 97, 108, 101]⟩ : ByteArray)]
theorem words_len : (words16.length : Int) = 16 := rfl
theorem spec_word (i : Int) (h0 : 0 ≤ i) (h1 : i < 16) : spec_CodeWord.f i = some (rdOf ByteArray.empty words16 i) := by
  have hl := words_len
  show (some words16).bind _ = _
  rw [Option.bind_some, if_neg (by omega), if_neg (by omega), if_pos h0, if_pos (by omega)]
theorem both_find (x : ByteArray) (d : Nat) : ∀ i : Int, 0 ≤ i → 16 - i = d → ∃ r, Ev (fun k => spec_CodeOf.l0 k x i) r ∧ Ev (fun k => impl_CodeOf.l0 k x words16 16 i) r := by
  induction d with
  | zero =>
    intro i h0 hd
    exact ⟨-1, Ev.step (fun k => spec_CodeOf.l0.eq_2 x i k) (Ev_neg (by omega) (Ev_some _)), Ev.step (fun k => impl_CodeOf.l0.eq_2 x words16 16 i k) (Ev_neg (by omega) (Ev_some _))⟩
  | succ d ih =>
    intro i h0 hd
    by_cases h : (rdOf ByteArray.empty words16 i).toList = x.toList
    · exact ⟨i, Ev.step (fun k => spec_CodeOf.l0.eq_2 x i k) (Ev_pos (by omega) (Ev_bindc (spec_word i h0 (by omega)) (Ev_pos h (Ev_some _)))), Ev.step (fun k => impl_CodeOf.l0.eq_2 x words16 16 i k) (Ev_pos (by omega) (Ev_pos h0 (Ev_pos (by have := words_len; omega) (Ev_pos h (Ev_some _)))))⟩
    · obtain ⟨r, e1, e2⟩ := ih (i + 1) (by omega) (by omega)
      have hw : wrap64 (i + 1) = i + 1 := wrap64_id (by omega) (by omega)
      rw [← hw] at e1 e2
      exact ⟨r, Ev.step (fun k => spec_CodeOf.l0.eq_2 x i k) (Ev_pos (by omega) (Ev_bindc (spec_word i h0 (by omega)) (Ev_neg h e1))), Ev.step (fun k => impl_CodeOf.l0.eq_2 x words16 16 i k) (Ev_pos (by omega) (Ev_pos h0 (Ev_pos (by have := words_len; omega) (Ev_neg h e2))))⟩
theorem FnExactCodeOf : laws_FnExactCodeOf.Pure := by
  intro x _
  obtain ⟨r, e1, e2⟩ := both_find x 16 0 (by omega) (by omega)
  refine Ev.rounds ?_
  by_cases h : (x.size : Int) > 1048576
  · exact Ev_pos h (Ev_some _)
  · exact Ev_neg h (Ev.bind e1 (Ev.bind (Ev_bindc (x := impl_codeWords.f) (a := words16) rfl e2) (Ev_pos rfl (Ev_some _))))

end Go.Proofs.Ytjblpjfiiinjbaa.Pure
