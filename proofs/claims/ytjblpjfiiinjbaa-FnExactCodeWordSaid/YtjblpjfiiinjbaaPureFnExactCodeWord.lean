/- FnExactCodeWord: for every integer the program's CodeWord and the reference's answer the same word. No conditions. -/
import Derived.Test.YtjblpjfiiinjbaaPFnExactCodeWordx1
namespace Go.Proofs.Ytjblpjfiiinjbaa.Pure
open Go.RowKit Go.Proofs.Ytjblpjfiiinjbaa.PFnExactCodeWord Go.Proofs.YtjblpjfiiinjbaaW.PrintWords Go.Proofs.YtjblpjfiiinjbaaW.PrintLast Go.Proofs.YtjblpjfiiinjbaaW.PrintMore

def words16 : List ByteArray := [(⟨#[111, 107]⟩ : ByteArray), (⟨#[98, 97, 100]⟩ : ByteArray), (⟨#[108, 111, 110, 103]⟩ : ByteArray), (⟨#[102, 111, 114, 109]⟩ : ByteArray), (⟨#[115, 121, 110, 116, 97, 120]⟩ : ByteArray), (⟨#[114, 97, 110, 103, 101]⟩ : ByteArray), (⟨#[110, 111, 110, 101]⟩ : ByteArray), (⟨#[109, 97, 110, 121]⟩ : ByteArray), (⟨#[115, 117, 109]⟩ : ByteArray), (⟨#[110, 97, 109, 101]⟩ : ByteArray), (⟨#[118, 101, 114, 115, 105, 111, 110]⟩ : ByteArray), (⟨#[102, 111, 114, 98, 105, 100]⟩ : ByteArray), (⟨#[108, 97, 98, 101, 108]⟩ : ByteArray), (⟨#[115, 116, 101, 112, 115]⟩ : ByteArray), (⟨#[115, 105, 122, 101]⟩ : ByteArray), (⟨#[115, 116, 97, 108, 101]⟩ : ByteArray)]
theorem words_len : (words16.length : Int) = 16 := rfl
theorem spec_word (i : Int) (h0 : 0 ≤ i) (h1 : i < 16) : spec_CodeWord.f i = some (rdOf ByteArray.empty words16 i) := by
  have hl := words_len
  show (some words16).bind _ = _
  rw [Option.bind_some, if_neg (by omega), if_neg (by omega), if_pos h0, if_pos (by omega)]
theorem spec_none (i : Int) (h : i < 0 ∨ 16 ≤ i) : spec_CodeWord.f i = some ByteArray.empty := by
  have hl := words_len
  show (some words16).bind _ = _
  rw [Option.bind_some]
  by_cases h0 : i < 0
  · rw [if_pos h0]; rfl
  · rw [if_neg h0, if_pos (by omega)]; rfl
theorem wrap15 : wrap64 ((words16.length : Int) - 1) = 15 := by rw [words_len]; unfold wrap64; omega
theorem impl_word (i : Int) (h0 : 0 ≤ i) (h1 : i < 16) : impl_CodeWord.f i = some (rdOf ByteArray.empty words16 i) := by
  have hl := words_len
  have hw := wrap15
  show (some words16).bind _ = _
  rw [Option.bind_some]
  unfold impl_within.f
  rw [if_pos h0, Option.bind_some, if_pos (decide_eq_true (by omega)), if_pos h0, if_pos (by omega)]
theorem impl_none (i : Int) (h : i < 0 ∨ 16 ≤ i) : impl_CodeWord.f i = some ByteArray.empty := by
  have hl := words_len
  have hw := wrap15
  show (some words16).bind _ = _
  rw [Option.bind_some]
  unfold impl_within.f
  by_cases h0 : i < 0
  · rw [if_neg (by omega), Option.bind_some]; rfl
  · rw [if_pos (by omega), Option.bind_some, if_neg (by rw [decide_eq_false (by omega)]; decide)]; rfl
theorem FnExactCodeWord : laws_FnExactCodeWord.Pure := by
  intro i _
  unfold laws_FnExactCodeWord.f
  by_cases h : 0 ≤ i ∧ i < 16
  · rw [spec_word i h.1 h.2, impl_word i h.1 h.2, Option.bind_some, Option.bind_some, if_pos rfl]
  · rw [spec_none i (by omega), impl_none i (by omega), Option.bind_some, Option.bind_some, if_pos rfl]

end Go.Proofs.Ytjblpjfiiinjbaa.Pure
