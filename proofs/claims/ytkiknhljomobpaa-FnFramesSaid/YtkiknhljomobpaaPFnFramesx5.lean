-- written by a program of this session (a copy of the print, widened: wip/patchprint.py)
import Derived.Test.YtkiknhljomobpaaPFnFramesx0
import Derived.Test.YtkiknhljomobpaaPFnFramesx1
import Derived.Test.YtkiknhljomobpaaPFnFramesx2
import Derived.Test.YtkiknhljomobpaaPFnFramesx3
import Derived.Test.YtkiknhljomobpaaPFnFramesx4
namespace Go.Proofs.Ytkiknhljomobpaa.PFnFrames
open Go.RowKit Go.Proofs.YtkiknhljomobpaaW.PrintWords Go.Proofs.YtkiknhljomobpaaW.PrintLast Go.Proofs.YtkiknhljomobpaaW.PrintMore
attribute [local go_sem] max2_int min2_int max_two min_two max_three min_three max_four min_four   -- for this text's walks alone
set_option linter.unusedVariables false
set_option linter.unusedSimpArgs false

/-! ### impl_Feed: function 42 -/
def impl_Feed.l0 : Nat → List Int → List (List Int) → List (List Int) → Int → Int → Option ((List (List Int)) × List Int × Int)
  | 0, _, _, _, _, _ => none
  | k + 1, x8, x9, x28, x29, x30 => if x30 < x29 then (if 0 ≤ x30 then (if x30 < (x28.length : Int) then (if (wrap64 ((x8.length : Int) + ((rd_L2 x28 x30).length : Int))) > 65536 then (some (([] : List (List Int)), ([] : List Int), 7)) else (if x8.length + (rd_L2 x28 x30).length < 140737488355328 then ((some (x8 ++ (rd_L2 x28 x30) : List Int)).bind fun y244 => ((impl_unframe.f k y244).bind fun bt247 => (if bt247.2.2 = 0 then (if x9.length + bt247.1.length < 5864062014805 then (if 0 ≤ bt247.2.1 then (if bt247.2.1 ≤ (y244.length : Int) then ((slices_Clone_byte_byte.f (y244.drop (bt247.2.1 : Int).toNat)).bind fun t260 => (impl_Feed.l0 k t260 (x9 ++ bt247.1) x28 x29 (wrap64 (x30 + 1)))) else (none)) else (none)) else (none)) else (some (([] : List (List Int)), ([] : List Int), bt247.2.2))))) else (none))) else (none)) else (none)) else (some (x9, x8, 0))
def impl_Feed.f (k : Nat) (l0 : List Int) (l1 : List (List Int)) : Option ((List (List Int)) × List Int × Int) := (impl_longBytes.f l0).bind fun t231 => ((impl_longList.f (l1.length : Int)).bind fun t232 => ((impl_first.f k (([t231, t232] : List Int))).bind fun t236 => (if t236 = 0 then ((slices_Clone_byte_byte.f l0).bind fun t237 => (impl_Feed.l0 k t237 (([] : List (List Int))) l1 (l1.length : Int) 0)) else (some (([] : List (List Int)), ([] : List Int), t236)))))
theorem impl_Feed.mono_l : ∀ k, (∀ y0 y1 y2 y3 y4, LeO (impl_Feed.l0 k y0 y1 y2 y3 y4) (impl_Feed.l0 (k + 1) y0 y1 y2 y3 y4))
  | 0 => fun _ _ _ _ _ r h => by simp [impl_Feed.l0] at h
  | k + 1 => by
    have ih0 := impl_Feed.mono_l k
    · intro y0 y1 y2 y3 y4
      unfold impl_Feed.l0
      repeat' first
      | (with_reducible exact ih0 _ _ _ _ _)
      | (with_reducible exact impl_first.mono _ _)
      | (with_reducible exact impl_unframe.mono _ _)
      | (with_reducible exact LeO.refl _)
      | (with_reducible exact LeO.none _)
      | (with_reducible refine LeO.ite ?_ ?_)
      | (with_reducible refine LeO.bind ?_ (fun _ => ?_))
      | exact ih0 _ _ _ _ _
      | exact impl_first.mono _ _
      | exact impl_unframe.mono _ _
      | exact LeO.none _
      | refine LeO.ite ?_ ?_
      | refine LeO.bind ?_ (fun _ => ?_)
theorem impl_Feed.mono : ∀ a0 a1 k, LeO (impl_Feed.f k a0 a1) (impl_Feed.f (k + 1) a0 a1) := by
  intro a0 a1 k
  have ih0 := impl_Feed.mono_l k
  unfold impl_Feed.f
  repeat' first
      | (with_reducible exact ih0 _ _ _ _ _)
      | (with_reducible exact impl_first.mono _ _)
      | (with_reducible exact impl_unframe.mono _ _)
      | (with_reducible exact LeO.refl _)
      | (with_reducible exact LeO.none _)
      | (with_reducible refine LeO.ite ?_ ?_)
      | (with_reducible refine LeO.bind ?_ (fun _ => ?_))
      | exact ih0 _ _ _ _ _
      | exact impl_first.mono _ _
      | exact impl_unframe.mono _ _
      | exact LeO.none _
      | refine LeO.ite ?_ ?_
      | refine LeO.bind ?_ (fun _ => ?_)

end Go.Proofs.Ytkiknhljomobpaa.PFnFrames
