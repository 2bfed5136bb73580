/- FnExactFind: the program's Find is the reference's. No conditions. -/
import Derived.Test.YtlpabbcgichaoaaRows
import Derived.Test.YtlpabbcgichaoaaTotalFnExactFind
import Derived.Test.YtlpabbcgichaoaaOpn
import Derived.WalkKit
import Derived.ProofKit
import Derived.OpenShut
import Derived.ShutString
import Derived.ChangeOld
import Derived.Below
import Derived.SizedLaws
namespace Go.Proofs.Ytlpabbcgichaoaa.fnExactFind
open Go.ChangeShapes Go.WideShapes Go.ChangeAt Go.RowKit Go.Proofs.Ytlpabbcgichaoaa.Opn Go.Proofs.YtlpabbcgichaoaaW.PrintWords
open Go.ChangeMaps (open_string shut_string)
open Go.Proofs.Ytlpabbcgichaoaa.PFnExactFind
set_option linter.unusedVariables false
theorem own : ownKnob Try.prog.godebug = none := by kernel_rfl
theorem laidOut : laidOutB Try.prog = true := by kernel_rfl
theorem opn24_any {H : Type} {enc : TypeId × Value → H} {w : World} {base : Nat} {spare : Nat → Bool} {held : Bool} : ∀ (fuel : Nat) (cs : List Value) (x : DataW H × List MemPlace), DataW.trod enc Try.prog w base spare held fuel 24 cs = some x → ∃ v : S24, k24.K w v cs ∧ Pure.rxLim v := by
  intro fuel
  induction fuel using Nat.strongRecOn with
  | ind fuel ih =>
  intro cs x h
  obtain ⟨hl, n, rfl, hf⟩ := struct_parts_at Try.underlying24 h
  obtain ⟨c0, c1, c2, c3, c4, rfl⟩ := list5 (hl.trans (by kernel_rfl))
  obtain ⟨y0, t0⟩ := hf 0 _ rfl
  have t0' := trod_cells (k := 1) (by kernel_rfl) _ t0
  obtain ⟨a0, e0, g0⟩ := (Opn_int Try.underlying3) _ [c0] _ t0'
  obtain rfl : c0 = .int .i64 a0 := (List.cons.inj (show [c0] = [.int .i64 a0] from e0)).1
  obtain ⟨y1, t1⟩ := hf 1 _ rfl
  have t1' := trod_cells (k := 1) (by kernel_rfl) _ t1
  obtain ⟨a1, e1, g1⟩ := (Opn_int Try.underlying3) _ [c1] _ t1'
  obtain rfl : c1 = .int .i64 a1 := (List.cons.inj (show [c1] = [.int .i64 a1] from e1)).1
  obtain ⟨y2, t2⟩ := hf 2 _ rfl
  have t2' := trod_cells (k := 1) (by kernel_rfl) _ t2
  obtain ⟨a2, e2, g2⟩ := (Opn_int Try.underlying3) _ [c2] _ t2'
  obtain rfl : c2 = .int .i64 a2 := (List.cons.inj (show [c2] = [.int .i64 a2] from e2)).1
  obtain ⟨y3, t3⟩ := hf 3 _ rfl
  have t3' := trod_cells (k := 1) (by kernel_rfl) _ t3
  obtain ⟨a3, e3, g3⟩ := (Opn_string Try.underlying9) _ [c3] _ t3'
  obtain rfl : c3 = .string a3 := (List.cons.inj (show [c3] = [.string a3] from e3)).1
  obtain ⟨y4, t4⟩ := hf 4 _ rfl
  have t4' := trod_cells (k := 1) (by kernel_rfl) _ t4
  obtain ⟨l4, hK4, g4, m4⟩ := opn_slice_at (cs := [c4]) z24 Try.underlying22 (by kernel_rfl) (fun m hm => ih m (by omega)) t4'
  obtain ⟨A4, kp4, e4, hc4, hr4⟩ := hK4
  obtain rfl : c4 = .slice A4 l4.length kp4 := (List.cons.inj (show [c4] = [.slice A4 l4.length kp4] from e4)).1
  exact ⟨⟨a0, a1, a2, a3, l4⟩, k24_mk w ⟨a0, a1, a2, a3, l4⟩ hc4 hr4, Pure.rxLim_mk g3 hr4.2.1 g4⟩
theorem opn24 {H : Type} {enc : TypeId × Value → H} {w : World} {base : Nat} {spare : Nat → Bool} {held : Bool} : Opn enc Try.prog w base spare held 24 k24 (fun r => Pure.rxLim r) := opn24_any
set_option maxRecDepth 100000 in
set_option maxHeartbeats 1000000 in
theorem lifted (os : Os) (started : os.Started) (H : Type) (enc : TypeId × Value → H) :
    ReturnsInHanded {} Try.checked os 3 .any (Rows.fnExactFindSpec.pre6 enc Try.prog Try.f3 Rows.fnExactFindRow.domain false) (Rows.fnExactFindSpec.post enc Try.prog Try.f3 false true false false) := by
  refine returnsInHanded_of_change_sized (C := Try.checked) own started (by kernel_rfl) Try.func3
    (ChangeSpec.witness6 (enc := enc) (C := Try.checked) false ⟨#[], #[.agg #[.int .i64 0, .int .i64 0, .int .i64 0, .string ByteArray.empty, .slice none 0 0], .string ByteArray.empty, .int .i64 0], []⟩ 8 (by kernel_rfl) (by kernel_rfl) (by kernel_rfl) (by kernel_rfl)) ?_
  intro W base args ds gs before hval0 hW hcnd hsz0 _
  have hval : ∀ (j : Nat) t v, Try.f3.params[j]? = some t → args[j]? = some v → Value.okWide Try.prog W .any base t v := hval0
  have hW' := hW
  obtain ⟨p, q, hA0, hV, rfl, hfz, hnd⟩ := hW
  have hA : DataW.TrodAll enc Try.prog W 0 (fun _ => true) true Try.f3.params.toList args.toList ds p := hA0
  rw [Try.params3] at hA hval
  obtain ⟨v0, vs0, d0, ds0, p0, q0, hargs, rfl, rfl, h0, r0⟩ := trodAll_cons hA
  obtain ⟨v1, vs1, d1, ds1, p1, q1, rfl, rfl, rfl, h1, r1⟩ := trodAll_cons r0
  obtain ⟨v2, vs2, d2, ds2, p2, q2, rfl, rfl, rfl, h2, r2⟩ := trodAll_cons r1
  obtain ⟨rfl, rfl, rfl⟩ := trodAll_nil r2
  obtain rfl : args = #[v0, v1, v2] := by cases args; simp_all
  obtain ⟨rfl, rfl⟩ := trodVars_none hV
  have k0 := h0
  have lt0 : ∀ x ∈ p0, x.block < W.heap.size := by obtain ⟨m, hm⟩ := k0; exact DataW.trod_lt m _ _ _ hm
  obtain ⟨cs0, rfl, hl0, hf0⟩ := agg_fields Try.underlying24 (by kernel_rfl) (by kernel_rfl) (hval 0 24 v0 rfl rfl) h0
  obtain ⟨c0_0, c0_1, c0_2, c0_3, c0_4, rfl⟩ := list5 (hl0.trans rfl)
  obtain ⟨u0_0, n0_0, y0_0, f0_0, t0_0⟩ := hf0 0 _ rfl
  obtain rfl : c0_0 = u0_0 := by simpa using f0_0
  obtain ⟨a0_0, e0_0, g0_0⟩ := (Opn_int Try.underlying3) _ _ _ t0_0
  obtain rfl : c0_0 = .int .i64 a0_0 := (List.cons.inj (show [c0_0] = [.int .i64 a0_0] from e0_0)).1
  obtain ⟨u0_1, n0_1, y0_1, f0_1, t0_1⟩ := hf0 1 _ rfl
  obtain rfl : c0_1 = u0_1 := by simpa using f0_1
  obtain ⟨a0_1, e0_1, g0_1⟩ := (Opn_int Try.underlying3) _ _ _ t0_1
  obtain rfl : c0_1 = .int .i64 a0_1 := (List.cons.inj (show [c0_1] = [.int .i64 a0_1] from e0_1)).1
  obtain ⟨u0_2, n0_2, y0_2, f0_2, t0_2⟩ := hf0 2 _ rfl
  obtain rfl : c0_2 = u0_2 := by simpa using f0_2
  obtain ⟨a0_2, e0_2, g0_2⟩ := (Opn_int Try.underlying3) _ _ _ t0_2
  obtain rfl : c0_2 = .int .i64 a0_2 := (List.cons.inj (show [c0_2] = [.int .i64 a0_2] from e0_2)).1
  obtain ⟨u0_3, n0_3, y0_3, f0_3, t0_3⟩ := hf0 3 _ rfl
  obtain rfl : c0_3 = u0_3 := by simpa using f0_3
  obtain ⟨a0_3, e0_3, g0_3⟩ := (Opn_string Try.underlying9) _ _ _ t0_3
  obtain rfl : c0_3 = .string a0_3 := (List.cons.inj (show [c0_3] = [.string a0_3] from e0_3)).1
  obtain ⟨u0_4, n0_4, y0_4, f0_4, t0_4⟩ := hf0 4 _ rfl
  obtain rfl : c0_4 = u0_4 := by simpa using f0_4
  obtain ⟨l0_4, hK0_4, g0_4⟩ := (Opn_slice z24 Try.underlying22 (by kernel_rfl) opn24) _ _ _ t0_4
  obtain ⟨A0_4, kp0_4, e0_4, hc0_4, hr0_4⟩ := hK0_4
  obtain rfl : c0_4 = .slice A0_4 l0_4.length kp0_4 := (List.cons.inj (show [c0_4] = [.slice A0_4 l0_4.length kp0_4] from e0_4)).1
  have k1 := h1
  have lt1 : ∀ x ∈ p1, x.block < W.heap.size := by obtain ⟨m, hm⟩ := k1; exact DataW.trod_lt m _ _ _ hm
  obtain ⟨fu1, hfu1⟩ := h1
  obtain ⟨ss1, rfl, _, _, _⟩ := open_string Try.underlying9 (hval 1 9 v1 rfl rfl) k1
  obtain ⟨a1, e1, g1⟩ := (Opn_string Try.underlying9) _ _ _ (show DataW.trod enc Try.prog W 0 (fun _ => true) true fu1 9 [.string ss1] = some (_, _) from by simpa [Value.cells] using hfu1)
  obtain rfl : a1 = ss1 := (show ss1 = a1 from by have z := (List.cons.inj (show ([.string ss1] : List Value) = [.string a1] from e1)).1; injection z).symm
  have k2 := h2
  have lt2 : ∀ x ∈ p2, x.block < W.heap.size := by obtain ⟨m, hm⟩ := k2; exact DataW.trod_lt m _ _ _ hm
  obtain ⟨fu2, hfu2⟩ := h2
  obtain ⟨ss2, rfl, _, _, _⟩ := open_int Try.underlying3 (hval 2 3 v2 rfl rfl) k2
  obtain ⟨a2, e2, g2⟩ := (Opn_int Try.underlying3) _ _ _ (show DataW.trod enc Try.prog W 0 (fun _ => true) true fu2 3 [.int .i64 ss2] = some (_, _) from by simpa [Value.cells] using hfu2)
  obtain rfl : a2 = ss2 := (show ss2 = a2 from by have z := (List.cons.inj (show ([.int .i64 ss2] : List Value) = [.int .i64 a2] from e2)).1; injection z).symm
  clear hA0 hval0 hsz0
  refine (Total.FnExactFind a0_0 g0_0 a0_1 g0_1 a0_2 g0_2 a0_3 g0_3 A0_4 kp0_4 l0_4 g0_4 a1 g1 a2 g2 W hr0_4 hc0_4).mono fun e W' ⟨he, bel⟩ => ?_
  subst he
  exact ⟨_, rfl, _, _, _, [], _, [], hW', trodAll_mk1 (shut_bool Try.underlying4 _), (trodAll_cons_mk (Below.trod laidOut (by kernel_rfl) (of_decide_eq_true (by kernel_rfl)) k0 bel lt0) (trodAll_cons_mk (Below.trod laidOut (by kernel_rfl) (of_decide_eq_true (by kernel_rfl)) k1 bel lt1) (trodAll_cons_mk (Below.trod laidOut (by kernel_rfl) (of_decide_eq_true (by kernel_rfl)) k2 bel lt2) trodAll_mk0))), rfl, bel.frame _, fun h => by cases h⟩
theorem over : Rows.fnExactFindRow.holds Try.pinned (OpenSpec.ofChange Rows.fnExactFindSpec) :=
  OpenClaim.holds_of_wide 3 Try.f3 rfl rfl rfl rfl rfl rfl rfl ⟨rfl, rfl, rfl, rfl, rfl⟩ rfl rfl rfl rfl rfl (by kernel_rfl) Try.func3 (by kernel_rfl)
    (of_decide_eq_true (by kernel_rfl)) (by unfold Func.isWrapper; first | (rw [if_pos (by decide +kernel)]; kernel_rfl) | (rw [if_neg (by decide +kernel)]; exact ⟨rfl, rfl⟩))
    (fun os started H enc _ => lifted os started H enc)
theorem proved : Rows.FnExactFindSaid := over
#print axioms proved
end Go.Proofs.Ytlpabbcgichaoaa.fnExactFind
namespace Go.Proofs.Ytlpabbcgichaoaa
theorem fnExactFind_holds : Rows.FnExactFindSaid := fnExactFind.proved
end Go.Proofs.Ytlpabbcgichaoaa
