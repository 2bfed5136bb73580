-- written by a program of this session (a copy of the print, widened: wip/patchprint.py)
import Derived.Test.YtlpabbcgichaoaaPFnExactFindx0
namespace Go.Proofs.Ytlpabbcgichaoaa.PFnExactFind
open Go.RowKit Go.Proofs.YtlpabbcgichaoaaW.PrintWords Go.Proofs.YtlpabbcgichaoaaW.PrintLast Go.Proofs.YtlpabbcgichaoaaW.PrintMore
attribute [local go_sem] max2_int min2_int max_two min_two max_three min_three max_four min_four   -- for this text's walks alone
set_option linter.unusedVariables false
set_option linter.unusedSimpArgs false

mutual
def laws_szRx.g : S24 → Int → Int
 | ⟨_, _, _, s, l⟩, left => if wrap64 (left - (s.size : Int)) < 0 then -1 else if wrap64 (wrap64 (left - (s.size : Int)) - (l.length : Int)) < 0 then -1 else laws_szRx.go l (wrap64 (wrap64 (left - (s.size : Int)) - (l.length : Int)))
def laws_szRx.go : List S24 → Int → Int
 | [], left => left
 | x :: l, left => if laws_szRx.g x left < 0 then -1 else laws_szRx.go l (laws_szRx.g x left)
end
def laws_szRxS.g (l : List S24) (left : Int) : Int := if wrap64 (left - (l.length : Int)) < 0 then -1 else laws_szRx.go l (wrap64 (left - (l.length : Int)))
theorem laws_szRx.go_neg : ∀ (l : List S24) (left : Int), laws_szRx.go l left < 0 → 0 ≤ left → laws_szRx.go l left = -1
 | [], left, h, h0 => by rw [laws_szRx.go] at h; omega
 | x :: l, left, h, h0 => by
  rw [laws_szRx.go] at h ⊢
  by_cases c : laws_szRx.g x left < 0
  ·
   rw [if_pos c]
  rw [if_neg c] at h ⊢
  exact laws_szRx.go_neg l _ h (by omega)
theorem laws_szRx.g_eq (x0 x1 x2 : Int) (x3 : ByteArray) (x4 : List S24) (left : Int) : laws_szRx.g ⟨x0, x1, x2, x3, x4⟩ left = if wrap64 (left - (x3.size : Int)) < 0 then -1 else if laws_szRxS.g x4 (wrap64 (left - (x3.size : Int))) < 0 then -1 else laws_szRxS.g x4 (wrap64 (left - (x3.size : Int))) := by
 rw [laws_szRx.g, laws_szRxS.g]
 by_cases c : wrap64 (left - (x3.size : Int)) < 0
 ·
  rw [if_pos c, if_pos c]
 rw [if_neg c, if_neg c]
 by_cases c2 : wrap64 (wrap64 (left - (x3.size : Int)) - (x4.length : Int)) < 0
 ·
  rw [if_pos c2]; rfl
 rw [if_neg c2]
 by_cases c3 : laws_szRx.go x4 (wrap64 (wrap64 (left - (x3.size : Int)) - (x4.length : Int))) < 0
 ·
  rw [if_pos c3]; exact laws_szRx.go_neg _ _ c3 (by omega)
 rw [if_neg c3]
theorem sz_at (l : List S24) (i : Nat) (hi : i < l.length) {n : Nat} (hn : SizeOf.sizeOf l ≤ n + 1) : SizeOf.sizeOf (rd_T24 l (i : Int)) ≤ n := by
 have hr : rd_T24 l (i : Int) = l[i] := by
  unfold rd_T24
  simp [List.getD_eq_getElem?_getD, List.getElem?_eq_getElem hi]
 rw [hr]
 have := List.sizeOf_lt_of_mem (List.getElem_mem hi)
 omega
theorem laws_szRx.go_step (l : List S24) (i : Nat) (t : Int) (h : i < l.length) : laws_szRx.go (l.drop i) t = if laws_szRx.g (rd_T24 l (i : Int)) t < 0 then -1 else laws_szRx.go (l.drop (i + 1)) (laws_szRx.g (rd_T24 l (i : Int)) t) := by
 rw [List.drop_eq_getElem_cons h, laws_szRx.go]
 have : rd_T24 l (i : Int) = l[i] := by
  unfold rd_T24
  simp [List.getD_eq_getElem?_getD, List.getElem?_eq_getElem h]
 rw [this]
set_option maxHeartbeats 8000000 in
set_option maxRecDepth 100000 in
theorem laws_szRxS.step (n : Nat) (ih : ∀ x : S24, SizeOf.sizeOf x ≤ n → ∀ (A4 : Option Addr) (c4 : Nat) (t : Int) (w : World), k24.C w A4 x.f4.length x.f4 → x.f4.length ≤ c4 → Calls Try.prog 6 #[.agg #[.int .i64 x.f0, .int .i64 x.f1, .int .i64 x.f2, .string x.f3, .slice A4 x.f4.length c4], .int .i64 t] w fun e w' => e = .returned (.int .i64 (laws_szRx.g x t)) ∧ Below w.heap.size w w')
  (l : List S24) (hn : SizeOf.sizeOf l ≤ n + 1) (A0 : Option Addr) (c0 : Nat) (left : Int) (w : World) (hr : k24.C w A0 l.length l) (hc : l.length ≤ c0) :
  Calls Try.prog 22 #[.slice A0 l.length c0, .int .i64 left] w fun e w' => e = .returned (.int .i64 (laws_szRxS.g l left)) ∧ Below w.heap.size w w' := by
 have HB := Aside0.mk (Below.refl w.heap.size w)
 have HR := Aside0.mk hr
 have HL := Aside0.mk hr.2.1
 have IH := Aside0.mk ih
 have HN := Aside0.mk hn
 clear hr ih hn hc
 by_cases c : wrap64 (left - (l.length : Int)) < 0
 ·
  have HE := Aside0.mk (show laws_szRxS.g l left = -1 from if_pos c)
  have cb := decide_eq_true c
  clear c
  go_enter Try.func22, Try.ntmps22
  go_wp2
  go_ret
  exact ⟨by rw [HE.out]; rfl, HB.out⟩
 have HE := Aside0.mk (show laws_szRxS.g l left = laws_szRx.go l (wrap64 (left - (l.length : Int))) from if_neg c)
 have cb := decide_eq_false c
 clear c
 go_enter Try.func22, Try.ntmps22
 go_wp2
 go_loopg [1, 5] (l.length + 1) (fun kq v1 v5 w' => ∃ (i : Nat) (t : Int), v1 = .int .i64 t ∧ v5 = .int .i64 (i : Int) ∧ Aside0 (i + kq = l.length + 1) ∧ Aside0 (laws_szRxS.g l left = laws_szRx.go (l.drop i) t) ∧ Aside0 (Below w.heap.size w w'))
 case atStart => exact ⟨0, _, rfl, rfl, ⟨by omega⟩, HE, HB⟩
 case round =>
  clear HB HE cb
  obtain ⟨i, t, rfl, rfl, HK, HI, HB⟩ := hrel
  have fin : l.length ≤ i → laws_szRxS.g l left = t := fun h => by rw [HI.out, List.drop_eq_nil_of_le h, laws_szRx.go]
  have FIN := Aside0.mk fin
  clear fin
  cases gk with
  | zero =>
   have hlt : decide ((i : Int) < (l.length : Int)) = false := decide_eq_false (by have := HK.out; omega)
   have hltn : decide (i < l.length) = false := decide_eq_false (by have := HK.out; omega)
   have HE := Aside0.mk (FIN.out (by have := HK.out; omega))
   go_wp2
   go_ret
   exact ⟨by rw [HE.out]; rfl, HB.out⟩
  | succ k1 =>
   rcases Nat.lt_or_ge i l.length with hi | hi
   ·
    have hlt : decide ((i : Int) < (l.length : Int)) = true := decide_eq_true (by omega)
    have hltn : decide (i < l.length) = true := decide_eq_true (by omega)
    have hw : wrap64 ((i : Int) + 1) = ((i + 1 : Nat) : Int) := by have := HL.out; unfold wrap64; omega
    have hww : IntKind.i64.wrap ((i : Int) + 1) = ((i + 1 : Nat) : Int) := (i64_w _).trans hw
    obtain ⟨ad, A4, c4, ea, hx0, hx1, hx2, hx3, hx4, hl4, hC4⟩ := at_T24 (Kd.C_below HR.out HB.out) (i : Int) (by omega) (by omega)
    cases ea
    simp only [Int.toNat_natCast] at hx0 hx1 hx2 hx3 hx4
    have HX := Aside0.mk hC4
    have HL4 := Aside0.mk hl4
    clear hC4 hl4
    have HS := Aside0.mk (laws_szRx.go_step l i t hi)
    have SZ := Aside0.mk (sz_at l i hi HN.out)
    have p1 := eq_true (show (0 : Int) ≤ (i : Int) by omega)
    have q1 := eq_true (show (i : Int) < (l.length : Int) by omega)
    obtain ⟨z, hz⟩ : ∃ z_, z_ = laws_szRx.g (rd_T24 l (i : Int)) t := ⟨_, rfl⟩
    have EV := Aside0.mk hz.symm
    rw [← hz] at HS
    clear hz
    by_cases c : z < 0
    ·
     have cb := decide_eq_true c
     have HE := Aside0.mk (show laws_szRxS.g l left = -1 by rw [HI.out, HS.out, if_pos c])
     clear c
     go_wp2_with (first | ((with_reducible refine gate_dst (N := 23) rfl ?_); refine goesL_ (some 23) rfl rfl Try.func6 (by kernel_rfl) rfl #[.agg #[.int .i64 (rd_T24 l (i : Int)).f0, .int .i64 (rd_T24 l (i : Int)).f1, .int .i64 (rd_T24 l (i : Int)).f2, .string (rd_T24 l (i : Int)).f3, .slice A4 (rd_T24 l (i : Int)).f4.length c4], .int .i64 t] rfl (by (try simp only [List.map_toArray, List.map_cons, List.map_nil]); first | done | rfl) ?_; (with_reducible refine (IH.out (rd_T24 l (i : Int)) SZ.out A4 c4 t _ HX.out HL4.out).mono ?_); rintro e w2 ⟨he, hb⟩; rw [EV.out] at he; subst he; refine ⟨_, rfl, ?_⟩; replace HB := Aside0.mk (below_step HB.out hb); clear hb))
     go_ret
     exact ⟨by rw [HE.out]; rfl, HB.out⟩
    have cb := decide_eq_false c
    have HE := Aside0.mk (show laws_szRxS.g l left = laws_szRx.go (l.drop (i + 1)) z by rw [HI.out, HS.out, if_neg c])
    clear c
    go_wp2_with (first | ((with_reducible refine gate_dst (N := 23) rfl ?_); refine goesL_ (some 23) rfl rfl Try.func6 (by kernel_rfl) rfl #[.agg #[.int .i64 (rd_T24 l (i : Int)).f0, .int .i64 (rd_T24 l (i : Int)).f1, .int .i64 (rd_T24 l (i : Int)).f2, .string (rd_T24 l (i : Int)).f3, .slice A4 (rd_T24 l (i : Int)).f4.length c4], .int .i64 t] rfl (by (try simp only [List.map_toArray, List.map_cons, List.map_nil]); first | done | rfl) ?_; (with_reducible refine (IH.out (rd_T24 l (i : Int)) SZ.out A4 c4 t _ HX.out HL4.out).mono ?_); rintro e w2 ⟨he, hb⟩; rw [EV.out] at he; subst he; refine ⟨_, rfl, ?_⟩; replace HB := Aside0.mk (below_step HB.out hb); clear hb))
    go_roundg k1
    case measure => have := HK.out; omega
    case rel => exact ⟨i + 1, z, rfl, by first | rfl | (simp only [hw]) | simp, ⟨by have := HK.out; omega⟩, HE, HB⟩
   have hlt : decide ((i : Int) < (l.length : Int)) = false := decide_eq_false (by omega)
   have hltn : decide (i < l.length) = false := decide_eq_false (by omega)
   have HE := Aside0.mk (FIN.out hi)
   go_wp2
   go_ret
   exact ⟨by rw [HE.out]; rfl, HB.out⟩
set_option maxHeartbeats 8000000 in
set_option maxRecDepth 100000 in
theorem laws_szRx.step (n : Nat) (hS : ∀ l : List S24, SizeOf.sizeOf l ≤ n → ∀ (A0 : Option Addr) (c0 : Nat) (t : Int) (w : World), k24.C w A0 l.length l → l.length ≤ c0 → Calls Try.prog 22 #[.slice A0 l.length c0, .int .i64 t] w fun e w' => e = .returned (.int .i64 (laws_szRxS.g l t)) ∧ Below w.heap.size w w')
  (x0 x1 x2 : Int) (x3 : ByteArray) (x4 : List S24) (hn : SizeOf.sizeOf x4 ≤ n) (A4 : Option Addr) (c4 : Nat) (left : Int) (w : World) (hr : k24.C w A4 x4.length x4) (hc : x4.length ≤ c4) :
  Calls Try.prog 6 #[.agg #[.int .i64 x0, .int .i64 x1, .int .i64 x2, .string x3, .slice A4 x4.length c4], .int .i64 left] w fun e w' => e = .returned (.int .i64 (laws_szRx.g ⟨x0, x1, x2, x3, x4⟩ left)) ∧ Below w.heap.size w w' := by
 have hu := Try.underlying24
 have HB := Aside0.mk (Below.refl w.heap.size w)
 have HR := Aside0.mk hr
 have HC := Aside0.mk hc
 have HSS := Aside0.mk hS
 have HNN := Aside0.mk hn
 clear hr hc hS hn
 have GE := Aside0.mk (laws_szRx.g_eq x0 x1 x2 x3 x4 left)
 obtain ⟨t, ht⟩ : ∃ t_, t_ = wrap64 (left - (x3.size : Int)) := ⟨_, rfl⟩
 rw [← ht] at GE
 have hwt : wrap64 (left - (x3.size : Int)) = t := ht.symm
 clear ht
 by_cases c : t < 0
 ·
  have cb := decide_eq_true c
  have HE := Aside0.mk (show _ = _ from GE.out.trans (if_pos c))
  clear c
  go_enter Try.func6, Try.ntmps6
  go_wp2_with (first | ((with_reducible refine gate_dst (N := 2) rfl ?_); refine box_event ?hg2 (N := 2) ?hd2 (cs := #[.int .i64 x0, .int .i64 x1, .int .i64 x2, .string x3, .slice A4 x4.length c4]) (t := 24) ?hr2 ?_; (case hd2 => rfl); (case hg2 => rfl); (case hr2 => first | (go_simp; done) | (go_simp; rfl)); intro g2 hg w2 hbox hb; replace HB := Aside0.mk (below_step HB.out hb); have hc2_3 := (blk_cell hbox 3).trans (show _ = some (.string x3) from rfl); have hc2_4 := (blk_cell hbox 4).trans (show _ = some (.slice A4 x4.length c4) from rfl); clear hb hg))
  go_ret
  exact ⟨by rw [HE.out]; rfl, HB.out⟩
 have cb := decide_eq_false c
 replace GE := Aside0.mk (GE.out.trans (if_neg c))
 clear c
 obtain ⟨z, hz⟩ : ∃ z_, z_ = laws_szRxS.g x4 t := ⟨_, rfl⟩
 rw [← hz] at GE
 have EV := Aside0.mk (show laws_szRxS.g x4 (wrap64 (left - (x3.size : Int))) = z by rw [hwt]; exact hz.symm)
 clear hz
 by_cases c : z < 0
 ·
  have cb2 := decide_eq_true c
  have HE := Aside0.mk (show _ = _ from GE.out.trans (if_pos c))
  clear c
  go_enter Try.func6, Try.ntmps6
  go_wp2_with (first | ((with_reducible refine gate_dst (N := 2) rfl ?_); refine box_event ?hg2 (N := 2) ?hd2 (cs := #[.int .i64 x0, .int .i64 x1, .int .i64 x2, .string x3, .slice A4 x4.length c4]) (t := 24) ?hr2 ?_; (case hd2 => rfl); (case hg2 => rfl); (case hr2 => first | (go_simp; done) | (go_simp; rfl)); intro g2 hg w2 hbox hb; replace HB := Aside0.mk (below_step HB.out hb); have hc2_3 := (blk_cell hbox 3).trans (show _ = some (.string x3) from rfl); have hc2_4 := (blk_cell hbox 4).trans (show _ = some (.slice A4 x4.length c4) from rfl); clear hb hg) | ((with_reducible refine gate_dst (N := 15) rfl ?_); refine goesL_ (some 15) rfl rfl Try.func22 (by kernel_rfl) rfl #[.slice A4 x4.length c4, .int .i64 (wrap64 (left - (x3.size : Int)))] rfl (by (try simp only [List.map_toArray, List.map_cons, List.map_nil]); first | done | rfl) ?_; (with_reducible refine (HSS.out x4 HNN.out A4 c4 (wrap64 (left - (x3.size : Int))) _ (Kd.C_below HR.out HB.out) HC.out).mono ?_); rintro e w2 ⟨he, hb⟩; rw [EV.out] at he; subst he; refine ⟨_, rfl, ?_⟩; replace HB := Aside0.mk (below_step HB.out hb); clear hb))
  go_ret
  exact ⟨by rw [HE.out]; rfl, HB.out⟩
 have cb2 := decide_eq_false c
 have HE := Aside0.mk (show _ = _ from GE.out.trans (if_neg c))
 clear c
 go_enter Try.func6, Try.ntmps6
 go_wp2_with (first | ((with_reducible refine gate_dst (N := 2) rfl ?_); refine box_event ?hg2 (N := 2) ?hd2 (cs := #[.int .i64 x0, .int .i64 x1, .int .i64 x2, .string x3, .slice A4 x4.length c4]) (t := 24) ?hr2 ?_; (case hd2 => rfl); (case hg2 => rfl); (case hr2 => first | (go_simp; done) | (go_simp; rfl)); intro g2 hg w2 hbox hb; replace HB := Aside0.mk (below_step HB.out hb); have hc2_3 := (blk_cell hbox 3).trans (show _ = some (.string x3) from rfl); have hc2_4 := (blk_cell hbox 4).trans (show _ = some (.slice A4 x4.length c4) from rfl); clear hb hg) | ((with_reducible refine gate_dst (N := 15) rfl ?_); refine goesL_ (some 15) rfl rfl Try.func22 (by kernel_rfl) rfl #[.slice A4 x4.length c4, .int .i64 (wrap64 (left - (x3.size : Int)))] rfl (by (try simp only [List.map_toArray, List.map_cons, List.map_nil]); first | done | rfl) ?_; (with_reducible refine (HSS.out x4 HNN.out A4 c4 (wrap64 (left - (x3.size : Int))) _ (Kd.C_below HR.out HB.out) HC.out).mono ?_); rintro e w2 ⟨he, hb⟩; rw [EV.out] at he; subst he; refine ⟨_, rfl, ?_⟩; replace HB := Aside0.mk (below_step HB.out hb); clear hb))
 go_ret
 exact ⟨by rw [HE.out]; rfl, HB.out⟩
theorem laws_szRx.any : ∀ n : Nat, (∀ l : List S24, SizeOf.sizeOf l ≤ n → ∀ (A0 : Option Addr) (c0 : Nat) (t : Int) (w : World), k24.C w A0 l.length l → l.length ≤ c0 → Calls Try.prog 22 #[.slice A0 l.length c0, .int .i64 t] w fun e w' => e = .returned (.int .i64 (laws_szRxS.g l t)) ∧ Below w.heap.size w w') ∧
  (∀ x : S24, SizeOf.sizeOf x ≤ n → ∀ (A4 : Option Addr) (c4 : Nat) (t : Int) (w : World), k24.C w A4 x.f4.length x.f4 → x.f4.length ≤ c4 → Calls Try.prog 6 #[.agg #[.int .i64 x.f0, .int .i64 x.f1, .int .i64 x.f2, .string x.f3, .slice A4 x.f4.length c4], .int .i64 t] w fun e w' => e = .returned (.int .i64 (laws_szRx.g x t)) ∧ Below w.heap.size w w')
 | 0 => ⟨fun l h => by cases l <;> simp at h, fun x h => by cases x; simp at h⟩
 | n + 1 => by
  obtain ⟨i1, i2⟩ := laws_szRx.any n
  refine ⟨fun l h A0 c0 t w hr hc => laws_szRxS.step n i2 l h A0 c0 t w hr hc, fun x h A4 c4 t w hr hc => ?_⟩
  obtain ⟨x0, x1, x2, x3, x4⟩ := x
  exact laws_szRx.step n i1 x0 x1 x2 x3 x4 (by simp at h; omega) A4 c4 t w hr hc
def laws_szRxS.f (l0 : List (S24)) (a1 : Int) : Option (Int) := some (laws_szRxS.g l0 a1)
def laws_szRx.f (a0_0 : Int) (a0_1 : Int) (a0_2 : Int) (a0_3 : ByteArray) (l0_4 : List (S24)) (a1 : Int) : Option (Int) := some (laws_szRx.g ⟨a0_0, a0_1, a0_2, a0_3, l0_4⟩ a1)
theorem laws_szRx.calls (a0_0 : Int) (a0_1 : Int) (a0_2 : Int) (a0_3 : ByteArray) (A0_4 : Option Addr) (c0_4 : Nat) (l0_4 : List (S24)) (a1 : Int) (r : Int) (w : World) (hr0_4 : Kd.C k24 w A0_4 l0_4.length l0_4) (hc0_4 : l0_4.length ≤ c0_4) (h : laws_szRx.f a0_0 a0_1 a0_2 a0_3 l0_4 a1 = some r) :
  Calls Try.prog 6 #[.agg #[.int .i64 a0_0, .int .i64 a0_1, .int .i64 a0_2, .string a0_3, .slice A0_4 l0_4.length c0_4], .int .i64 a1] w fun e w' => e = .returned (.int .i64 r) ∧ Below w.heap.size w w' := by
 obtain rfl := Option.some.inj h
 exact (laws_szRx.any _).2 ⟨a0_0, a0_1, a0_2, a0_3, l0_4⟩ (Nat.le_refl _) A0_4 c0_4 a1 w hr0_4 hc0_4


mutual
def spec_l05Left.l0 : Nat → Int → Int → Int → Int → Int → ByteArray → List (S31) → Option (Int)
 | 0, _, _, _, _, _, _, _ => none
 | k + 1, x1, x5, x102000, x102001, x102002, x102003, x102004 => if x5 < (x102004.length : Int) then (if x1 ≥ 0 then (if 0 ≤ x5 then ((spec_l05Left.f k ((rd_T31 x102004 x5).f0) ((rd_T31 x102004 x5).f1) ((rd_T31 x102004 x5).f2) ((rd_T31 x102004 x5).f3) ((rd_T31 x102004 x5).f4) x1).bind fun t103 => (spec_l05Left.l0 k t103 (wrap64 (x5 + 1)) x102000 x102001 x102002 x102003 x102004)) else (none)) else (some x1)) else (some x1)
def spec_l05Left.f : Nat → Int → Int → Int → ByteArray → List (S31) → Int → Option (Int)
 | 0, _, _, _, _, _, _ => none
 | k + 1, a0_0, a0_1, a0_2, a0_3, l0_4, a1 => spec_l05Left.l0 k (wrap64 (a1 - 1)) 0 a0_0 a0_1 a0_2 a0_3 l0_4
end
set_option maxHeartbeats 8000000 in
set_option maxRecDepth 100000 in
theorem spec_l05Left.calls (k : Nat) : ∀ (a0_0 : Int) (a0_1 : Int) (a0_2 : Int) (a0_3 : ByteArray) (A0_4 : Option Addr) (c0_4 : Nat) (l0_4 : List (S31)) (a1 : Int) (r : Int) (w : World) (hr0_4 : Kd.C k31 w A0_4 l0_4.length l0_4) (hc0_4 : l0_4.length ≤ c0_4) (h : spec_l05Left.f k a0_0 a0_1 a0_2 a0_3 l0_4 a1 = some r),
  Calls Try.prog 55 #[.agg #[.int .i64 a0_0, .int .i64 a0_1, .int .i64 a0_2, .string a0_3, .slice A0_4 l0_4.length c0_4], .int .i64 a1] w fun e w' => e = .returned (.int .i64 r) ∧ Below w.heap.size w w' := by
 induction k using Nat.strongRecOn with
 | _ k ih =>
 intro a0_0 a0_1 a0_2 a0_3 A0_4 c0_4 l0_4 a1 r w hr0_4 hc0_4 h
 cases k with
 | zero => exact absurd h (by simp [spec_l05Left.f])
 | succ k =>
 simp only [spec_l05Left.f] at h
 have hu31 := Try.underlying31
 have HR0_4 := Aside0.mk hr0_4
 have HC0_4 := Aside0.mk hc0_4
 clear hr0_4 hc0_4
 have HB := Aside0.mk (Below.refl w.heap.size w)
 have H : (spec_l05Left.l0 k (wrap64 (a1 - 1)) 0 a0_0 a0_1 a0_2 a0_3 l0_4) = some r := h
 clear h
 have H' := Aside0.mk H
 clear H
 go_enter Try.func55, Try.ntmps55
 go_wp2_with (first | ((with_reducible refine gate_dst (N := 2) rfl ?_); refine box_event ?hg (N := 2) ?hd (cs := #[.int .i64 a0_0, .int .i64 a0_1, .int .i64 a0_2, .string a0_3, .slice A0_4 l0_4.length c0_4]) (t := 31) ?hr ?_; (case hd => rfl); (case hg => rfl); (case hr => first | (go_simp; done) | (go_simp; rfl)); intro gb101 hg w3 hbox hb; have n0_ := Aside0.mk (below_step (by repeat (first | (with_reducible first | exact HB.out | apply below_alloc | apply pw_below_drewN | apply below_drew1) | exact HB.out)) hb); have n1_ := Aside0.mk (hbox); have n2_ := Aside0.mk ((by rw [hg]; exact (below_size (by repeat (first | (with_reducible first | exact HB.out | apply below_alloc | apply pw_below_drewN | apply below_drew1) | exact HB.out))) : w.heap.size ≤ gb101)); have n3_ := Aside0.mk ((by rw [hg]; exact (below_size (by repeat (first | (with_reducible first | exact HB.out | apply below_alloc | apply pw_below_drewN | apply below_drew1) | exact HB.out))) : w.heap.size ≤ gb101)); clear HB; have HB := n0_; have BK101 := n1_; have GW101 := n2_; have GE101 := n3_; clear n0_ n1_ n2_ n3_; clear hb hbox hg))
 go_loopg [1, 5] k (fun kq v1 v5 w' => ∃ (x1_1 : Int) (x5_1 : Int), v1 = .int .i64 x1_1 ∧ v5 = .int .i64 x5_1 ∧ Aside0 (spec_l05Left.l0 kq x1_1 x5_1 a0_0 a0_1 a0_2 a0_3 l0_4 = some r) ∧ Aside0 (kq ≤ k) ∧ Aside0 (w'.heap[gb101]? = some (.cells #[.int .i64 a0_0, .int .i64 a0_1, .int .i64 a0_2, .string a0_3, (.slice A0_4 l0_4.length c0_4)] 31 (0, 0))) ∧ Aside0 (Below w.heap.size w w'))
 case atStart => exact ⟨(wrap64 (a1 - 1)), (0), (by first | rfl | (simp; done) | (simp [*]; done)), (by first | rfl | (simp; done) | (simp [*]; done)), H', ⟨Nat.le_refl _⟩, ⟨by (with_reducible repeat (first | refine blk_drewN ?_ _ | refine blk_drew ?_ | refine blk_alloc ?_ _)); exact BK101.out⟩, ⟨by repeat (first | (with_reducible first | exact HB.out | apply below_alloc | apply pw_below_drewN | apply below_drew1 | refine below_set ?_ GE101.out) | exact HB.out)⟩⟩
 case round =>
  clear H'
  obtain ⟨x1_1, x5_1, rfl, rfl, HA, HK1, BK101, HB⟩ := hrel
  cases gk with
  | zero => exact absurd HA.out (by simp [spec_l05Left.l0])
  | succ k1 =>
   have H := HA.out
   clear HA
   simp only [spec_l05Left.l0] at H
   by_cases c4 : x5_1 < (l0_4.length : Int)
   ·
    rw [if_pos c4] at H
    have c4b0 : decide (x5_1 < (l0_4.length : Int)) = true := decide_eq_true c4
    clear c4
    by_cases c5 : x1_1 ≥ 0
    ·
     rw [if_pos c5] at H
     have c5b0 : decide (0 ≤ x1_1) = true := decide_eq_true c5
     clear c5
     by_cases c6 : 0 ≤ x5_1
     ·
      rw [if_pos c6] at H
      have c6b0 : decide (0 ≤ x5_1) = true := decide_eq_true c6
      clear c6
      replace H := Option.bind_eq_some_iff.mp H
      obtain ⟨t103, A70, H⟩ := H
      replace H : (spec_l05Left.l0 k1 t103 (wrap64 (x5_1 + 1)) a0_0 a0_1 a0_2 a0_3 l0_4) = some r := H
      have A7 := Aside0.mk A70
      clear A70
      as_aux_lemma =>
       have H' := Aside0.mk H
       clear H
       have hcz8_0 : wr.cell? ⟨gb101, 0, none⟩ = some (.int .i64 a0_0) := (blk_cell BK101.out 0).trans rfl
       have hcz8_1 : wr.cell? ⟨gb101, 1, none⟩ = some (.int .i64 a0_1) := (blk_cell BK101.out 1).trans rfl
       have hcz8_2 : wr.cell? ⟨gb101, 2, none⟩ = some (.int .i64 a0_2) := (blk_cell BK101.out 2).trans rfl
       have hcz8_3 : wr.cell? ⟨gb101, 3, none⟩ = some (.string a0_3) := (blk_cell BK101.out 3).trans rfl
       have hcz8_4 : wr.cell? ⟨gb101, 4, none⟩ = some (.slice A0_4 l0_4.length c0_4) := (blk_cell BK101.out 4).trans rfl
       have hfz8_0 := blk_frozen BK101.out 0
       have hfz8_1 := blk_frozen BK101.out 1
       have hfz8_2 := blk_frozen BK101.out 2
       have hfz8_3 := blk_frozen BK101.out 3
       have hfz8_4 := blk_frozen BK101.out 4
       have p102 : 0 ≤ (x5_1 : Int) := of_decide_eq_true (by first | (with_reducible assumption) | assumption)
       have q102 : x5_1 < (l0_4.length : Int) := of_decide_eq_true (by first | (with_reducible assumption) | assumption)
       obtain ⟨ad102, A102_4, c102_4, e102, hx102_0, hx102_1, hx102_2, hx102_3, hx102_4, hl102_4, hi102_4⟩ := at_T31 HR0_4.out x5_1 p102 q102
       cases e102
       replace hx102_0 := (HB.out.cell (World.block_lt_of_cell? w _ hx102_0)).trans hx102_0
       replace hx102_1 := (HB.out.cell (World.block_lt_of_cell? w _ hx102_1)).trans hx102_1
       replace hx102_2 := (HB.out.cell (World.block_lt_of_cell? w _ hx102_2)).trans hx102_2
       replace hx102_3 := (HB.out.cell (World.block_lt_of_cell? w _ hx102_3)).trans hx102_3
       replace hx102_4 := (HB.out.cell (World.block_lt_of_cell? w _ hx102_4)).trans hx102_4
       have HR102_4 := Aside0.mk hi102_4
       have HC102_4 := Aside0.mk hl102_4
       clear hi102_4 hl102_4
       replace p102 := eq_true p102
       replace q102 := eq_true q102
       go_wp2_with (first | ((with_reducible refine gate_callee (f := 55) rfl ?_); refine goesL_ (some 25) rfl rfl Try.func55 (by kernel_rfl) rfl #[.agg #[.int .i64 ((rd_T31 l0_4 x5_1).f0), .int .i64 ((rd_T31 l0_4 x5_1).f1), .int .i64 ((rd_T31 l0_4 x5_1).f2), .string ((rd_T31 l0_4 x5_1).f3), .slice A102_4 ((rd_T31 l0_4 x5_1).f4).length c102_4], .int .i64 x1_1] rfl (by (try simp only [List.map_toArray, List.map_cons, List.map_nil]); first | done | rfl | (simp only [List.length_drop, List.length_take]; rfl)) ?_; (with_reducible refine (ih k1 (by have := HK1.out; omega) ((rd_T31 l0_4 x5_1).f0) ((rd_T31 l0_4 x5_1).f1) ((rd_T31 l0_4 x5_1).f2) ((rd_T31 l0_4 x5_1).f3) _ _ ((rd_T31 l0_4 x5_1).f4) x1_1 t103 _ ?side1 ?side2 A7.out).mono ?_); (case side1 => repeat (first | exact (Kd.C_below HR102_4.out HB.out) | (with_reducible refine Kd.C_alloc ?_ _) | (with_reducible refine Kd.C_drewN ?_ _) | (with_reducible refine Kd.C_drew ?_))); (case side2 => exact HC102_4.out); rintro e w9 ⟨rfl, hb⟩; refine ⟨_, rfl, ?_⟩; have n0_ := Aside0.mk (blk_below (g := gb101) (o := .cells #[.int .i64 a0_0, .int .i64 a0_1, .int .i64 a0_2, .string a0_3, .slice (some ad102) l0_4.length c0_4] 31 (0, 0)) (by (with_reducible repeat (first | refine blk_drewN ?_ _ | refine blk_drew ?_ | refine blk_alloc ?_ _)); exact BK101.out) hb); have n1_ := Aside0.mk (below_step (by repeat (first | (with_reducible first | exact HB.out | apply below_alloc | apply pw_below_drewN | apply below_drew1 | refine below_set ?_ GE101.out) | exact HB.out)) hb); clear BK101; clear HB; have BK101 := n0_; have HB := n1_; clear n0_ n1_; (try clear hb); (try clear hb2); (try clear hk); (try clear hi)))
       go_roundg k1
       case measure => have := HK1.out; omega
       case rel => exact ⟨(t103), (wrap64 (x5_1 + 1)), (by first | rfl | (simp; done) | (simp [*]; done)), (by first | rfl | (simp; done) | (simp [*]; done)), H', ⟨by have := HK1.out; omega⟩, ⟨by (with_reducible repeat (first | refine blk_drewN ?_ _ | refine blk_drew ?_ | refine blk_alloc ?_ _)); exact BK101.out⟩, ⟨by repeat (first | (with_reducible first | exact HB.out | apply below_alloc | apply pw_below_drewN | apply below_drew1 | refine below_set ?_ GE101.out) | exact HB.out)⟩⟩
     rw [if_neg c6] at H
     exact absurd H (by simp)
    rw [if_neg c5] at H
    have c5b0 : decide (0 ≤ x1_1) = false := decide_eq_false c5
    clear c5
    as_aux_lemma =>
     obtain rfl := Option.some.inj H
     have hcz10_0 : wr.cell? ⟨gb101, 0, none⟩ = some (.int .i64 a0_0) := (blk_cell BK101.out 0).trans rfl
     have hcz10_1 : wr.cell? ⟨gb101, 1, none⟩ = some (.int .i64 a0_1) := (blk_cell BK101.out 1).trans rfl
     have hcz10_2 : wr.cell? ⟨gb101, 2, none⟩ = some (.int .i64 a0_2) := (blk_cell BK101.out 2).trans rfl
     have hcz10_3 : wr.cell? ⟨gb101, 3, none⟩ = some (.string a0_3) := (blk_cell BK101.out 3).trans rfl
     have hcz10_4 : wr.cell? ⟨gb101, 4, none⟩ = some (.slice A0_4 l0_4.length c0_4) := (blk_cell BK101.out 4).trans rfl
     have hfz10_0 := blk_frozen BK101.out 0
     have hfz10_1 := blk_frozen BK101.out 1
     have hfz10_2 := blk_frozen BK101.out 2
     have hfz10_3 := blk_frozen BK101.out 3
     have hfz10_4 := blk_frozen BK101.out 4
     go_wp2
     go_ret
     exact ⟨by first | rfl | (simp [errW_none, errW_some] <;> rfl) | (simp [*, errW_none, errW_some] <;> rfl), by repeat (first | (with_reducible first | exact HB.out | apply below_alloc | apply pw_below_drewN | apply below_drew1 | refine below_set ?_ GE101.out) | exact HB.out)⟩
   rw [if_neg c4] at H
   have c4b0 : decide (x5_1 < (l0_4.length : Int)) = false := decide_eq_false c4
   clear c4
   as_aux_lemma =>
    obtain rfl := Option.some.inj H
    have hcz11_0 : wr.cell? ⟨gb101, 0, none⟩ = some (.int .i64 a0_0) := (blk_cell BK101.out 0).trans rfl
    have hcz11_1 : wr.cell? ⟨gb101, 1, none⟩ = some (.int .i64 a0_1) := (blk_cell BK101.out 1).trans rfl
    have hcz11_2 : wr.cell? ⟨gb101, 2, none⟩ = some (.int .i64 a0_2) := (blk_cell BK101.out 2).trans rfl
    have hcz11_3 : wr.cell? ⟨gb101, 3, none⟩ = some (.string a0_3) := (blk_cell BK101.out 3).trans rfl
    have hcz11_4 : wr.cell? ⟨gb101, 4, none⟩ = some (.slice A0_4 l0_4.length c0_4) := (blk_cell BK101.out 4).trans rfl
    have hfz11_0 := blk_frozen BK101.out 0
    have hfz11_1 := blk_frozen BK101.out 1
    have hfz11_2 := blk_frozen BK101.out 2
    have hfz11_3 := blk_frozen BK101.out 3
    have hfz11_4 := blk_frozen BK101.out 4
    go_wp2
    go_ret
    exact ⟨by first | rfl | (simp [errW_none, errW_some] <;> rfl) | (simp [*, errW_none, errW_some] <;> rfl), by repeat (first | (with_reducible first | exact HB.out | apply below_alloc | apply pw_below_drewN | apply below_drew1 | refine below_set ?_ GE101.out) | exact HB.out)⟩

end Go.Proofs.Ytlpabbcgichaoaa.PFnExactFind
