import Derived.Test.YtlpabbcgichaoaaPFnExactFindx0
import Derived.Test.YtlpabbcgichaoaaWWords
section
namespace Go.Proofs.Ytlpabbcgichaoaa.PFnExactFind
open Go.RowKit Go.Proofs.YtlpabbcgichaoaaW.PrintWords Go.Proofs.YtlpabbcgichaoaaW.PrintLast Go.Proofs.YtlpabbcgichaoaaW.PrintMore
attribute [local go_sem] max2_int min2_int max_two min_two max_three min_three max_four min_four
set_option maxHeartbeats 8000000
set_option maxRecDepth 100000
set_option linter.unusedVariables false
set_option linter.unusedSimpArgs false
mutual
def laws_szRx.g : S24 → Int → Int
 | ⟨_, _, _, s, l⟩, left => if wrap64 (left - (s.size : Int)) < 0 then -1 else if wrap64 (wrap64 (left - (s.size : Int)) - (l.length : Int)) < 0 then -1 else laws_szRx.go l (wrap64 (wrap64 (left - (s.size : Int)) - (l.length : Int)))
def laws_szRx.go : List S24 → Int → Int
 | [], left => left
 | x :: l, left => if laws_szRx.g x left < 0 then -1 else laws_szRx.go l (laws_szRx.g x left)
end
def laws_szRxS.g (l : List S24) (left : Int) : Int := if wrap64 (left - (l.length : Int)) < 0 then -1 else laws_szRx.go l (wrap64 (left - (l.length : Int)))
theorem laws_szRx.go_neg : ∀ (l : List S24) (left : Int), laws_szRx.go l left < 0 → 0 ≤ left → laws_szRx.go l left = -1
 | [], left, h, h0 => by rw [laws_szRx.go] at h; omega
 | x :: l, left, h, h0 => by
  rw [laws_szRx.go] at h ⊢
  by_cases c : laws_szRx.g x left < 0
  ·
   rw [if_pos c]
  rw [if_neg c] at h ⊢
  exact laws_szRx.go_neg l _ h (by omega)
theorem laws_szRx.g_eq (x0 x1 x2 : Int) (x3 : ByteArray) (x4 : List S24) (left : Int) : laws_szRx.g ⟨x0, x1, x2, x3, x4⟩ left = if wrap64 (left - (x3.size : Int)) < 0 then -1 else if laws_szRxS.g x4 (wrap64 (left - (x3.size : Int))) < 0 then -1 else laws_szRxS.g x4 (wrap64 (left - (x3.size : Int))) := by
 rw [laws_szRx.g, laws_szRxS.g]
 by_cases c : wrap64 (left - (x3.size : Int)) < 0
 ·
  rw [if_pos c, if_pos c]
 rw [if_neg c, if_neg c]
 by_cases c2 : wrap64 (wrap64 (left - (x3.size : Int)) - (x4.length : Int)) < 0
 ·
  rw [if_pos c2]; rfl
 rw [if_neg c2]
 by_cases c3 : laws_szRx.go x4 (wrap64 (wrap64 (left - (x3.size : Int)) - (x4.length : Int))) < 0
 ·
  rw [if_pos c3]; exact laws_szRx.go_neg _ _ c3 (by omega)
 rw [if_neg c3]
theorem sz_at (l : List S24) (i : Nat) (hi : i < l.length) {n : Nat} (hn : SizeOf.sizeOf l ≤ n + 1) : SizeOf.sizeOf (rd_T24 l (i : Int)) ≤ n := by
 have hr : rd_T24 l (i : Int) = l[i] := by
  unfold rd_T24
  simp [List.getD_eq_getElem?_getD, List.getElem?_eq_getElem hi]
 rw [hr]
 have := List.sizeOf_lt_of_mem (List.getElem_mem hi)
 omega
theorem laws_szRx.go_step (l : List S24) (i : Nat) (t : Int) (h : i < l.length) : laws_szRx.go (l.drop i) t = if laws_szRx.g (rd_T24 l (i : Int)) t < 0 then -1 else laws_szRx.go (l.drop (i + 1)) (laws_szRx.g (rd_T24 l (i : Int)) t) := by
 rw [List.drop_eq_getElem_cons h, laws_szRx.go]
 have : rd_T24 l (i : Int) = l[i] := by
  unfold rd_T24
  simp [List.getD_eq_getElem?_getD, List.getElem?_eq_getElem h]
 rw [this]
theorem laws_szRxS.step (n : Nat) (ih : ∀ x : S24, SizeOf.sizeOf x ≤ n → ∀ (A4 : Option Addr) (c4 : Nat) (t : Int) (w : World), k24.C w A4 x.f4.length x.f4 → x.f4.length ≤ c4 → Calls Try.prog 6 #[.agg #[.int .i64 x.f0, .int .i64 x.f1, .int .i64 x.f2, .string x.f3, .slice A4 x.f4.length c4], .int .i64 t] w fun e w' => e = .returned (.int .i64 (laws_szRx.g x t)) ∧ Below w.heap.size w w')
  (l : List S24) (hn : SizeOf.sizeOf l ≤ n + 1) (A0 : Option Addr) (c0 : Nat) (left : Int) (w : World) (hr : k24.C w A0 l.length l) (hc : l.length ≤ c0) :
  Calls Try.prog 22 #[.slice A0 l.length c0, .int .i64 left] w fun e w' => e = .returned (.int .i64 (laws_szRxS.g l left)) ∧ Below w.heap.size w w' := by
 have HB := am (Below.refl w.heap.size w)
 have HR := am hr
 have HL := am hr.2.1
 have IH := am ih
 have HN := am hn
 clear hr ih hn hc
 by_cases c : wrap64 (left - (l.length : Int)) < 0
 ·
  have HE := am (show laws_szRxS.g l left = -1 from if_pos c)
  have cb := decide_eq_true c
  clear c
  go_enter Try.func22, Try.ntmps22
  go_wp2
  go_ret
  exact ⟨by rw [HE.out]; rfl, HB.out⟩
 have HE := am (show laws_szRxS.g l left = laws_szRx.go l (wrap64 (left - (l.length : Int))) from if_neg c)
 have cb := decide_eq_false c
 clear c
 go_enter Try.func22, Try.ntmps22
 go_wp2
 go_loopg [1, 5] (l.length + 1) (fun kq v1 v5 w' => ∃ (i : Nat) (t : Int), v1 = .int .i64 t ∧ v5 = .int .i64 (i : Int) ∧ Aside0 (i + kq = l.length + 1) ∧ Aside0 (laws_szRxS.g l left = laws_szRx.go (l.drop i) t) ∧ Aside0 (Below w.heap.size w w'))
 case atStart => exact ⟨0, _, rfl, rfl, ⟨by omega⟩, HE, HB⟩
 case round =>
  clear HB HE cb
  obtain ⟨i, t, rfl, rfl, HK, HI, HB⟩ := hrel
  have fin : l.length ≤ i → laws_szRxS.g l left = t := fun h => by rw [HI.out, List.drop_eq_nil_of_le h, laws_szRx.go]
  have FIN := am fin
  clear fin
  cases gk with
  | zero =>
   have hlt : decide ((i : Int) < (l.length : Int)) = false := decide_eq_false (by have := HK.out; omega)
   have hltn : decide (i < l.length) = false := decide_eq_false (by have := HK.out; omega)
   have HE := am (FIN.out (by have := HK.out; omega))
   go_wp2
   go_ret
   exact ⟨by rw [HE.out]; rfl, HB.out⟩
  | succ k1 =>
   rcases Nat.lt_or_ge i l.length with hi | hi
   ·
    have hlt : decide ((i : Int) < (l.length : Int)) = true := decide_eq_true (by omega)
    have hltn : decide (i < l.length) = true := decide_eq_true (by omega)
    have hw : wrap64 ((i : Int) + 1) = ((i + 1 : Nat) : Int) := by have := HL.out; unfold wrap64; omega
    have hww : IntKind.i64.wrap ((i : Int) + 1) = ((i + 1 : Nat) : Int) := (i64_w _).trans hw
    obtain ⟨ad, A4, c4, ea, hx0, hx1, hx2, hx3, hx4, hl4, hC4⟩ := at_T24 (Kd.C_below HR.out HB.out) (i : Int) (by omega) (by omega)
    cases ea
    simp only [Int.toNat_natCast] at hx0 hx1 hx2 hx3 hx4
    have HX := am hC4
    have HL4 := am hl4
    clear hC4 hl4
    have HS := am (laws_szRx.go_step l i t hi)
    have SZ := am (sz_at l i hi HN.out)
    have p1 := eq_true (show (0 : Int) ≤ (i : Int) by omega)
    have q1 := eq_true (show (i : Int) < (l.length : Int) by omega)
    obtain ⟨z, hz⟩ : ∃ z_, z_ = laws_szRx.g (rd_T24 l (i : Int)) t := ⟨_, rfl⟩
    have EV := am hz.symm
    rw [← hz] at HS
    clear hz
    by_cases c : z < 0
    ·
     have cb := decide_eq_true c
     have HE := am (show laws_szRxS.g l left = -1 by rw [HI.out, HS.out, if_pos c])
     clear c
     go_wp2_with (first | ((with_reducible refine gate_dst (N := 23) rfl ?_); refine goesL_ (some 23) rfl rfl Try.func6 (by kernel_rfl) rfl #[.agg #[.int .i64 (rd_T24 l (i : Int)).f0, .int .i64 (rd_T24 l (i : Int)).f1, .int .i64 (rd_T24 l (i : Int)).f2, .string (rd_T24 l (i : Int)).f3, .slice A4 (rd_T24 l (i : Int)).f4.length c4], .int .i64 t] rfl (by (try simp only [List.map_toArray, List.map_cons, List.map_nil]); first | done | rfl) ?_; (with_reducible refine (IH.out (rd_T24 l (i : Int)) SZ.out A4 c4 t _ HX.out HL4.out).mono ?_); rintro e w2 ⟨he, hb⟩; rw [EV.out] at he; subst he; refine ⟨_, rfl, ?_⟩; replace HB := am (below_step HB.out hb); clear hb))
     go_ret
     exact ⟨by rw [HE.out]; rfl, HB.out⟩
    have cb := decide_eq_false c
    have HE := am (show laws_szRxS.g l left = laws_szRx.go (l.drop (i + 1)) z by rw [HI.out, HS.out, if_neg c])
    clear c
    go_wp2_with (first | ((with_reducible refine gate_dst (N := 23) rfl ?_); refine goesL_ (some 23) rfl rfl Try.func6 (by kernel_rfl) rfl #[.agg #[.int .i64 (rd_T24 l (i : Int)).f0, .int .i64 (rd_T24 l (i : Int)).f1, .int .i64 (rd_T24 l (i : Int)).f2, .string (rd_T24 l (i : Int)).f3, .slice A4 (rd_T24 l (i : Int)).f4.length c4], .int .i64 t] rfl (by (try simp only [List.map_toArray, List.map_cons, List.map_nil]); first | done | rfl) ?_; (with_reducible refine (IH.out (rd_T24 l (i : Int)) SZ.out A4 c4 t _ HX.out HL4.out).mono ?_); rintro e w2 ⟨he, hb⟩; rw [EV.out] at he; subst he; refine ⟨_, rfl, ?_⟩; replace HB := am (below_step HB.out hb); clear hb))
    go_roundg k1
    case measure => have := HK.out; omega
    case rel => exact ⟨i + 1, z, rfl, by first | rfl | (simp only [hw]) | simp, ⟨by have := HK.out; omega⟩, HE, HB⟩
   have hlt : decide ((i : Int) < (l.length : Int)) = false := decide_eq_false (by omega)
   have hltn : decide (i < l.length) = false := decide_eq_false (by omega)
   have HE := am (FIN.out hi)
   go_wp2
   go_ret
   exact ⟨by rw [HE.out]; rfl, HB.out⟩
theorem laws_szRx.step (n : Nat) (hS : ∀ l : List S24, SizeOf.sizeOf l ≤ n → ∀ (A0 : Option Addr) (c0 : Nat) (t : Int) (w : World), k24.C w A0 l.length l → l.length ≤ c0 → Calls Try.prog 22 #[.slice A0 l.length c0, .int .i64 t] w fun e w' => e = .returned (.int .i64 (laws_szRxS.g l t)) ∧ Below w.heap.size w w')
  (x0 x1 x2 : Int) (x3 : ByteArray) (x4 : List S24) (hn : SizeOf.sizeOf x4 ≤ n) (A4 : Option Addr) (c4 : Nat) (left : Int) (w : World) (hr : k24.C w A4 x4.length x4) (hc : x4.length ≤ c4) :
  Calls Try.prog 6 #[.agg #[.int .i64 x0, .int .i64 x1, .int .i64 x2, .string x3, .slice A4 x4.length c4], .int .i64 left] w fun e w' => e = .returned (.int .i64 (laws_szRx.g ⟨x0, x1, x2, x3, x4⟩ left)) ∧ Below w.heap.size w w' := by
 have hu := Try.underlying24
 have HB := am (Below.refl w.heap.size w)
 have HR := am hr
 have HC := am hc
 have HSS := am hS
 have HNN := am hn
 clear hr hc hS hn
 have GE := am (laws_szRx.g_eq x0 x1 x2 x3 x4 left)
 obtain ⟨t, ht⟩ : ∃ t_, t_ = wrap64 (left - (x3.size : Int)) := ⟨_, rfl⟩
 rw [← ht] at GE
 have hwt : wrap64 (left - (x3.size : Int)) = t := ht.symm
 clear ht
 by_cases c : t < 0
 ·
  have cb := decide_eq_true c
  have HE := am (show _ = _ from GE.out.trans (if_pos c))
  clear c
  go_enter Try.func6, Try.ntmps6
  go_wp2_with (first | ((with_reducible refine gate_dst (N := 2) rfl ?_); refine box_event ?hg2 (N := 2) ?hd2 (cs := #[.int .i64 x0, .int .i64 x1, .int .i64 x2, .string x3, .slice A4 x4.length c4]) (t := 24) ?hr2 ?_; (case hd2 => rfl); (case hg2 => rfl); (case hr2 => first | (go_simp; done) | (go_simp; rfl)); intro g2 hg w2 hbox hb; replace HB := am (below_step HB.out hb); have hc2_3 := (blk_cell hbox 3).trans (show _ = some (.string x3) from rfl); have hc2_4 := (blk_cell hbox 4).trans (show _ = some (.slice A4 x4.length c4) from rfl); clear hb hg))
  go_ret
  exact ⟨by rw [HE.out]; rfl, HB.out⟩
 have cb := decide_eq_false c
 replace GE := am (GE.out.trans (if_neg c))
 clear c
 obtain ⟨z, hz⟩ : ∃ z_, z_ = laws_szRxS.g x4 t := ⟨_, rfl⟩
 rw [← hz] at GE
 have EV := am (show laws_szRxS.g x4 (wrap64 (left - (x3.size : Int))) = z by rw [hwt]; exact hz.symm)
 clear hz
 by_cases c : z < 0
 ·
  have cb2 := decide_eq_true c
  have HE := am (show _ = _ from GE.out.trans (if_pos c))
  clear c
  go_enter Try.func6, Try.ntmps6
  go_wp2_with (first | ((with_reducible refine gate_dst (N := 2) rfl ?_); refine box_event ?hg2 (N := 2) ?hd2 (cs := #[.int .i64 x0, .int .i64 x1, .int .i64 x2, .string x3, .slice A4 x4.length c4]) (t := 24) ?hr2 ?_; (case hd2 => rfl); (case hg2 => rfl); (case hr2 => first | (go_simp; done) | (go_simp; rfl)); intro g2 hg w2 hbox hb; replace HB := am (below_step HB.out hb); have hc2_3 := (blk_cell hbox 3).trans (show _ = some (.string x3) from rfl); have hc2_4 := (blk_cell hbox 4).trans (show _ = some (.slice A4 x4.length c4) from rfl); clear hb hg) | ((with_reducible refine gate_dst (N := 15) rfl ?_); refine goesL_ (some 15) rfl rfl Try.func22 (by kernel_rfl) rfl #[.slice A4 x4.length c4, .int .i64 (wrap64 (left - (x3.size : Int)))] rfl (by (try simp only [List.map_toArray, List.map_cons, List.map_nil]); first | done | rfl) ?_; (with_reducible refine (HSS.out x4 HNN.out A4 c4 (wrap64 (left - (x3.size : Int))) _ (Kd.C_below HR.out HB.out) HC.out).mono ?_); rintro e w2 ⟨he, hb⟩; rw [EV.out] at he; subst he; refine ⟨_, rfl, ?_⟩; replace HB := am (below_step HB.out hb); clear hb))
  go_ret
  exact ⟨by rw [HE.out]; rfl, HB.out⟩
 have cb2 := decide_eq_false c
 have HE := am (show _ = _ from GE.out.trans (if_neg c))
 clear c
 go_enter Try.func6, Try.ntmps6
 go_wp2_with (first | ((with_reducible refine gate_dst (N := 2) rfl ?_); refine box_event ?hg2 (N := 2) ?hd2 (cs := #[.int .i64 x0, .int .i64 x1, .int .i64 x2, .string x3, .slice A4 x4.length c4]) (t := 24) ?hr2 ?_; (case hd2 => rfl); (case hg2 => rfl); (case hr2 => first | (go_simp; done) | (go_simp; rfl)); intro g2 hg w2 hbox hb; replace HB := am (below_step HB.out hb); have hc2_3 := (blk_cell hbox 3).trans (show _ = some (.string x3) from rfl); have hc2_4 := (blk_cell hbox 4).trans (show _ = some (.slice A4 x4.length c4) from rfl); clear hb hg) | ((with_reducible refine gate_dst (N := 15) rfl ?_); refine goesL_ (some 15) rfl rfl Try.func22 (by kernel_rfl) rfl #[.slice A4 x4.length c4, .int .i64 (wrap64 (left - (x3.size : Int)))] rfl (by (try simp only [List.map_toArray, List.map_cons, List.map_nil]); first | done | rfl) ?_; (with_reducible refine (HSS.out x4 HNN.out A4 c4 (wrap64 (left - (x3.size : Int))) _ (Kd.C_below HR.out HB.out) HC.out).mono ?_); rintro e w2 ⟨he, hb⟩; rw [EV.out] at he; subst he; refine ⟨_, rfl, ?_⟩; replace HB := am (below_step HB.out hb); clear hb))
 go_ret
 exact ⟨by rw [HE.out]; rfl, HB.out⟩
theorem laws_szRx.any : ∀ n : Nat, (∀ l : List S24, SizeOf.sizeOf l ≤ n → ∀ (A0 : Option Addr) (c0 : Nat) (t : Int) (w : World), k24.C w A0 l.length l → l.length ≤ c0 → Calls Try.prog 22 #[.slice A0 l.length c0, .int .i64 t] w fun e w' => e = .returned (.int .i64 (laws_szRxS.g l t)) ∧ Below w.heap.size w w') ∧
  (∀ x : S24, SizeOf.sizeOf x ≤ n → ∀ (A4 : Option Addr) (c4 : Nat) (t : Int) (w : World), k24.C w A4 x.f4.length x.f4 → x.f4.length ≤ c4 → Calls Try.prog 6 #[.agg #[.int .i64 x.f0, .int .i64 x.f1, .int .i64 x.f2, .string x.f3, .slice A4 x.f4.length c4], .int .i64 t] w fun e w' => e = .returned (.int .i64 (laws_szRx.g x t)) ∧ Below w.heap.size w w')
 | 0 => ⟨fun l h => by cases l <;> simp at h, fun x h => by cases x; simp at h⟩
 | n + 1 => by
  obtain ⟨i1, i2⟩ := laws_szRx.any n
  refine ⟨fun l h A0 c0 t w hr hc => laws_szRxS.step n i2 l h A0 c0 t w hr hc, fun x h A4 c4 t w hr hc => ?_⟩
  obtain ⟨x0, x1, x2, x3, x4⟩ := x
  exact laws_szRx.step n i1 x0 x1 x2 x3 x4 (by simp at h; omega) A4 c4 t w hr hc
def laws_szRxS.f (l0 : List (S24)) (a1 : Int) : Option (Int) := some (laws_szRxS.g l0 a1)
def laws_szRx.f (a0_0 : Int) (a0_1 : Int) (a0_2 : Int) (a0_3 : ByteArray) (l0_4 : List (S24)) (a1 : Int) : Option (Int) := some (laws_szRx.g ⟨a0_0, a0_1, a0_2, a0_3, l0_4⟩ a1)
theorem laws_szRx.calls (a0_0 : Int) (a0_1 : Int) (a0_2 : Int) (a0_3 : ByteArray) (A0_4 : Option Addr) (c0_4 : Nat) (l0_4 : List (S24)) (a1 : Int) (r : Int) (w : World) (hr0_4 : Kd.C k24 w A0_4 l0_4.length l0_4) (hc0_4 : l0_4.length ≤ c0_4) (h : laws_szRx.f a0_0 a0_1 a0_2 a0_3 l0_4 a1 = some r) :
  Calls Try.prog 6 #[.agg #[.int .i64 a0_0, .int .i64 a0_1, .int .i64 a0_2, .string a0_3, .slice A0_4 l0_4.length c0_4], .int .i64 a1] w fun e w' => e = .returned (.int .i64 r) ∧ Below w.heap.size w w' := by
 obtain rfl := Option.some.inj h
 exact (laws_szRx.any _).2 ⟨a0_0, a0_1, a0_2, a0_3, l0_4⟩ (Nat.le_refl _) A0_4 c0_4 a1 w hr0_4 hc0_4


mutual
def spec_l05Left.l0 : Nat → Int → Int → Int → Int → Int → ByteArray → List (S31) → Option (Int)
 | 0, _, _, _, _, _, _, _ => none
 | k + 1, x1, x5, x102000, x102001, x102002, x102003, x102004 => if x5 < (x102004.length : Int) then (if x1 ≥ 0 then (if 0 ≤ x5 then ((spec_l05Left.f k ((rd_T31 x102004 x5).f0) ((rd_T31 x102004 x5).f1) ((rd_T31 x102004 x5).f2) ((rd_T31 x102004 x5).f3) ((rd_T31 x102004 x5).f4) x1).bind fun t103 => (spec_l05Left.l0 k t103 (wrap64 (x5 + 1)) x102000 x102001 x102002 x102003 x102004)) else (none)) else (some x1)) else (some x1)
def spec_l05Left.f : Nat → Int → Int → Int → ByteArray → List (S31) → Int → Option (Int)
 | 0, _, _, _, _, _, _ => none
 | k + 1, a0_0, a0_1, a0_2, a0_3, l0_4, a1 => spec_l05Left.l0 k (wrap64 (a1 - 1)) 0 a0_0 a0_1 a0_2 a0_3 l0_4
end
theorem spec_l05Left.calls (k : Nat) : ∀ (a0_0 : Int) (a0_1 : Int) (a0_2 : Int) (a0_3 : ByteArray) (A0_4 : Option Addr) (c0_4 : Nat) (l0_4 : List (S31)) (a1 : Int) (r : Int) (w : World) (hr0_4 : Kd.C k31 w A0_4 l0_4.length l0_4) (hc0_4 : l0_4.length ≤ c0_4) (h : spec_l05Left.f k a0_0 a0_1 a0_2 a0_3 l0_4 a1 = some r),
  Calls Try.prog 55 #[.agg #[.int .i64 a0_0, .int .i64 a0_1, .int .i64 a0_2, .string a0_3, .slice A0_4 l0_4.length c0_4], .int .i64 a1] w fun e w' => e = .returned (.int .i64 r) ∧ Below w.heap.size w w' := by
 induction k using Nat.strongRecOn with
 | _ k ih =>
 intro a0_0 a0_1 a0_2 a0_3 A0_4 c0_4 l0_4 a1 r w hr0_4 hc0_4 h
 cases k with
 | zero => exact absurd h (by simp [spec_l05Left.f])
 | succ k =>
 simp only [spec_l05Left.f] at h
 have hu31 := Try.underlying31
 have HR0_4 := am hr0_4
 have HC0_4 := am hc0_4
 clear hr0_4 hc0_4
 have HB := am (Below.refl w.heap.size w)
 have H : (spec_l05Left.l0 k (wrap64 (a1 - 1)) 0 a0_0 a0_1 a0_2 a0_3 l0_4) = some r := h
 clear h
 have H' := am H
 clear H
 go_enter Try.func55, Try.ntmps55
 go_wp2_with (first | ((with_reducible refine gate_dst (N := 2) rfl ?_); refine box_event ?hg (N := 2) ?hd (cs := #[.int .i64 a0_0, .int .i64 a0_1, .int .i64 a0_2, .string a0_3, .slice A0_4 l0_4.length c0_4]) (t := 31) ?hr ?_; (case hd => rfl); (case hg => rfl); (case hr => first | (go_simp; done) | (go_simp; rfl)); intro gb101 hg w3 hbox hb; have n0_ := am (below_step (by repeat (first | (with_reducible first | exact HB.out | apply below_alloc | apply pw_below_drewN | apply below_drew1) | exact HB.out)) hb); have n1_ := am (hbox); have n2_ := am ((by rw [hg]; exact (below_size (by repeat (first | (with_reducible first | exact HB.out | apply below_alloc | apply pw_below_drewN | apply below_drew1) | exact HB.out))) : w.heap.size ≤ gb101)); have n3_ := am ((by rw [hg]; exact (below_size (by repeat (first | (with_reducible first | exact HB.out | apply below_alloc | apply pw_below_drewN | apply below_drew1) | exact HB.out))) : w.heap.size ≤ gb101)); clear HB; have HB := n0_; have BK101 := n1_; have GW101 := n2_; have GE101 := n3_; clear n0_ n1_ n2_ n3_; clear hb hbox hg))
 go_loopg [1, 5] k (fun kq v1 v5 w' => ∃ (x1_1 : Int) (x5_1 : Int), v1 = .int .i64 x1_1 ∧ v5 = .int .i64 x5_1 ∧ Aside0 (spec_l05Left.l0 kq x1_1 x5_1 a0_0 a0_1 a0_2 a0_3 l0_4 = some r) ∧ Aside0 (kq ≤ k) ∧ Aside0 (w'.heap[gb101]? = some (.cells #[.int .i64 a0_0, .int .i64 a0_1, .int .i64 a0_2, .string a0_3, (.slice A0_4 l0_4.length c0_4)] 31 (0, 0))) ∧ Aside0 (Below w.heap.size w w'))
 case atStart => exact ⟨(wrap64 (a1 - 1)), (0), fs, fs, H', ⟨Nat.le_refl _⟩, ⟨by (with_reducible repeat (first | refine blk_drewN ?_ _ | refine blk_drew ?_ | refine blk_alloc ?_ _)); exact BK101.out⟩, ⟨by repeat (first | (with_reducible first | exact HB.out | apply below_alloc | apply pw_below_drewN | apply below_drew1 | refine below_set ?_ GE101.out) | exact HB.out)⟩⟩
 case round =>
  clear H'
  obtain ⟨x1_1, x5_1, rfl, rfl, HA, HK1, BK101, HB⟩ := hrel
  cases gk with
  | zero => exact absurd HA.out (by simp [spec_l05Left.l0])
  | succ k1 =>
   have H := HA.out
   clear HA
   simp only [spec_l05Left.l0] at H
   by_cases c4 : x5_1 < (l0_4.length : Int)
   ·
    rw [if_pos c4] at H
    have c4b0 : decide (x5_1 < (l0_4.length : Int)) = true := decide_eq_true c4
    clear c4
    by_cases c5 : x1_1 ≥ 0
    ·
     rw [if_pos c5] at H
     have c5b0 : decide (0 ≤ x1_1) = true := decide_eq_true c5
     clear c5
     by_cases c6 : 0 ≤ x5_1
     ·
      rw [if_pos c6] at H
      have c6b0 : decide (0 ≤ x5_1) = true := decide_eq_true c6
      clear c6
      replace H := Option.bind_eq_some_iff.mp H
      obtain ⟨t103, A70, H⟩ := H
      replace H : (spec_l05Left.l0 k1 t103 (wrap64 (x5_1 + 1)) a0_0 a0_1 a0_2 a0_3 l0_4) = some r := H
      have A7 := am A70
      clear A70
      as_aux_lemma =>
       have H' := am H
       clear H
       have hcz8_0 : wr.cell? ⟨gb101, 0, none⟩ = some (.int .i64 a0_0) := (blk_cell BK101.out 0).trans rfl
       have hcz8_1 : wr.cell? ⟨gb101, 1, none⟩ = some (.int .i64 a0_1) := (blk_cell BK101.out 1).trans rfl
       have hcz8_2 : wr.cell? ⟨gb101, 2, none⟩ = some (.int .i64 a0_2) := (blk_cell BK101.out 2).trans rfl
       have hcz8_3 : wr.cell? ⟨gb101, 3, none⟩ = some (.string a0_3) := (blk_cell BK101.out 3).trans rfl
       have hcz8_4 : wr.cell? ⟨gb101, 4, none⟩ = some (.slice A0_4 l0_4.length c0_4) := (blk_cell BK101.out 4).trans rfl
       have hfz8_0 := blk_frozen BK101.out 0
       have hfz8_1 := blk_frozen BK101.out 1
       have hfz8_2 := blk_frozen BK101.out 2
       have hfz8_3 := blk_frozen BK101.out 3
       have hfz8_4 := blk_frozen BK101.out 4
       have p102 : 0 ≤ (x5_1 : Int) := od
       have q102 : x5_1 < (l0_4.length : Int) := od
       obtain ⟨ad102, A102_4, c102_4, e102, hx102_0, hx102_1, hx102_2, hx102_3, hx102_4, hl102_4, hi102_4⟩ := at_T31 HR0_4.out x5_1 p102 q102
       cases e102
       replace hx102_0 := (HB.out.cell (World.block_lt_of_cell? w _ hx102_0)).trans hx102_0
       replace hx102_1 := (HB.out.cell (World.block_lt_of_cell? w _ hx102_1)).trans hx102_1
       replace hx102_2 := (HB.out.cell (World.block_lt_of_cell? w _ hx102_2)).trans hx102_2
       replace hx102_3 := (HB.out.cell (World.block_lt_of_cell? w _ hx102_3)).trans hx102_3
       replace hx102_4 := (HB.out.cell (World.block_lt_of_cell? w _ hx102_4)).trans hx102_4
       have HR102_4 := am hi102_4
       have HC102_4 := am hl102_4
       clear hi102_4 hl102_4
       replace p102 := eq_true p102
       replace q102 := eq_true q102
       go_wp2_with (first | ((with_reducible refine gate_callee (f := 55) rfl ?_); refine goesL_ (some 25) rfl rfl Try.func55 (by kernel_rfl) rfl #[.agg #[.int .i64 ((rd_T31 l0_4 x5_1).f0), .int .i64 ((rd_T31 l0_4 x5_1).f1), .int .i64 ((rd_T31 l0_4 x5_1).f2), .string ((rd_T31 l0_4 x5_1).f3), .slice A102_4 ((rd_T31 l0_4 x5_1).f4).length c102_4], .int .i64 x1_1] rfl (by (try simp only [List.map_toArray, List.map_cons, List.map_nil]); first | done | rfl | (simp only [List.length_drop, List.length_take]; rfl)) ?_; (with_reducible refine (ih k1 (by have := HK1.out; omega) ((rd_T31 l0_4 x5_1).f0) ((rd_T31 l0_4 x5_1).f1) ((rd_T31 l0_4 x5_1).f2) ((rd_T31 l0_4 x5_1).f3) _ _ ((rd_T31 l0_4 x5_1).f4) x1_1 t103 _ ?side1 ?side2 A7.out).mono ?_); (case side1 => repeat (first | exact (Kd.C_below HR102_4.out HB.out) | (with_reducible refine Kd.C_alloc ?_ _) | (with_reducible refine Kd.C_drewN ?_ _) | (with_reducible refine Kd.C_drew ?_))); (case side2 => exact HC102_4.out); rintro e w9 ⟨rfl, hb⟩; refine ⟨_, rfl, ?_⟩; have n0_ := am (blk_below (g := gb101) (o := .cells #[.int .i64 a0_0, .int .i64 a0_1, .int .i64 a0_2, .string a0_3, .slice (some ad102) l0_4.length c0_4] 31 (0, 0)) (by (with_reducible repeat (first | refine blk_drewN ?_ _ | refine blk_drew ?_ | refine blk_alloc ?_ _)); exact BK101.out) hb); have n1_ := am (below_step (by repeat (first | (with_reducible first | exact HB.out | apply below_alloc | apply pw_below_drewN | apply below_drew1 | refine below_set ?_ GE101.out) | exact HB.out)) hb); clear BK101; clear HB; have BK101 := n0_; have HB := n1_; clear n0_ n1_; (try clear hb); (try clear hb2); (try clear hk); (try clear hi)))
       go_roundg k1
       case measure => have := HK1.out; omega
       case rel => exact ⟨(t103), (wrap64 (x5_1 + 1)), fs, fs, H', ⟨by have := HK1.out; omega⟩, ⟨by (with_reducible repeat (first | refine blk_drewN ?_ _ | refine blk_drew ?_ | refine blk_alloc ?_ _)); exact BK101.out⟩, ⟨by repeat (first | (with_reducible first | exact HB.out | apply below_alloc | apply pw_below_drewN | apply below_drew1 | refine below_set ?_ GE101.out) | exact HB.out)⟩⟩
     rw [if_neg c6] at H
     exact absurd H (by simp)
    rw [if_neg c5] at H
    have c5b0 : decide (0 ≤ x1_1) = false := decide_eq_false c5
    clear c5
    as_aux_lemma =>
     obtain rfl := Option.some.inj H
     have hcz10_0 : wr.cell? ⟨gb101, 0, none⟩ = some (.int .i64 a0_0) := (blk_cell BK101.out 0).trans rfl
     have hcz10_1 : wr.cell? ⟨gb101, 1, none⟩ = some (.int .i64 a0_1) := (blk_cell BK101.out 1).trans rfl
     have hcz10_2 : wr.cell? ⟨gb101, 2, none⟩ = some (.int .i64 a0_2) := (blk_cell BK101.out 2).trans rfl
     have hcz10_3 : wr.cell? ⟨gb101, 3, none⟩ = some (.string a0_3) := (blk_cell BK101.out 3).trans rfl
     have hcz10_4 : wr.cell? ⟨gb101, 4, none⟩ = some (.slice A0_4 l0_4.length c0_4) := (blk_cell BK101.out 4).trans rfl
     have hfz10_0 := blk_frozen BK101.out 0
     have hfz10_1 := blk_frozen BK101.out 1
     have hfz10_2 := blk_frozen BK101.out 2
     have hfz10_3 := blk_frozen BK101.out 3
     have hfz10_4 := blk_frozen BK101.out 4
     go_wp2
     go_ret
     exact ⟨by first | rfl | (simp [errW_none, errW_some] <;> rfl) | (simp [*, errW_none, errW_some] <;> rfl), by repeat (first | (with_reducible first | exact HB.out | apply below_alloc | apply pw_below_drewN | apply below_drew1 | refine below_set ?_ GE101.out) | exact HB.out)⟩
   rw [if_neg c4] at H
   have c4b0 : decide (x5_1 < (l0_4.length : Int)) = false := decide_eq_false c4
   clear c4
   as_aux_lemma =>
    obtain rfl := Option.some.inj H
    have hcz11_0 : wr.cell? ⟨gb101, 0, none⟩ = some (.int .i64 a0_0) := (blk_cell BK101.out 0).trans rfl
    have hcz11_1 : wr.cell? ⟨gb101, 1, none⟩ = some (.int .i64 a0_1) := (blk_cell BK101.out 1).trans rfl
    have hcz11_2 : wr.cell? ⟨gb101, 2, none⟩ = some (.int .i64 a0_2) := (blk_cell BK101.out 2).trans rfl
    have hcz11_3 : wr.cell? ⟨gb101, 3, none⟩ = some (.string a0_3) := (blk_cell BK101.out 3).trans rfl
    have hcz11_4 : wr.cell? ⟨gb101, 4, none⟩ = some (.slice A0_4 l0_4.length c0_4) := (blk_cell BK101.out 4).trans rfl
    have hfz11_0 := blk_frozen BK101.out 0
    have hfz11_1 := blk_frozen BK101.out 1
    have hfz11_2 := blk_frozen BK101.out 2
    have hfz11_3 := blk_frozen BK101.out 3
    have hfz11_4 := blk_frozen BK101.out 4
    go_wp2
    go_ret
    exact ⟨by first | rfl | (simp [errW_none, errW_some] <;> rfl) | (simp [*, errW_none, errW_some] <;> rfl), by repeat (first | (with_reducible first | exact HB.out | apply below_alloc | apply pw_below_drewN | apply below_drew1 | refine below_set ?_ GE101.out) | exact HB.out)⟩

theorem rx4_0 {p : Prop} (h : p := by exact ⟨(wrap64 (x7_1 + 1)), fs, H', ⟨by have := HK1.out; omega⟩, dr⟩) : p := h

def impl_first.l0 : Nat → List Int → Int → Int → Option (Int)
 | 0, _, _, _ => none
 | k + 1, x5, x6, x7 => if x7 < x6 then (if 0 ≤ x7 then (if x7 < (x5.length : Int) then (if (rd x5 x7) = 0 then (impl_first.l0 k x5 x6 (wrap64 (x7 + 1))) else (some (rd x5 x7))) else (none)) else (none)) else (some 0)
def impl_first.f (k : Nat) (l0 : List Int) : Option (Int) := impl_first.l0 k l0 (l0.length : Int) 0
theorem impl_first.calls (k : Nat) (A0 : Option Addr) (c0 : Nat) (l0 : List Int) (r : Int) (w : World) (hr0 : Kd.C (Kd.int .i64) w A0 l0.length l0) (hc0 : l0.length ≤ c0) (h : impl_first.f k l0 = some r) :
  Calls Try.prog 26 #[.slice A0 l0.length c0] w fun e w' => e = .returned (.int .i64 r) ∧ Drawn0 w w' := by
 have HR0 := am hr0
 have HC0 := am hc0
 clear hr0 hc0
 have H : (impl_first.l0 k l0 (l0.length : Int) 0) = some r := h
 clear h
 have H' := am H
 clear H
 go_enter Try.func26, Try.ntmps26
 go_wp2
 go_loopg [7] k (fun kq v7 w' => ∃ (x7_1 : Int), v7 = .int .i64 x7_1 ∧ Aside0 (impl_first.l0 kq l0 (l0.length : Int) x7_1 = some r) ∧ Aside0 (kq ≤ k) ∧ Drawn0 w w')
 case atStart => exact ⟨(0), fs, H', ⟨Nat.le_refl _⟩, dr⟩
 case round =>
  clear H'
  obtain ⟨x7_1, rfl, HA, HK1, ⟨m1, rfl⟩⟩ := hrel
  cases gk with
  | zero => exact absurd HA.out (by simp [impl_first.l0])
  | succ k1 =>
   have H := HA.out
   clear HA
   simp only [impl_first.l0] at H
   by_cases c2 : x7_1 < (l0.length : Int)
   ·
    rw [if_pos c2] at H
    have c2b0 : decide (x7_1 < (l0.length : Int)) = true := decide_eq_true c2
    clear c2
    by_cases c3 : 0 ≤ x7_1
    ·
     rw [if_pos c3] at H
     have c3b0 : decide (0 ≤ x7_1) = true := decide_eq_true c3
     clear c3
     by_cases c4 : x7_1 < (l0.length : Int)
     ·
      rw [if_pos c4] at H
      have c4b0 : decide (x7_1 < (l0.length : Int)) = true := decide_eq_true c4
      clear c4
      by_cases c5 : (rd l0 x7_1) = 0
      ·
       rw [if_pos c5] at H
       have c5b0 : ((rd l0 x7_1) == 0) = true := beq_iff_eq.mpr c5
       have c5b1 : ((rd l0 x7_1) != 0) = false := bne_eq_false_iff_eq.mpr c5
       clear c5
       as_aux_lemma =>
        have H' := am H
        clear H
        have p142 : 0 ≤ (x7_1 : Int) := od
        have q142 : x7_1 < (l0.length : Int) := od
        obtain ⟨ad142, e142, hx142_0⟩ := Kd.at_int HR0.out x7_1 p142 q142
        cases e142
        replace p142 := eq_true p142
        replace q142 := eq_true q142
        go_wp2
        go_roundg k1
        case measure => have := HK1.out; omega
        case rel => exact rx4_0
      rw [if_neg c5] at H
      have c5b0 : ((rd l0 x7_1) == 0) = false := beq_eq_false_iff_ne.mpr c5
      have c5b1 : ((rd l0 x7_1) != 0) = true := bne_iff_ne.mpr c5
      as_aux_lemma =>
       obtain rfl := Option.some.inj H
       have p142 : 0 ≤ (x7_1 : Int) := od
       have q142 : x7_1 < (l0.length : Int) := od
       obtain ⟨ad142, e142, hx142_0⟩ := Kd.at_int HR0.out x7_1 p142 q142
       cases e142
       replace p142 := eq_true p142
       replace q142 := eq_true q142
       go_wp2
       go_ret
       exact ⟨by first | rfl | (simp; done) | (simp [*]; done), dr⟩
     rw [if_neg c4] at H
     exact absurd H (by simp)
    rw [if_neg c3] at H
    exact absurd H (by simp)
   rw [if_neg c2] at H
   have c2b0 : decide (x7_1 < (l0.length : Int)) = false := decide_eq_false c2
   clear c2
   as_aux_lemma =>
    obtain rfl := Option.some.inj H
    go_wp2
    go_ret
    exact ⟨by first | rfl | (simp; done) | (simp [*]; done), dr⟩

def impl_unless.f (a0 : Bool) (a1 : Int) : Option (Int) := if a0 = true then (some 0) else (some a1)
theorem impl_unless.calls (a0 : Bool) (a1 : Int) (r : Int) (w : World) (h : impl_unless.f a0 a1 = some r) :
  Calls Try.prog 28 #[.bool a0, .int .i64 a1] w fun e w' => e = .returned (.int .i64 r) ∧ Drawn0 w w' := by
 have H : (if a0 = true then (some 0) else (some a1)) = some r := h
 clear h
 by_cases c3 : a0 = true
 ·
  subst c3
  have H1 : (some 0) = some r := by rw [if_pos rfl] at H; exact H
  clear H
  have H := H1
  clear H1
  as_aux_lemma =>
   obtain rfl := Option.some.inj H
   go_enter Try.func28, Try.ntmps28
   go_wp2
   go_ret
   exact ⟨by first | rfl | (simp; done) | (simp [*]; done), dr⟩
 replace c3 := Bool.eq_false_iff.mpr c3
 subst c3
 have H1 : (some a1) = some r := by rw [if_neg (show ¬ (false = true) by decide)] at H; exact H
 clear H
 have H := H1
 clear H1
 as_aux_lemma =>
  obtain rfl := Option.some.inj H
  go_enter Try.func28, Try.ntmps28
  go_wp2
  go_ret
  exact ⟨by first | rfl | (simp; done) | (simp [*]; done), dr⟩

def impl_long.l0 : Nat → List ByteArray → Int → Int → Option (Int)
 | 0, _, _, _ => none
 | k + 1, x5, x6, x7 => if x7 < x6 then (if 0 ≤ x7 then (if x7 < (x5.length : Int) then (if ((rdOf ByteArray.empty x5 x7).size : Int) > 65536 then (some 2) else (impl_long.l0 k x5 x6 (wrap64 (x7 + 1)))) else (none)) else (none)) else (some 0)
def impl_long.f (k : Nat) (l0 : List ByteArray) : Option (Int) := impl_long.l0 k l0 (l0.length : Int) 0
theorem impl_long.calls (k : Nat) (A0 : Option Addr) (c0 : Nat) (l0 : List ByteArray) (r : Int) (w : World) (hr0 : Kd.C Kd.string w A0 l0.length l0) (hc0 : l0.length ≤ c0) (h : impl_long.f k l0 = some r) :
  Calls Try.prog 42 #[.slice A0 l0.length c0] w fun e w' => e = .returned (.int .i64 r) ∧ Drawn0 w w' := by
 have HR0 := am hr0
 have HC0 := am hc0
 clear hr0 hc0
 have H : (impl_long.l0 k l0 (l0.length : Int) 0) = some r := h
 clear h
 have H' := am H
 clear H
 go_enter Try.func42, Try.ntmps42
 go_wp2
 go_loopg [7] k (fun kq v7 w' => ∃ (x7_1 : Int), v7 = .int .i64 x7_1 ∧ Aside0 (impl_long.l0 kq l0 (l0.length : Int) x7_1 = some r) ∧ Aside0 (kq ≤ k) ∧ Drawn0 w w')
 case atStart => exact ⟨(0), fs, H', ⟨Nat.le_refl _⟩, dr⟩
 case round =>
  clear H'
  obtain ⟨x7_1, rfl, HA, HK1, ⟨m1, rfl⟩⟩ := hrel
  cases gk with
  | zero => exact absurd HA.out (by simp [impl_long.l0])
  | succ k1 =>
   have H := HA.out
   clear HA
   simp only [impl_long.l0] at H
   by_cases c2 : x7_1 < (l0.length : Int)
   ·
    rw [if_pos c2] at H
    have c2b0 : decide (x7_1 < (l0.length : Int)) = true := decide_eq_true c2
    clear c2
    by_cases c3 : 0 ≤ x7_1
    ·
     rw [if_pos c3] at H
     have c3b0 : decide (0 ≤ x7_1) = true := decide_eq_true c3
     clear c3
     by_cases c4 : x7_1 < (l0.length : Int)
     ·
      rw [if_pos c4] at H
      have c4b0 : decide (x7_1 < (l0.length : Int)) = true := decide_eq_true c4
      clear c4
      by_cases c5 : ((rdOf ByteArray.empty l0 x7_1).size : Int) > 65536
      ·
       rw [if_pos c5] at H
       have c5b0 : decide (65536 < ((rdOf ByteArray.empty l0 x7_1).size : Int)) = true := decide_eq_true c5
       have c5b1 : decide (65536 < (rdOf ByteArray.empty l0 x7_1).size) = true := decide_eq_true (by omega)
       clear c5
       as_aux_lemma =>
        obtain rfl := Option.some.inj H
        have p143 : 0 ≤ (x7_1 : Int) := od
        have q143 : x7_1 < (l0.length : Int) := od
        obtain ⟨ad143, e143, hx143_0⟩ := Kd.at_string HR0.out x7_1 p143 q143
        cases e143
        replace p143 := eq_true p143
        replace q143 := eq_true q143
        go_wp2
        go_ret
        exact ⟨by first | rfl | (simp; done) | (simp [*]; done), dr⟩
      rw [if_neg c5] at H
      have c5b0 : decide (65536 < ((rdOf ByteArray.empty l0 x7_1).size : Int)) = false := decide_eq_false c5
      have c5b1 : decide (65536 < (rdOf ByteArray.empty l0 x7_1).size) = false := decide_eq_false (by omega)
      clear c5
      as_aux_lemma =>
       have H' := am H
       clear H
       have p143 : 0 ≤ (x7_1 : Int) := od
       have q143 : x7_1 < (l0.length : Int) := od
       obtain ⟨ad143, e143, hx143_0⟩ := Kd.at_string HR0.out x7_1 p143 q143
       cases e143
       replace p143 := eq_true p143
       replace q143 := eq_true q143
       go_wp2
       go_roundg k1
       case measure => have := HK1.out; omega
       case rel => exact rx4_0
     rw [if_neg c4] at H
     exact absurd H (by simp)
    rw [if_neg c3] at H
    exact absurd H (by simp)
   rw [if_neg c2] at H
   have c2b0 : decide (x7_1 < (l0.length : Int)) = false := decide_eq_false c2
   clear c2
   as_aux_lemma =>
    obtain rfl := Option.some.inj H
    go_wp2
    go_ret
    exact ⟨by first | rfl | (simp; done) | (simp [*]; done), dr⟩

def impl_within.f (a0 : Int) (a1 : Int) (a2 : Int) : Option (Bool) := if a1 ≤ a0 then (some (decide (a0 ≤ a2))) else (some false)
theorem impl_within.calls (a0 : Int) (a1 : Int) (a2 : Int) (r : Bool) (w : World) (h : impl_within.f a0 a1 a2 = some r) :
  Calls Try.prog 29 #[.int .i64 a0, .int .i64 a1, .int .i64 a2] w fun e w' => e = .returned (.bool r) ∧ Drawn0 w w' := by
 have H : (if a1 ≤ a0 then (some (decide (a0 ≤ a2))) else (some false)) = some r := h
 clear h
 by_cases c4 : a1 ≤ a0
 ·
  rw [if_pos c4] at H
  have c4b0 : decide (a1 ≤ a0) = true := decide_eq_true c4
  clear c4
  as_aux_lemma =>
   obtain rfl := Option.some.inj H
   go_enter Try.func29, Try.ntmps29
   go_wp2
   go_ret
   exact ⟨by first | rfl | (simp; done) | (simp [*]; done), dr⟩
 rw [if_neg c4] at H
 have c4b0 : decide (a1 ≤ a0) = false := decide_eq_false c4
 clear c4
 as_aux_lemma =>
  obtain rfl := Option.some.inj H
  go_enter Try.func29, Try.ntmps29
  go_wp2
  go_ret
  exact ⟨by first | rfl | (simp; done) | (simp [*]; done), dr⟩

mutual
def impl_rises.l0 : Nat → ByteArray → Int → Option (Bool)
 | 0, _, _ => none
 | k + 1, x0, x3 => if x3 < (x0.size : Int) then (impl_rises.j1 k x0 x3 (decide (x3 < 300))) else (impl_rises.j1 k x0 x3 false)
def impl_rises.j1 : Nat → ByteArray → Int → Bool → Option (Bool)
 | 0, _, _, _ => none
 | k + 1, x0, x3, x11 => if x11 = true then (if 0 ≤ x3 then (if x3 < (x0.size : Int) then (if 0 ≤ (wrap64 (x3 - 1)) then (if (wrap64 (x3 - 1)) < (x0.size : Int) then (if (bt x0 x3) ≤ (bt x0 (wrap64 (x3 - 1))) then (some false) else (impl_rises.l0 k x0 (wrap64 (x3 + 1)))) else (none)) else (none)) else (none)) else (none)) else ((impl_within.f (x0.size : Int) 1 256).bind fun t144 => (some t144))
end
def impl_rises.f (k : Nat) (a0 : ByteArray) : Option (Bool) := impl_rises.l0 k a0 1
theorem impl_rises.mono_l : ∀ k, (∀ y0 y1, LeO (impl_rises.l0 k y0 y1) (impl_rises.l0 (k + 1) y0 y1)) ∧ (∀ y0 y1 y2, LeO (impl_rises.j1 k y0 y1 y2) (impl_rises.j1 (k + 1) y0 y1 y2))
 | 0 => ⟨fun _ _ r h => by simp [impl_rises.l0] at h, fun _ _ _ r h => by simp [impl_rises.j1] at h⟩
 | k + 1 => by
  obtain ⟨ih0, ih1⟩ := impl_rises.mono_l k
  refine ⟨?_, ?_⟩
  ·
   intro y0 y1
   unfold impl_rises.l0
   repeat' first
   | (with_reducible exact ih0 _ _)
   | (with_reducible exact ih1 _ _ _)
   | (with_reducible exact LeO.refl _)
   | (with_reducible exact LeO.none _)
   | (with_reducible refine LeO.ite ?_ ?_)
   | (with_reducible refine LeO.bind ?_ (fun _ => ?_))
   | exact ih0 _ _
   | exact ih1 _ _ _
   | exact LeO.none _
   | refine LeO.ite ?_ ?_
   | refine LeO.bind ?_ (fun _ => ?_)
  intro y0 y1 y2
  unfold impl_rises.j1
  repeat' first
  | (with_reducible exact ih0 _ _)
  | (with_reducible exact ih1 _ _ _)
  | (with_reducible exact LeO.refl _)
  | (with_reducible exact LeO.none _)
  | (with_reducible refine LeO.ite ?_ ?_)
  | (with_reducible refine LeO.bind ?_ (fun _ => ?_))
  | exact ih0 _ _
  | exact ih1 _ _ _
  | exact LeO.none _
  | refine LeO.ite ?_ ?_
  | refine LeO.bind ?_ (fun _ => ?_)
theorem impl_rises.mono : ∀ a0 k, LeO (impl_rises.f k a0) (impl_rises.f (k + 1) a0) := by
 intro a0 k
 obtain ⟨ih0, ih1⟩ := impl_rises.mono_l k
 unfold impl_rises.f
 repeat' first
   | (with_reducible exact ih0 _ _)
   | (with_reducible exact ih1 _ _ _)
   | (with_reducible exact LeO.refl _)
   | (with_reducible exact LeO.none _)
   | (with_reducible refine LeO.ite ?_ ?_)
   | (with_reducible refine LeO.bind ?_ (fun _ => ?_))
   | exact ih0 _ _
   | exact ih1 _ _ _
   | exact LeO.none _
   | refine LeO.ite ?_ ?_
   | refine LeO.bind ?_ (fun _ => ?_)
theorem impl_rises.calls (k : Nat) (a0 : ByteArray) (r : Bool) (w : World) (h : impl_rises.f k a0 = some r) :
  Calls Try.prog 64 #[.string a0] w fun e w' => e = .returned (.bool r) ∧ Drawn0 w w' := by
 have H : (impl_rises.l0 k a0 1) = some r := h
 clear h
 have H' := am H
 clear H
 go_enter Try.func64, Try.ntmps64
 go_wp2
 repeat (go_quiet (fail); try go_wp2)
 go_loopg [3] k (fun kq v3 w' => ∃ (x3_1 : Int), v3 = .int .i64 x3_1 ∧ Aside0 (impl_rises.l0 kq a0 x3_1 = some r) ∧ Aside0 (kq ≤ k) ∧ Drawn0 w w')
 case atStart => exact ⟨(1), fs, H', ⟨Nat.le_refl _⟩, dr⟩
 case round =>
  clear H'
  obtain ⟨x3_1, rfl, HA, HK1, ⟨m1, rfl⟩⟩ := hrel
  cases gk with
  | zero => exact absurd HA.out (by simp [impl_rises.l0])
  | succ k1 =>
   have H := HA.out
   clear HA
   simp only [impl_rises.l0] at H
   have HC2 := am H
   clear H
   go_upto_region 2 with (fail)
   repeat (go_quiet (fail); go_upto_region 2 with (fail))
   go_cut [11] (fun v11 wc => ∃ (kq : Nat) (x11_1 : Bool), v11 = .bool x11_1 ∧ Aside0 (impl_rises.j1 kq a0 x3_1 x11_1 = some r) ∧ Aside0 (kq ≤ k1) ∧ Drawn0 w wc)
   case first =>
    have H := HC2.out
    clear HC2
    by_cases c3 : x3_1 < (a0.size : Int)
    ·
     rw [if_pos c3] at H
     have c3b0 : decide (x3_1 < (a0.size : Int)) = true := decide_eq_true c3
     clear c3
     (first | rw [c3b0] | (simp only [i64_w, i32_w]; rw [c3b0]) | skip)
     as_aux_lemma =>
      have H' := am H
      clear H
      go_wp2
      repeat (go_quiet (fail); try go_wp2)
      go_meet
      case rel => exact ⟨_, (decide (x3_1 < 300)), fs, H', ⟨by have := HK1.out; first | omega | exact Nat.le_refl _⟩, dr⟩
    rw [if_neg c3] at H
    have c3b0 : decide (x3_1 < (a0.size : Int)) = false := decide_eq_false c3
    clear c3
    (first | rw [c3b0] | (simp only [i64_w, i32_w]; rw [c3b0]) | skip)
    as_aux_lemma =>
     have H' := am H
     clear H
     go_wp2
     repeat (go_quiet (fail); try go_wp2)
     go_meet
     case rel => exact ⟨_, (false), fs, H', ⟨by have := HK1.out; first | omega | exact Nat.le_refl _⟩, dr⟩
   case rest =>
    clear HC2
    obtain ⟨kq, x11_1, rfl, HA, HJ1, ⟨mc1, rfl⟩⟩ := hcut
    cases kq with
    | zero => exact absurd HA.out (by simp [impl_rises.j1])
    | succ kj1 =>
     have H := HA.out
     clear HA
     simp only [impl_rises.j1] at H
     by_cases c4 : x11_1 = true
     ·
      subst c4
      have H1 : (if 0 ≤ x3_1 then (if x3_1 < (a0.size : Int) then (if 0 ≤ (wrap64 (x3_1 - 1)) then (if (wrap64 (x3_1 - 1)) < (a0.size : Int) then (if (bt a0 x3_1) ≤ (bt a0 (wrap64 (x3_1 - 1))) then (some false) else (impl_rises.l0 kj1 a0 (wrap64 (x3_1 + 1)))) else (none)) else (none)) else (none)) else (none)) = some r := by rw [if_pos rfl] at H; exact H
      clear H
      have H := H1
      clear H1
      by_cases c5 : 0 ≤ x3_1
      ·
       rw [if_pos c5] at H
       have c5b0 : decide (0 ≤ x3_1) = true := decide_eq_true c5
       clear c5
       by_cases c6 : x3_1 < (a0.size : Int)
       ·
        rw [if_pos c6] at H
        have c6b0 : decide (x3_1 < (a0.size : Int)) = true := decide_eq_true c6
        clear c6
        obtain ⟨ji8, hji8⟩ : ∃ j_ : Int, (wrap64 (x3_1 - 1)) = j_ := ⟨_, rfl⟩
        replace H : (if 0 ≤ (ji8) then (if (ji8) < (a0.size : Int) then (if (bt a0 x3_1) ≤ (bt a0 (ji8)) then (some false) else (impl_rises.l0 kj1 a0 (wrap64 (x3_1 + 1)))) else (none)) else (none)) = some r := by first | (rw [hji8] at H; exact H) | (simp only [hji8] at H ⊢; exact H)
        have hji8w : (IntKind.i64.wrap (x3_1 - 1)) = ji8 := (i64_w _).trans hji8
        by_cases c9 : 0 ≤ (ji8)
        ·
         rw [if_pos c9] at H
         have c9b0 : decide (0 ≤ (ji8)) = true := decide_eq_true c9
         clear c9
         by_cases c10 : (ji8) < (a0.size : Int)
         ·
          rw [if_pos c10] at H
          have c10b0 : decide ((ji8) < (a0.size : Int)) = true := decide_eq_true c10
          clear c10
          by_cases c12 : (bt a0 x3_1) ≤ (bt a0 (ji8))
          ·
           rw [if_pos c12] at H
           have c12b0 : decide ((bt a0 x3_1) ≤ (bt a0 (ji8))) = true := decide_eq_true c12
           clear c12
           as_aux_lemma =>
            obtain rfl := Option.some.inj H
            have p7 : 0 ≤ (x3_1 : Int) := od
            have q7 : x3_1 < (a0.size : Int) := od
            have hx7 := bt_at a0 x3_1
            replace p7 := eq_true p7
            replace q7 := eq_true q7
            have p11 : 0 ≤ ((ji8) : Int) := od
            have q11 : (ji8) < (a0.size : Int) := od
            have hx11 := bt_at a0 (ji8)
            replace p11 := eq_true p11
            replace q11 := eq_true q11
            go_wp2
            repeat (go_quiet (fail); try go_wp2)
            go_ret
            exact ⟨by first | rfl | (simp; done) | (simp only [← hji8] <;> (first | rfl | simp)) | (simp [*]; done), dr⟩
          rw [if_neg c12] at H
          have c12b0 : decide ((bt a0 x3_1) ≤ (bt a0 (ji8))) = false := decide_eq_false c12
          clear c12
          as_aux_lemma =>
           have H' := am H
           clear H
           have p7 : 0 ≤ (x3_1 : Int) := od
           have q7 : x3_1 < (a0.size : Int) := od
           have hx7 := bt_at a0 x3_1
           replace p7 := eq_true p7
           replace q7 := eq_true q7
           have p11 : 0 ≤ ((ji8) : Int) := od
           have q11 : (ji8) < (a0.size : Int) := od
           have hx11 := bt_at a0 (ji8)
           replace p11 := eq_true p11
           replace q11 := eq_true q11
           go_wp2
           repeat (go_quiet (fail); try go_wp2)
           go_roundg kj1
           case measure => have := HK1.out; have := HJ1.out; omega
           case rel => exact ⟨(wrap64 (x3_1 + 1)), fs, H', ⟨by have := HK1.out; have := HJ1.out; omega⟩, dr⟩
         rw [if_neg c10] at H
         exact absurd H (by simp)
        rw [if_neg c9] at H
        exact absurd H (by simp)
       rw [if_neg c6] at H
       exact absurd H (by simp)
      rw [if_neg c5] at H
      exact absurd H (by simp)
     replace c4 := Bool.eq_false_iff.mpr c4
     subst c4
     have H1 : ((impl_within.f (a0.size : Int) 1 256).bind fun t144 => (some t144)) = some r := by rw [if_neg (show ¬ (false = true) by decide)] at H; exact H
     clear H
     have H := H1
     clear H1
     replace H := Option.bind_eq_some_iff.mp H
     obtain ⟨t144, A130, H⟩ := H
     replace H : (some t144) = some r := H
     have A13 := am A130
     clear A130
     as_aux_lemma =>
      obtain rfl := Option.some.inj H
      go_wp2_with (first | (go_at_call 29; (with_reducible refine (impl_within.calls (a0.size : Int) 1 256 t144 _ A13.out).mono ?_); rintro e w' ⟨rfl, ⟨nd, rfl⟩⟩; (try first | exact ⟨rfl, _, World.drewN_drewN _ _ _⟩ | exact ⟨rfl, _, Eq.trans (World.drewN_drewN _ _ _) (congrArg (World.drewN _) (Nat.add_assoc _ _ _))⟩)))
      repeat (go_quiet (first | (go_at_call 29; (with_reducible refine (impl_within.calls (a0.size : Int) 1 256 t144 _ A13.out).mono ?_); rintro e w' ⟨rfl, ⟨nd, rfl⟩⟩; (try first | exact ⟨rfl, _, World.drewN_drewN _ _ _⟩ | exact ⟨rfl, _, Eq.trans (World.drewN_drewN _ _ _) (congrArg (World.drewN _) (Nat.add_assoc _ _ _))⟩))); try go_wp2_with (first | (go_at_call 29; (with_reducible refine (impl_within.calls (a0.size : Int) 1 256 t144 _ A13.out).mono ?_); rintro e w' ⟨rfl, ⟨nd, rfl⟩⟩; (try first | exact ⟨rfl, _, World.drewN_drewN _ _ _⟩ | exact ⟨rfl, _, Eq.trans (World.drewN_drewN _ _ _) (congrArg (World.drewN _) (Nat.add_assoc _ _ _))⟩))))
      go_ret
      exact ⟨by first | rfl | (simp; done) | (simp [*]; done), dr⟩

def IsS97 (w0 W : World) (g : Nat) (f0 : Int) (f1 : Int) (f2 : Bool) : Prop := W.heap[g]? = some (.cells #[.int .i64 f0, .int .i64 f1, .bool f2] 97 (0, 0)) ∧ w0.heap.size ≤ g
theorem IsS97.grown {w0 W : World} {g : Nat} {f0 : Int} {f1 : Int} {f2 : Bool} {W1 : World} {row : Option Nat} (h : IsS97 w0 W g f0 f1 f2) (hw : W.grownBy W1 row) (hne : some g ≠ row) : IsS97 w0 W1 g f0 f1 f2 := by
 obtain ⟨hb, hg⟩ := h
 exact ⟨blk_grown hb hw hne, hg⟩
theorem IsS97.kept {w0 W : World} {g : Nat} {f0 : Int} {f1 : Int} {f2 : Bool} {W1 : World} {S : Nat → Prop} (h : IsS97 w0 W g f0 f1 f2) (hk : Kept W W1 S) (hne : ¬ S g) : IsS97 w0 W1 g f0 f1 f2 := by
 obtain ⟨hb, hg⟩ := h
 exact ⟨blk_kept hb hk hne, hg⟩
theorem IsS97.below {w0 W : World} {g : Nat} {f0 : Int} {f1 : Int} {f2 : Bool} {W1 : World} (h : IsS97 w0 W g f0 f1 f2) (hw : Below W.heap.size W W1) : IsS97 w0 W1 g f0 f1 f2 := h.grown (grown_of_below hw none) (by simp)
theorem IsS97.alloc {w0 W : World} {g : Nat} {f0 : Int} {f1 : Int} {f2 : Bool} (h : IsS97 w0 W g f0 f1 f2) (o : Obj) : IsS97 w0 (W.alloc o) g f0 f1 f2 := h.below (below_alloc (Below.refl _ _) o)
theorem IsS97.drewN {w0 W : World} {g : Nat} {f0 : Int} {f1 : Int} {f2 : Bool} (h : IsS97 w0 W g f0 f1 f2) (m : Nat) : IsS97 w0 (W.drewN m) g f0 f1 f2 := h
theorem IsS97.drew {w0 W : World} {g : Nat} {f0 : Int} {f1 : Int} {f2 : Bool} (h : IsS97 w0 W g f0 f1 f2) : IsS97 w0 W.drew g f0 f1 f2 := h
theorem IsS97.apart {w0 W : World} {g : Nat} {f0 : Int} {f1 : Int} {f2 : Bool} {α : Type} {d : Kd α} {e : Nat} {base : Nat} {ok : Nat → Prop} {v : Value} {xs : List α} (h : IsS97 w0 W g f0 f1 f2) (ho : d.R e W base ok v xs) (ht : ∀ q, q ∈ e :: d.E → q ≠ 97) : d.R e W base (fun k => ok k ∧ k ≠ g) v xs := by
 obtain ⟨hb, hg⟩ := h
 exact Kd.R_types ho hb ht
theorem IsS97.own_ne {w0 W : World} {g : Nat} {f0 : Int} {f1 : Int} {f2 : Bool} {α : Type} {d : Kd α} {e : Nat} {base : Nat} {ok : Nat → Prop} {v : Value} {xs : List α} (h : IsS97 w0 W g f0 f1 f2) (ho : d.R e W base ok v xs) (ht : e ≠ 97) : some g ≠ v.ownBlock := by
 obtain ⟨hb, hg⟩ := h
 exact Kd.R_ne ho hb ht
theorem IsS97.lt {w0 W : World} {g : Nat} {f0 : Int} {f1 : Int} {f2 : Bool} (h : IsS97 w0 W g f0 f1 f2) : g < W.heap.size := by
 obtain ⟨hb, hg⟩ := h
 exact blk_lt hb
theorem IsS97.ge {w0 W : World} {g : Nat} {f0 : Int} {f1 : Int} {f2 : Bool} (h : IsS97 w0 W g f0 f1 f2) : w0.heap.size ≤ g := by
 obtain ⟨hb, hg⟩ := h
 exact hg
theorem IsS97.far {w0 W : World} {g : Nat} {f0 : Int} {f1 : Int} {f2 : Bool} {p : Addr} (h : IsS97 w0 W g f0 f1 f2) (hne : g ≠ p.block) (u : Value) : IsS97 w0 (W.setCell p u) g f0 f1 f2 := by
 obtain ⟨hb, hg⟩ := h
 exact ⟨blk_far hb hne u, hg⟩
theorem IsS97.new (w0 W : World) (f0 : Int) (f1 : Int) (f2 : Bool) (hB : Below w0.heap.size w0 W) : IsS97 w0 (W.alloc (.cells #[.int .i64 f0, .int .i64 f1, .bool f2] 97)) W.heap.size f0 f1 f2 := ⟨by simpa using heap_alloc_new W _, hB.size⟩

end Go.Proofs.Ytlpabbcgichaoaa.PFnExactFind
end
