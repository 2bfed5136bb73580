-- written by a program of this session (a copy of the print, widened: wip/patchprint.py)
import Derived.Test.YtfclobfoghbblaaPFnExactGroupsx0
namespace Go.Proofs.Ytfclobfoghbblaa.PFnExactGroups
open Go.RowKit Go.Proofs.YtfclobfoghbblaaW.PrintWords Go.Proofs.YtfclobfoghbblaaW.PrintLast Go.Proofs.YtfclobfoghbblaaW.PrintMore
attribute [local go_sem] max2_int min2_int max_two min_two max_three min_three max_four min_four   -- for this text's walks alone
set_option linter.unusedVariables false
set_option linter.unusedSimpArgs false

/-! ### laws_szRxS: function 57, with laws_szRx: function 19 -/
mutual
def laws_szRx.g : S38 → Int → Int
  | ⟨_, _, _, s, l⟩, left => if wrap64 (left - (s.size : Int)) < 0 then -1 else if wrap64 (wrap64 (left - (s.size : Int)) - (l.length : Int)) < 0 then -1 else laws_szRx.go l (wrap64 (wrap64 (left - (s.size : Int)) - (l.length : Int)))
def laws_szRx.go : List S38 → Int → Int
  | [], left => left
  | x :: l, left => if laws_szRx.g x left < 0 then -1 else laws_szRx.go l (laws_szRx.g x left)
end
def laws_szRxS.g (l : List S38) (left : Int) : Int := if wrap64 (left - (l.length : Int)) < 0 then -1 else laws_szRx.go l (wrap64 (left - (l.length : Int)))
theorem laws_szRx.go_neg : ∀ (l : List S38) (left : Int), laws_szRx.go l left < 0 → 0 ≤ left → laws_szRx.go l left = -1
  | [], left, h, h0 => by rw [laws_szRx.go] at h; omega
  | x :: l, left, h, h0 => by
    rw [laws_szRx.go] at h ⊢
    by_cases c : laws_szRx.g x left < 0
    · rw [if_pos c]
    · rw [if_neg c] at h ⊢
      exact laws_szRx.go_neg l _ h (by omega)
theorem laws_szRx.g_eq (x0 x1 x2 : Int) (x3 : ByteArray) (x4 : List S38) (left : Int) : laws_szRx.g ⟨x0, x1, x2, x3, x4⟩ left = if wrap64 (left - (x3.size : Int)) < 0 then -1 else if laws_szRxS.g x4 (wrap64 (left - (x3.size : Int))) < 0 then -1 else laws_szRxS.g x4 (wrap64 (left - (x3.size : Int))) := by
  rw [laws_szRx.g, laws_szRxS.g]
  by_cases c : wrap64 (left - (x3.size : Int)) < 0
  · rw [if_pos c, if_pos c]
  · rw [if_neg c, if_neg c]
    by_cases c2 : wrap64 (wrap64 (left - (x3.size : Int)) - (x4.length : Int)) < 0
    · rw [if_pos c2]; rfl
    · rw [if_neg c2]
      by_cases c3 : laws_szRx.go x4 (wrap64 (wrap64 (left - (x3.size : Int)) - (x4.length : Int))) < 0
      · rw [if_pos c3]; exact laws_szRx.go_neg _ _ c3 (by omega)
      · rw [if_neg c3]
theorem sz_at (l : List S38) (i : Nat) (hi : i < l.length) {n : Nat} (hn : SizeOf.sizeOf l ≤ n + 1) : SizeOf.sizeOf (rd_T38 l (i : Int)) ≤ n := by
  have hr : rd_T38 l (i : Int) = l[i] := by
    unfold rd_T38
    simp [List.getD_eq_getElem?_getD, List.getElem?_eq_getElem hi]
  rw [hr]
  have := List.sizeOf_lt_of_mem (List.getElem_mem hi)
  omega
theorem laws_szRx.go_step (l : List S38) (i : Nat) (t : Int) (h : i < l.length) : laws_szRx.go (l.drop i) t = if laws_szRx.g (rd_T38 l (i : Int)) t < 0 then -1 else laws_szRx.go (l.drop (i + 1)) (laws_szRx.g (rd_T38 l (i : Int)) t) := by
  rw [List.drop_eq_getElem_cons h, laws_szRx.go]
  have : rd_T38 l (i : Int) = l[i] := by
    unfold rd_T38
    simp [List.getD_eq_getElem?_getD, List.getElem?_eq_getElem h]
  rw [this]
set_option maxHeartbeats 8000000 in
set_option maxRecDepth 100000 in
theorem laws_szRxS.step (n : Nat) (ih : ∀ x : S38, SizeOf.sizeOf x ≤ n → ∀ (A4 : Option Addr) (c4 : Nat) (t : Int) (w : World), k38.C w A4 x.f4.length x.f4 → x.f4.length ≤ c4 → Calls Try.prog 19 #[.agg #[.int .i64 x.f0, .int .i64 x.f1, .int .i64 x.f2, .string x.f3, .slice A4 x.f4.length c4], .int .i64 t] w fun e w' => e = .returned (.int .i64 (laws_szRx.g x t)) ∧ Below w.heap.size w w')
    (l : List S38) (hn : SizeOf.sizeOf l ≤ n + 1) (A0 : Option Addr) (c0 : Nat) (left : Int) (w : World) (hr : k38.C w A0 l.length l) (hc : l.length ≤ c0) :
    Calls Try.prog 57 #[.slice A0 l.length c0, .int .i64 left] w fun e w' => e = .returned (.int .i64 (laws_szRxS.g l left)) ∧ Below w.heap.size w w' := by
  have HB := Aside0.mk (Below.refl w.heap.size w)
  have HR := Aside0.mk hr
  have HL := Aside0.mk hr.2.1
  have IH := Aside0.mk ih
  have HN := Aside0.mk hn
  clear hr ih hn hc
  by_cases c : wrap64 (left - (l.length : Int)) < 0
  · have HE := Aside0.mk (show laws_szRxS.g l left = -1 from if_pos c)
    have cb := decide_eq_true c
    clear c
    go_enter Try.func57, Try.ntmps57
    go_wp2
    go_ret
    exact ⟨by rw [HE.out]; rfl, HB.out⟩
  · have HE := Aside0.mk (show laws_szRxS.g l left = laws_szRx.go l (wrap64 (left - (l.length : Int))) from if_neg c)
    have cb := decide_eq_false c
    clear c
    go_enter Try.func57, Try.ntmps57
    go_wp2
    go_loopg [1, 5] (l.length + 1) (fun kq v1 v5 w' => ∃ (i : Nat) (t : Int), v1 = .int .i64 t ∧ v5 = .int .i64 (i : Int) ∧ Aside0 (i + kq = l.length + 1) ∧ Aside0 (laws_szRxS.g l left = laws_szRx.go (l.drop i) t) ∧ Aside0 (Below w.heap.size w w'))
    case atStart => exact ⟨0, _, rfl, rfl, ⟨by omega⟩, HE, HB⟩
    case round =>
      clear HB HE cb
      obtain ⟨i, t, rfl, rfl, HK, HI, HB⟩ := hrel
      have fin : l.length ≤ i → laws_szRxS.g l left = t := fun h => by rw [HI.out, List.drop_eq_nil_of_le h, laws_szRx.go]
      have FIN := Aside0.mk fin
      clear fin
      cases gk with
      | zero =>
        have hlt : decide ((i : Int) < (l.length : Int)) = false := decide_eq_false (by have := HK.out; omega)
        have hltn : decide (i < l.length) = false := decide_eq_false (by have := HK.out; omega)
        have HE := Aside0.mk (FIN.out (by have := HK.out; omega))
        go_wp2
        go_ret
        exact ⟨by rw [HE.out]; rfl, HB.out⟩
      | succ k1 =>
        rcases Nat.lt_or_ge i l.length with hi | hi
        · have hlt : decide ((i : Int) < (l.length : Int)) = true := decide_eq_true (by omega)
          have hltn : decide (i < l.length) = true := decide_eq_true (by omega)
          have hw : wrap64 ((i : Int) + 1) = ((i + 1 : Nat) : Int) := by have := HL.out; unfold wrap64; omega
          have hww : IntKind.i64.wrap ((i : Int) + 1) = ((i + 1 : Nat) : Int) := (i64_w _).trans hw
          obtain ⟨ad, A4, c4, ea, hx0, hx1, hx2, hx3, hx4, hl4, hC4⟩ := at_T38 (Kd.C_below HR.out HB.out) (i : Int) (by omega) (by omega)
          cases ea
          simp only [Int.toNat_natCast] at hx0 hx1 hx2 hx3 hx4
          have HX := Aside0.mk hC4
          have HL4 := Aside0.mk hl4
          clear hC4 hl4
          have HS := Aside0.mk (laws_szRx.go_step l i t hi)
          have SZ := Aside0.mk (sz_at l i hi HN.out)
          have p1 := eq_true (show (0 : Int) ≤ (i : Int) by omega)
          have q1 := eq_true (show (i : Int) < (l.length : Int) by omega)
          obtain ⟨z, hz⟩ : ∃ z_, z_ = laws_szRx.g (rd_T38 l (i : Int)) t := ⟨_, rfl⟩
          have EV := Aside0.mk hz.symm
          rw [← hz] at HS
          clear hz
          by_cases c : z < 0
          · have cb := decide_eq_true c
            have HE := Aside0.mk (show laws_szRxS.g l left = -1 by rw [HI.out, HS.out, if_pos c])
            clear c
            go_wp2_with (first | ((with_reducible refine gate_dst (N := 23) rfl ?_); refine goesL_ (some 23) rfl rfl Try.func19 (by kernel_rfl) rfl #[.agg #[.int .i64 (rd_T38 l (i : Int)).f0, .int .i64 (rd_T38 l (i : Int)).f1, .int .i64 (rd_T38 l (i : Int)).f2, .string (rd_T38 l (i : Int)).f3, .slice A4 (rd_T38 l (i : Int)).f4.length c4], .int .i64 t] rfl (by (try simp only [List.map_toArray, List.map_cons, List.map_nil]); first | done | rfl) ?_; (with_reducible refine (IH.out (rd_T38 l (i : Int)) SZ.out A4 c4 t _ HX.out HL4.out).mono ?_); rintro e w2 ⟨he, hb⟩; rw [EV.out] at he; subst he; refine ⟨_, rfl, ?_⟩; replace HB := Aside0.mk (below_step HB.out hb); clear hb))
            go_ret
            exact ⟨by rw [HE.out]; rfl, HB.out⟩
          · have cb := decide_eq_false c
            have HE := Aside0.mk (show laws_szRxS.g l left = laws_szRx.go (l.drop (i + 1)) z by rw [HI.out, HS.out, if_neg c])
            clear c
            go_wp2_with (first | ((with_reducible refine gate_dst (N := 23) rfl ?_); refine goesL_ (some 23) rfl rfl Try.func19 (by kernel_rfl) rfl #[.agg #[.int .i64 (rd_T38 l (i : Int)).f0, .int .i64 (rd_T38 l (i : Int)).f1, .int .i64 (rd_T38 l (i : Int)).f2, .string (rd_T38 l (i : Int)).f3, .slice A4 (rd_T38 l (i : Int)).f4.length c4], .int .i64 t] rfl (by (try simp only [List.map_toArray, List.map_cons, List.map_nil]); first | done | rfl) ?_; (with_reducible refine (IH.out (rd_T38 l (i : Int)) SZ.out A4 c4 t _ HX.out HL4.out).mono ?_); rintro e w2 ⟨he, hb⟩; rw [EV.out] at he; subst he; refine ⟨_, rfl, ?_⟩; replace HB := Aside0.mk (below_step HB.out hb); clear hb))
            go_roundg k1
            case measure => have := HK.out; omega
            case rel => exact ⟨i + 1, z, rfl, by first | rfl | (simp only [hw]) | simp, ⟨by have := HK.out; omega⟩, HE, HB⟩
        · have hlt : decide ((i : Int) < (l.length : Int)) = false := decide_eq_false (by omega)
          have hltn : decide (i < l.length) = false := decide_eq_false (by omega)
          have HE := Aside0.mk (FIN.out hi)
          go_wp2
          go_ret
          exact ⟨by rw [HE.out]; rfl, HB.out⟩
set_option maxHeartbeats 8000000 in
set_option maxRecDepth 100000 in
theorem laws_szRx.step (n : Nat) (hS : ∀ l : List S38, SizeOf.sizeOf l ≤ n → ∀ (A0 : Option Addr) (c0 : Nat) (t : Int) (w : World), k38.C w A0 l.length l → l.length ≤ c0 → Calls Try.prog 57 #[.slice A0 l.length c0, .int .i64 t] w fun e w' => e = .returned (.int .i64 (laws_szRxS.g l t)) ∧ Below w.heap.size w w')
    (x0 x1 x2 : Int) (x3 : ByteArray) (x4 : List S38) (hn : SizeOf.sizeOf x4 ≤ n) (A4 : Option Addr) (c4 : Nat) (left : Int) (w : World) (hr : k38.C w A4 x4.length x4) (hc : x4.length ≤ c4) :
    Calls Try.prog 19 #[.agg #[.int .i64 x0, .int .i64 x1, .int .i64 x2, .string x3, .slice A4 x4.length c4], .int .i64 left] w fun e w' => e = .returned (.int .i64 (laws_szRx.g ⟨x0, x1, x2, x3, x4⟩ left)) ∧ Below w.heap.size w w' := by
  have hu := Try.underlying38
  have HB := Aside0.mk (Below.refl w.heap.size w)
  have HR := Aside0.mk hr
  have HC := Aside0.mk hc
  have HSS := Aside0.mk hS
  have HNN := Aside0.mk hn
  clear hr hc hS hn
  have GE := Aside0.mk (laws_szRx.g_eq x0 x1 x2 x3 x4 left)
  obtain ⟨t, ht⟩ : ∃ t_, t_ = wrap64 (left - (x3.size : Int)) := ⟨_, rfl⟩
  rw [← ht] at GE
  have hwt : wrap64 (left - (x3.size : Int)) = t := ht.symm
  clear ht
  by_cases c : t < 0
  · have cb := decide_eq_true c
    have HE := Aside0.mk (show _ = _ from GE.out.trans (if_pos c))
    clear c
    go_enter Try.func19, Try.ntmps19
    go_wp2_with (first | ((with_reducible refine gate_dst (N := 2) rfl ?_); refine box_event ?hg2 (N := 2) ?hd2 (cs := #[.int .i64 x0, .int .i64 x1, .int .i64 x2, .string x3, .slice A4 x4.length c4]) (t := 38) ?hr2 ?_; (case hd2 => rfl); (case hg2 => rfl); (case hr2 => first | (go_simp; done) | (go_simp; rfl)); intro g2 hg w2 hbox hb; replace HB := Aside0.mk (below_step HB.out hb); have hc2_3 := (blk_cell hbox 3).trans (show _ = some (.string x3) from rfl); have hc2_4 := (blk_cell hbox 4).trans (show _ = some (.slice A4 x4.length c4) from rfl); clear hb hg))
    go_ret
    exact ⟨by rw [HE.out]; rfl, HB.out⟩
  · have cb := decide_eq_false c
    replace GE := Aside0.mk (GE.out.trans (if_neg c))
    clear c
    obtain ⟨z, hz⟩ : ∃ z_, z_ = laws_szRxS.g x4 t := ⟨_, rfl⟩
    rw [← hz] at GE
    have EV := Aside0.mk (show laws_szRxS.g x4 (wrap64 (left - (x3.size : Int))) = z by rw [hwt]; exact hz.symm)
    clear hz
    by_cases c : z < 0
    · have cb2 := decide_eq_true c
      have HE := Aside0.mk (show _ = _ from GE.out.trans (if_pos c))
      clear c
      go_enter Try.func19, Try.ntmps19
      go_wp2_with (first | ((with_reducible refine gate_dst (N := 2) rfl ?_); refine box_event ?hg2 (N := 2) ?hd2 (cs := #[.int .i64 x0, .int .i64 x1, .int .i64 x2, .string x3, .slice A4 x4.length c4]) (t := 38) ?hr2 ?_; (case hd2 => rfl); (case hg2 => rfl); (case hr2 => first | (go_simp; done) | (go_simp; rfl)); intro g2 hg w2 hbox hb; replace HB := Aside0.mk (below_step HB.out hb); have hc2_3 := (blk_cell hbox 3).trans (show _ = some (.string x3) from rfl); have hc2_4 := (blk_cell hbox 4).trans (show _ = some (.slice A4 x4.length c4) from rfl); clear hb hg) | ((with_reducible refine gate_dst (N := 15) rfl ?_); refine goesL_ (some 15) rfl rfl Try.func57 (by kernel_rfl) rfl #[.slice A4 x4.length c4, .int .i64 (wrap64 (left - (x3.size : Int)))] rfl (by (try simp only [List.map_toArray, List.map_cons, List.map_nil]); first | done | rfl) ?_; (with_reducible refine (HSS.out x4 HNN.out A4 c4 (wrap64 (left - (x3.size : Int))) _ (Kd.C_below HR.out HB.out) HC.out).mono ?_); rintro e w2 ⟨he, hb⟩; rw [EV.out] at he; subst he; refine ⟨_, rfl, ?_⟩; replace HB := Aside0.mk (below_step HB.out hb); clear hb))
      go_ret
      exact ⟨by rw [HE.out]; rfl, HB.out⟩
    · have cb2 := decide_eq_false c
      have HE := Aside0.mk (show _ = _ from GE.out.trans (if_neg c))
      clear c
      go_enter Try.func19, Try.ntmps19
      go_wp2_with (first | ((with_reducible refine gate_dst (N := 2) rfl ?_); refine box_event ?hg2 (N := 2) ?hd2 (cs := #[.int .i64 x0, .int .i64 x1, .int .i64 x2, .string x3, .slice A4 x4.length c4]) (t := 38) ?hr2 ?_; (case hd2 => rfl); (case hg2 => rfl); (case hr2 => first | (go_simp; done) | (go_simp; rfl)); intro g2 hg w2 hbox hb; replace HB := Aside0.mk (below_step HB.out hb); have hc2_3 := (blk_cell hbox 3).trans (show _ = some (.string x3) from rfl); have hc2_4 := (blk_cell hbox 4).trans (show _ = some (.slice A4 x4.length c4) from rfl); clear hb hg) | ((with_reducible refine gate_dst (N := 15) rfl ?_); refine goesL_ (some 15) rfl rfl Try.func57 (by kernel_rfl) rfl #[.slice A4 x4.length c4, .int .i64 (wrap64 (left - (x3.size : Int)))] rfl (by (try simp only [List.map_toArray, List.map_cons, List.map_nil]); first | done | rfl) ?_; (with_reducible refine (HSS.out x4 HNN.out A4 c4 (wrap64 (left - (x3.size : Int))) _ (Kd.C_below HR.out HB.out) HC.out).mono ?_); rintro e w2 ⟨he, hb⟩; rw [EV.out] at he; subst he; refine ⟨_, rfl, ?_⟩; replace HB := Aside0.mk (below_step HB.out hb); clear hb))
      go_ret
      exact ⟨by rw [HE.out]; rfl, HB.out⟩
theorem laws_szRx.any : ∀ n : Nat, (∀ l : List S38, SizeOf.sizeOf l ≤ n → ∀ (A0 : Option Addr) (c0 : Nat) (t : Int) (w : World), k38.C w A0 l.length l → l.length ≤ c0 → Calls Try.prog 57 #[.slice A0 l.length c0, .int .i64 t] w fun e w' => e = .returned (.int .i64 (laws_szRxS.g l t)) ∧ Below w.heap.size w w') ∧
    (∀ x : S38, SizeOf.sizeOf x ≤ n → ∀ (A4 : Option Addr) (c4 : Nat) (t : Int) (w : World), k38.C w A4 x.f4.length x.f4 → x.f4.length ≤ c4 → Calls Try.prog 19 #[.agg #[.int .i64 x.f0, .int .i64 x.f1, .int .i64 x.f2, .string x.f3, .slice A4 x.f4.length c4], .int .i64 t] w fun e w' => e = .returned (.int .i64 (laws_szRx.g x t)) ∧ Below w.heap.size w w')
  | 0 => ⟨fun l h => by cases l <;> simp at h, fun x h => by cases x; simp at h⟩
  | n + 1 => by
    obtain ⟨i1, i2⟩ := laws_szRx.any n
    refine ⟨fun l h A0 c0 t w hr hc => laws_szRxS.step n i2 l h A0 c0 t w hr hc, fun x h A4 c4 t w hr hc => ?_⟩
    obtain ⟨x0, x1, x2, x3, x4⟩ := x
    exact laws_szRx.step n i1 x0 x1 x2 x3 x4 (by simp at h; omega) A4 c4 t w hr hc
def laws_szRxS.f (l0 : List (S38)) (a1 : Int) : Option (Int) := some (laws_szRxS.g l0 a1)
theorem laws_szRxS.calls (A0 : Option Addr) (c0 : Nat) (l0 : List (S38)) (a1 : Int) (r : Int) (w : World) (hr0 : Kd.C k38 w A0 l0.length l0) (hc0 : l0.length ≤ c0) (h : laws_szRxS.f l0 a1 = some r) :
    Calls Try.prog 57 #[.slice A0 l0.length c0, .int .i64 a1] w fun e w' => e = .returned (.int .i64 r) ∧ Below w.heap.size w w' := by
  obtain rfl := Option.some.inj h
  exact (laws_szRx.any _).1 l0 (Nat.le_refl _) A0 c0 a1 w hr0 hc0
def laws_szRx.f (a0_0 : Int) (a0_1 : Int) (a0_2 : Int) (a0_3 : ByteArray) (l0_4 : List (S38)) (a1 : Int) : Option (Int) := some (laws_szRx.g ⟨a0_0, a0_1, a0_2, a0_3, l0_4⟩ a1)
theorem laws_szRx.calls (a0_0 : Int) (a0_1 : Int) (a0_2 : Int) (a0_3 : ByteArray) (A0_4 : Option Addr) (c0_4 : Nat) (l0_4 : List (S38)) (a1 : Int) (r : Int) (w : World) (hr0_4 : Kd.C k38 w A0_4 l0_4.length l0_4) (hc0_4 : l0_4.length ≤ c0_4) (h : laws_szRx.f a0_0 a0_1 a0_2 a0_3 l0_4 a1 = some r) :
    Calls Try.prog 19 #[.agg #[.int .i64 a0_0, .int .i64 a0_1, .int .i64 a0_2, .string a0_3, .slice A0_4 l0_4.length c0_4], .int .i64 a1] w fun e w' => e = .returned (.int .i64 r) ∧ Below w.heap.size w w' := by
  obtain rfl := Option.some.inj h
  exact (laws_szRx.any _).2 ⟨a0_0, a0_1, a0_2, a0_3, l0_4⟩ (Nat.le_refl _) A0_4 c0_4 a1 w hr0_4 hc0_4

/-! ### laws_szRx: with laws_szRxS -/

/-! ### laws_toRxS: function 61, with laws_toRx: function 21 -/
mutual
def laws_toRx.g : S38 → S43
  | ⟨a0, a1, a2, a3, a4⟩ => ⟨a0, a1, a2, a3, laws_toRx.go a4⟩
def laws_toRx.go : List S38 → List S43
  | [] => []
  | x :: l => laws_toRx.g x :: laws_toRx.go l
end
mutual
def laws_toRx.ok : S38 → Bool
  | ⟨_, _, _, _, a4⟩ => decide (a4.length ≤ 4398046511104) && laws_toRx.okL a4
def laws_toRx.okL : List S38 → Bool
  | [] => true
  | x :: l => laws_toRx.ok x && laws_toRx.okL l
end
theorem laws_toRx.info : (Try.prog.info? 43).map (fun i => (i.zero, i.size, i.bytes)) = some (some (.agg #[(.int .i64 0), (.int .i64 0), (.int .i64 0), (.string ⟨#[]⟩), (.slice none 0 0)]), 5, 64) := by kernel_rfl
theorem laws_toRx.go_map : ∀ l : List S38, laws_toRx.go l = l.map laws_toRx.g
  | [] => rfl
  | x :: l => by rw [laws_toRx.go, laws_toRx.go_map l]; rfl
theorem laws_toRx.go_len (l : List S38) : (laws_toRx.go l).length = l.length := by rw [laws_toRx.go_map, List.length_map]
theorem laws_toRx.okL_at : ∀ (l : List S38), laws_toRx.okL l = true → ∀ x ∈ l, laws_toRx.ok x = true
  | [], _, x, hx => by simp at hx
  | y :: l, h, x, hx => by
    rw [laws_toRx.okL, Bool.and_eq_true] at h
    rcases List.mem_cons.1 hx with rfl | hx
    · exact h.1
    · exact laws_toRx.okL_at l h.2 x hx
theorem to_at (l : List S38) (i : Nat) (hi : i < l.length) {n : Nat} (hn : SizeOf.sizeOf l ≤ n + 1) : SizeOf.sizeOf (rd_T38 l (i : Int)) ≤ n := by
  have hr : rd_T38 l (i : Int) = l[i] := by
    unfold rd_T38
    simp [List.getD_eq_getElem?_getD, List.getElem?_eq_getElem hi]
  rw [hr]
  have := List.sizeOf_lt_of_mem (List.getElem_mem hi)
  omega
theorem to_ok (l : List S38) (i : Nat) (hi : i < l.length) (h : laws_toRx.okL l = true) : laws_toRx.ok (rd_T38 l (i : Int)) = true := by
  have hr : rd_T38 l (i : Int) = l[i] := by
    unfold rd_T38
    simp [List.getD_eq_getElem?_getD, List.getElem?_eq_getElem hi]
  rw [hr]
  exact laws_toRx.okL_at l h _ (List.getElem_mem hi)
/-- What has been turned so far, the rest as it was made. -/
def laws_toRx.sofar (l : List S38) (i : Nat) : List S43 := (l.take i).map laws_toRx.g ++ List.replicate (l.length - i) z43
theorem laws_toRx.sofar_len (l : List S38) (i : Nat) (hi : i ≤ l.length) : (laws_toRx.sofar l i).length = l.length := by simp [laws_toRx.sofar]; omega
theorem laws_toRx.sofar_0 (l : List S38) : laws_toRx.sofar l 0 = List.replicate l.length z43 := by simp [laws_toRx.sofar]
theorem laws_toRx.sofar_end (l : List S38) (i : Nat) (hi : l.length ≤ i) : laws_toRx.sofar l i = laws_toRx.go l := by
  rw [laws_toRx.go_map, laws_toRx.sofar, List.take_of_length_le hi, show l.length - i = 0 by omega]
  simp
theorem laws_toRx.sofar_set (l : List S38) (i : Nat) (hi : i < l.length) : (laws_toRx.sofar l i).set i (laws_toRx.g (rd_T38 l (i : Int))) = laws_toRx.sofar l (i + 1) := by
  have hr : rd_T38 l (i : Int) = l[i] := by
    unfold rd_T38
    simp [List.getD_eq_getElem?_getD, List.getElem?_eq_getElem hi]
  rw [hr]
  unfold laws_toRx.sofar
  obtain ⟨m, hm⟩ : ∃ m, l.length - i = m + 1 := ⟨l.length - i - 1, by omega⟩
  have hm2 : l.length - (i + 1) = m := by omega
  rw [hm, hm2, List.replicate_succ, List.take_succ_eq_append_getElem hi, List.map_append]
  have hl : ((l.take i).map laws_toRx.g).length = i := by simp; omega
  rw [List.set_append_right _ _ (by omega), hl, Nat.sub_self]
  simp
set_option maxHeartbeats 8000000 in
set_option maxRecDepth 100000 in
theorem laws_toRxS.step (n : Nat) (ih : ∀ x : S38, SizeOf.sizeOf x ≤ n → laws_toRx.ok x = true → ∀ (A4 : Option Addr) (c4 : Nat) (w : World), k38.C w A4 x.f4.length x.f4 → x.f4.length ≤ c4 → Calls Try.prog 21 #[.agg #[.int .i64 x.f0, .int .i64 x.f1, .int .i64 x.f2, .string x.f3, .slice A4 x.f4.length c4]] w fun e w' => ∃ v4 : Value, e = .returned (.agg #[.int .i64 x.f0, .int .i64 x.f1, .int .i64 x.f2, .string x.f3, v4]) ∧ Kd.S k43 43 w' w.heap.size (fun _ => True) v4 (laws_toRx.go x.f4) ∧ Below w.heap.size w w')
    (l : List S38) (hn : SizeOf.sizeOf l ≤ n + 1) (hlim : l.length ≤ 4398046511104) (hok : laws_toRx.okL l = true) (A0 : Option Addr) (c0 : Nat) (w : World) (hr : k38.C w A0 l.length l) (hc : l.length ≤ c0) :
    Calls Try.prog 61 #[.slice A0 l.length c0] w fun e w' => ∃ v0 : Value, e = .returned v0 ∧ Kd.S k43 43 w' w.heap.size (fun _ => True) v0 (laws_toRx.go l) ∧ Below w.heap.size w w' := by
  have hu := Try.underlying43
  have HB := Aside0.mk (Below.refl w.heap.size w)
  have HR := Aside0.mk hr
  have LIM := Aside0.mk hlim
  have OK := Aside0.mk hok
  have IH := Aside0.mk ih
  have HN := Aside0.mk hn
  clear hr ih hn hc hlim hok
  go_enter Try.func61, Try.ntmps61
  go_wp2_with (first | ((with_reducible refine gate_dst (N := 7) rfl ?_); refine Kd.S_make k43 _ 43 rfl (N := 7) rfl 41 _ _ rfl (l.length : Int) rfl rfl Try.underlying41 (.agg #[(.int .i64 0), (.int .i64 0), (.int .i64 0), (.string ⟨#[]⟩), (.slice none 0 0)]) 64 laws_toRx.info rfl (by decide) (by omega) z43 (ok := fun _ => True) (okp := fun _ => True) (k43_mkM _ _ _ z43 (Kd.R_nil _ _ _ _ _)) (fun _ hk => hk) trivial (by omega) (by have := LIM.out; omega) (Below.refl _ _) (Nat.le_refl _) ?_; intro v3 w4 ho hb hg_ hnew_; clear hg_ hnew_; have HO := Aside0.mk (Kd.S_lower ho (below_size HB.out)); replace HB := Aside0.mk (below_step HB.out hb); clear hb ho))
  have e0 := HO.out
  rw [Int.toNat_natCast, ← laws_toRx.sofar_0] at e0
  clear HO
  have HO := Aside0.mk e0
  clear e0
  obtain ⟨A3, c3, e3⟩ := Kd.S_slice HO.out
  rw [laws_toRx.sofar_len l 0 (Nat.zero_le _)] at e3
  subst e3
  go_loopg [4] (l.length + 1) (fun kq v4 w' => ∃ i : Nat, v4 = .int .i64 (i : Int) ∧ Aside0 (i + kq = l.length + 1) ∧ Aside0 (Kd.S k43 43 w' w.heap.size (fun _ => True) (.slice A3 l.length c3) (laws_toRx.sofar l i)) ∧ Aside0 (Below w.heap.size w w'))
  case atStart => exact ⟨0, rfl, ⟨by omega⟩, HO, HB⟩
  case round =>
    clear HB HO
    obtain ⟨i, rfl, HK, HO, HB⟩ := hrel
    cases gk with
    | zero =>
      have hlt : decide ((i : Int) < (l.length : Int)) = false := decide_eq_false (by have := HK.out; omega)
      have hltn : decide (i < l.length) = false := decide_eq_false (by have := HK.out; omega)
      have HE := Aside0.mk (laws_toRx.sofar_end l i (by have := HK.out; omega))
      go_wp2
      go_ret
      exact ⟨_, rfl, by rw [← HE.out]; exact HO.out, HB.out⟩
    | succ k1 =>
      rcases Nat.lt_or_ge i l.length with hi | hi
      · have hlt : decide ((i : Int) < (l.length : Int)) = true := decide_eq_true (by omega)
        have hltn : decide (i < l.length) = true := decide_eq_true (by omega)
        have hw : wrap64 ((i : Int) + 1) = ((i + 1 : Nat) : Int) := by have := LIM.out; unfold wrap64; omega
        have hww : IntKind.i64.wrap ((i : Int) + 1) = ((i + 1 : Nat) : Int) := (i64_w _).trans hw
        obtain ⟨ad, A4, c4, ea, ha0, ha1, ha2, ha3, ha4, hl4, hC4⟩ := at_T38 HR.out (i : Int) (by omega) (by omega)
        cases ea
        simp only [Int.toNat_natCast] at ha0 ha1 ha2 ha3 ha4
        replace ha0 := (HB.out.cell (World.block_lt_of_cell? w _ ha0)).trans ha0
        replace ha1 := (HB.out.cell (World.block_lt_of_cell? w _ ha1)).trans ha1
        replace ha2 := (HB.out.cell (World.block_lt_of_cell? w _ ha2)).trans ha2
        replace ha3 := (HB.out.cell (World.block_lt_of_cell? w _ ha3)).trans ha3
        replace ha4 := (HB.out.cell (World.block_lt_of_cell? w _ ha4)).trans ha4
        have HX := Aside0.mk hC4
        have HL4 := Aside0.mk hl4
        clear hC4 hl4
        have SZ := Aside0.mk (to_at l i hi HN.out)
        have OKX := Aside0.mk (to_ok l i hi OK.out)
        have EG := Aside0.mk (show (⟨(rd_T38 l (i : Int)).f0, (rd_T38 l (i : Int)).f1, (rd_T38 l (i : Int)).f2, (rd_T38 l (i : Int)).f3, laws_toRx.go (rd_T38 l (i : Int)).f4⟩ : S43) = laws_toRx.g (rd_T38 l (i : Int)) by cases (rd_T38 l (i : Int)); rw [laws_toRx.g])
        have p1 := eq_true (show (0 : Int) ≤ (i : Int) by omega)
        have q1 := eq_true (show (i : Int) < (l.length : Int) by omega)
        go_wp2_with (first | ((with_reducible refine gate_dst (N := 20) rfl ?_); refine goesL_ (some 20) rfl rfl Try.func21 (by kernel_rfl) rfl #[.agg #[.int .i64 (rd_T38 l (i : Int)).f0, .int .i64 (rd_T38 l (i : Int)).f1, .int .i64 (rd_T38 l (i : Int)).f2, .string (rd_T38 l (i : Int)).f3, .slice A4 (rd_T38 l (i : Int)).f4.length c4]] rfl (by (try simp only [List.map_toArray, List.map_cons, List.map_nil]); first | done | rfl) ?_; (with_reducible refine (IH.out (rd_T38 l (i : Int)) SZ.out OKX.out A4 c4 _ (Kd.C_below HX.out HB.out) HL4.out).mono ?_); rintro e w2 ⟨v4, rfl, ho4, hb⟩; obtain ⟨A5, c5, e5⟩ := Kd.S_slice ho4; subst e5; refine ⟨_, rfl, ?_⟩; obtain ⟨go, co, eo, gb, gl, cl, HG⟩ := Kd.S_form HO.out (by rw [laws_toRx.sofar_len l i (by omega)]; omega); injection eo with ea_ en_ ec_; subst ea_; subst ec_; clear en_; have GB := Aside0.mk gb; have HXX := Aside0.mk (show Kd.S k43 43 w2 w.heap.size (fun k_ => True ∧ ¬ (wr.heap.size ≤ k_)) (.slice (some ⟨go, 0, none⟩) l.length c3) (laws_toRx.sofar l i) from Kd.S_mono (Kd.S_below (Kd.S_bound HO.out) hb) (fun k_ hk_ => ⟨trivial, fun hq_ => absurd hk_.2.2.1 (Nat.not_lt.2 hq_)⟩)); have HS4 := Aside0.mk (show k43.R 43 w2 w.heap.size (fun k_ => wr.heap.size ≤ k_) (.slice A5 (laws_toRx.go (rd_T38 l (i : Int)).f4).length c5) (laws_toRx.go (rd_T38 l (i : Int)).f4) from Kd.R_mono (Kd.R_lower (Kd.S_R (Kd.S_bound ho4)) (below_size HB.out)) (fun k_ hk_ => hk_.2.1)); obtain ⟨oki, ce, hcl, hM, hcc, hfr, hoki, hH⟩ := Kd.S_elem HXX.out z43 (i : Int) (by omega) (by omega); obtain ⟨ve, rfl, ge⟩ := k43_openM hM; have HP := Aside0.mk (Kd.S_seg hH (by omega) (by omega) (seg := [(.int .i64 (rd_T38 l (i : Int)).f0), (.int .i64 (rd_T38 l (i : Int)).f1), (.int .i64 (rd_T38 l (i : Int)).f2), (.string (rd_T38 l (i : Int)).f3), .slice A5 (laws_toRx.go (rd_T38 l (i : Int)).f4).length c5]) (j := 0) (show 5 ≤ 5 from by decide) (x' := (⟨(rd_T38 l (i : Int)).f0, (rd_T38 l (i : Int)).f1, (rd_T38 l (i : Int)).f2, (rd_T38 l (i : Int)).f3, laws_toRx.go (rd_T38 l (i : Int)).f4⟩ : S43)) (k43_mkM _ _ _ (⟨(rd_T38 l (i : Int)).f0, (rd_T38 l (i : Int)).f1, (rd_T38 l (i : Int)).f2, (rd_T38 l (i : Int)).f3, laws_toRx.go (rd_T38 l (i : Int)).f4⟩ : S43) HS4.out) (fun _ h_ => Or.inr h_) (fun k_ hk_ => ⟨trivial, Nat.ne_of_gt (Nat.lt_of_lt_of_le gl hk_)⟩)); have hx0_ := hcc 0 _ rfl; have hx1_ := hcc 1 _ rfl; have hx2_ := hcc 2 _ rfl; have hx3_ := hcc 3 _ rfl; have hx4_ := hcc 4 _ rfl; have hf0_ := hfr 0; have hf1_ := hfr 1; have hf2_ := hfr 2; have hf3_ := hfr 3; have hf4_ := hfr 4; simp only [show k43.sz = 5 from rfl, Nat.add_zero, Int.toNat_natCast] at hx0_ hx1_ hx2_ hx3_ hx4_ hf0_ hf1_ hf2_ hf3_ hf4_; replace HB := Aside0.mk (below_step HB.out hb); clear hb hcc hfr hH hM hoki hcl HG gb gl ho4) | ((with_reducible refine gate_store (t := 43) (p := 21) rfl ?_); refine store_event (t := 43) (p := 21) (v := ?vo) (w1 := (((((w2.setCell ⟨go, i * 5, none⟩ (.int .i64 (rd_T38 l (i : Int)).f0)).setCell ⟨go, i * 5 + 1, none⟩ (.int .i64 (rd_T38 l (i : Int)).f1)).setCell ⟨go, i * 5 + 2, none⟩ (.int .i64 (rd_T38 l (i : Int)).f2)).setCell ⟨go, i * 5 + 3, none⟩ (.string (rd_T38 l (i : Int)).f3)).setCell ⟨go, i * 5 + 4, none⟩ (.slice A5 (laws_toRx.go (rd_T38 l (i : Int)).f4).length c5))) ?hg ?ho ?hn ?hr ?_; (case ho => rfl); (case hg => rfl); (case hn => rfl); (case hr => first | (go_simp; done) | (go_simp; rfl)); intro w13 hw; have n0_ := Aside0.mk (show Kd.S k43 43 w13 w.heap.size (fun _ => True) (.slice (some ⟨go, 0, none⟩) l.length c3) (laws_toRx.sofar l (i + 1)) from (by rw [hw, ← laws_toRx.sofar_set l i (by omega), ← EG.out]; exact HP.out.1)); have n1_ := Aside0.mk (show Below w.heap.size w w13 from (by rw [hw]; exact below_set (below_set (below_set (below_set (below_set HB.out GB.out) GB.out) GB.out) GB.out) GB.out)); clear HO HB HP; have HO := n0_; have HB := n1_; clear n0_ n1_ hw))
        go_roundg k1
        case measure => have := HK.out; omega
        case rel => exact ⟨i + 1, by first | rfl | (simp only [hw]) | simp, ⟨by have := HK.out; omega⟩, HO, HB⟩
      · have hlt : decide ((i : Int) < (l.length : Int)) = false := decide_eq_false (by omega)
        have hltn : decide (i < l.length) = false := decide_eq_false (by omega)
        have HE := Aside0.mk (laws_toRx.sofar_end l i hi)
        go_wp2
        go_ret
        exact ⟨_, rfl, by rw [← HE.out]; exact HO.out, HB.out⟩
section
open Go.Proofs.Ytfclobfoghbblaa.Lawful
set_option maxHeartbeats 8000000 in
set_option maxRecDepth 100000 in
theorem laws_toRx.step (n : Nat) (hS : ∀ l : List S38, SizeOf.sizeOf l ≤ n → l.length ≤ 4398046511104 → laws_toRx.okL l = true → ∀ (A0 : Option Addr) (c0 : Nat) (w : World), k38.C w A0 l.length l → l.length ≤ c0 → Calls Try.prog 61 #[.slice A0 l.length c0] w fun e w' => ∃ v0 : Value, e = .returned v0 ∧ Kd.S k43 43 w' w.heap.size (fun _ => True) v0 (laws_toRx.go l) ∧ Below w.heap.size w w')
    (x0 x1 x2 : Int) (x3 : ByteArray) (x4 : List S38) (hn : SizeOf.sizeOf x4 ≤ n) (hlim : x4.length ≤ 4398046511104) (hok : laws_toRx.okL x4 = true) (A4 : Option Addr) (c4 : Nat) (w : World) (hr : k38.C w A4 x4.length x4) (hc : x4.length ≤ c4) :
    Calls Try.prog 21 #[.agg #[.int .i64 x0, .int .i64 x1, .int .i64 x2, .string x3, .slice A4 x4.length c4]] w fun e w' => ∃ v4 : Value, e = .returned (.agg #[.int .i64 x0, .int .i64 x1, .int .i64 x2, .string x3, v4]) ∧ Kd.S k43 43 w' w.heap.size (fun _ => True) v4 (laws_toRx.go x4) ∧ Below w.heap.size w w' := by
  have hu := Try.underlying43
  have hu2 := Try.underlying38
  have HB := Aside0.mk (Below.refl w.heap.size w)
  have HR := Aside0.mk hr
  have HC := Aside0.mk hc
  have LIM := Aside0.mk hlim
  have OK := Aside0.mk hok
  have HSS := Aside0.mk hS
  have HNN := Aside0.mk hn
  obtain ⟨y, hy⟩ : ∃ y_, y_ = laws_toRx.go x4 := ⟨_, rfl⟩
  rw [← hy]
  have Ny := Aside0.mk hy
  clear hr hc hlim hok hS hn hy
  go_enter Try.func21, Try.ntmps21
  go_wp2_with (first | ((with_reducible refine gate_dst (N := 1) rfl ?_); refine box_event ?hg_1 (N := 1) ?hd_1 (cs := #[.int .i64 x0, .int .i64 x1, .int .i64 x2, .string x3, .slice A4 x4.length c4]) (t := 38) ?hr_1 ?_; (case hd_1 => rfl); (case hg_1 => rfl); (case hr_1 => first | (go_simp; done) | (go_simp; rfl)); intro gX1 hg w2 hbox hb; have hk := kept_below hb; obtain ⟨PX1, hPX1, HLX1⟩ := LB.fresh hg hbox; have HX1 := Aside0.mk HLX1; clear HLX1; have GEX1 := Aside0.mk (show w.heap.size ≤ gX1 from (by rw [hg]; exact HB.out.size)); replace HB := Aside0.mk (below_step HB.out hb); clear hb hk hbox hg hPX1; (try clear hxX1_0 hfX1_0 hxX1_1 hfX1_1 hxX1_2 hfX1_2 hxX1_3 hfX1_3 hxX1_4 hfX1_4); have hxX1_0 := (HX1.out.cell 0).trans (show _ = some (.int .i64 x0) from rfl); have hfX1_0 := HX1.out.frozen 0; have hxX1_1 := (HX1.out.cell 1).trans (show _ = some (.int .i64 x1) from rfl); have hfX1_1 := HX1.out.frozen 1; have hxX1_2 := (HX1.out.cell 2).trans (show _ = some (.int .i64 x2) from rfl); have hfX1_2 := HX1.out.frozen 2; have hxX1_3 := (HX1.out.cell 3).trans (show _ = some (.string x3) from rfl); have hfX1_3 := HX1.out.frozen 3; have hxX1_4 := (HX1.out.cell 4).trans (show _ = some (.slice A4 x4.length c4) from rfl); have hfX1_4 := HX1.out.frozen 4) | ((with_reducible refine gate_dst (N := 2) rfl ?_); refine box_event ?hg_2 (N := 2) ?hd_2 (cs := #[.int .i64 0, .int .i64 0, .int .i64 0, .string ByteArray.empty, .slice none 0 0]) (t := 43) ?hr_2 ?_; (case hd_2 => rfl); (case hg_2 => rfl); (case hr_2 => first | (go_simp; done) | (go_simp; rfl)); intro gX2 hg w2 hbox hb; have hk := kept_below hb; obtain ⟨PX2, hPX2, HLX2⟩ := LB.fresh hg hbox; have HX2 := Aside0.mk HLX2; clear HLX2; have GEX2 := Aside0.mk (show w.heap.size ≤ gX2 from (by rw [hg]; exact HB.out.size)); have D_X1_X2 := Aside0.mk (new_apart HX1.out.lt hPX2); replace HX1 := Aside0.mk (HX1.out.step hk no_S); replace HB := Aside0.mk (below_step HB.out hb); clear hb hk hbox hg hPX2; (try clear hxX1_0 hfX1_0 hxX1_1 hfX1_1 hxX1_2 hfX1_2 hxX1_3 hfX1_3 hxX1_4 hfX1_4); have hxX1_0 := (HX1.out.cell 0).trans (show _ = some (.int .i64 x0) from rfl); have hfX1_0 := HX1.out.frozen 0; have hxX1_1 := (HX1.out.cell 1).trans (show _ = some (.int .i64 x1) from rfl); have hfX1_1 := HX1.out.frozen 1; have hxX1_2 := (HX1.out.cell 2).trans (show _ = some (.int .i64 x2) from rfl); have hfX1_2 := HX1.out.frozen 2; have hxX1_3 := (HX1.out.cell 3).trans (show _ = some (.string x3) from rfl); have hfX1_3 := HX1.out.frozen 3; have hxX1_4 := (HX1.out.cell 4).trans (show _ = some (.slice A4 x4.length c4) from rfl); have hfX1_4 := HX1.out.frozen 4; (try clear hxX2_0 hfX2_0 hxX2_1 hfX2_1 hxX2_2 hfX2_2 hxX2_3 hfX2_3 hxX2_4 hfX2_4); have hxX2_0 := (HX2.out.cell 0).trans (show _ = some (.int .i64 0) from rfl); have hfX2_0 := HX2.out.frozen 0; have hxX2_1 := (HX2.out.cell 1).trans (show _ = some (.int .i64 0) from rfl); have hfX2_1 := HX2.out.frozen 1; have hxX2_2 := (HX2.out.cell 2).trans (show _ = some (.int .i64 0) from rfl); have hfX2_2 := HX2.out.frozen 2; have hxX2_3 := (HX2.out.cell 3).trans (show _ = some (.string ByteArray.empty) from rfl); have hfX2_3 := HX2.out.frozen 3; have hxX2_4 := (HX2.out.cell 4).trans (show _ = some (.slice none 0 0) from rfl); have hfX2_4 := HX2.out.frozen 4) | ((with_reducible refine gate_dst (N := 3) rfl ?_); refine box_event ?hg_3 (N := 3) ?hd_3 (cs := #[.int .i64 0, .int .i64 0, .int .i64 0, .string ByteArray.empty, .slice none 0 0]) (t := 43) ?hr_3 ?_; (case hd_3 => rfl); (case hg_3 => rfl); (case hr_3 => first | (go_simp; done) | (go_simp; rfl)); intro gX3 hg w2 hbox hb; have hk := kept_below hb; obtain ⟨PX3, hPX3, HLX3⟩ := LB.fresh hg hbox; have HX3 := Aside0.mk HLX3; clear HLX3; have GEX3 := Aside0.mk (show w.heap.size ≤ gX3 from (by rw [hg]; exact HB.out.size)); have D_X1_X3 := Aside0.mk (new_apart HX1.out.lt hPX3); have D_X2_X3 := Aside0.mk (new_apart HX2.out.lt hPX3); replace HX1 := Aside0.mk (HX1.out.step hk no_S); replace HX2 := Aside0.mk (HX2.out.step hk no_S); replace HB := Aside0.mk (below_step HB.out hb); clear hb hk hbox hg hPX3; (try clear hxX1_0 hfX1_0 hxX1_1 hfX1_1 hxX1_2 hfX1_2 hxX1_3 hfX1_3 hxX1_4 hfX1_4); have hxX1_0 := (HX1.out.cell 0).trans (show _ = some (.int .i64 x0) from rfl); have hfX1_0 := HX1.out.frozen 0; have hxX1_1 := (HX1.out.cell 1).trans (show _ = some (.int .i64 x1) from rfl); have hfX1_1 := HX1.out.frozen 1; have hxX1_2 := (HX1.out.cell 2).trans (show _ = some (.int .i64 x2) from rfl); have hfX1_2 := HX1.out.frozen 2; have hxX1_3 := (HX1.out.cell 3).trans (show _ = some (.string x3) from rfl); have hfX1_3 := HX1.out.frozen 3; have hxX1_4 := (HX1.out.cell 4).trans (show _ = some (.slice A4 x4.length c4) from rfl); have hfX1_4 := HX1.out.frozen 4; (try clear hxX2_0 hfX2_0 hxX2_1 hfX2_1 hxX2_2 hfX2_2 hxX2_3 hfX2_3 hxX2_4 hfX2_4); have hxX2_0 := (HX2.out.cell 0).trans (show _ = some (.int .i64 0) from rfl); have hfX2_0 := HX2.out.frozen 0; have hxX2_1 := (HX2.out.cell 1).trans (show _ = some (.int .i64 0) from rfl); have hfX2_1 := HX2.out.frozen 1; have hxX2_2 := (HX2.out.cell 2).trans (show _ = some (.int .i64 0) from rfl); have hfX2_2 := HX2.out.frozen 2; have hxX2_3 := (HX2.out.cell 3).trans (show _ = some (.string ByteArray.empty) from rfl); have hfX2_3 := HX2.out.frozen 3; have hxX2_4 := (HX2.out.cell 4).trans (show _ = some (.slice none 0 0) from rfl); have hfX2_4 := HX2.out.frozen 4; (try clear hxX3_0 hfX3_0 hxX3_1 hfX3_1 hxX3_2 hfX3_2 hxX3_3 hfX3_3 hxX3_4 hfX3_4); have hxX3_0 := (HX3.out.cell 0).trans (show _ = some (.int .i64 0) from rfl); have hfX3_0 := HX3.out.frozen 0; have hxX3_1 := (HX3.out.cell 1).trans (show _ = some (.int .i64 0) from rfl); have hfX3_1 := HX3.out.frozen 1; have hxX3_2 := (HX3.out.cell 2).trans (show _ = some (.int .i64 0) from rfl); have hfX3_2 := HX3.out.frozen 2; have hxX3_3 := (HX3.out.cell 3).trans (show _ = some (.string ByteArray.empty) from rfl); have hfX3_3 := HX3.out.frozen 3; have hxX3_4 := (HX3.out.cell 4).trans (show _ = some (.slice none 0 0) from rfl); have hfX3_4 := HX3.out.frozen 4) | ((with_reducible refine gate_store (t := 3) (p := 6) rfl ?_); refine LB.stored HX3.out HB.out GEX3.out 0 [.int .i64 x0] rfl (t := 3) (p := 6) rfl rfl ?hr_4 ?_; (case hr_4 => first | (go_simp; done) | (go_simp; simp only [World.setCells, Nat.reduceAdd, Nat.zero_add]; done)); intro w2 hx hk hb; replace HX1 := Aside0.mk (HX1.out.step hk D_X1_X3.out); replace HX2 := Aside0.mk (HX2.out.step hk D_X2_X3.out); replace HB := Aside0.mk hb; replace HX3 := Aside0.mk (show LB w2 PX3 gX3 43 #[.int .i64 x0, .int .i64 0, .int .i64 0, .string ByteArray.empty, .slice none 0 0] from hx); clear hk hx hb; (try clear hxX1_0 hfX1_0 hxX1_1 hfX1_1 hxX1_2 hfX1_2 hxX1_3 hfX1_3 hxX1_4 hfX1_4); have hxX1_0 := (HX1.out.cell 0).trans (show _ = some (.int .i64 x0) from rfl); have hfX1_0 := HX1.out.frozen 0; have hxX1_1 := (HX1.out.cell 1).trans (show _ = some (.int .i64 x1) from rfl); have hfX1_1 := HX1.out.frozen 1; have hxX1_2 := (HX1.out.cell 2).trans (show _ = some (.int .i64 x2) from rfl); have hfX1_2 := HX1.out.frozen 2; have hxX1_3 := (HX1.out.cell 3).trans (show _ = some (.string x3) from rfl); have hfX1_3 := HX1.out.frozen 3; have hxX1_4 := (HX1.out.cell 4).trans (show _ = some (.slice A4 x4.length c4) from rfl); have hfX1_4 := HX1.out.frozen 4; (try clear hxX2_0 hfX2_0 hxX2_1 hfX2_1 hxX2_2 hfX2_2 hxX2_3 hfX2_3 hxX2_4 hfX2_4); have hxX2_0 := (HX2.out.cell 0).trans (show _ = some (.int .i64 0) from rfl); have hfX2_0 := HX2.out.frozen 0; have hxX2_1 := (HX2.out.cell 1).trans (show _ = some (.int .i64 0) from rfl); have hfX2_1 := HX2.out.frozen 1; have hxX2_2 := (HX2.out.cell 2).trans (show _ = some (.int .i64 0) from rfl); have hfX2_2 := HX2.out.frozen 2; have hxX2_3 := (HX2.out.cell 3).trans (show _ = some (.string ByteArray.empty) from rfl); have hfX2_3 := HX2.out.frozen 3; have hxX2_4 := (HX2.out.cell 4).trans (show _ = some (.slice none 0 0) from rfl); have hfX2_4 := HX2.out.frozen 4; (try clear hxX3_0 hfX3_0 hxX3_1 hfX3_1 hxX3_2 hfX3_2 hxX3_3 hfX3_3 hxX3_4 hfX3_4); have hxX3_0 := (HX3.out.cell 0).trans (show _ = some (.int .i64 x0) from rfl); have hfX3_0 := HX3.out.frozen 0; have hxX3_1 := (HX3.out.cell 1).trans (show _ = some (.int .i64 0) from rfl); have hfX3_1 := HX3.out.frozen 1; have hxX3_2 := (HX3.out.cell 2).trans (show _ = some (.int .i64 0) from rfl); have hfX3_2 := HX3.out.frozen 2; have hxX3_3 := (HX3.out.cell 3).trans (show _ = some (.string ByteArray.empty) from rfl); have hfX3_3 := HX3.out.frozen 3; have hxX3_4 := (HX3.out.cell 4).trans (show _ = some (.slice none 0 0) from rfl); have hfX3_4 := HX3.out.frozen 4) | ((with_reducible refine gate_store (t := 3) (p := 9) rfl ?_); refine LB.stored HX3.out HB.out GEX3.out 1 [.int .i64 x1] rfl (t := 3) (p := 9) rfl rfl ?hr_5 ?_; (case hr_5 => first | (go_simp; done) | (go_simp; simp only [World.setCells, Nat.reduceAdd, Nat.zero_add]; done)); intro w2 hx hk hb; replace HX1 := Aside0.mk (HX1.out.step hk D_X1_X3.out); replace HX2 := Aside0.mk (HX2.out.step hk D_X2_X3.out); replace HB := Aside0.mk hb; replace HX3 := Aside0.mk (show LB w2 PX3 gX3 43 #[.int .i64 x0, .int .i64 x1, .int .i64 0, .string ByteArray.empty, .slice none 0 0] from hx); clear hk hx hb; (try clear hxX1_0 hfX1_0 hxX1_1 hfX1_1 hxX1_2 hfX1_2 hxX1_3 hfX1_3 hxX1_4 hfX1_4); have hxX1_0 := (HX1.out.cell 0).trans (show _ = some (.int .i64 x0) from rfl); have hfX1_0 := HX1.out.frozen 0; have hxX1_1 := (HX1.out.cell 1).trans (show _ = some (.int .i64 x1) from rfl); have hfX1_1 := HX1.out.frozen 1; have hxX1_2 := (HX1.out.cell 2).trans (show _ = some (.int .i64 x2) from rfl); have hfX1_2 := HX1.out.frozen 2; have hxX1_3 := (HX1.out.cell 3).trans (show _ = some (.string x3) from rfl); have hfX1_3 := HX1.out.frozen 3; have hxX1_4 := (HX1.out.cell 4).trans (show _ = some (.slice A4 x4.length c4) from rfl); have hfX1_4 := HX1.out.frozen 4; (try clear hxX2_0 hfX2_0 hxX2_1 hfX2_1 hxX2_2 hfX2_2 hxX2_3 hfX2_3 hxX2_4 hfX2_4); have hxX2_0 := (HX2.out.cell 0).trans (show _ = some (.int .i64 0) from rfl); have hfX2_0 := HX2.out.frozen 0; have hxX2_1 := (HX2.out.cell 1).trans (show _ = some (.int .i64 0) from rfl); have hfX2_1 := HX2.out.frozen 1; have hxX2_2 := (HX2.out.cell 2).trans (show _ = some (.int .i64 0) from rfl); have hfX2_2 := HX2.out.frozen 2; have hxX2_3 := (HX2.out.cell 3).trans (show _ = some (.string ByteArray.empty) from rfl); have hfX2_3 := HX2.out.frozen 3; have hxX2_4 := (HX2.out.cell 4).trans (show _ = some (.slice none 0 0) from rfl); have hfX2_4 := HX2.out.frozen 4; (try clear hxX3_0 hfX3_0 hxX3_1 hfX3_1 hxX3_2 hfX3_2 hxX3_3 hfX3_3 hxX3_4 hfX3_4); have hxX3_0 := (HX3.out.cell 0).trans (show _ = some (.int .i64 x0) from rfl); have hfX3_0 := HX3.out.frozen 0; have hxX3_1 := (HX3.out.cell 1).trans (show _ = some (.int .i64 x1) from rfl); have hfX3_1 := HX3.out.frozen 1; have hxX3_2 := (HX3.out.cell 2).trans (show _ = some (.int .i64 0) from rfl); have hfX3_2 := HX3.out.frozen 2; have hxX3_3 := (HX3.out.cell 3).trans (show _ = some (.string ByteArray.empty) from rfl); have hfX3_3 := HX3.out.frozen 3; have hxX3_4 := (HX3.out.cell 4).trans (show _ = some (.slice none 0 0) from rfl); have hfX3_4 := HX3.out.frozen 4) | ((with_reducible refine gate_store (t := 3) (p := 12) rfl ?_); refine LB.stored HX3.out HB.out GEX3.out 2 [.int .i64 x2] rfl (t := 3) (p := 12) rfl rfl ?hr_6 ?_; (case hr_6 => first | (go_simp; done) | (go_simp; simp only [World.setCells, Nat.reduceAdd, Nat.zero_add]; done)); intro w2 hx hk hb; replace HX1 := Aside0.mk (HX1.out.step hk D_X1_X3.out); replace HX2 := Aside0.mk (HX2.out.step hk D_X2_X3.out); replace HB := Aside0.mk hb; replace HX3 := Aside0.mk (show LB w2 PX3 gX3 43 #[.int .i64 x0, .int .i64 x1, .int .i64 x2, .string ByteArray.empty, .slice none 0 0] from hx); clear hk hx hb; (try clear hxX1_0 hfX1_0 hxX1_1 hfX1_1 hxX1_2 hfX1_2 hxX1_3 hfX1_3 hxX1_4 hfX1_4); have hxX1_0 := (HX1.out.cell 0).trans (show _ = some (.int .i64 x0) from rfl); have hfX1_0 := HX1.out.frozen 0; have hxX1_1 := (HX1.out.cell 1).trans (show _ = some (.int .i64 x1) from rfl); have hfX1_1 := HX1.out.frozen 1; have hxX1_2 := (HX1.out.cell 2).trans (show _ = some (.int .i64 x2) from rfl); have hfX1_2 := HX1.out.frozen 2; have hxX1_3 := (HX1.out.cell 3).trans (show _ = some (.string x3) from rfl); have hfX1_3 := HX1.out.frozen 3; have hxX1_4 := (HX1.out.cell 4).trans (show _ = some (.slice A4 x4.length c4) from rfl); have hfX1_4 := HX1.out.frozen 4; (try clear hxX2_0 hfX2_0 hxX2_1 hfX2_1 hxX2_2 hfX2_2 hxX2_3 hfX2_3 hxX2_4 hfX2_4); have hxX2_0 := (HX2.out.cell 0).trans (show _ = some (.int .i64 0) from rfl); have hfX2_0 := HX2.out.frozen 0; have hxX2_1 := (HX2.out.cell 1).trans (show _ = some (.int .i64 0) from rfl); have hfX2_1 := HX2.out.frozen 1; have hxX2_2 := (HX2.out.cell 2).trans (show _ = some (.int .i64 0) from rfl); have hfX2_2 := HX2.out.frozen 2; have hxX2_3 := (HX2.out.cell 3).trans (show _ = some (.string ByteArray.empty) from rfl); have hfX2_3 := HX2.out.frozen 3; have hxX2_4 := (HX2.out.cell 4).trans (show _ = some (.slice none 0 0) from rfl); have hfX2_4 := HX2.out.frozen 4; (try clear hxX3_0 hfX3_0 hxX3_1 hfX3_1 hxX3_2 hfX3_2 hxX3_3 hfX3_3 hxX3_4 hfX3_4); have hxX3_0 := (HX3.out.cell 0).trans (show _ = some (.int .i64 x0) from rfl); have hfX3_0 := HX3.out.frozen 0; have hxX3_1 := (HX3.out.cell 1).trans (show _ = some (.int .i64 x1) from rfl); have hfX3_1 := HX3.out.frozen 1; have hxX3_2 := (HX3.out.cell 2).trans (show _ = some (.int .i64 x2) from rfl); have hfX3_2 := HX3.out.frozen 2; have hxX3_3 := (HX3.out.cell 3).trans (show _ = some (.string ByteArray.empty) from rfl); have hfX3_3 := HX3.out.frozen 3; have hxX3_4 := (HX3.out.cell 4).trans (show _ = some (.slice none 0 0) from rfl); have hfX3_4 := HX3.out.frozen 4) | ((with_reducible refine gate_store (t := 9) (p := 15) rfl ?_); refine LB.stored HX3.out HB.out GEX3.out 3 [.string x3] rfl (t := 9) (p := 15) rfl rfl ?hr_7 ?_; (case hr_7 => first | (go_simp; done) | (go_simp; simp only [World.setCells, Nat.reduceAdd, Nat.zero_add]; done)); intro w2 hx hk hb; replace HX1 := Aside0.mk (HX1.out.step hk D_X1_X3.out); replace HX2 := Aside0.mk (HX2.out.step hk D_X2_X3.out); replace HB := Aside0.mk hb; replace HX3 := Aside0.mk (show LB w2 PX3 gX3 43 #[.int .i64 x0, .int .i64 x1, .int .i64 x2, .string x3, .slice none 0 0] from hx); clear hk hx hb; (try clear hxX1_0 hfX1_0 hxX1_1 hfX1_1 hxX1_2 hfX1_2 hxX1_3 hfX1_3 hxX1_4 hfX1_4); have hxX1_0 := (HX1.out.cell 0).trans (show _ = some (.int .i64 x0) from rfl); have hfX1_0 := HX1.out.frozen 0; have hxX1_1 := (HX1.out.cell 1).trans (show _ = some (.int .i64 x1) from rfl); have hfX1_1 := HX1.out.frozen 1; have hxX1_2 := (HX1.out.cell 2).trans (show _ = some (.int .i64 x2) from rfl); have hfX1_2 := HX1.out.frozen 2; have hxX1_3 := (HX1.out.cell 3).trans (show _ = some (.string x3) from rfl); have hfX1_3 := HX1.out.frozen 3; have hxX1_4 := (HX1.out.cell 4).trans (show _ = some (.slice A4 x4.length c4) from rfl); have hfX1_4 := HX1.out.frozen 4; (try clear hxX2_0 hfX2_0 hxX2_1 hfX2_1 hxX2_2 hfX2_2 hxX2_3 hfX2_3 hxX2_4 hfX2_4); have hxX2_0 := (HX2.out.cell 0).trans (show _ = some (.int .i64 0) from rfl); have hfX2_0 := HX2.out.frozen 0; have hxX2_1 := (HX2.out.cell 1).trans (show _ = some (.int .i64 0) from rfl); have hfX2_1 := HX2.out.frozen 1; have hxX2_2 := (HX2.out.cell 2).trans (show _ = some (.int .i64 0) from rfl); have hfX2_2 := HX2.out.frozen 2; have hxX2_3 := (HX2.out.cell 3).trans (show _ = some (.string ByteArray.empty) from rfl); have hfX2_3 := HX2.out.frozen 3; have hxX2_4 := (HX2.out.cell 4).trans (show _ = some (.slice none 0 0) from rfl); have hfX2_4 := HX2.out.frozen 4; (try clear hxX3_0 hfX3_0 hxX3_1 hfX3_1 hxX3_2 hfX3_2 hxX3_3 hfX3_3 hxX3_4 hfX3_4); have hxX3_0 := (HX3.out.cell 0).trans (show _ = some (.int .i64 x0) from rfl); have hfX3_0 := HX3.out.frozen 0; have hxX3_1 := (HX3.out.cell 1).trans (show _ = some (.int .i64 x1) from rfl); have hfX3_1 := HX3.out.frozen 1; have hxX3_2 := (HX3.out.cell 2).trans (show _ = some (.int .i64 x2) from rfl); have hfX3_2 := HX3.out.frozen 2; have hxX3_3 := (HX3.out.cell 3).trans (show _ = some (.string x3) from rfl); have hfX3_3 := HX3.out.frozen 3; have hxX3_4 := (HX3.out.cell 4).trans (show _ = some (.slice none 0 0) from rfl); have hfX3_4 := HX3.out.frozen 4) | ((with_reducible refine gate_dst (N := 18) rfl ?_); refine goesL_ (some 18) rfl rfl Try.func61 (by kernel_rfl) rfl #[.slice A4 x4.length c4] rfl (by (try simp only [List.map_toArray, List.map_cons, List.map_nil]); first | done | rfl) ?_; (with_reducible refine (HSS.out x4 HNN.out LIM.out OK.out A4 c4 _ (Kd.C_below HR.out HB.out) HC.out).mono ?_); rintro e w2 ⟨vY, rfl, hrY, hb⟩; refine ⟨_, rfl, ?_⟩; rw [← Ny.out] at hrY; have hk := kept_below hb; obtain ⟨PY, hPY, HLY⟩ := LS.fresh HB.out hrY; have HY := Aside0.mk HLY; clear HLY hrY; have D_X1_Y := Aside0.mk (new_apart HX1.out.lt hPY); have D_X2_Y := Aside0.mk (new_apart HX2.out.lt hPY); have D_X3_Y := Aside0.mk (new_apart HX3.out.lt hPY); replace HX1 := Aside0.mk (HX1.out.step hk no_S); replace HX2 := Aside0.mk (HX2.out.step hk no_S); replace HX3 := Aside0.mk (HX3.out.step hk no_S); clear hPY; obtain ⟨BY, DY, e_Y⟩ := HY.out.val; subst e_Y; replace HB := Aside0.mk (below_step HB.out hb); clear hb hk; (try clear hxX1_0 hfX1_0 hxX1_1 hfX1_1 hxX1_2 hfX1_2 hxX1_3 hfX1_3 hxX1_4 hfX1_4); have hxX1_0 := (HX1.out.cell 0).trans (show _ = some (.int .i64 x0) from rfl); have hfX1_0 := HX1.out.frozen 0; have hxX1_1 := (HX1.out.cell 1).trans (show _ = some (.int .i64 x1) from rfl); have hfX1_1 := HX1.out.frozen 1; have hxX1_2 := (HX1.out.cell 2).trans (show _ = some (.int .i64 x2) from rfl); have hfX1_2 := HX1.out.frozen 2; have hxX1_3 := (HX1.out.cell 3).trans (show _ = some (.string x3) from rfl); have hfX1_3 := HX1.out.frozen 3; have hxX1_4 := (HX1.out.cell 4).trans (show _ = some (.slice A4 x4.length c4) from rfl); have hfX1_4 := HX1.out.frozen 4; (try clear hxX2_0 hfX2_0 hxX2_1 hfX2_1 hxX2_2 hfX2_2 hxX2_3 hfX2_3 hxX2_4 hfX2_4); have hxX2_0 := (HX2.out.cell 0).trans (show _ = some (.int .i64 0) from rfl); have hfX2_0 := HX2.out.frozen 0; have hxX2_1 := (HX2.out.cell 1).trans (show _ = some (.int .i64 0) from rfl); have hfX2_1 := HX2.out.frozen 1; have hxX2_2 := (HX2.out.cell 2).trans (show _ = some (.int .i64 0) from rfl); have hfX2_2 := HX2.out.frozen 2; have hxX2_3 := (HX2.out.cell 3).trans (show _ = some (.string ByteArray.empty) from rfl); have hfX2_3 := HX2.out.frozen 3; have hxX2_4 := (HX2.out.cell 4).trans (show _ = some (.slice none 0 0) from rfl); have hfX2_4 := HX2.out.frozen 4; (try clear hxX3_0 hfX3_0 hxX3_1 hfX3_1 hxX3_2 hfX3_2 hxX3_3 hfX3_3 hxX3_4 hfX3_4); have hxX3_0 := (HX3.out.cell 0).trans (show _ = some (.int .i64 x0) from rfl); have hfX3_0 := HX3.out.frozen 0; have hxX3_1 := (HX3.out.cell 1).trans (show _ = some (.int .i64 x1) from rfl); have hfX3_1 := HX3.out.frozen 1; have hxX3_2 := (HX3.out.cell 2).trans (show _ = some (.int .i64 x2) from rfl); have hfX3_2 := HX3.out.frozen 2; have hxX3_3 := (HX3.out.cell 3).trans (show _ = some (.string x3) from rfl); have hfX3_3 := HX3.out.frozen 3; have hxX3_4 := (HX3.out.cell 4).trans (show _ = some (.slice none 0 0) from rfl); have hfX3_4 := HX3.out.frozen 4) | ((with_reducible refine gate_store (t := 41) (p := 19) rfl ?_); refine LB.stored HX3.out HB.out GEX3.out 4 [.slice BY y.length DY] rfl (t := 41) (p := 19) rfl rfl ?hr_8 ?_; (case hr_8 => first | (go_simp; done) | (go_simp; simp only [World.setCells, Nat.reduceAdd, Nat.zero_add]; done)); intro w2 hx hk hb; replace HX1 := Aside0.mk (HX1.out.step hk D_X1_X3.out); replace HX2 := Aside0.mk (HX2.out.step hk D_X2_X3.out); replace HY := Aside0.mk (HY.out.step hk (apart_symm D_X3_Y.out)); replace HB := Aside0.mk hb; replace HX3 := Aside0.mk (show LB w2 PX3 gX3 43 #[.int .i64 x0, .int .i64 x1, .int .i64 x2, .string x3, .slice BY y.length DY] from hx); clear hk hx hb; (try clear hxX1_0 hfX1_0 hxX1_1 hfX1_1 hxX1_2 hfX1_2 hxX1_3 hfX1_3 hxX1_4 hfX1_4); have hxX1_0 := (HX1.out.cell 0).trans (show _ = some (.int .i64 x0) from rfl); have hfX1_0 := HX1.out.frozen 0; have hxX1_1 := (HX1.out.cell 1).trans (show _ = some (.int .i64 x1) from rfl); have hfX1_1 := HX1.out.frozen 1; have hxX1_2 := (HX1.out.cell 2).trans (show _ = some (.int .i64 x2) from rfl); have hfX1_2 := HX1.out.frozen 2; have hxX1_3 := (HX1.out.cell 3).trans (show _ = some (.string x3) from rfl); have hfX1_3 := HX1.out.frozen 3; have hxX1_4 := (HX1.out.cell 4).trans (show _ = some (.slice A4 x4.length c4) from rfl); have hfX1_4 := HX1.out.frozen 4; (try clear hxX2_0 hfX2_0 hxX2_1 hfX2_1 hxX2_2 hfX2_2 hxX2_3 hfX2_3 hxX2_4 hfX2_4); have hxX2_0 := (HX2.out.cell 0).trans (show _ = some (.int .i64 0) from rfl); have hfX2_0 := HX2.out.frozen 0; have hxX2_1 := (HX2.out.cell 1).trans (show _ = some (.int .i64 0) from rfl); have hfX2_1 := HX2.out.frozen 1; have hxX2_2 := (HX2.out.cell 2).trans (show _ = some (.int .i64 0) from rfl); have hfX2_2 := HX2.out.frozen 2; have hxX2_3 := (HX2.out.cell 3).trans (show _ = some (.string ByteArray.empty) from rfl); have hfX2_3 := HX2.out.frozen 3; have hxX2_4 := (HX2.out.cell 4).trans (show _ = some (.slice none 0 0) from rfl); have hfX2_4 := HX2.out.frozen 4; (try clear hxX3_0 hfX3_0 hxX3_1 hfX3_1 hxX3_2 hfX3_2 hxX3_3 hfX3_3 hxX3_4 hfX3_4); have hxX3_0 := (HX3.out.cell 0).trans (show _ = some (.int .i64 x0) from rfl); have hfX3_0 := HX3.out.frozen 0; have hxX3_1 := (HX3.out.cell 1).trans (show _ = some (.int .i64 x1) from rfl); have hfX3_1 := HX3.out.frozen 1; have hxX3_2 := (HX3.out.cell 2).trans (show _ = some (.int .i64 x2) from rfl); have hfX3_2 := HX3.out.frozen 2; have hxX3_3 := (HX3.out.cell 3).trans (show _ = some (.string x3) from rfl); have hfX3_3 := HX3.out.frozen 3; have hxX3_4 := (HX3.out.cell 4).trans (show _ = some (.slice BY y.length DY) from rfl); have hfX3_4 := HX3.out.frozen 4) | ((with_reducible refine gate_store (t := 43) (p := 2) rfl ?_); refine LB.storedW HX2.out HB.out GEX2.out [.int .i64 x0, .int .i64 x1, .int .i64 x2, .string x3, .slice BY y.length DY] rfl rfl (t := 43) (p := 2) rfl rfl ?hr_9 ?_; (case hr_9 => first | (go_simp; done) | (go_simp; simp only [World.setCells, Nat.reduceAdd, Nat.zero_add]; done)); intro w2 hx hk hb; replace HX1 := Aside0.mk (HX1.out.step hk D_X1_X2.out); replace HX3 := Aside0.mk (HX3.out.step hk (apart_symm D_X2_X3.out)); replace HY := Aside0.mk (HY.out.step hk (apart_symm D_X2_Y.out)); replace HB := Aside0.mk hb; replace HX2 := Aside0.mk (show LB w2 PX2 gX2 43 #[.int .i64 x0, .int .i64 x1, .int .i64 x2, .string x3, .slice BY y.length DY] from hx); clear hk hx hb; (try clear hxX1_0 hfX1_0 hxX1_1 hfX1_1 hxX1_2 hfX1_2 hxX1_3 hfX1_3 hxX1_4 hfX1_4); have hxX1_0 := (HX1.out.cell 0).trans (show _ = some (.int .i64 x0) from rfl); have hfX1_0 := HX1.out.frozen 0; have hxX1_1 := (HX1.out.cell 1).trans (show _ = some (.int .i64 x1) from rfl); have hfX1_1 := HX1.out.frozen 1; have hxX1_2 := (HX1.out.cell 2).trans (show _ = some (.int .i64 x2) from rfl); have hfX1_2 := HX1.out.frozen 2; have hxX1_3 := (HX1.out.cell 3).trans (show _ = some (.string x3) from rfl); have hfX1_3 := HX1.out.frozen 3; have hxX1_4 := (HX1.out.cell 4).trans (show _ = some (.slice A4 x4.length c4) from rfl); have hfX1_4 := HX1.out.frozen 4; (try clear hxX2_0 hfX2_0 hxX2_1 hfX2_1 hxX2_2 hfX2_2 hxX2_3 hfX2_3 hxX2_4 hfX2_4); have hxX2_0 := (HX2.out.cell 0).trans (show _ = some (.int .i64 x0) from rfl); have hfX2_0 := HX2.out.frozen 0; have hxX2_1 := (HX2.out.cell 1).trans (show _ = some (.int .i64 x1) from rfl); have hfX2_1 := HX2.out.frozen 1; have hxX2_2 := (HX2.out.cell 2).trans (show _ = some (.int .i64 x2) from rfl); have hfX2_2 := HX2.out.frozen 2; have hxX2_3 := (HX2.out.cell 3).trans (show _ = some (.string x3) from rfl); have hfX2_3 := HX2.out.frozen 3; have hxX2_4 := (HX2.out.cell 4).trans (show _ = some (.slice BY y.length DY) from rfl); have hfX2_4 := HX2.out.frozen 4; (try clear hxX3_0 hfX3_0 hxX3_1 hfX3_1 hxX3_2 hfX3_2 hxX3_3 hfX3_3 hxX3_4 hfX3_4); have hxX3_0 := (HX3.out.cell 0).trans (show _ = some (.int .i64 x0) from rfl); have hfX3_0 := HX3.out.frozen 0; have hxX3_1 := (HX3.out.cell 1).trans (show _ = some (.int .i64 x1) from rfl); have hfX3_1 := HX3.out.frozen 1; have hxX3_2 := (HX3.out.cell 2).trans (show _ = some (.int .i64 x2) from rfl); have hfX3_2 := HX3.out.frozen 2; have hxX3_3 := (HX3.out.cell 3).trans (show _ = some (.string x3) from rfl); have hfX3_3 := HX3.out.frozen 3; have hxX3_4 := (HX3.out.cell 4).trans (show _ = some (.slice BY y.length DY) from rfl); have hfX3_4 := HX3.out.frozen 4))
  refine bodyPost_ret (results_cell_row rfl _ _ gX2 43 #[.int .i64 x0, .int .i64 x1, .int .i64 x2, .string x3, .slice BY y.length DY] (0, 0) _ rfl HX2.out.2.1 Try.underlying43 rfl (by kernel_rfl)) rfl ?_
  exact ⟨_, rfl, Kd.S_mono HY.out.1 (fun _ _ => trivial), HB.out⟩
end
theorem laws_toRx.any : ∀ n : Nat, (∀ l : List S38, SizeOf.sizeOf l ≤ n → l.length ≤ 4398046511104 → laws_toRx.okL l = true → ∀ (A0 : Option Addr) (c0 : Nat) (w : World), k38.C w A0 l.length l → l.length ≤ c0 → Calls Try.prog 61 #[.slice A0 l.length c0] w fun e w' => ∃ v0 : Value, e = .returned v0 ∧ Kd.S k43 43 w' w.heap.size (fun _ => True) v0 (laws_toRx.go l) ∧ Below w.heap.size w w') ∧ (∀ x : S38, SizeOf.sizeOf x ≤ n → laws_toRx.ok x = true → ∀ (A4 : Option Addr) (c4 : Nat) (w : World), k38.C w A4 x.f4.length x.f4 → x.f4.length ≤ c4 → Calls Try.prog 21 #[.agg #[.int .i64 x.f0, .int .i64 x.f1, .int .i64 x.f2, .string x.f3, .slice A4 x.f4.length c4]] w fun e w' => ∃ v4 : Value, e = .returned (.agg #[.int .i64 x.f0, .int .i64 x.f1, .int .i64 x.f2, .string x.f3, v4]) ∧ Kd.S k43 43 w' w.heap.size (fun _ => True) v4 (laws_toRx.go x.f4) ∧ Below w.heap.size w w')
  | 0 => ⟨fun l h => by cases l <;> simp at h, fun x h => by cases x; simp at h⟩
  | n + 1 => by
    obtain ⟨i1, i2⟩ := laws_toRx.any n
    refine ⟨fun l h hlim hok A0 c0 w hr hc => laws_toRxS.step n i2 l h hlim hok A0 c0 w hr hc, fun x h hok A4 c4 w hr hc => ?_⟩
    obtain ⟨x0, x1, x2, x3, x4⟩ := x
    rw [laws_toRx.ok, Bool.and_eq_true, decide_eq_true_eq] at hok
    exact laws_toRx.step n i1 x0 x1 x2 x3 x4 (by simp at h; omega) hok.1 hok.2 A4 c4 w hr hc
def laws_toRxS.f (l0 : List (S38)) : Option ((List (S43))) := if l0.length ≤ 4398046511104 ∧ laws_toRx.okL l0 = true then some (laws_toRx.go l0) else none
theorem laws_toRxS.calls (A0 : Option Addr) (c0 : Nat) (l0 : List (S38)) (r : List (S43)) (w : World) (hr0 : Kd.C k38 w A0 l0.length l0) (hc0 : l0.length ≤ c0) (h : laws_toRxS.f l0 = some r) :
    Calls Try.prog 61 #[.slice A0 l0.length c0] w fun e w' => ∃ v0_ : Value, e = .returned (v0_) ∧ Kd.S k43 43 w' w.heap.size (fun _ => True) v0_ r ∧ Below w.heap.size w w' := by
  unfold laws_toRxS.f at h
  by_cases c : l0.length ≤ 4398046511104 ∧ laws_toRx.okL l0 = true
  · rw [if_pos c] at h
    obtain rfl := Option.some.inj h
    exact (laws_toRx.any _).1 l0 (Nat.le_refl _) c.1 c.2 A0 c0 w hr0 hc0
  · rw [if_neg c] at h
    exact absurd h (by simp)
def laws_toRx.f (a0_0 : Int) (a0_1 : Int) (a0_2 : Int) (a0_3 : ByteArray) (l0_4 : List (S38)) : Option (Int × Int × Int × ByteArray × (List (S43))) := if l0_4.length ≤ 4398046511104 ∧ laws_toRx.okL l0_4 = true then some (a0_0, a0_1, a0_2, a0_3, laws_toRx.go l0_4) else none
theorem laws_toRx.callsS (a0_0 : Int) (a0_1 : Int) (a0_2 : Int) (a0_3 : ByteArray) (A0_4 : Option Addr) (c0_4 : Nat) (l0_4 : List (S38)) (r1 : Int) (r2 : Int) (r3 : Int) (r4 : ByteArray) (r5 : List (S43)) (w : World) (hr0_4 : Kd.C k38 w A0_4 l0_4.length l0_4) (hc0_4 : l0_4.length ≤ c0_4) (h : laws_toRx.f a0_0 a0_1 a0_2 a0_3 l0_4 = some (r1, r2, r3, r4, r5)) :
    Calls Try.prog 21 #[.agg #[.int .i64 a0_0, .int .i64 a0_1, .int .i64 a0_2, .string a0_3, .slice A0_4 l0_4.length c0_4]] w fun e w' => ∃ v4_ : Value, e = .returned (.agg #[.int .i64 r1, .int .i64 r2, .int .i64 r3, .string r4, v4_]) ∧ Kd.S k43 43 w' w.heap.size (fun _ => True) v4_ r5 ∧ Below w.heap.size w w' := by
  unfold laws_toRx.f at h
  by_cases c : l0_4.length ≤ 4398046511104 ∧ laws_toRx.okL l0_4 = true
  · rw [if_pos c] at h
    simp only [Option.some.injEq, Prod.mk.injEq] at h
    obtain ⟨rfl, rfl, rfl, rfl, rfl⟩ := h
    exact (laws_toRx.any _).2 ⟨a0_0, a0_1, a0_2, a0_3, l0_4⟩ (Nat.le_refl _) (by rw [laws_toRx.ok, Bool.and_eq_true, decide_eq_true_eq]; exact c) A0_4 c0_4 w hr0_4 hc0_4
  · rw [if_neg c] at h
    exact absurd h (by simp)
theorem laws_toRx.calls (a0_0 : Int) (a0_1 : Int) (a0_2 : Int) (a0_3 : ByteArray) (A0_4 : Option Addr) (c0_4 : Nat) (l0_4 : List (S38)) (r1 : Int) (r2 : Int) (r3 : Int) (r4 : ByteArray) (r5 : List (S43)) (w : World) (hr0_4 : Kd.C k38 w A0_4 l0_4.length l0_4) (hc0_4 : l0_4.length ≤ c0_4) (h : laws_toRx.f a0_0 a0_1 a0_2 a0_3 l0_4 = some (r1, r2, r3, r4, r5)) :
    Calls Try.prog 21 #[.agg #[.int .i64 a0_0, .int .i64 a0_1, .int .i64 a0_2, .string a0_3, .slice A0_4 l0_4.length c0_4]] w fun e w' => ∃ v4_ : Value, e = .returned (.agg #[.int .i64 r1, .int .i64 r2, .int .i64 r3, .string r4, v4_]) ∧ k43.R 43 w' w.heap.size (fun _ => True) v4_ r5 ∧ Below w.heap.size w w' :=
  (laws_toRx.callsS a0_0 a0_1 a0_2 a0_3 A0_4 c0_4 l0_4 r1 r2 r3 r4 r5 w hr0_4 hc0_4 h).mono fun _ _ ⟨v, he, hs, hb⟩ => ⟨v, he, Kd.S_R hs, hb⟩

/-! ### laws_toRx: with laws_toRxS -/

/-! ### laws_eqRxS: function 63, with laws_eqRx: function 23 -/
def laws_eqRxS.T6 : Bool × List (List Nat × List Nat) := (true, [([], []), ([], []), ([0, 1], [0, 1]), ([2], [2]), ([], []), ([], []), ([4, 5], [4, 5]), ([6], [6]), ([3, 7], [3, 7]), ([8], [8])])
def laws_eqRxS.B6 : List Nat := [0, 0, 3, 7, 0, 0, 48, 112, 255, 511]
theorem laws_eqRxS.tab6 : rtab .any (opsOf Try.f63 6) = laws_eqRxS.T6 := by kernel_rfl
theorem laws_eqRxS.bits6 : waitsOk laws_eqRxS.T6.2 laws_eqRxS.B6 = true := by kernel_rfl
mutual
def laws_eqRx.g : S43 → S43 → Bool
  | ⟨a0, a1, a2, a3, a4⟩, ⟨b0, b1, b2, b3, b4⟩ => (a0 == b0) && ((a1 == b1) && ((a2 == b2) && ((a3.toList == b3.toList) && (decide (a4.length = b4.length) && laws_eqRx.go a4 b4))))
def laws_eqRx.go : List S43 → List S43 → Bool
  | [], _ => true
  | _ :: _, [] => false
  | x :: l, y :: m => laws_eqRx.g x y && laws_eqRx.go l m
end
def laws_eqRxS.g (l m : List S43) : Bool := decide (l.length = m.length) && laws_eqRx.go l m
theorem eq_at (l : List S43) (i : Nat) (hi : i < l.length) {n : Nat} (hn : SizeOf.sizeOf l ≤ n + 1) : SizeOf.sizeOf (rd_T43 l (i : Int)) ≤ n := by
  have hr : rd_T43 l (i : Int) = l[i] := by
    unfold rd_T43
    simp [List.getD_eq_getElem?_getD, List.getElem?_eq_getElem hi]
  rw [hr]
  have := List.sizeOf_lt_of_mem (List.getElem_mem hi)
  omega
theorem laws_eqRx.go_step (l m : List S43) (i : Nat) (h : i < l.length) (h2 : i < m.length) : laws_eqRx.go (l.drop i) (m.drop i) = (laws_eqRx.g (rd_T43 l (i : Int)) (rd_T43 m (i : Int)) && laws_eqRx.go (l.drop (i + 1)) (m.drop (i + 1))) := by
  rw [List.drop_eq_getElem_cons h, List.drop_eq_getElem_cons h2, laws_eqRx.go]
  have e1 : rd_T43 l (i : Int) = l[i] := by
    unfold rd_T43
    simp [List.getD_eq_getElem?_getD, List.getElem?_eq_getElem h]
  have e2 : rd_T43 m (i : Int) = m[i] := by
    unfold rd_T43
    simp [List.getD_eq_getElem?_getD, List.getElem?_eq_getElem h2]
  rw [e1, e2]
set_option maxHeartbeats 8000000 in
set_option maxRecDepth 100000 in
theorem laws_eqRxS.step (n : Nat) (ih : ∀ x y : S43, SizeOf.sizeOf x ≤ n → ∀ (A4 : Option Addr) (c4 : Nat) (B4 : Option Addr) (d4 : Nat) (w : World), k43.C w A4 x.f4.length x.f4 → x.f4.length ≤ c4 → k43.C w B4 y.f4.length y.f4 → y.f4.length ≤ d4 → Calls Try.prog 23 #[.agg #[.int .i64 x.f0, .int .i64 x.f1, .int .i64 x.f2, .string x.f3, .slice A4 x.f4.length c4], .agg #[.int .i64 y.f0, .int .i64 y.f1, .int .i64 y.f2, .string y.f3, .slice B4 y.f4.length d4]] w fun e w' => e = .returned (.bool (laws_eqRx.g x y)) ∧ Below w.heap.size w w')
    (l m : List S43) (hn : SizeOf.sizeOf l ≤ n + 1) (A0 : Option Addr) (c0 : Nat) (B0 : Option Addr) (d0 : Nat) (w : World) (hr : k43.C w A0 l.length l) (hc : l.length ≤ c0) (hr2 : k43.C w B0 m.length m) (hc2 : m.length ≤ d0) :
    Calls Try.prog 63 #[.slice A0 l.length c0, .slice B0 m.length d0] w fun e w' => e = .returned (.bool (laws_eqRxS.g l m)) ∧ Below w.heap.size w w' := by
  have HB := Aside0.mk (Below.refl w.heap.size w)
  have HR := Aside0.mk hr
  have HR2 := Aside0.mk hr2
  have HL := Aside0.mk hr.2.1
  have IH := Aside0.mk ih
  have HN := Aside0.mk hn
  clear hr ih hn hc hr2 hc2
  by_cases c : l.length = m.length
  · have HE0 := Aside0.mk (show laws_eqRxS.g l m = laws_eqRx.go l m by unfold laws_eqRxS.g; rw [decide_eq_true c, Bool.true_and])
    have c1 : ((l.length : Int) == (m.length : Int)) = true := beq_iff_eq.mpr (by omega)
    have c2 : ((l.length : Int) != (m.length : Int)) = false := bne_eq_false_iff_eq.mpr (by omega)
    have c3 : (l.length == m.length) = true := beq_iff_eq.mpr c
    have c4 : (l.length != m.length) = false := bne_eq_false_iff_eq.mpr c
    have LE := Aside0.mk c
    clear c
    go_enter Try.func63, Try.ntmps63
    go_wp2
    go_loopg [5] (l.length + 1) (fun kq v5 w' => ∃ i : Nat, v5 = .int .i64 (i : Int) ∧ Aside0 (i + kq = l.length + 1) ∧ Aside0 (laws_eqRxS.g l m = laws_eqRx.go (l.drop i) (m.drop i)) ∧ Aside0 (Below w.heap.size w w'))
    case atStart => exact ⟨0, rfl, ⟨by omega⟩, HE0, HB⟩
    case round =>
      clear HB HE0 c1 c2 c3 c4
      obtain ⟨i, rfl, HK, HI, HB⟩ := hrel
      have FIN := Aside0.mk (show l.length ≤ i → laws_eqRxS.g l m = true from fun h => by rw [HI.out, List.drop_eq_nil_of_le h, laws_eqRx.go])
      cases gk with
      | zero =>
        have hlt : decide ((i : Int) < (l.length : Int)) = false := decide_eq_false (by have := HK.out; omega)
        have hltn : decide (i < l.length) = false := decide_eq_false (by have := HK.out; omega)
        have HE := Aside0.mk (FIN.out (by have := HK.out; omega))
        go_wp2
        go_ret
        exact ⟨by rw [HE.out]; rfl, HB.out⟩
      | succ k1 =>
        rcases Nat.lt_or_ge i l.length with hi | hi
        · have hi2 : i < m.length := by have := LE.out; omega
          have hlt : decide ((i : Int) < (l.length : Int)) = true := decide_eq_true (by omega)
          have hltn : decide (i < l.length) = true := decide_eq_true (by omega)
          have hw : wrap64 ((i : Int) + 1) = ((i + 1 : Nat) : Int) := by have := HL.out; unfold wrap64; omega
          have hww : IntKind.i64.wrap ((i : Int) + 1) = ((i + 1 : Nat) : Int) := (i64_w _).trans hw
          have HS := Aside0.mk (laws_eqRx.go_step l m i hi hi2)
          have SZ := Aside0.mk (eq_at l i hi HN.out)
          obtain ⟨ad, A4, c4, ea, ha0, ha1, ha2, ha3, ha4, hl4, hC4⟩ := at_T43 HR.out (i : Int) (by omega) (by omega)
          cases ea
          obtain ⟨bd, B4, d4, eb, hb0, hb1, hb2, hb3, hb4, hm4, hD4⟩ := at_T43 HR2.out (i : Int) (by omega) (by omega)
          cases eb
          simp only [Int.toNat_natCast] at ha0 ha1 ha2 ha3 ha4 hb0 hb1 hb2 hb3 hb4
          have HX := Aside0.mk hC4
          have HL4 := Aside0.mk hl4
          have HY := Aside0.mk hD4
          have HM4 := Aside0.mk hm4
          clear hC4 hl4 hD4 hm4
          have p1 := eq_true (show (0 : Int) ≤ (i : Int) by omega)
          have q1 := eq_true (show (i : Int) < (l.length : Int) by omega)
          have q2 := eq_true (show (i : Int) < (m.length : Int) by omega)
          obtain ⟨z, hz⟩ : ∃ z_, z_ = laws_eqRx.g (rd_T43 l (i : Int)) (rd_T43 m (i : Int)) := ⟨_, rfl⟩
          have EV := Aside0.mk hz.symm
          rw [← hz] at HS
          clear hz
          have n0_ := Aside0.mk (below_drew1 HB.out)
          try go_wp2
          replace HB := n0_
          clear n0_
          refine start_ (n := 10) (S := fun w' => w'.cell? (ad.add (i * 5)) = some (.int .i64 (rd_T43 l (i : Int)).f0) ∧ w'.cell? ⟨(ad.add (i * 5)).block, (ad.add (i * 5)).off + 1, none⟩ = some (.int .i64 (rd_T43 l (i : Int)).f1) ∧ w'.cell? ⟨(ad.add (i * 5)).block, (ad.add (i * 5)).off + 2, none⟩ = some (.int .i64 (rd_T43 l (i : Int)).f2) ∧ w'.cell? ⟨(ad.add (i * 5)).block, (ad.add (i * 5)).off + 3, none⟩ = some (.string (rd_T43 l (i : Int)).f3) ∧ w'.cell? ⟨(ad.add (i * 5)).block, (ad.add (i * 5)).off + 4, none⟩ = some (.slice A4 (rd_T43 l (i : Int)).f4.length c4) ∧ w'.cell? (bd.add (i * 5)) = some (.int .i64 (rd_T43 m (i : Int)).f0) ∧ w'.cell? ⟨(bd.add (i * 5)).block, (bd.add (i * 5)).off + 1, none⟩ = some (.int .i64 (rd_T43 m (i : Int)).f1) ∧ w'.cell? ⟨(bd.add (i * 5)).block, (bd.add (i * 5)).off + 2, none⟩ = some (.int .i64 (rd_T43 m (i : Int)).f2) ∧ w'.cell? ⟨(bd.add (i * 5)).block, (bd.add (i * 5)).off + 3, none⟩ = some (.string (rd_T43 m (i : Int)).f3) ∧ w'.cell? ⟨(bd.add (i * 5)).block, (bd.add (i * 5)).off + 4, none⟩ = some (.slice B4 (rd_T43 m (i : Int)).f4.length d4)) (ds := []) #[false, false, false, false, false, false, false, false, false, false] (by kernel_rfl) rfl rfl ⟨((HB.out.cell (World.block_lt_of_cell? w _ ha0)).trans ha0), ((HB.out.cell (World.block_lt_of_cell? w _ ha1)).trans ha1), ((HB.out.cell (World.block_lt_of_cell? w _ ha2)).trans ha2), ((HB.out.cell (World.block_lt_of_cell? w _ ha3)).trans ha3), ((HB.out.cell (World.block_lt_of_cell? w _ ha4)).trans ha4), ((HB.out.cell (World.block_lt_of_cell? w _ hb0)).trans hb0), ((HB.out.cell (World.block_lt_of_cell? w _ hb1)).trans hb1), ((HB.out.cell (World.block_lt_of_cell? w _ hb2)).trans hb2), ((HB.out.cell (World.block_lt_of_cell? w _ hb3)).trans hb3), ((HB.out.cell (World.block_lt_of_cell? w _ hb4)).trans hb4)⟩ (fun hHeld => ?_)
          refine with_tabW laws_eqRxS.tab6 laws_eqRxS.bits6 (fun HT_ HW_ => ?_)
          generalize wr.drew = w9 at HB hHeld ⊢
          refine pure_ (i := 0) (N := some 17) (v := ?_) (a' := ?_) #[true, false, false, false, false, false, false, false, false, false] rfl rfl (any_of HT_.out (by kernel_rfl)) (fun _ _ _ h => h) (Or.inl ⟨by rfl, ?_⟩) ?_ ?_
          rotate_left
          · intro w'
            go_simp
            with_reducible rfl
          rotate_left
          · simp only [Act.put, List.setIfInBounds_toArray, List.set_cons_zero, List.set_cons_succ, i64_w, i32_w]
            rfl
          refine pure_ (i := 1) (N := some 18) (v := ?_) (a' := ?_) #[true, true, false, false, false, false, false, false, false, false] rfl rfl (any_of HT_.out (by kernel_rfl)) (fun _ _ _ h => h) (Or.inl ⟨by rfl, ?_⟩) ?_ ?_
          rotate_left
          · intro w'
            go_simp
            with_reducible rfl
          rotate_left
          · simp only [Act.put, List.setIfInBounds_toArray, List.set_cons_zero, List.set_cons_succ, i64_w, i32_w]
            rfl
          refine pure_ (i := 2) (N := some 19) (v := ?_) (a' := ?_) #[true, true, true, false, false, false, false, false, false, false] rfl rfl (any_of HT_.out (by kernel_rfl)) (fun _ _ _ h => h) (Or.inl ⟨by rfl, ?_⟩) ?_ ?_
          rotate_left
          · intro w'
            go_simp
            with_reducible rfl
          rotate_left
          · simp only [Act.put, List.setIfInBounds_toArray, List.set_cons_zero, List.set_cons_succ, i64_w, i32_w]
            rfl
          refine pure_ (i := 4) (N := some 21) (v := ?_) (a' := ?_) #[true, true, true, false, true, false, false, false, false, false] rfl rfl (any_of HT_.out (by kernel_rfl)) (fun _ _ _ h => h) (Or.inl ⟨by rfl, ?_⟩) ?_ ?_
          rotate_left
          · intro w'
            go_simp
            with_reducible rfl
          rotate_left
          · simp only [Act.put, List.setIfInBounds_toArray, List.set_cons_zero, List.set_cons_succ, i64_w, i32_w]
            rfl
          refine pure_ (i := 5) (N := some 22) (v := ?_) (a' := ?_) #[true, true, true, false, true, true, false, false, false, false] rfl rfl (any_of HT_.out (by kernel_rfl)) (fun _ _ _ h => h) (Or.inl ⟨by rfl, ?_⟩) ?_ ?_
          rotate_left
          · intro w'
            go_simp
            with_reducible rfl
          rotate_left
          · simp only [Act.put, List.setIfInBounds_toArray, List.set_cons_zero, List.set_cons_succ, i64_w, i32_w]
            rfl
          refine pure_ (i := 6) (N := some 23) (v := ?_) (a' := ?_) #[true, true, true, false, true, true, true, false, false, false] rfl rfl (any_of HT_.out (by kernel_rfl)) (fun _ _ _ h => h) (Or.inl ⟨by rfl, ?_⟩) ?_ ?_
          rotate_left
          · intro w'
            go_simp
            with_reducible rfl
          rotate_left
          · simp only [Act.put, List.setIfInBounds_toArray, List.set_cons_zero, List.set_cons_succ, i64_w, i32_w]
            rfl
          refine take_ (i := 3) (N := some 20) (v := ?_) (a' := ?_) #[true, true, true, true, true, true, true, false, false, false] rfl rfl (take_ofW HT_.out HW_.out (by kernel_rfl)) (fun _ _ _ h => h) (Or.inl ⟨by rfl, ?_⟩) hHeld ?_ ?_
          rotate_left
          · rintro w' ⟨s0, s1, s2, s3, s4, s5, s6, s7, s8, s9⟩
            go_simp
            with_reducible rfl
          rotate_left
          · simp only [Act.put, List.setIfInBounds_toArray, List.set_cons_zero, List.set_cons_succ, i64_w, i32_w]
            rfl
          refine take_ (i := 7) (N := some 24) (v := ?_) (a' := ?_) #[true, true, true, true, true, true, true, true, false, false] rfl rfl (take_ofW HT_.out HW_.out (by kernel_rfl)) (fun _ _ _ h => h) (Or.inl ⟨by rfl, ?_⟩) hHeld ?_ ?_
          rotate_left
          · rintro w' ⟨s0, s1, s2, s3, s4, s5, s6, s7, s8, s9⟩
            go_simp
            with_reducible rfl
          rotate_left
          · simp only [Act.put, List.setIfInBounds_toArray, List.set_cons_zero, List.set_cons_succ, i64_w, i32_w]
            rfl
          refine one_ (i := 8) (N := some 25) #[true, true, true, true, true, true, true, true, true, false] rfl rfl (one_of HT_.out (by kernel_rfl)) (by decide) (fun K hK => ?_)
          refine goes_ Try.func23 (by kernel_rfl) rfl #[.agg #[.int .i64 (rd_T43 l (i : Int)).f0, .int .i64 (rd_T43 l (i : Int)).f1, .int .i64 (rd_T43 l (i : Int)).f2, .string (rd_T43 l (i : Int)).f3, .slice A4 (rd_T43 l (i : Int)).f4.length c4], .agg #[.int .i64 (rd_T43 m (i : Int)).f0, .int .i64 (rd_T43 m (i : Int)).f1, .int .i64 (rd_T43 m (i : Int)).f2, .string (rd_T43 m (i : Int)).f3, .slice B4 (rd_T43 m (i : Int)).f4.length d4]] (by rfl) rfl rfl (by (try simp only [List.map_toArray, List.map_cons, List.map_nil]); first | done | rfl) ?_
          (with_reducible refine (IH.out (rd_T43 l (i : Int)) (rd_T43 m (i : Int)) SZ.out A4 c4 B4 d4 _ (Kd.C_below HX.out HB.out) HL4.out (Kd.C_below HY.out HB.out) HM4.out).mono ?_)
          rintro e w2 ⟨he, hb⟩
          rw [EV.out] at he
          subst he
          refine ⟨_, rfl, ?_⟩
          replace HB := Aside0.mk (below_step HB.out hb)
          clear hb
          refine hK.out _ _ ⟨((HB.out.cell (World.block_lt_of_cell? w _ ha0)).trans ha0), ((HB.out.cell (World.block_lt_of_cell? w _ ha1)).trans ha1), ((HB.out.cell (World.block_lt_of_cell? w _ ha2)).trans ha2), ((HB.out.cell (World.block_lt_of_cell? w _ ha3)).trans ha3), ((HB.out.cell (World.block_lt_of_cell? w _ ha4)).trans ha4), ((HB.out.cell (World.block_lt_of_cell? w _ hb0)).trans hb0), ((HB.out.cell (World.block_lt_of_cell? w _ hb1)).trans hb1), ((HB.out.cell (World.block_lt_of_cell? w _ hb2)).trans hb2), ((HB.out.cell (World.block_lt_of_cell? w _ hb3)).trans hb3), ((HB.out.cell (World.block_lt_of_cell? w _ hb4)).trans hb4)⟩ (fun hHeld => ?_)
          clear hK K
          refine norm_ (a' := ?_) ?_ ?_
          rotate_left
          · show Act.put _ (some 25) _ = _
            simp only [Act.put, List.setIfInBounds_toArray, List.set_cons_zero, List.set_cons_succ, i64_w, i32_w]
            rfl
          refine pure_ (i := 9) (N := some 26) (v := ?_) (a' := ?_) #[true, true, true, true, true, true, true, true, true, true] rfl rfl (any_of HT_.out (by kernel_rfl)) (fun _ _ _ h => h) (Or.inl ⟨by rfl, ?_⟩) ?_ ?_
          rotate_left
          · intro w'
            go_simp
            with_reducible rfl
          rotate_left
          · simp only [Act.put, List.setIfInBounds_toArray, List.set_cons_zero, List.set_cons_succ, i64_w, i32_w]
            rfl
          refine done_ (done_of HT_.out (by kernel_rfl)) ?_
          cases z with
          | true =>
            have HE := Aside0.mk (show laws_eqRxS.g l m = laws_eqRx.go (l.drop (i + 1)) (m.drop (i + 1)) by rw [HI.out, HS.out, Bool.true_and])
            go_wp2
            go_roundg k1
            case measure => have := HK.out; omega
            case rel => exact ⟨i + 1, by first | rfl | (simp only [hw]) | simp, ⟨by have := HK.out; omega⟩, HE, HB⟩
          | false =>
            have HE := Aside0.mk (show laws_eqRxS.g l m = false by rw [HI.out, HS.out, Bool.false_and])
            go_wp2
            go_ret
            exact ⟨by rw [HE.out]; rfl, HB.out⟩
        · have hlt : decide ((i : Int) < (l.length : Int)) = false := decide_eq_false (by omega)
          have hltn : decide (i < l.length) = false := decide_eq_false (by omega)
          have HE := Aside0.mk (FIN.out hi)
          go_wp2
          go_ret
          exact ⟨by rw [HE.out]; rfl, HB.out⟩
  · have HE := Aside0.mk (show laws_eqRxS.g l m = false by unfold laws_eqRxS.g; rw [decide_eq_false c, Bool.false_and])
    have c1 : ((l.length : Int) == (m.length : Int)) = false := beq_eq_false_iff_ne.mpr (by omega)
    have c2 : ((l.length : Int) != (m.length : Int)) = true := bne_iff_ne.mpr (by omega)
    have c3 : (l.length == m.length) = false := beq_eq_false_iff_ne.mpr c
    have c4 : (l.length != m.length) = true := bne_iff_ne.mpr c
    clear c
    go_enter Try.func63, Try.ntmps63
    go_wp2
    go_ret
    exact ⟨by rw [HE.out]; rfl, HB.out⟩
set_option maxHeartbeats 8000000 in
set_option maxRecDepth 100000 in
theorem laws_eqRx.step (n : Nat) (hS : ∀ l m : List S43, SizeOf.sizeOf l ≤ n → ∀ (A0 : Option Addr) (c0 : Nat) (B0 : Option Addr) (d0 : Nat) (w : World), k43.C w A0 l.length l → l.length ≤ c0 → k43.C w B0 m.length m → m.length ≤ d0 → Calls Try.prog 63 #[.slice A0 l.length c0, .slice B0 m.length d0] w fun e w' => e = .returned (.bool (laws_eqRxS.g l m)) ∧ Below w.heap.size w w')
    (a0 a1 a2 : Int) (a3 : ByteArray) (a4 : List S43) (b0 b1 b2 : Int) (b3 : ByteArray) (b4 : List S43) (hn : SizeOf.sizeOf a4 ≤ n) (A4 : Option Addr) (c4 : Nat) (B4 : Option Addr) (d4 : Nat) (w : World) (hr : k43.C w A4 a4.length a4) (hc : a4.length ≤ c4) (hr2 : k43.C w B4 b4.length b4) (hc2 : b4.length ≤ d4) :
    Calls Try.prog 23 #[.agg #[.int .i64 a0, .int .i64 a1, .int .i64 a2, .string a3, .slice A4 a4.length c4], .agg #[.int .i64 b0, .int .i64 b1, .int .i64 b2, .string b3, .slice B4 b4.length d4]] w fun e w' => e = .returned (.bool (laws_eqRx.g ⟨a0, a1, a2, a3, a4⟩ ⟨b0, b1, b2, b3, b4⟩)) ∧ Below w.heap.size w w' := by
  have hu := Try.underlying43
  have HB := Aside0.mk (Below.refl w.heap.size w)
  have HR := Aside0.mk hr
  have HC := Aside0.mk hc
  have HR2 := Aside0.mk hr2
  have HC2 := Aside0.mk hc2
  have HSS := Aside0.mk hS
  have HNN := Aside0.mk hn
  clear hr hc hr2 hc2 hS hn
  have GE := Aside0.mk (show laws_eqRx.g ⟨a0, a1, a2, a3, a4⟩ ⟨b0, b1, b2, b3, b4⟩ = ((a0 == b0) && ((a1 == b1) && ((a2 == b2) && ((a3.toList == b3.toList) && laws_eqRxS.g a4 b4)))) by rw [laws_eqRx.g, laws_eqRxS.g])
  generalize laws_eqRx.g ⟨a0, a1, a2, a3, a4⟩ ⟨b0, b1, b2, b3, b4⟩ = G at GE ⊢
  obtain ⟨z, hz⟩ : ∃ z_, z_ = laws_eqRxS.g a4 b4 := ⟨_, rfl⟩
  have EV := Aside0.mk hz.symm
  rw [← hz] at GE
  clear hz
  cases h0 : (a0 == b0) with
  | false =>
    have g0 : (a0 != b0) = true := by simp only [bne, h0, Bool.not_false]
    have HG := GE.out
    simp only [h0, Bool.false_and] at HG
    subst HG
    clear GE
    go_enter Try.func23, Try.ntmps23
    go_wp2_with (first | ((with_reducible refine gate_dst (N := 2) rfl ?_); refine box_event ?hg2 (N := 2) ?hd2 (cs := #[.int .i64 a0, .int .i64 a1, .int .i64 a2, .string a3, .slice A4 a4.length c4]) (t := 43) ?hr2 ?_; (case hd2 => rfl); (case hg2 => rfl); (case hr2 => first | (go_simp; done) | (go_simp; rfl)); intro g2 hg w2 hbox hb; replace HB := Aside0.mk (below_step HB.out hb); have H2 := Aside0.mk hbox; clear hb hg) | ((with_reducible refine gate_dst (N := 3) rfl ?_); refine box_event ?hg3 (N := 3) ?hd3 (cs := #[.int .i64 b0, .int .i64 b1, .int .i64 b2, .string b3, .slice B4 b4.length d4]) (t := 43) ?hr3 ?_; (case hd3 => rfl); (case hg3 => rfl); (case hr3 => first | (go_simp; done) | (go_simp; rfl)); intro g3 hg w3 hbox hb; replace HB := Aside0.mk (below_step HB.out hb); have x2_0 := (blk_cell H2.out 0).trans (show _ = some (.int .i64 a0) from rfl); replace x2_0 := (hb.cell (World.block_lt_of_cell? _ _ x2_0)).trans x2_0; have x3_0 := (blk_cell hbox 0).trans (show _ = some (.int .i64 b0) from rfl); have x2_1 := (blk_cell H2.out 1).trans (show _ = some (.int .i64 a1) from rfl); replace x2_1 := (hb.cell (World.block_lt_of_cell? _ _ x2_1)).trans x2_1; have x3_1 := (blk_cell hbox 1).trans (show _ = some (.int .i64 b1) from rfl); have x2_2 := (blk_cell H2.out 2).trans (show _ = some (.int .i64 a2) from rfl); replace x2_2 := (hb.cell (World.block_lt_of_cell? _ _ x2_2)).trans x2_2; have x3_2 := (blk_cell hbox 2).trans (show _ = some (.int .i64 b2) from rfl); have x2_3 := (blk_cell H2.out 3).trans (show _ = some (.string a3) from rfl); replace x2_3 := (hb.cell (World.block_lt_of_cell? _ _ x2_3)).trans x2_3; have x3_3 := (blk_cell hbox 3).trans (show _ = some (.string b3) from rfl); have x2_4 := (blk_cell H2.out 4).trans (show _ = some (.slice A4 a4.length c4) from rfl); replace x2_4 := (hb.cell (World.block_lt_of_cell? _ _ x2_4)).trans x2_4; have x3_4 := (blk_cell hbox 4).trans (show _ = some (.slice B4 b4.length d4) from rfl); clear hb hg) | ((with_reducible refine gate_dst (N := 29) rfl ?_); refine goesL_ (some 29) rfl rfl Try.func63 (by kernel_rfl) rfl #[.slice A4 a4.length c4, .slice B4 b4.length d4] rfl (by (try simp only [List.map_toArray, List.map_cons, List.map_nil]); first | done | rfl) ?_; (with_reducible refine (HSS.out a4 b4 HNN.out A4 c4 B4 d4 _ (Kd.C_below HR.out HB.out) HC.out (Kd.C_below HR2.out HB.out) HC2.out).mono ?_); rintro e w2 ⟨he, hb⟩; rw [EV.out] at he; subst he; refine ⟨_, rfl, ?_⟩; replace HB := Aside0.mk (below_step HB.out hb); clear hb))
    go_ret
    exact ⟨rfl, HB.out⟩
  | true =>
    have g0 : (a0 != b0) = false := by simp only [bne, h0, Bool.not_true]
    have e0 := GE.out
    rw [h0, Bool.true_and] at e0
    clear GE
    have GE := Aside0.mk e0
    clear e0
    cases h1 : (a1 == b1) with
    | false =>
      have g1 : (a1 != b1) = true := by simp only [bne, h1, Bool.not_false]
      have HG := GE.out
      simp only [h1, Bool.false_and] at HG
      subst HG
      clear GE
      go_enter Try.func23, Try.ntmps23
      go_wp2_with (first | ((with_reducible refine gate_dst (N := 2) rfl ?_); refine box_event ?hg2 (N := 2) ?hd2 (cs := #[.int .i64 a0, .int .i64 a1, .int .i64 a2, .string a3, .slice A4 a4.length c4]) (t := 43) ?hr2 ?_; (case hd2 => rfl); (case hg2 => rfl); (case hr2 => first | (go_simp; done) | (go_simp; rfl)); intro g2 hg w2 hbox hb; replace HB := Aside0.mk (below_step HB.out hb); have H2 := Aside0.mk hbox; clear hb hg) | ((with_reducible refine gate_dst (N := 3) rfl ?_); refine box_event ?hg3 (N := 3) ?hd3 (cs := #[.int .i64 b0, .int .i64 b1, .int .i64 b2, .string b3, .slice B4 b4.length d4]) (t := 43) ?hr3 ?_; (case hd3 => rfl); (case hg3 => rfl); (case hr3 => first | (go_simp; done) | (go_simp; rfl)); intro g3 hg w3 hbox hb; replace HB := Aside0.mk (below_step HB.out hb); have x2_0 := (blk_cell H2.out 0).trans (show _ = some (.int .i64 a0) from rfl); replace x2_0 := (hb.cell (World.block_lt_of_cell? _ _ x2_0)).trans x2_0; have x3_0 := (blk_cell hbox 0).trans (show _ = some (.int .i64 b0) from rfl); have x2_1 := (blk_cell H2.out 1).trans (show _ = some (.int .i64 a1) from rfl); replace x2_1 := (hb.cell (World.block_lt_of_cell? _ _ x2_1)).trans x2_1; have x3_1 := (blk_cell hbox 1).trans (show _ = some (.int .i64 b1) from rfl); have x2_2 := (blk_cell H2.out 2).trans (show _ = some (.int .i64 a2) from rfl); replace x2_2 := (hb.cell (World.block_lt_of_cell? _ _ x2_2)).trans x2_2; have x3_2 := (blk_cell hbox 2).trans (show _ = some (.int .i64 b2) from rfl); have x2_3 := (blk_cell H2.out 3).trans (show _ = some (.string a3) from rfl); replace x2_3 := (hb.cell (World.block_lt_of_cell? _ _ x2_3)).trans x2_3; have x3_3 := (blk_cell hbox 3).trans (show _ = some (.string b3) from rfl); have x2_4 := (blk_cell H2.out 4).trans (show _ = some (.slice A4 a4.length c4) from rfl); replace x2_4 := (hb.cell (World.block_lt_of_cell? _ _ x2_4)).trans x2_4; have x3_4 := (blk_cell hbox 4).trans (show _ = some (.slice B4 b4.length d4) from rfl); clear hb hg) | ((with_reducible refine gate_dst (N := 29) rfl ?_); refine goesL_ (some 29) rfl rfl Try.func63 (by kernel_rfl) rfl #[.slice A4 a4.length c4, .slice B4 b4.length d4] rfl (by (try simp only [List.map_toArray, List.map_cons, List.map_nil]); first | done | rfl) ?_; (with_reducible refine (HSS.out a4 b4 HNN.out A4 c4 B4 d4 _ (Kd.C_below HR.out HB.out) HC.out (Kd.C_below HR2.out HB.out) HC2.out).mono ?_); rintro e w2 ⟨he, hb⟩; rw [EV.out] at he; subst he; refine ⟨_, rfl, ?_⟩; replace HB := Aside0.mk (below_step HB.out hb); clear hb))
      go_ret
      exact ⟨rfl, HB.out⟩
    | true =>
      have g1 : (a1 != b1) = false := by simp only [bne, h1, Bool.not_true]
      have e0 := GE.out
      rw [h1, Bool.true_and] at e0
      clear GE
      have GE := Aside0.mk e0
      clear e0
      cases h2 : (a2 == b2) with
      | false =>
        have g2 : (a2 != b2) = true := by simp only [bne, h2, Bool.not_false]
        have HG := GE.out
        simp only [h2, Bool.false_and] at HG
        subst HG
        clear GE
        go_enter Try.func23, Try.ntmps23
        go_wp2_with (first | ((with_reducible refine gate_dst (N := 2) rfl ?_); refine box_event ?hg2 (N := 2) ?hd2 (cs := #[.int .i64 a0, .int .i64 a1, .int .i64 a2, .string a3, .slice A4 a4.length c4]) (t := 43) ?hr2 ?_; (case hd2 => rfl); (case hg2 => rfl); (case hr2 => first | (go_simp; done) | (go_simp; rfl)); intro g2 hg w2 hbox hb; replace HB := Aside0.mk (below_step HB.out hb); have H2 := Aside0.mk hbox; clear hb hg) | ((with_reducible refine gate_dst (N := 3) rfl ?_); refine box_event ?hg3 (N := 3) ?hd3 (cs := #[.int .i64 b0, .int .i64 b1, .int .i64 b2, .string b3, .slice B4 b4.length d4]) (t := 43) ?hr3 ?_; (case hd3 => rfl); (case hg3 => rfl); (case hr3 => first | (go_simp; done) | (go_simp; rfl)); intro g3 hg w3 hbox hb; replace HB := Aside0.mk (below_step HB.out hb); have x2_0 := (blk_cell H2.out 0).trans (show _ = some (.int .i64 a0) from rfl); replace x2_0 := (hb.cell (World.block_lt_of_cell? _ _ x2_0)).trans x2_0; have x3_0 := (blk_cell hbox 0).trans (show _ = some (.int .i64 b0) from rfl); have x2_1 := (blk_cell H2.out 1).trans (show _ = some (.int .i64 a1) from rfl); replace x2_1 := (hb.cell (World.block_lt_of_cell? _ _ x2_1)).trans x2_1; have x3_1 := (blk_cell hbox 1).trans (show _ = some (.int .i64 b1) from rfl); have x2_2 := (blk_cell H2.out 2).trans (show _ = some (.int .i64 a2) from rfl); replace x2_2 := (hb.cell (World.block_lt_of_cell? _ _ x2_2)).trans x2_2; have x3_2 := (blk_cell hbox 2).trans (show _ = some (.int .i64 b2) from rfl); have x2_3 := (blk_cell H2.out 3).trans (show _ = some (.string a3) from rfl); replace x2_3 := (hb.cell (World.block_lt_of_cell? _ _ x2_3)).trans x2_3; have x3_3 := (blk_cell hbox 3).trans (show _ = some (.string b3) from rfl); have x2_4 := (blk_cell H2.out 4).trans (show _ = some (.slice A4 a4.length c4) from rfl); replace x2_4 := (hb.cell (World.block_lt_of_cell? _ _ x2_4)).trans x2_4; have x3_4 := (blk_cell hbox 4).trans (show _ = some (.slice B4 b4.length d4) from rfl); clear hb hg) | ((with_reducible refine gate_dst (N := 29) rfl ?_); refine goesL_ (some 29) rfl rfl Try.func63 (by kernel_rfl) rfl #[.slice A4 a4.length c4, .slice B4 b4.length d4] rfl (by (try simp only [List.map_toArray, List.map_cons, List.map_nil]); first | done | rfl) ?_; (with_reducible refine (HSS.out a4 b4 HNN.out A4 c4 B4 d4 _ (Kd.C_below HR.out HB.out) HC.out (Kd.C_below HR2.out HB.out) HC2.out).mono ?_); rintro e w2 ⟨he, hb⟩; rw [EV.out] at he; subst he; refine ⟨_, rfl, ?_⟩; replace HB := Aside0.mk (below_step HB.out hb); clear hb))
        go_ret
        exact ⟨rfl, HB.out⟩
      | true =>
        have g2 : (a2 != b2) = false := by simp only [bne, h2, Bool.not_true]
        have e0 := GE.out
        rw [h2, Bool.true_and] at e0
        clear GE
        have GE := Aside0.mk e0
        clear e0
        cases h3 : (a3.toList == b3.toList) with
        | false =>
          have g3 : (a3.toList != b3.toList) = true := by simp only [bne, h3, Bool.not_false]
          have HG := GE.out
          simp only [h3, Bool.false_and] at HG
          subst HG
          clear GE
          go_enter Try.func23, Try.ntmps23
          go_wp2_with (first | ((with_reducible refine gate_dst (N := 2) rfl ?_); refine box_event ?hg2 (N := 2) ?hd2 (cs := #[.int .i64 a0, .int .i64 a1, .int .i64 a2, .string a3, .slice A4 a4.length c4]) (t := 43) ?hr2 ?_; (case hd2 => rfl); (case hg2 => rfl); (case hr2 => first | (go_simp; done) | (go_simp; rfl)); intro g2 hg w2 hbox hb; replace HB := Aside0.mk (below_step HB.out hb); have H2 := Aside0.mk hbox; clear hb hg) | ((with_reducible refine gate_dst (N := 3) rfl ?_); refine box_event ?hg3 (N := 3) ?hd3 (cs := #[.int .i64 b0, .int .i64 b1, .int .i64 b2, .string b3, .slice B4 b4.length d4]) (t := 43) ?hr3 ?_; (case hd3 => rfl); (case hg3 => rfl); (case hr3 => first | (go_simp; done) | (go_simp; rfl)); intro g3 hg w3 hbox hb; replace HB := Aside0.mk (below_step HB.out hb); have x2_0 := (blk_cell H2.out 0).trans (show _ = some (.int .i64 a0) from rfl); replace x2_0 := (hb.cell (World.block_lt_of_cell? _ _ x2_0)).trans x2_0; have x3_0 := (blk_cell hbox 0).trans (show _ = some (.int .i64 b0) from rfl); have x2_1 := (blk_cell H2.out 1).trans (show _ = some (.int .i64 a1) from rfl); replace x2_1 := (hb.cell (World.block_lt_of_cell? _ _ x2_1)).trans x2_1; have x3_1 := (blk_cell hbox 1).trans (show _ = some (.int .i64 b1) from rfl); have x2_2 := (blk_cell H2.out 2).trans (show _ = some (.int .i64 a2) from rfl); replace x2_2 := (hb.cell (World.block_lt_of_cell? _ _ x2_2)).trans x2_2; have x3_2 := (blk_cell hbox 2).trans (show _ = some (.int .i64 b2) from rfl); have x2_3 := (blk_cell H2.out 3).trans (show _ = some (.string a3) from rfl); replace x2_3 := (hb.cell (World.block_lt_of_cell? _ _ x2_3)).trans x2_3; have x3_3 := (blk_cell hbox 3).trans (show _ = some (.string b3) from rfl); have x2_4 := (blk_cell H2.out 4).trans (show _ = some (.slice A4 a4.length c4) from rfl); replace x2_4 := (hb.cell (World.block_lt_of_cell? _ _ x2_4)).trans x2_4; have x3_4 := (blk_cell hbox 4).trans (show _ = some (.slice B4 b4.length d4) from rfl); clear hb hg) | ((with_reducible refine gate_dst (N := 29) rfl ?_); refine goesL_ (some 29) rfl rfl Try.func63 (by kernel_rfl) rfl #[.slice A4 a4.length c4, .slice B4 b4.length d4] rfl (by (try simp only [List.map_toArray, List.map_cons, List.map_nil]); first | done | rfl) ?_; (with_reducible refine (HSS.out a4 b4 HNN.out A4 c4 B4 d4 _ (Kd.C_below HR.out HB.out) HC.out (Kd.C_below HR2.out HB.out) HC2.out).mono ?_); rintro e w2 ⟨he, hb⟩; rw [EV.out] at he; subst he; refine ⟨_, rfl, ?_⟩; replace HB := Aside0.mk (below_step HB.out hb); clear hb))
          go_ret
          exact ⟨rfl, HB.out⟩
        | true =>
          have g3 : (a3.toList != b3.toList) = false := by simp only [bne, h3, Bool.not_true]
          have e0 := GE.out
          rw [h3, Bool.true_and] at e0
          clear GE
          have GE := Aside0.mk e0
          clear e0
          have HG := GE.out
          subst HG
          cases G with
          | true =>
            go_enter Try.func23, Try.ntmps23
            go_wp2_with (first | ((with_reducible refine gate_dst (N := 2) rfl ?_); refine box_event ?hg2 (N := 2) ?hd2 (cs := #[.int .i64 a0, .int .i64 a1, .int .i64 a2, .string a3, .slice A4 a4.length c4]) (t := 43) ?hr2 ?_; (case hd2 => rfl); (case hg2 => rfl); (case hr2 => first | (go_simp; done) | (go_simp; rfl)); intro g2 hg w2 hbox hb; replace HB := Aside0.mk (below_step HB.out hb); have H2 := Aside0.mk hbox; clear hb hg) | ((with_reducible refine gate_dst (N := 3) rfl ?_); refine box_event ?hg3 (N := 3) ?hd3 (cs := #[.int .i64 b0, .int .i64 b1, .int .i64 b2, .string b3, .slice B4 b4.length d4]) (t := 43) ?hr3 ?_; (case hd3 => rfl); (case hg3 => rfl); (case hr3 => first | (go_simp; done) | (go_simp; rfl)); intro g3 hg w3 hbox hb; replace HB := Aside0.mk (below_step HB.out hb); have x2_0 := (blk_cell H2.out 0).trans (show _ = some (.int .i64 a0) from rfl); replace x2_0 := (hb.cell (World.block_lt_of_cell? _ _ x2_0)).trans x2_0; have x3_0 := (blk_cell hbox 0).trans (show _ = some (.int .i64 b0) from rfl); have x2_1 := (blk_cell H2.out 1).trans (show _ = some (.int .i64 a1) from rfl); replace x2_1 := (hb.cell (World.block_lt_of_cell? _ _ x2_1)).trans x2_1; have x3_1 := (blk_cell hbox 1).trans (show _ = some (.int .i64 b1) from rfl); have x2_2 := (blk_cell H2.out 2).trans (show _ = some (.int .i64 a2) from rfl); replace x2_2 := (hb.cell (World.block_lt_of_cell? _ _ x2_2)).trans x2_2; have x3_2 := (blk_cell hbox 2).trans (show _ = some (.int .i64 b2) from rfl); have x2_3 := (blk_cell H2.out 3).trans (show _ = some (.string a3) from rfl); replace x2_3 := (hb.cell (World.block_lt_of_cell? _ _ x2_3)).trans x2_3; have x3_3 := (blk_cell hbox 3).trans (show _ = some (.string b3) from rfl); have x2_4 := (blk_cell H2.out 4).trans (show _ = some (.slice A4 a4.length c4) from rfl); replace x2_4 := (hb.cell (World.block_lt_of_cell? _ _ x2_4)).trans x2_4; have x3_4 := (blk_cell hbox 4).trans (show _ = some (.slice B4 b4.length d4) from rfl); clear hb hg) | ((with_reducible refine gate_dst (N := 29) rfl ?_); refine goesL_ (some 29) rfl rfl Try.func63 (by kernel_rfl) rfl #[.slice A4 a4.length c4, .slice B4 b4.length d4] rfl (by (try simp only [List.map_toArray, List.map_cons, List.map_nil]); first | done | rfl) ?_; (with_reducible refine (HSS.out a4 b4 HNN.out A4 c4 B4 d4 _ (Kd.C_below HR.out HB.out) HC.out (Kd.C_below HR2.out HB.out) HC2.out).mono ?_); rintro e w2 ⟨he, hb⟩; rw [EV.out] at he; subst he; refine ⟨_, rfl, ?_⟩; replace HB := Aside0.mk (below_step HB.out hb); clear hb))
            go_ret
            exact ⟨rfl, HB.out⟩
          | false =>
            go_enter Try.func23, Try.ntmps23
            go_wp2_with (first | ((with_reducible refine gate_dst (N := 2) rfl ?_); refine box_event ?hg2 (N := 2) ?hd2 (cs := #[.int .i64 a0, .int .i64 a1, .int .i64 a2, .string a3, .slice A4 a4.length c4]) (t := 43) ?hr2 ?_; (case hd2 => rfl); (case hg2 => rfl); (case hr2 => first | (go_simp; done) | (go_simp; rfl)); intro g2 hg w2 hbox hb; replace HB := Aside0.mk (below_step HB.out hb); have H2 := Aside0.mk hbox; clear hb hg) | ((with_reducible refine gate_dst (N := 3) rfl ?_); refine box_event ?hg3 (N := 3) ?hd3 (cs := #[.int .i64 b0, .int .i64 b1, .int .i64 b2, .string b3, .slice B4 b4.length d4]) (t := 43) ?hr3 ?_; (case hd3 => rfl); (case hg3 => rfl); (case hr3 => first | (go_simp; done) | (go_simp; rfl)); intro g3 hg w3 hbox hb; replace HB := Aside0.mk (below_step HB.out hb); have x2_0 := (blk_cell H2.out 0).trans (show _ = some (.int .i64 a0) from rfl); replace x2_0 := (hb.cell (World.block_lt_of_cell? _ _ x2_0)).trans x2_0; have x3_0 := (blk_cell hbox 0).trans (show _ = some (.int .i64 b0) from rfl); have x2_1 := (blk_cell H2.out 1).trans (show _ = some (.int .i64 a1) from rfl); replace x2_1 := (hb.cell (World.block_lt_of_cell? _ _ x2_1)).trans x2_1; have x3_1 := (blk_cell hbox 1).trans (show _ = some (.int .i64 b1) from rfl); have x2_2 := (blk_cell H2.out 2).trans (show _ = some (.int .i64 a2) from rfl); replace x2_2 := (hb.cell (World.block_lt_of_cell? _ _ x2_2)).trans x2_2; have x3_2 := (blk_cell hbox 2).trans (show _ = some (.int .i64 b2) from rfl); have x2_3 := (blk_cell H2.out 3).trans (show _ = some (.string a3) from rfl); replace x2_3 := (hb.cell (World.block_lt_of_cell? _ _ x2_3)).trans x2_3; have x3_3 := (blk_cell hbox 3).trans (show _ = some (.string b3) from rfl); have x2_4 := (blk_cell H2.out 4).trans (show _ = some (.slice A4 a4.length c4) from rfl); replace x2_4 := (hb.cell (World.block_lt_of_cell? _ _ x2_4)).trans x2_4; have x3_4 := (blk_cell hbox 4).trans (show _ = some (.slice B4 b4.length d4) from rfl); clear hb hg) | ((with_reducible refine gate_dst (N := 29) rfl ?_); refine goesL_ (some 29) rfl rfl Try.func63 (by kernel_rfl) rfl #[.slice A4 a4.length c4, .slice B4 b4.length d4] rfl (by (try simp only [List.map_toArray, List.map_cons, List.map_nil]); first | done | rfl) ?_; (with_reducible refine (HSS.out a4 b4 HNN.out A4 c4 B4 d4 _ (Kd.C_below HR.out HB.out) HC.out (Kd.C_below HR2.out HB.out) HC2.out).mono ?_); rintro e w2 ⟨he, hb⟩; rw [EV.out] at he; subst he; refine ⟨_, rfl, ?_⟩; replace HB := Aside0.mk (below_step HB.out hb); clear hb))
            go_ret
            exact ⟨rfl, HB.out⟩
theorem laws_eqRx.any : ∀ n : Nat, (∀ l m : List S43, SizeOf.sizeOf l ≤ n → ∀ (A0 : Option Addr) (c0 : Nat) (B0 : Option Addr) (d0 : Nat) (w : World), k43.C w A0 l.length l → l.length ≤ c0 → k43.C w B0 m.length m → m.length ≤ d0 → Calls Try.prog 63 #[.slice A0 l.length c0, .slice B0 m.length d0] w fun e w' => e = .returned (.bool (laws_eqRxS.g l m)) ∧ Below w.heap.size w w') ∧ (∀ x y : S43, SizeOf.sizeOf x ≤ n → ∀ (A4 : Option Addr) (c4 : Nat) (B4 : Option Addr) (d4 : Nat) (w : World), k43.C w A4 x.f4.length x.f4 → x.f4.length ≤ c4 → k43.C w B4 y.f4.length y.f4 → y.f4.length ≤ d4 → Calls Try.prog 23 #[.agg #[.int .i64 x.f0, .int .i64 x.f1, .int .i64 x.f2, .string x.f3, .slice A4 x.f4.length c4], .agg #[.int .i64 y.f0, .int .i64 y.f1, .int .i64 y.f2, .string y.f3, .slice B4 y.f4.length d4]] w fun e w' => e = .returned (.bool (laws_eqRx.g x y)) ∧ Below w.heap.size w w')
  | 0 => ⟨fun l m h => by cases l <;> simp at h, fun x y h => by cases x; simp at h⟩
  | n + 1 => by
    obtain ⟨i1, i2⟩ := laws_eqRx.any n
    refine ⟨fun l m h A0 c0 B0 d0 w hr hc hr2 hc2 => laws_eqRxS.step n i2 l m h A0 c0 B0 d0 w hr hc hr2 hc2, fun x y h A4 c4 B4 d4 w hr hc hr2 hc2 => ?_⟩
    obtain ⟨a0, a1, a2, a3, a4⟩ := x
    obtain ⟨b0, b1, b2, b3, b4⟩ := y
    exact laws_eqRx.step n i1 a0 a1 a2 a3 a4 b0 b1 b2 b3 b4 (by simp at h; omega) A4 c4 B4 d4 w hr hc hr2 hc2
def laws_eqRxS.f (l0 : List (S43)) (l1 : List (S43)) : Option (Bool) := some (laws_eqRxS.g l0 l1)
theorem laws_eqRxS.calls (A0 : Option Addr) (c0 : Nat) (l0 : List (S43)) (A1 : Option Addr) (c1 : Nat) (l1 : List (S43)) (r : Bool) (w : World) (hr0 : Kd.C k43 w A0 l0.length l0) (hc0 : l0.length ≤ c0) (hr1 : Kd.C k43 w A1 l1.length l1) (hc1 : l1.length ≤ c1) (h : laws_eqRxS.f l0 l1 = some r) :
    Calls Try.prog 63 #[.slice A0 l0.length c0, .slice A1 l1.length c1] w fun e w' => e = .returned (.bool r) ∧ Below w.heap.size w w' := by
  obtain rfl := Option.some.inj h
  exact (laws_eqRx.any _).1 l0 l1 (Nat.le_refl _) A0 c0 A1 c1 w hr0 hc0 hr1 hc1
def laws_eqRx.f (a0_0 : Int) (a0_1 : Int) (a0_2 : Int) (a0_3 : ByteArray) (l0_4 : List (S43)) (a1_0 : Int) (a1_1 : Int) (a1_2 : Int) (a1_3 : ByteArray) (l1_4 : List (S43)) : Option (Bool) := some (laws_eqRx.g ⟨a0_0, a0_1, a0_2, a0_3, l0_4⟩ ⟨a1_0, a1_1, a1_2, a1_3, l1_4⟩)
theorem laws_eqRx.calls (a0_0 : Int) (a0_1 : Int) (a0_2 : Int) (a0_3 : ByteArray) (A0_4 : Option Addr) (c0_4 : Nat) (l0_4 : List (S43)) (a1_0 : Int) (a1_1 : Int) (a1_2 : Int) (a1_3 : ByteArray) (A1_4 : Option Addr) (c1_4 : Nat) (l1_4 : List (S43)) (r : Bool) (w : World) (hr0_4 : Kd.C k43 w A0_4 l0_4.length l0_4) (hc0_4 : l0_4.length ≤ c0_4) (hr1_4 : Kd.C k43 w A1_4 l1_4.length l1_4) (hc1_4 : l1_4.length ≤ c1_4) (h : laws_eqRx.f a0_0 a0_1 a0_2 a0_3 l0_4 a1_0 a1_1 a1_2 a1_3 l1_4 = some r) :
    Calls Try.prog 23 #[.agg #[.int .i64 a0_0, .int .i64 a0_1, .int .i64 a0_2, .string a0_3, .slice A0_4 l0_4.length c0_4], .agg #[.int .i64 a1_0, .int .i64 a1_1, .int .i64 a1_2, .string a1_3, .slice A1_4 l1_4.length c1_4]] w fun e w' => e = .returned (.bool r) ∧ Below w.heap.size w w' := by
  obtain rfl := Option.some.inj h
  exact (laws_eqRx.any _).2 ⟨a0_0, a0_1, a0_2, a0_3, l0_4⟩ ⟨a1_0, a1_1, a1_2, a1_3, l1_4⟩ (Nat.le_refl _) A0_4 c0_4 A1_4 c1_4 w hr0_4 hc0_4 hr1_4 hc1_4

/-! ### laws_eqRx: with laws_eqRxS -/

/-! ### spec_l05Left: function 58 -/
mutual
def spec_l05Left.l0 : Nat → Int → Int → Int → Int → Int → ByteArray → List (S43) → Option (Int)
  | 0, _, _, _, _, _, _, _ => none
  | k + 1, x1, x5, x102000, x102001, x102002, x102003, x102004 => if x5 < (x102004.length : Int) then (if x1 ≥ 0 then (if 0 ≤ x5 then ((spec_l05Left.f k ((rd_T43 x102004 x5).f0) ((rd_T43 x102004 x5).f1) ((rd_T43 x102004 x5).f2) ((rd_T43 x102004 x5).f3) ((rd_T43 x102004 x5).f4) x1).bind fun t103 => (spec_l05Left.l0 k t103 (wrap64 (x5 + 1)) x102000 x102001 x102002 x102003 x102004)) else (none)) else (some x1)) else (some x1)
def spec_l05Left.f : Nat → Int → Int → Int → ByteArray → List (S43) → Int → Option (Int)
  | 0, _, _, _, _, _, _ => none
  | k + 1, a0_0, a0_1, a0_2, a0_3, l0_4, a1 => spec_l05Left.l0 k (wrap64 (a1 - 1)) 0 a0_0 a0_1 a0_2 a0_3 l0_4
end
theorem spec_l05Left.mono_l : ∀ k, (∀ y0 y1 y2 y3 y4 y5, LeO (spec_l05Left.f k y0 y1 y2 y3 y4 y5) (spec_l05Left.f (k + 1) y0 y1 y2 y3 y4 y5)) ∧ (∀ y0 y1 y2 y3 y4 y5 y6, LeO (spec_l05Left.l0 k y0 y1 y2 y3 y4 y5 y6) (spec_l05Left.l0 (k + 1) y0 y1 y2 y3 y4 y5 y6))
  | 0 => ⟨fun _ _ _ _ _ _ r h => by simp [spec_l05Left.f] at h, fun _ _ _ _ _ _ _ r h => by simp [spec_l05Left.l0] at h⟩
  | k + 1 => by
    obtain ⟨ih0, ih1⟩ := spec_l05Left.mono_l k
    refine ⟨?_, ?_⟩
    · intro y0 y1 y2 y3 y4 y5
      unfold spec_l05Left.f
      repeat' first
      | (with_reducible exact ih0 _ _ _ _ _ _)
      | (with_reducible exact ih1 _ _ _ _ _ _ _)
      | (with_reducible exact LeO.refl _)
      | (with_reducible exact LeO.none _)
      | (with_reducible refine LeO.ite ?_ ?_)
      | (with_reducible refine LeO.bind ?_ (fun _ => ?_))
      | exact ih0 _ _ _ _ _ _
      | exact ih1 _ _ _ _ _ _ _
      | exact LeO.none _
      | refine LeO.ite ?_ ?_
      | refine LeO.bind ?_ (fun _ => ?_)
    · intro y0 y1 y2 y3 y4 y5 y6
      unfold spec_l05Left.l0
      repeat' first
      | (with_reducible exact ih0 _ _ _ _ _ _)
      | (with_reducible exact ih1 _ _ _ _ _ _ _)
      | (with_reducible exact LeO.refl _)
      | (with_reducible exact LeO.none _)
      | (with_reducible refine LeO.ite ?_ ?_)
      | (with_reducible refine LeO.bind ?_ (fun _ => ?_))
      | exact ih0 _ _ _ _ _ _
      | exact ih1 _ _ _ _ _ _ _
      | exact LeO.none _
      | refine LeO.ite ?_ ?_
      | refine LeO.bind ?_ (fun _ => ?_)
theorem spec_l05Left.mono : ∀ a0 a1 a2 a3 a4 a5 k, LeO (spec_l05Left.f k a0 a1 a2 a3 a4 a5) (spec_l05Left.f (k + 1) a0 a1 a2 a3 a4 a5) := by
  intro a0 a1 a2 a3 a4 a5 k
  obtain ⟨ih0, ih1⟩ := spec_l05Left.mono_l k
  exact ih0 a0 a1 a2 a3 a4 a5
set_option maxHeartbeats 8000000 in
set_option maxRecDepth 100000 in
theorem spec_l05Left.calls (k : Nat) : ∀ (a0_0 : Int) (a0_1 : Int) (a0_2 : Int) (a0_3 : ByteArray) (A0_4 : Option Addr) (c0_4 : Nat) (l0_4 : List (S43)) (a1 : Int) (r : Int) (w : World) (hr0_4 : Kd.C k43 w A0_4 l0_4.length l0_4) (hc0_4 : l0_4.length ≤ c0_4) (h : spec_l05Left.f k a0_0 a0_1 a0_2 a0_3 l0_4 a1 = some r),
    Calls Try.prog 58 #[.agg #[.int .i64 a0_0, .int .i64 a0_1, .int .i64 a0_2, .string a0_3, .slice A0_4 l0_4.length c0_4], .int .i64 a1] w fun e w' => e = .returned (.int .i64 r) ∧ Below w.heap.size w w' := by
  induction k using Nat.strongRecOn with
  | _ k ih =>
  intro a0_0 a0_1 a0_2 a0_3 A0_4 c0_4 l0_4 a1 r w hr0_4 hc0_4 h
  cases k with
  | zero => exact absurd h (by simp [spec_l05Left.f])
  | succ k =>
  simp only [spec_l05Left.f] at h
  have hu43 := Try.underlying43
  have HR0_4 := Aside0.mk hr0_4
  have HC0_4 := Aside0.mk hc0_4
  clear hr0_4 hc0_4
  have HB := Aside0.mk (Below.refl w.heap.size w)
  have H : (spec_l05Left.l0 k (wrap64 (a1 - 1)) 0 a0_0 a0_1 a0_2 a0_3 l0_4) = some r := h
  clear h
  have H' := Aside0.mk H
  clear H
  go_enter Try.func58, Try.ntmps58
  go_wp2_with (first | ((with_reducible refine gate_dst (N := 2) rfl ?_); refine box_event ?hg (N := 2) ?hd (cs := #[.int .i64 a0_0, .int .i64 a0_1, .int .i64 a0_2, .string a0_3, .slice A0_4 l0_4.length c0_4]) (t := 43) ?hr ?_; (case hd => rfl); (case hg => rfl); (case hr => first | (go_simp; done) | (go_simp; rfl)); intro gb101 hg w3 hbox hb; have n0_ := Aside0.mk (below_step (by repeat (first | (with_reducible first | exact HB.out | apply below_alloc | apply pw_below_drewN | apply below_drew1) | exact HB.out)) hb); have n1_ := Aside0.mk (hbox); have n2_ := Aside0.mk ((by rw [hg]; exact (below_size (by repeat (first | (with_reducible first | exact HB.out | apply below_alloc | apply pw_below_drewN | apply below_drew1) | exact HB.out))) : w.heap.size ≤ gb101)); have n3_ := Aside0.mk ((by rw [hg]; exact (below_size (by repeat (first | (with_reducible first | exact HB.out | apply below_alloc | apply pw_below_drewN | apply below_drew1) | exact HB.out))) : w.heap.size ≤ gb101)); clear HB; have HB := n0_; have BK101 := n1_; have GW101 := n2_; have GE101 := n3_; clear n0_ n1_ n2_ n3_; clear hb hbox hg))
  go_loopg [1, 5] k (fun kq v1 v5 w' => ∃ (x1_1 : Int) (x5_1 : Int), v1 = .int .i64 x1_1 ∧ v5 = .int .i64 x5_1 ∧ Aside0 (spec_l05Left.l0 kq x1_1 x5_1 a0_0 a0_1 a0_2 a0_3 l0_4 = some r) ∧ Aside0 (kq ≤ k) ∧ Aside0 (w'.heap[gb101]? = some (.cells #[.int .i64 a0_0, .int .i64 a0_1, .int .i64 a0_2, .string a0_3, (.slice A0_4 l0_4.length c0_4)] 43 (0, 0))) ∧ Aside0 (Below w.heap.size w w'))
  case atStart => exact ⟨(wrap64 (a1 - 1)), (0), (by first | rfl | (simp; done) | (simp [*]; done)), (by first | rfl | (simp; done) | (simp [*]; done)), H', ⟨Nat.le_refl _⟩, ⟨by (with_reducible repeat (first | refine blk_drewN ?_ _ | refine blk_drew ?_ | refine blk_alloc ?_ _)); exact BK101.out⟩, ⟨by repeat (first | (with_reducible first | exact HB.out | apply below_alloc | apply pw_below_drewN | apply below_drew1 | refine below_set ?_ GE101.out) | exact HB.out)⟩⟩
  case round =>
    clear H'
    try clear p2
    obtain ⟨x1_1, x5_1, rfl, rfl, HA, HK1, BK101, HB⟩ := hrel
    cases gk with
    | zero => exact absurd HA.out (by simp [spec_l05Left.l0])
    | succ k1 =>
      have H := HA.out
      clear HA
      simp only [spec_l05Left.l0] at H
      by_cases c4 : x5_1 < (l0_4.length : Int)
      · rw [if_pos c4] at H
        have c4b0 : decide (x5_1 < (l0_4.length : Int)) = true := decide_eq_true c4
        clear c4
        by_cases c5 : x1_1 ≥ 0
        · rw [if_pos c5] at H
          have c5b0 : decide (0 ≤ x1_1) = true := decide_eq_true c5
          clear c5
          by_cases c6 : 0 ≤ x5_1
          · rw [if_pos c6] at H
            have c6b0 : decide (0 ≤ x5_1) = true := decide_eq_true c6
            clear c6
            replace H := Option.bind_eq_some_iff.mp H
            obtain ⟨t103, A70, H⟩ := H
            replace H : (spec_l05Left.l0 k1 t103 (wrap64 (x5_1 + 1)) a0_0 a0_1 a0_2 a0_3 l0_4) = some r := H
            have A7 := Aside0.mk A70
            clear A70
            as_aux_lemma =>
              have H' := Aside0.mk H
              clear H
              have hcz8_0 : wr.cell? ⟨gb101, 0, none⟩ = some (.int .i64 a0_0) := (blk_cell BK101.out 0).trans rfl
              have hcz8_1 : wr.cell? ⟨gb101, 1, none⟩ = some (.int .i64 a0_1) := (blk_cell BK101.out 1).trans rfl
              have hcz8_2 : wr.cell? ⟨gb101, 2, none⟩ = some (.int .i64 a0_2) := (blk_cell BK101.out 2).trans rfl
              have hcz8_3 : wr.cell? ⟨gb101, 3, none⟩ = some (.string a0_3) := (blk_cell BK101.out 3).trans rfl
              have hcz8_4 : wr.cell? ⟨gb101, 4, none⟩ = some (.slice A0_4 l0_4.length c0_4) := (blk_cell BK101.out 4).trans rfl
              have hfz8_0 := blk_frozen BK101.out 0
              have hfz8_1 := blk_frozen BK101.out 1
              have hfz8_2 := blk_frozen BK101.out 2
              have hfz8_3 := blk_frozen BK101.out 3
              have hfz8_4 := blk_frozen BK101.out 4
              have p102 : 0 ≤ (x5_1 : Int) := of_decide_eq_true (by first | (with_reducible assumption) | assumption)
              have q102 : x5_1 < (l0_4.length : Int) := of_decide_eq_true (by first | (with_reducible assumption) | assumption)
              obtain ⟨ad102, A102_4, c102_4, e102, hx102_0, hx102_1, hx102_2, hx102_3, hx102_4, hl102_4, hi102_4⟩ := at_T43 HR0_4.out x5_1 p102 q102
              cases e102
              replace hx102_0 := (HB.out.cell (World.block_lt_of_cell? w _ hx102_0)).trans hx102_0
              replace hx102_1 := (HB.out.cell (World.block_lt_of_cell? w _ hx102_1)).trans hx102_1
              replace hx102_2 := (HB.out.cell (World.block_lt_of_cell? w _ hx102_2)).trans hx102_2
              replace hx102_3 := (HB.out.cell (World.block_lt_of_cell? w _ hx102_3)).trans hx102_3
              replace hx102_4 := (HB.out.cell (World.block_lt_of_cell? w _ hx102_4)).trans hx102_4
              have HR102_4 := Aside0.mk hi102_4
              have HC102_4 := Aside0.mk hl102_4
              clear hi102_4 hl102_4
              replace p102 := eq_true p102
              replace q102 := eq_true q102
              go_wp2_with (first | ((with_reducible refine gate_callee (f := 58) rfl ?_); refine goesL_ (some 25) rfl rfl Try.func58 (by kernel_rfl) rfl #[.agg #[.int .i64 ((rd_T43 l0_4 x5_1).f0), .int .i64 ((rd_T43 l0_4 x5_1).f1), .int .i64 ((rd_T43 l0_4 x5_1).f2), .string ((rd_T43 l0_4 x5_1).f3), .slice A102_4 ((rd_T43 l0_4 x5_1).f4).length c102_4], .int .i64 x1_1] rfl (by (try simp only [List.map_toArray, List.map_cons, List.map_nil]); first | done | rfl | (simp only [List.length_drop, List.length_take]; rfl)) ?_; (with_reducible refine (ih k1 (by have := HK1.out; omega) ((rd_T43 l0_4 x5_1).f0) ((rd_T43 l0_4 x5_1).f1) ((rd_T43 l0_4 x5_1).f2) ((rd_T43 l0_4 x5_1).f3) _ _ ((rd_T43 l0_4 x5_1).f4) x1_1 t103 _ ?side1 ?side2 A7.out).mono ?_); (case side1 => repeat (first | exact (Kd.C_below HR102_4.out HB.out) | (with_reducible refine Kd.C_alloc ?_ _) | (with_reducible refine Kd.C_drewN ?_ _) | (with_reducible refine Kd.C_drew ?_))); (case side2 => exact HC102_4.out); rintro e w9 ⟨rfl, hb⟩; refine ⟨_, rfl, ?_⟩; have n0_ := Aside0.mk (blk_below (g := gb101) (o := .cells #[.int .i64 a0_0, .int .i64 a0_1, .int .i64 a0_2, .string a0_3, .slice (some ad102) l0_4.length c0_4] 43 (0, 0)) (by (with_reducible repeat (first | refine blk_drewN ?_ _ | refine blk_drew ?_ | refine blk_alloc ?_ _)); exact BK101.out) hb); have n1_ := Aside0.mk (below_step (by repeat (first | (with_reducible first | exact HB.out | apply below_alloc | apply pw_below_drewN | apply below_drew1 | refine below_set ?_ GE101.out) | exact HB.out)) hb); clear BK101; clear HB; have BK101 := n0_; have HB := n1_; clear n0_ n1_; (try clear hb); (try clear hb2); (try clear hk); (try clear hi)))
              go_roundg k1
              case measure => have := HK1.out; omega
              case rel => exact ⟨(t103), (wrap64 (x5_1 + 1)), (by first | rfl | (simp; done) | (simp [*]; done)), (by first | rfl | (simp; done) | (simp [*]; done)), H', ⟨by have := HK1.out; omega⟩, ⟨by (with_reducible repeat (first | refine blk_drewN ?_ _ | refine blk_drew ?_ | refine blk_alloc ?_ _)); exact BK101.out⟩, ⟨by repeat (first | (with_reducible first | exact HB.out | apply below_alloc | apply pw_below_drewN | apply below_drew1 | refine below_set ?_ GE101.out) | exact HB.out)⟩⟩
          · rw [if_neg c6] at H
            exact absurd H (by simp)
        · rw [if_neg c5] at H
          have c5b0 : decide (0 ≤ x1_1) = false := decide_eq_false c5
          clear c5
          as_aux_lemma =>
            obtain rfl := Option.some.inj H
            have hcz10_0 : wr.cell? ⟨gb101, 0, none⟩ = some (.int .i64 a0_0) := (blk_cell BK101.out 0).trans rfl
            have hcz10_1 : wr.cell? ⟨gb101, 1, none⟩ = some (.int .i64 a0_1) := (blk_cell BK101.out 1).trans rfl
            have hcz10_2 : wr.cell? ⟨gb101, 2, none⟩ = some (.int .i64 a0_2) := (blk_cell BK101.out 2).trans rfl
            have hcz10_3 : wr.cell? ⟨gb101, 3, none⟩ = some (.string a0_3) := (blk_cell BK101.out 3).trans rfl
            have hcz10_4 : wr.cell? ⟨gb101, 4, none⟩ = some (.slice A0_4 l0_4.length c0_4) := (blk_cell BK101.out 4).trans rfl
            have hfz10_0 := blk_frozen BK101.out 0
            have hfz10_1 := blk_frozen BK101.out 1
            have hfz10_2 := blk_frozen BK101.out 2
            have hfz10_3 := blk_frozen BK101.out 3
            have hfz10_4 := blk_frozen BK101.out 4
            go_wp2
            go_ret
            exact ⟨by first | rfl | (simp [errW_none, errW_some] <;> rfl) | (simp [*, errW_none, errW_some] <;> rfl), by repeat (first | (with_reducible first | exact HB.out | apply below_alloc | apply pw_below_drewN | apply below_drew1 | refine below_set ?_ GE101.out) | exact HB.out)⟩
      · rw [if_neg c4] at H
        have c4b0 : decide (x5_1 < (l0_4.length : Int)) = false := decide_eq_false c4
        clear c4
        as_aux_lemma =>
          obtain rfl := Option.some.inj H
          have hcz11_0 : wr.cell? ⟨gb101, 0, none⟩ = some (.int .i64 a0_0) := (blk_cell BK101.out 0).trans rfl
          have hcz11_1 : wr.cell? ⟨gb101, 1, none⟩ = some (.int .i64 a0_1) := (blk_cell BK101.out 1).trans rfl
          have hcz11_2 : wr.cell? ⟨gb101, 2, none⟩ = some (.int .i64 a0_2) := (blk_cell BK101.out 2).trans rfl
          have hcz11_3 : wr.cell? ⟨gb101, 3, none⟩ = some (.string a0_3) := (blk_cell BK101.out 3).trans rfl
          have hcz11_4 : wr.cell? ⟨gb101, 4, none⟩ = some (.slice A0_4 l0_4.length c0_4) := (blk_cell BK101.out 4).trans rfl
          have hfz11_0 := blk_frozen BK101.out 0
          have hfz11_1 := blk_frozen BK101.out 1
          have hfz11_2 := blk_frozen BK101.out 2
          have hfz11_3 := blk_frozen BK101.out 3
          have hfz11_4 := blk_frozen BK101.out 4
          go_wp2
          go_ret
          exact ⟨by first | rfl | (simp [errW_none, errW_some] <;> rfl) | (simp [*, errW_none, errW_some] <;> rfl), by repeat (first | (with_reducible first | exact HB.out | apply below_alloc | apply pw_below_drewN | apply below_drew1 | refine below_set ?_ GE101.out) | exact HB.out)⟩

end Go.Proofs.Ytfclobfoghbblaa.PFnExactGroups
