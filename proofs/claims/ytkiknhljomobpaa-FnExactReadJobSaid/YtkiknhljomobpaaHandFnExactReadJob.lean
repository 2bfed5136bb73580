/- Functions of FnExactReadJob walked by hand, no conditions. -/
import Derived.Test.YtkiknhljomobpaaPFnExactReadJobx0
import Derived.Test.YtkiknhljomobpaaPFnExactReadJobx1
import Derived.Test.YtkiknhljomobpaaPFnExactReadJobx2
import Derived.Test.YtkiknhljomobpaaHw
import Derived.Deep.RegionHeld3
import Derived.Deep.Cut
namespace Go.Proofs.Ytkiknhljomobpaa.PFnExactReadJob
open Go.RowKit Go.Proofs.Ytkiknhljomobpaa.Lawful Go.Proofs.YtkiknhljomobpaaW.PrintWords Go.Proofs.YtkiknhljomobpaaW.PrintLast Go.Proofs.YtkiknhljomobpaaW.PrintMore
attribute [local go_sem] max2_int min2_int max_two min_two max_three min_three max_four min_four   -- for this text's walks alone
set_option linter.unusedVariables false
set_option linter.unusedSimpArgs false
/-! ### impl_byteReader_number: function 103, by hand -/
def impl_byteReader_number.f (k : Nat) (l : List Int) (bad : Bool) : Option (Int × List Int × Bool) := (impl_readNumber.f k l).bind fun t => (if bad = true then some (0, l, true) else if t.2 ≤ 0 then some (0, l, true) else if t.2 ≤ (l.length : Int) then some (t.1, l.drop t.2.toNat, false) else none)
set_option maxHeartbeats 8000000 in
set_option maxRecDepth 100000 in
theorem impl_byteReader_number.own (k : Nat) (PG : Nat → Prop) (gG : Nat) (A0 : Option Addr) (c0 : Nat) (l : List Int) (bad : Bool) (r1 : Int) (r2 : List Int) (r3 : Bool) (w ws : World) (hB : Below w.heap.size w ws) (hge : w.heap.size ≤ gG) (hG : LB ws PG gG 109 #[.slice A0 l.length c0, .bool bad]) (hr : Kd.C (Kd.int .u8) w A0 l.length l) (hc : l.length ≤ c0) (h : impl_byteReader_number.f k l bad = some (r1, r2, r3)) :
    Calls Try.prog 103 #[.pointer (some ⟨gG, 0, none⟩)] ws fun e w' => ∃ (A' : Option Addr) (c' : Nat), e = .returned (.int .i64 r1) ∧ LB w' PG gG 109 #[.slice A' r2.length c', .bool r3] ∧ Kd.C (Kd.int .u8) w A' r2.length r2 ∧ r2.length ≤ c' ∧ Below w.heap.size w w' ∧ Kept ws w' PG := by
  have hu := Try.underlying109
  have HG := Aside0.mk hG
  have HR := Aside0.mk hr
  have HC := Aside0.mk hc
  have HB := Aside0.mk hB
  have GEG := Aside0.mk hge
  have HK := Aside0.mk (Kept.refl ws PG)
  have RRG := Aside0.mk (show ∀ k_, PG k_ → PG k_ ∨ ws.heap.size ≤ k_ from fun _ h_ => .inl h_)
  clear hG hr hc hB hge
  unfold impl_byteReader_number.f at h
  obtain ⟨⟨t1, t2⟩, e1, h⟩ := Option.bind_eq_some_iff.1 h
  have E1 := Aside0.mk e1
  clear e1
  simp only at h
  cases bad with
  | true =>
    rw [if_pos rfl] at h
    simp only [Option.some.injEq, Prod.mk.injEq] at h
    obtain ⟨rfl, rfl, rfl⟩ := h
    (try clear hxG_0 hfG_0 hxG_1 hfG_1)
    have hxG_0 := (HG.out.cell 0).trans (show _ = some (.slice A0 l.length c0) from rfl)
    have hfG_0 := HG.out.frozen 0
    have hxG_1 := (HG.out.cell 1).trans (show _ = some (.bool true) from rfl)
    have hfG_1 := HG.out.frozen 1
    go_enter Try.func103, Try.ntmps103
    go_wp2_with (first | ((with_reducible refine gate_callee (f := 109) rfl ?_); refine goesL_ (some 10) rfl rfl Try.func109 (by kernel_rfl) rfl #[.slice A0 l.length c0] rfl (by (try simp only [List.map_toArray, List.map_cons, List.map_nil]); first | done | rfl | (simp only [List.length_drop, List.length_take]; rfl)) ?_; (with_reducible refine (impl_readNumber.calls k _ _ l t1 t2 _ (Kd.C_below HR.out HB.out) HC.out E1.out).mono ?_); rintro e w2 ⟨rfl, hq⟩; refine ⟨_, rfl, ?_⟩; have hk := kept_drawn hq; replace HG := Aside0.mk (HG.out.step hk no_S); replace HK := Aside0.mk (HK.out.then_ hk (fun _ h_ => h_.elim)); replace HB := Aside0.mk (below_drawn HB.out hq); clear hk hq; (try clear hxG_0 hfG_0 hxG_1 hfG_1); have hxG_0 := (HG.out.cell 0).trans (show _ = some (.slice A0 l.length c0) from rfl); have hfG_0 := HG.out.frozen 0; have hxG_1 := (HG.out.cell 1).trans (show _ = some (.bool true) from rfl); have hfG_1 := HG.out.frozen 1) | ((with_reducible refine gate_store (t := 4) (p := 23) rfl ?_); refine LB.stored HG.out HB.out GEG.out 1 [.bool true] rfl (t := 4) (p := 23) rfl rfl ?hr_1 ?_; (case hr_1 => first | (go_simp; done) | (go_simp; simp only [World.setCells, Nat.reduceAdd, Nat.zero_add]; done)); intro w2 hx hk hb; replace HK := Aside0.mk (HK.out.then_ hk RRG.out); replace HB := Aside0.mk hb; replace HG := Aside0.mk (show LB w2 PG gG 109 #[.slice A0 l.length c0, .bool true] from hx); clear hk hx hb; (try clear hxG_0 hfG_0 hxG_1 hfG_1); have hxG_0 := (HG.out.cell 0).trans (show _ = some (.slice A0 l.length c0) from rfl); have hfG_0 := HG.out.frozen 0; have hxG_1 := (HG.out.cell 1).trans (show _ = some (.bool true) from rfl); have hfG_1 := HG.out.frozen 1))
    go_ret
    first | exact ⟨A0, c0, rfl, HG.out, HR.out, HC.out, HB.out, HK.out⟩ | exact ⟨rfl, A0, c0, HG.out, HR.out, HC.out, HB.out, HK.out⟩
  | false =>
    rw [if_neg (by simp)] at h
    by_cases c1 : t2 ≤ 0
    · rw [if_pos c1] at h
      have cb1 : decide (t2 ≤ 0) = true := decide_eq_true c1
      clear c1
      simp only [Option.some.injEq, Prod.mk.injEq] at h
      obtain ⟨rfl, rfl, rfl⟩ := h
      (try clear hxG_0 hfG_0 hxG_1 hfG_1)
      have hxG_0 := (HG.out.cell 0).trans (show _ = some (.slice A0 l.length c0) from rfl)
      have hfG_0 := HG.out.frozen 0
      have hxG_1 := (HG.out.cell 1).trans (show _ = some (.bool false) from rfl)
      have hfG_1 := HG.out.frozen 1
      go_enter Try.func103, Try.ntmps103
      go_wp2_with (first | ((with_reducible refine gate_callee (f := 109) rfl ?_); refine goesL_ (some 10) rfl rfl Try.func109 (by kernel_rfl) rfl #[.slice A0 l.length c0] rfl (by (try simp only [List.map_toArray, List.map_cons, List.map_nil]); first | done | rfl | (simp only [List.length_drop, List.length_take]; rfl)) ?_; (with_reducible refine (impl_readNumber.calls k _ _ l t1 t2 _ (Kd.C_below HR.out HB.out) HC.out E1.out).mono ?_); rintro e w2 ⟨rfl, hq⟩; refine ⟨_, rfl, ?_⟩; have hk := kept_drawn hq; replace HG := Aside0.mk (HG.out.step hk no_S); replace HK := Aside0.mk (HK.out.then_ hk (fun _ h_ => h_.elim)); replace HB := Aside0.mk (below_drawn HB.out hq); clear hk hq; (try clear hxG_0 hfG_0 hxG_1 hfG_1); have hxG_0 := (HG.out.cell 0).trans (show _ = some (.slice A0 l.length c0) from rfl); have hfG_0 := HG.out.frozen 0; have hxG_1 := (HG.out.cell 1).trans (show _ = some (.bool false) from rfl); have hfG_1 := HG.out.frozen 1) | ((with_reducible refine gate_store (t := 4) (p := 23) rfl ?_); refine LB.stored HG.out HB.out GEG.out 1 [.bool true] rfl (t := 4) (p := 23) rfl rfl ?hr_2 ?_; (case hr_2 => first | (go_simp; done) | (go_simp; simp only [World.setCells, Nat.reduceAdd, Nat.zero_add]; done)); intro w2 hx hk hb; replace HK := Aside0.mk (HK.out.then_ hk RRG.out); replace HB := Aside0.mk hb; replace HG := Aside0.mk (show LB w2 PG gG 109 #[.slice A0 l.length c0, .bool true] from hx); clear hk hx hb; (try clear hxG_0 hfG_0 hxG_1 hfG_1); have hxG_0 := (HG.out.cell 0).trans (show _ = some (.slice A0 l.length c0) from rfl); have hfG_0 := HG.out.frozen 0; have hxG_1 := (HG.out.cell 1).trans (show _ = some (.bool true) from rfl); have hfG_1 := HG.out.frozen 1))
      go_ret
      first | exact ⟨A0, c0, rfl, HG.out, HR.out, HC.out, HB.out, HK.out⟩ | exact ⟨rfl, A0, c0, HG.out, HR.out, HC.out, HB.out, HK.out⟩
    · rw [if_neg c1] at h
      have cb1 : decide (t2 ≤ 0) = false := decide_eq_false c1
      by_cases c2 : t2 ≤ (l.length : Int)
      · rw [if_pos c2] at h
        obtain ⟨y, hy⟩ : ∃ y_ : List Int, y_ = l.drop t2.toNat := ⟨_, rfl⟩
        rw [← hy] at h
        obtain ⟨i01, hi01, _, hsz1, _⟩ := info_parts info5
        obtain ⟨A5, c5, hlc5, hcut5, hC5⟩ := cut_drop (d := (Kd.int .u8)) (P := Try.prog) 22 5 .i64 Try.underlying22 hi01 hsz1 A0 c0 t2 y hy HC.out (by omega) c2
        have HC5 := Aside0.mk (hC5 w HR.out)
        have HL5 := Aside0.mk hlc5
        clear hlc5 hC5 hi01 hsz1 c1 c2 hy
        simp only [Option.some.injEq, Prod.mk.injEq] at h
        obtain ⟨rfl, rfl, rfl⟩ := h
        (try clear hxG_0 hfG_0 hxG_1 hfG_1)
        have hxG_0 := (HG.out.cell 0).trans (show _ = some (.slice A0 l.length c0) from rfl)
        have hfG_0 := HG.out.frozen 0
        have hxG_1 := (HG.out.cell 1).trans (show _ = some (.bool false) from rfl)
        have hfG_1 := HG.out.frozen 1
        go_enter Try.func103, Try.ntmps103
        go_wp2_with (first | ((with_reducible refine gate_callee (f := 109) rfl ?_); refine goesL_ (some 10) rfl rfl Try.func109 (by kernel_rfl) rfl #[.slice A0 l.length c0] rfl (by (try simp only [List.map_toArray, List.map_cons, List.map_nil]); first | done | rfl | (simp only [List.length_drop, List.length_take]; rfl)) ?_; (with_reducible refine (impl_readNumber.calls k _ _ l t1 t2 _ (Kd.C_below HR.out HB.out) HC.out E1.out).mono ?_); rintro e w2 ⟨rfl, hq⟩; refine ⟨_, rfl, ?_⟩; have hk := kept_drawn hq; replace HG := Aside0.mk (HG.out.step hk no_S); replace HK := Aside0.mk (HK.out.then_ hk (fun _ h_ => h_.elim)); replace HB := Aside0.mk (below_drawn HB.out hq); clear hk hq; (try clear hxG_0 hfG_0 hxG_1 hfG_1); have hxG_0 := (HG.out.cell 0).trans (show _ = some (.slice A0 l.length c0) from rfl); have hfG_0 := HG.out.frozen 0; have hxG_1 := (HG.out.cell 1).trans (show _ = some (.bool false) from rfl); have hfG_1 := HG.out.frozen 1) | ((with_reducible refine gate_store (t := 4) (p := 23) rfl ?_); refine LB.stored HG.out HB.out GEG.out 1 [.bool false] rfl (t := 4) (p := 23) rfl rfl ?hr_3 ?_; (case hr_3 => first | (go_simp; done) | (go_simp; simp only [World.setCells, Nat.reduceAdd, Nat.zero_add]; done)); intro w2 hx hk hb; replace HK := Aside0.mk (HK.out.then_ hk RRG.out); replace HB := Aside0.mk hb; replace HG := Aside0.mk (show LB w2 PG gG 109 #[.slice A0 l.length c0, .bool false] from hx); clear hk hx hb; (try clear hxG_0 hfG_0 hxG_1 hfG_1); have hxG_0 := (HG.out.cell 0).trans (show _ = some (.slice A0 l.length c0) from rfl); have hfG_0 := HG.out.frozen 0; have hxG_1 := (HG.out.cell 1).trans (show _ = some (.bool false) from rfl); have hfG_1 := HG.out.frozen 1) | ((with_reducible refine gate_store (t := 22) (p := 36) rfl ?_); refine LB.stored HG.out HB.out GEG.out 0 [.slice A5 y.length c5] rfl (t := 22) (p := 36) rfl rfl ?hr_4 ?_; (case hr_4 => first | (go_simp; done) | (go_simp; simp only [World.setCells, Nat.reduceAdd, Nat.zero_add]; done)); intro w2 hx hk hb; replace HK := Aside0.mk (HK.out.then_ hk RRG.out); replace HB := Aside0.mk hb; replace HG := Aside0.mk (show LB w2 PG gG 109 #[.slice A5 y.length c5, .bool false] from hx); clear hk hx hb; (try clear hxG_0 hfG_0 hxG_1 hfG_1); have hxG_0 := (HG.out.cell 0).trans (show _ = some (.slice A5 y.length c5) from rfl); have hfG_0 := HG.out.frozen 0; have hxG_1 := (HG.out.cell 1).trans (show _ = some (.bool false) from rfl); have hfG_1 := HG.out.frozen 1))
        go_ret
        exact ⟨A5, c5, rfl, HG.out, HC5.out, HL5.out, HB.out, HK.out⟩
      · rw [if_neg c2] at h
        exact absurd h (by simp)
/-! ### impl_byteReader_text: function 104, by hand -/
def impl_byteReader_text.f (k : Nat) (l : List Int) (bad : Bool) : Option (ByteArray × List Int × Bool) := (impl_byteReader_number.f k l bad).bind fun t => (if t.2.2 = true then some (ByteArray.empty, t.2.1, true) else if (t.2.1.length : Int) < t.1 then some (ByteArray.empty, t.2.1, true) else if 0 ≤ t.1 then some (strOfNums (t.2.1.take t.1.toNat), t.2.1.drop t.1.toNat, false) else none)
set_option maxHeartbeats 8000000 in
set_option maxRecDepth 100000 in
theorem impl_byteReader_text.own (k : Nat) (PG : Nat → Prop) (gG : Nat) (A0 : Option Addr) (c0 : Nat) (l : List Int) (bad : Bool) (r1 : ByteArray) (r2 : List Int) (r3 : Bool) (w ws : World) (hB : Below w.heap.size w ws) (hge : w.heap.size ≤ gG) (hG : LB ws PG gG 109 #[.slice A0 l.length c0, .bool bad]) (hr : Kd.C (Kd.int .u8) w A0 l.length l) (hc : l.length ≤ c0) (h : impl_byteReader_text.f k l bad = some (r1, r2, r3)) :
    Calls Try.prog 104 #[.pointer (some ⟨gG, 0, none⟩)] ws fun e w' => ∃ (A' : Option Addr) (c' : Nat), e = .returned (.string r1) ∧ LB w' PG gG 109 #[.slice A' r2.length c', .bool r3] ∧ Kd.C (Kd.int .u8) w A' r2.length r2 ∧ r2.length ≤ c' ∧ Below w.heap.size w w' ∧ Kept ws w' PG := by
  have hu := Try.underlying109
  have HG := Aside0.mk hG
  have HR := Aside0.mk hr
  have HC := Aside0.mk hc
  have HB := Aside0.mk hB
  have GEG := Aside0.mk hge
  have HK := Aside0.mk (Kept.refl ws PG)
  have RRG := Aside0.mk (show ∀ k_, PG k_ → PG k_ ∨ ws.heap.size ≤ k_ from fun _ h_ => .inl h_)
  clear hG hr hc hB hge
  unfold impl_byteReader_text.f at h
  obtain ⟨⟨t1, l1, b1⟩, e1, h⟩ := Option.bind_eq_some_iff.1 h
  have E1 := Aside0.mk e1
  clear e1
  simp only at h
  cases b1 with
  | true =>
    rw [if_pos rfl] at h
    simp only [Option.some.injEq, Prod.mk.injEq] at h
    obtain ⟨rfl, rfl, rfl⟩ := h
    go_enter Try.func104, Try.ntmps104
    go_wp2_with (first | ((with_reducible refine gate_callee (f := 103) rfl ?_); refine goesL_ (some 6) rfl rfl Try.func103 (by kernel_rfl) rfl #[.pointer (some ⟨gG, 0, none⟩)] rfl (by (try simp only [List.map_toArray, List.map_cons, List.map_nil]); first | done | rfl) ?_; (with_reducible refine (impl_byteReader_number.own k PG gG A0 c0 l bad t1 l1 true w _ HB.out GEG.out HG.out HR.out HC.out E1.out).mono ?_); rintro e w2 ⟨A1, c1, rfl, hG, hC, hl, hb, hk⟩; refine ⟨_, rfl, ?_⟩; replace HG := Aside0.mk hG; replace HR := Aside0.mk hC; replace HC := Aside0.mk hl; replace HB := Aside0.mk hb; replace HK := Aside0.mk (HK.out.then_ hk RRG.out); clear hG hC hl hb hk; (try clear hxG_0 hfG_0 hxG_1 hfG_1); have hxG_0 := (HG.out.cell 0).trans (show _ = some (.slice A1 l1.length c1) from rfl); have hfG_0 := HG.out.frozen 0; have hxG_1 := (HG.out.cell 1).trans (show _ = some (.bool true) from rfl); have hfG_1 := HG.out.frozen 1) | ((with_reducible refine gate_store (t := 4) (p := 22) rfl ?_); refine LB.stored HG.out HB.out GEG.out 1 [.bool true] rfl (t := 4) (p := 22) rfl rfl ?hr_1 ?_; (case hr_1 => first | (go_simp; done) | (go_simp; simp only [World.setCells, Nat.reduceAdd, Nat.zero_add]; done)); intro w2 hx hk hb; replace HK := Aside0.mk (HK.out.then_ hk RRG.out); replace HB := Aside0.mk hb; replace HG := Aside0.mk (show LB w2 PG gG 109 #[.slice A1 l1.length c1, .bool true] from hx); clear hk hx hb; (try clear hxG_0 hfG_0 hxG_1 hfG_1); have hxG_0 := (HG.out.cell 0).trans (show _ = some (.slice A1 l1.length c1) from rfl); have hfG_0 := HG.out.frozen 0; have hxG_1 := (HG.out.cell 1).trans (show _ = some (.bool true) from rfl); have hfG_1 := HG.out.frozen 1))
    go_ret
    first | exact ⟨_, _, rfl, HG.out, HR.out, HC.out, HB.out, HK.out⟩ | exact ⟨rfl, _, _, HG.out, HR.out, HC.out, HB.out, HK.out⟩
  | false =>
    rw [if_neg (by simp)] at h
    by_cases d1 : (l1.length : Int) < t1
    · rw [if_pos d1] at h
      have cb1 : decide ((l1.length : Int) < t1) = true := decide_eq_true d1
      clear d1
      simp only [Option.some.injEq, Prod.mk.injEq] at h
      obtain ⟨rfl, rfl, rfl⟩ := h
      go_enter Try.func104, Try.ntmps104
      go_wp2_with (first | ((with_reducible refine gate_callee (f := 103) rfl ?_); refine goesL_ (some 6) rfl rfl Try.func103 (by kernel_rfl) rfl #[.pointer (some ⟨gG, 0, none⟩)] rfl (by (try simp only [List.map_toArray, List.map_cons, List.map_nil]); first | done | rfl) ?_; (with_reducible refine (impl_byteReader_number.own k PG gG A0 c0 l bad t1 l1 false w _ HB.out GEG.out HG.out HR.out HC.out E1.out).mono ?_); rintro e w2 ⟨A1, c1, rfl, hG, hC, hl, hb, hk⟩; refine ⟨_, rfl, ?_⟩; replace HG := Aside0.mk hG; replace HR := Aside0.mk hC; replace HC := Aside0.mk hl; replace HB := Aside0.mk hb; replace HK := Aside0.mk (HK.out.then_ hk RRG.out); clear hG hC hl hb hk; (try clear hxG_0 hfG_0 hxG_1 hfG_1); have hxG_0 := (HG.out.cell 0).trans (show _ = some (.slice A1 l1.length c1) from rfl); have hfG_0 := HG.out.frozen 0; have hxG_1 := (HG.out.cell 1).trans (show _ = some (.bool false) from rfl); have hfG_1 := HG.out.frozen 1) | ((with_reducible refine gate_store (t := 4) (p := 22) rfl ?_); refine LB.stored HG.out HB.out GEG.out 1 [.bool true] rfl (t := 4) (p := 22) rfl rfl ?hr_2 ?_; (case hr_2 => first | (go_simp; done) | (go_simp; simp only [World.setCells, Nat.reduceAdd, Nat.zero_add]; done)); intro w2 hx hk hb; replace HK := Aside0.mk (HK.out.then_ hk RRG.out); replace HB := Aside0.mk hb; replace HG := Aside0.mk (show LB w2 PG gG 109 #[.slice A1 l1.length c1, .bool true] from hx); clear hk hx hb; (try clear hxG_0 hfG_0 hxG_1 hfG_1); have hxG_0 := (HG.out.cell 0).trans (show _ = some (.slice A1 l1.length c1) from rfl); have hfG_0 := HG.out.frozen 0; have hxG_1 := (HG.out.cell 1).trans (show _ = some (.bool true) from rfl); have hfG_1 := HG.out.frozen 1))
      go_ret
      first | exact ⟨_, _, rfl, HG.out, HR.out, HC.out, HB.out, HK.out⟩ | exact ⟨rfl, _, _, HG.out, HR.out, HC.out, HB.out, HK.out⟩
    · rw [if_neg d1] at h
      have cb1 : decide ((l1.length : Int) < t1) = false := decide_eq_false d1
      by_cases d2 : 0 ≤ t1
      · rw [if_pos d2] at h
        obtain ⟨y1, hy1⟩ : ∃ y_ : List Int, y_ = l1.take t1.toNat := ⟨_, rfl⟩
        obtain ⟨y2, hy2⟩ : ∃ y_ : List Int, y_ = l1.drop t1.toNat := ⟨_, rfl⟩
        rw [← hy1, ← hy2] at h
        have Ny1 := Aside0.mk hy1
        have Ny2 := Aside0.mk hy2
        have D1 := Aside0.mk (show t1 ≤ (l1.length : Int) by omega)
        have D2 := Aside0.mk d2
        clear hy1 hy2 d1 d2
        simp only [Option.some.injEq, Prod.mk.injEq] at h
        obtain ⟨rfl, rfl, rfl⟩ := h
        go_enter Try.func104, Try.ntmps104
        go_wp2_with (first | ((with_reducible refine gate_callee (f := 103) rfl ?_); refine goesL_ (some 6) rfl rfl Try.func103 (by kernel_rfl) rfl #[.pointer (some ⟨gG, 0, none⟩)] rfl (by (try simp only [List.map_toArray, List.map_cons, List.map_nil]); first | done | rfl) ?_; (with_reducible refine (impl_byteReader_number.own k PG gG A0 c0 l bad t1 l1 false w _ HB.out GEG.out HG.out HR.out HC.out E1.out).mono ?_); rintro e w2 ⟨A1, c1, rfl, hG, hC, hl, hb, hk⟩; refine ⟨_, rfl, ?_⟩; replace HG := Aside0.mk hG; replace HR := Aside0.mk hC; replace HC := Aside0.mk hl; replace HB := Aside0.mk hb; replace HK := Aside0.mk (HK.out.then_ hk RRG.out); clear hG hC hl hb hk; (try clear hxG_0 hfG_0 hxG_1 hfG_1); have hxG_0 := (HG.out.cell 0).trans (show _ = some (.slice A1 l1.length c1) from rfl); have hfG_0 := HG.out.frozen 0; have hxG_1 := (HG.out.cell 1).trans (show _ = some (.bool false) from rfl); have hfG_1 := HG.out.frozen 1) | ((with_reducible refine gate_store (t := 4) (p := 22) rfl ?_); refine LB.stored HG.out HB.out GEG.out 1 [.bool false] rfl (t := 4) (p := 22) rfl rfl ?hr_3 ?_; (case hr_3 => first | (go_simp; done) | (go_simp; simp only [World.setCells, Nat.reduceAdd, Nat.zero_add]; done)); intro w2 hx hk hb; replace HK := Aside0.mk (HK.out.then_ hk RRG.out); replace HB := Aside0.mk hb; replace HG := Aside0.mk (show LB w2 PG gG 109 #[.slice A1 l1.length c1, .bool false] from hx); clear hk hx hb; (try clear hxG_0 hfG_0 hxG_1 hfG_1); have hxG_0 := (HG.out.cell 0).trans (show _ = some (.slice A1 l1.length c1) from rfl); have hfG_0 := HG.out.frozen 0; have hxG_1 := (HG.out.cell 1).trans (show _ = some (.bool false) from rfl); have hfG_1 := HG.out.frozen 1; obtain ⟨i01, hi01, _, hsz1, _⟩ := info_parts info5; obtain ⟨hlc1, hcut1, hC1⟩ := cut_take (d := (Kd.int .u8)) (P := Try.prog) 22 5 .i64 Try.underlying22 hi01 A1 c1 t1 y1 Ny1.out HC.out D2.out D1.out; obtain ⟨A5, c5, hlc5, hcut5, hC5⟩ := cut_drop (d := (Kd.int .u8)) (P := Try.prog) 22 5 .i64 Try.underlying22 hi01 hsz1 A1 c1 t1 y2 Ny2.out HC.out D2.out D1.out; have hcv1 := Kd.C_string (P := Try.prog) (A := A1) (c := c1) Try.underlying22 Try.underlying5 Try.underlying9 (Kd.C_below (hC1 w HR.out) HB.out); have HC5 := Aside0.mk (hC5 w HR.out); have HL5 := Aside0.mk hlc5; clear hlc1 hlc5 hC1 hC5 hi01 hsz1) | ((with_reducible refine gate_store (t := 22) (p := 42) rfl ?_); refine LB.stored HG.out HB.out GEG.out 0 [.slice A5 y2.length c5] rfl (t := 22) (p := 42) rfl rfl ?hr_4 ?_; (case hr_4 => first | (go_simp; done) | (go_simp; simp only [World.setCells, Nat.reduceAdd, Nat.zero_add]; done)); intro w2 hx hk hb; replace HK := Aside0.mk (HK.out.then_ hk RRG.out); replace HB := Aside0.mk hb; replace HG := Aside0.mk (show LB w2 PG gG 109 #[.slice A5 y2.length c5, .bool false] from hx); clear hk hx hb; (try clear hxG_0 hfG_0 hxG_1 hfG_1); have hxG_0 := (HG.out.cell 0).trans (show _ = some (.slice A5 y2.length c5) from rfl); have hfG_0 := HG.out.frozen 0; have hxG_1 := (HG.out.cell 1).trans (show _ = some (.bool false) from rfl); have hfG_1 := HG.out.frozen 1))
        go_ret
        first | exact ⟨_, _, rfl, HG.out, HC5.out, HL5.out, HB.out, HK.out⟩ | exact ⟨rfl, _, _, HG.out, HC5.out, HL5.out, HB.out, HK.out⟩
      · rw [if_neg d2] at h
        exact absurd h (by simp)
/-! ### spec_l09Reader_number: function 70, by hand -/
def spec_l09Reader_number.f (k : Nat) (l : List Int) (j : Int) (bad : Bool) : Option (Int × Int × Bool) := if bad = true then some (0, j, true) else (spec_l01Get.f k l j).bind fun t => (if t.2.2 = 0 then some (t.1, t.2.1, false) else some (0, j, true))
def spec_l09Reader_number.T3 : Bool × List (List Nat × List Nat) := (true, [([], []), ([0], [0]), ([1], [1]), ([2], [2]), ([], []), ([4], [4]), ([5], [5]), ([6], [6]), ([3, 7], [3, 7]), ([8], [8]), ([9], [9]), ([9], [9]), ([9], [9]), ([10, 8, 0, 1, 2, 3, 4, 5, 6, 7, 8, 9, 10], [10]), ([11, 13, 0, 1, 2, 3, 4, 5, 6, 7, 8, 9, 10, 11, 13], [11]), ([12, 14, 0, 1, 2, 3, 4, 5, 6, 7, 8, 9, 10, 11, 12, 13, 14], [12])])
def spec_l09Reader_number.B3 : List Nat := [0, 1, 3, 7, 0, 16, 48, 112, 255, 511, 1023, 1023, 1023, 2047, 12287, 32767]
theorem spec_l09Reader_number.tab3 : rtab .any (opsOf Try.f70 3) = spec_l09Reader_number.T3 := by kernel_rfl
theorem spec_l09Reader_number.bits3 : waitsOk spec_l09Reader_number.T3.2 spec_l09Reader_number.B3 = true := by kernel_rfl
set_option maxHeartbeats 8000000 in
set_option maxRecDepth 100000 in
theorem spec_l09Reader_number.own (k : Nat) (PG : Nat → Prop) (gG : Nat) (A0 : Option Addr) (c0 : Nat) (l : List Int) (j : Int) (bad : Bool) (r1 : Int) (r2 : Int) (r3 : Bool) (w ws : World) (hB : Below w.heap.size w ws) (hge : w.heap.size ≤ gG) (hG : LB ws PG gG 85 #[.slice A0 l.length c0, .int .i64 j, .bool bad]) (hr : Kd.C (Kd.int .u8) w A0 l.length l) (hc : l.length ≤ c0) (h : spec_l09Reader_number.f k l j bad = some (r1, r2, r3)) :
    Calls Try.prog 70 #[.pointer (some ⟨gG, 0, none⟩)] ws fun e w' => e = .returned (.int .i64 r1) ∧ LB w' PG gG 85 #[.slice A0 l.length c0, .int .i64 r2, .bool r3] ∧ Below w.heap.size w w' ∧ Kept ws w' PG := by
  have hu := Try.underlying85
  have HG := Aside0.mk hG
  have HR := Aside0.mk hr
  have HC := Aside0.mk hc
  have HB := Aside0.mk hB
  have GEG := Aside0.mk hge
  have HK := Aside0.mk (Kept.refl ws PG)
  have RRG := Aside0.mk (show ∀ k_, PG k_ → PG k_ ∨ ws.heap.size ≤ k_ from fun _ h_ => .inl h_)
  clear hG hr hc hB hge
  unfold spec_l09Reader_number.f at h
  cases bad with
  | true =>
    rw [if_pos rfl] at h
    simp only [Option.some.injEq, Prod.mk.injEq] at h
    obtain ⟨rfl, rfl, rfl⟩ := h
    (try clear hxG_0 hfG_0 hxG_1 hfG_1 hxG_2 hfG_2)
    have hxG_0 := (HG.out.cell 0).trans (show _ = some (.slice A0 l.length c0) from rfl)
    have hfG_0 := HG.out.frozen 0
    have hxG_1 := (HG.out.cell 1).trans (show _ = some (.int .i64 j) from rfl)
    have hfG_1 := HG.out.frozen 1
    have hxG_2 := (HG.out.cell 2).trans (show _ = some (.bool true) from rfl)
    have hfG_2 := HG.out.frozen 2
    go_enter Try.func70, Try.ntmps70
    go_wp2
    go_ret
    exact ⟨rfl, HG.out, HB.out, HK.out⟩
  | false =>
    rw [if_neg (by simp)] at h
    obtain ⟨⟨t1, t2, t3⟩, e1, h⟩ := Option.bind_eq_some_iff.1 h
    have E1 := Aside0.mk e1
    clear e1
    simp only at h
    by_cases c1 : t3 = 0
    · rw [if_pos c1] at h
      have cb1 : (t3 == 0) = true := beq_iff_eq.mpr c1
      have cb2 : (t3 != 0) = false := bne_eq_false_iff_eq.mpr c1
      clear c1
      simp only [Option.some.injEq, Prod.mk.injEq] at h
      obtain ⟨rfl, rfl, rfl⟩ := h
      (try clear hxG_0 hfG_0 hxG_1 hfG_1 hxG_2 hfG_2)
      have hxG_0 := (HG.out.cell 0).trans (show _ = some (.slice A0 l.length c0) from rfl)
      have hfG_0 := HG.out.frozen 0
      have hxG_1 := (HG.out.cell 1).trans (show _ = some (.int .i64 j) from rfl)
      have hfG_1 := HG.out.frozen 1
      have hxG_2 := (HG.out.cell 2).trans (show _ = some (.bool false) from rfl)
      have hfG_2 := HG.out.frozen 2
      go_enter Try.func70, Try.ntmps70
      go_upto_region 3 with (fail)
      refine start_ (n := 16) (S := fun w' => w'.cell? ⟨gG, 0, none⟩ = some (.slice A0 l.length c0) ∧ w'.cell? ⟨gG, 1, none⟩ = some (.int .i64 j)) (ds := []) #[false, false, false, false, false, false, false, false, false, false, false, false, false, false, false, false] (by kernel_rfl) rfl rfl ⟨hxG_0, hxG_1⟩ (fun hHeld => ?_)
      refine with_tabW spec_l09Reader_number.tab3 spec_l09Reader_number.bits3 (fun HT_ HW_ => ?_)
      generalize hwd_ : World.drew ws = wd_ at hHeld ⊢
      have hk := kept_drew hwd_
      replace HG := Aside0.mk (HG.out.step hk no_S)
      replace HK := Aside0.mk (HK.out.then_ hk (fun _ h_ => h_.elim))
      replace HB := Aside0.mk (below_drewd HB.out hwd_)
      clear hk hwd_
      (try clear hxG_0 hfG_0 hxG_1 hfG_1 hxG_2 hfG_2)
      have hxG_0 := (HG.out.cell 0).trans (show _ = some (.slice A0 l.length c0) from rfl)
      have hfG_0 := HG.out.frozen 0
      have hxG_1 := (HG.out.cell 1).trans (show _ = some (.int .i64 j) from rfl)
      have hfG_1 := HG.out.frozen 1
      have hxG_2 := (HG.out.cell 2).trans (show _ = some (.bool false) from rfl)
      have hfG_2 := HG.out.frozen 2
      refine pure_ (i := 0) (N := some 11) (v := ?_) (a' := ?_) #[true, false, false, false, false, false, false, false, false, false, false, false, false, false, false, false] rfl rfl (any_of HT_.out (by kernel_rfl)) (fun _ _ _ h => h) (Or.inl ⟨by rfl, ?_⟩) ?_ ?_
      rotate_left
      · intro w'
        go_simp
        with_reducible rfl
      rotate_left
      · simp only [Act.put, List.setIfInBounds_toArray, List.set_cons_zero, List.set_cons_succ, i64_w, i32_w]
        rfl
      refine pure_ (i := 1) (N := some 12) (v := ?_) (a' := ?_) #[true, true, false, false, false, false, false, false, false, false, false, false, false, false, false, false] rfl rfl (any_of HT_.out (by kernel_rfl)) (fun _ _ _ h => h) (Or.inl ⟨by rfl, ?_⟩) ?_ ?_
      rotate_left
      · intro w'
        go_simp
        with_reducible rfl
      rotate_left
      · simp only [Act.put, List.setIfInBounds_toArray, List.set_cons_zero, List.set_cons_succ, i64_w, i32_w]
        rfl
      refine pure_ (i := 2) (N := some 13) (v := ?_) (a' := ?_) #[true, true, true, false, false, false, false, false, false, false, false, false, false, false, false, false] rfl rfl (any_of HT_.out (by kernel_rfl)) (fun _ _ _ h => h) (Or.inl ⟨by rfl, ?_⟩) ?_ ?_
      rotate_left
      · intro w'
        go_simp
        with_reducible rfl
      rotate_left
      · simp only [Act.put, List.setIfInBounds_toArray, List.set_cons_zero, List.set_cons_succ, i64_w, i32_w]
        rfl
      refine take_ (i := 3) (N := some 14) (v := ?_) (a' := ?_) #[true, true, true, true, false, false, false, false, false, false, false, false, false, false, false, false] rfl rfl (take_ofW HT_.out HW_.out (by kernel_rfl)) (fun _ _ _ h => h) (Or.inl ⟨by rfl, ?_⟩) hHeld ?_ ?_
      rotate_left
      · rintro w' ⟨s0, s1⟩
        go_simp
        with_reducible rfl
      rotate_left
      · simp only [Act.put, List.setIfInBounds_toArray, List.set_cons_zero, List.set_cons_succ, i64_w, i32_w]
        rfl
      refine pure_ (i := 4) (N := some 15) (v := ?_) (a' := ?_) #[true, true, true, true, true, false, false, false, false, false, false, false, false, false, false, false] rfl rfl (any_of HT_.out (by kernel_rfl)) (fun _ _ _ h => h) (Or.inl ⟨by rfl, ?_⟩) ?_ ?_
      rotate_left
      · intro w'
        go_simp
        with_reducible rfl
      rotate_left
      · simp only [Act.put, List.setIfInBounds_toArray, List.set_cons_zero, List.set_cons_succ, i64_w, i32_w]
        rfl
      refine pure_ (i := 5) (N := some 16) (v := ?_) (a' := ?_) #[true, true, true, true, true, true, false, false, false, false, false, false, false, false, false, false] rfl rfl (any_of HT_.out (by kernel_rfl)) (fun _ _ _ h => h) (Or.inl ⟨by rfl, ?_⟩) ?_ ?_
      rotate_left
      · intro w'
        go_simp
        with_reducible rfl
      rotate_left
      · simp only [Act.put, List.setIfInBounds_toArray, List.set_cons_zero, List.set_cons_succ, i64_w, i32_w]
        rfl
      refine pure_ (i := 6) (N := some 17) (v := ?_) (a' := ?_) #[true, true, true, true, true, true, true, false, false, false, false, false, false, false, false, false] rfl rfl (any_of HT_.out (by kernel_rfl)) (fun _ _ _ h => h) (Or.inl ⟨by rfl, ?_⟩) ?_ ?_
      rotate_left
      · intro w'
        go_simp
        with_reducible rfl
      rotate_left
      · simp only [Act.put, List.setIfInBounds_toArray, List.set_cons_zero, List.set_cons_succ, i64_w, i32_w]
        rfl
      refine take_ (i := 7) (N := some 18) (v := ?_) (a' := ?_) #[true, true, true, true, true, true, true, true, false, false, false, false, false, false, false, false] rfl rfl (take_ofW HT_.out HW_.out (by kernel_rfl)) (fun _ _ _ h => h) (Or.inl ⟨by rfl, ?_⟩) hHeld ?_ ?_
      rotate_left
      · rintro w' ⟨s0, s1⟩
        go_simp
        with_reducible rfl
      rotate_left
      · simp only [Act.put, List.setIfInBounds_toArray, List.set_cons_zero, List.set_cons_succ, i64_w, i32_w]
        rfl
      refine one_ (i := 8) (N := some 19) #[true, true, true, true, true, true, true, true, true, false, false, false, false, false, false, false] rfl rfl (one_of HT_.out (by kernel_rfl)) (by decide) (fun K hK => ?_)
      refine goes_ Try.func102 (by kernel_rfl) rfl #[.slice A0 l.length c0, .int .i64 j] (by rfl) rfl rfl (by (try simp only [List.map_toArray, List.map_cons, List.map_nil]); first | done | rfl | (simp only [List.length_drop, List.length_take]; rfl)) ?_
      (with_reducible refine (spec_l01Get.calls k _ _ l j t1 t2 t3 _ (Kd.C_below HR.out HB.out) HC.out E1.out).mono ?_)
      rintro e w2 ⟨rfl, hq⟩
      refine ⟨_, rfl, ?_⟩
      have hk := kept_drawn hq
      replace HG := Aside0.mk (HG.out.step hk no_S)
      replace HK := Aside0.mk (HK.out.then_ hk (fun _ h_ => h_.elim))
      replace HB := Aside0.mk (below_drawn HB.out hq)
      clear hk hq
      (try clear hxG_0 hfG_0 hxG_1 hfG_1 hxG_2 hfG_2)
      have hxG_0 := (HG.out.cell 0).trans (show _ = some (.slice A0 l.length c0) from rfl)
      have hfG_0 := HG.out.frozen 0
      have hxG_1 := (HG.out.cell 1).trans (show _ = some (.int .i64 j) from rfl)
      have hfG_1 := HG.out.frozen 1
      have hxG_2 := (HG.out.cell 2).trans (show _ = some (.bool false) from rfl)
      have hfG_2 := HG.out.frozen 2
      refine hK.out _ _ ⟨hxG_0, hxG_1⟩ (fun hHeld => ?_)
      clear hK K
      refine norm_ (a' := ?_) ?_ ?_
      rotate_left
      · show Act.put _ (some 19) _ = _
        simp only [Act.put, List.setIfInBounds_toArray, List.set_cons_zero, List.set_cons_succ, i64_w, i32_w]
        rfl
      refine pure_ (i := 9) (N := some 10) (v := ?_) (a' := ?_) #[true, true, true, true, true, true, true, true, true, true, false, false, false, false, false, false] rfl rfl (any_of HT_.out (by kernel_rfl)) (fun _ _ _ h => h) (Or.inl ⟨by rfl, ?_⟩) ?_ ?_
      rotate_left
      · intro w'
        go_simp
        with_reducible rfl
      rotate_left
      · simp only [Act.put, List.setIfInBounds_toArray, List.set_cons_zero, List.set_cons_succ, i64_w, i32_w]
        rfl
      refine pure_ (i := 10) (N := some 20) (v := ?_) (a' := ?_) #[true, true, true, true, true, true, true, true, true, true, true, false, false, false, false, false] rfl rfl (any_of HT_.out (by kernel_rfl)) (fun _ _ _ h => h) (Or.inl ⟨by rfl, ?_⟩) ?_ ?_
      rotate_left
      · intro w'
        go_simp
        with_reducible rfl
      rotate_left
      · simp only [Act.put, List.setIfInBounds_toArray, List.set_cons_zero, List.set_cons_succ, i64_w, i32_w]
        rfl
      refine pure_ (i := 11) (N := some 21) (v := ?_) (a' := ?_) #[true, true, true, true, true, true, true, true, true, true, true, true, false, false, false, false] rfl rfl (any_of HT_.out (by kernel_rfl)) (fun _ _ _ h => h) (Or.inl ⟨by rfl, ?_⟩) ?_ ?_
      rotate_left
      · intro w'
        go_simp
        with_reducible rfl
      rotate_left
      · simp only [Act.put, List.setIfInBounds_toArray, List.set_cons_zero, List.set_cons_succ, i64_w, i32_w]
        rfl
      refine pure_ (i := 12) (N := some 22) (v := ?_) (a' := ?_) #[true, true, true, true, true, true, true, true, true, true, true, true, true, false, false, false] rfl rfl (any_of HT_.out (by kernel_rfl)) (fun _ _ _ h => h) (Or.inl ⟨by rfl, ?_⟩) ?_ ?_
      rotate_left
      · intro w'
        go_simp
        with_reducible rfl
      rotate_left
      · simp only [Act.put, List.setIfInBounds_toArray, List.set_cons_zero, List.set_cons_succ, i64_w, i32_w]
        rfl
      refine pure_ (i := 13) (N := some 3) (v := ?_) (a' := ?_) #[true, true, true, true, true, true, true, true, true, true, true, true, true, true, false, false] rfl rfl (any_of HT_.out (by kernel_rfl)) (fun _ _ _ h => h) (Or.inl ⟨by rfl, ?_⟩) ?_ ?_
      rotate_left
      · intro w'
        go_simp
        with_reducible rfl
      rotate_left
      · simp only [Act.put, List.setIfInBounds_toArray, List.set_cons_zero, List.set_cons_succ, i64_w, i32_w]
        rfl
      refine pure_ (i := 14) (N := some 4) (v := ?_) (a' := ?_) #[true, true, true, true, true, true, true, true, true, true, true, true, true, true, true, false] rfl rfl (any_of HT_.out (by kernel_rfl)) (fun _ _ _ h => h) (Or.inl ⟨by rfl, ?_⟩) ?_ ?_
      rotate_left
      · intro w'
        go_simp
        with_reducible rfl
      rotate_left
      · simp only [Act.put, List.setIfInBounds_toArray, List.set_cons_zero, List.set_cons_succ, i64_w, i32_w]
        rfl
      refine pure_ (i := 15) (N := some 5) (v := ?_) (a' := ?_) #[true, true, true, true, true, true, true, true, true, true, true, true, true, true, true, true] rfl rfl (any_of HT_.out (by kernel_rfl)) (fun _ _ _ h => h) (Or.inl ⟨by rfl, ?_⟩) ?_ ?_
      rotate_left
      · intro w'
        go_simp
        with_reducible rfl
      rotate_left
      · simp only [Act.put, List.setIfInBounds_toArray, List.set_cons_zero, List.set_cons_succ, i64_w, i32_w]
        rfl
      refine done_ (done_of HT_.out (by kernel_rfl)) ?_
      go_wp2_with (first | ((with_reducible refine gate_store (t := 3) (p := 31) rfl ?_); refine LB.stored HG.out HB.out GEG.out 1 [.int .i64 t2] rfl (t := 3) (p := 31) rfl rfl ?hr_1 ?_; (case hr_1 => first | (go_simp; done) | (go_simp; simp only [World.setCells, Nat.reduceAdd, Nat.zero_add]; done)); intro w2 hx hk hb; replace HK := Aside0.mk (HK.out.then_ hk RRG.out); replace HB := Aside0.mk hb; replace HG := Aside0.mk (show LB w2 PG gG 85 #[.slice A0 l.length c0, .int .i64 t2, .bool false] from hx); clear hk hx hb; (try clear hxG_0 hfG_0 hxG_1 hfG_1 hxG_2 hfG_2); have hxG_0 := (HG.out.cell 0).trans (show _ = some (.slice A0 l.length c0) from rfl); have hfG_0 := HG.out.frozen 0; have hxG_1 := (HG.out.cell 1).trans (show _ = some (.int .i64 t2) from rfl); have hfG_1 := HG.out.frozen 1; have hxG_2 := (HG.out.cell 2).trans (show _ = some (.bool false) from rfl); have hfG_2 := HG.out.frozen 2))
      go_ret
      exact ⟨rfl, HG.out, HB.out, HK.out⟩
    · rw [if_neg c1] at h
      have cb1 : (t3 == 0) = false := beq_eq_false_iff_ne.mpr c1
      have cb2 : (t3 != 0) = true := bne_iff_ne.mpr c1
      clear c1
      simp only [Option.some.injEq, Prod.mk.injEq] at h
      obtain ⟨rfl, rfl, rfl⟩ := h
      (try clear hxG_0 hfG_0 hxG_1 hfG_1 hxG_2 hfG_2)
      have hxG_0 := (HG.out.cell 0).trans (show _ = some (.slice A0 l.length c0) from rfl)
      have hfG_0 := HG.out.frozen 0
      have hxG_1 := (HG.out.cell 1).trans (show _ = some (.int .i64 j) from rfl)
      have hfG_1 := HG.out.frozen 1
      have hxG_2 := (HG.out.cell 2).trans (show _ = some (.bool false) from rfl)
      have hfG_2 := HG.out.frozen 2
      go_enter Try.func70, Try.ntmps70
      go_upto_region 3 with (fail)
      refine start_ (n := 16) (S := fun w' => w'.cell? ⟨gG, 0, none⟩ = some (.slice A0 l.length c0) ∧ w'.cell? ⟨gG, 1, none⟩ = some (.int .i64 j)) (ds := []) #[false, false, false, false, false, false, false, false, false, false, false, false, false, false, false, false] (by kernel_rfl) rfl rfl ⟨hxG_0, hxG_1⟩ (fun hHeld => ?_)
      refine with_tabW spec_l09Reader_number.tab3 spec_l09Reader_number.bits3 (fun HT_ HW_ => ?_)
      generalize hwd_ : World.drew ws = wd_ at hHeld ⊢
      have hk := kept_drew hwd_
      replace HG := Aside0.mk (HG.out.step hk no_S)
      replace HK := Aside0.mk (HK.out.then_ hk (fun _ h_ => h_.elim))
      replace HB := Aside0.mk (below_drewd HB.out hwd_)
      clear hk hwd_
      (try clear hxG_0 hfG_0 hxG_1 hfG_1 hxG_2 hfG_2)
      have hxG_0 := (HG.out.cell 0).trans (show _ = some (.slice A0 l.length c0) from rfl)
      have hfG_0 := HG.out.frozen 0
      have hxG_1 := (HG.out.cell 1).trans (show _ = some (.int .i64 j) from rfl)
      have hfG_1 := HG.out.frozen 1
      have hxG_2 := (HG.out.cell 2).trans (show _ = some (.bool false) from rfl)
      have hfG_2 := HG.out.frozen 2
      refine pure_ (i := 0) (N := some 11) (v := ?_) (a' := ?_) #[true, false, false, false, false, false, false, false, false, false, false, false, false, false, false, false] rfl rfl (any_of HT_.out (by kernel_rfl)) (fun _ _ _ h => h) (Or.inl ⟨by rfl, ?_⟩) ?_ ?_
      rotate_left
      · intro w'
        go_simp
        with_reducible rfl
      rotate_left
      · simp only [Act.put, List.setIfInBounds_toArray, List.set_cons_zero, List.set_cons_succ, i64_w, i32_w]
        rfl
      refine pure_ (i := 1) (N := some 12) (v := ?_) (a' := ?_) #[true, true, false, false, false, false, false, false, false, false, false, false, false, false, false, false] rfl rfl (any_of HT_.out (by kernel_rfl)) (fun _ _ _ h => h) (Or.inl ⟨by rfl, ?_⟩) ?_ ?_
      rotate_left
      · intro w'
        go_simp
        with_reducible rfl
      rotate_left
      · simp only [Act.put, List.setIfInBounds_toArray, List.set_cons_zero, List.set_cons_succ, i64_w, i32_w]
        rfl
      refine pure_ (i := 2) (N := some 13) (v := ?_) (a' := ?_) #[true, true, true, false, false, false, false, false, false, false, false, false, false, false, false, false] rfl rfl (any_of HT_.out (by kernel_rfl)) (fun _ _ _ h => h) (Or.inl ⟨by rfl, ?_⟩) ?_ ?_
      rotate_left
      · intro w'
        go_simp
        with_reducible rfl
      rotate_left
      · simp only [Act.put, List.setIfInBounds_toArray, List.set_cons_zero, List.set_cons_succ, i64_w, i32_w]
        rfl
      refine take_ (i := 3) (N := some 14) (v := ?_) (a' := ?_) #[true, true, true, true, false, false, false, false, false, false, false, false, false, false, false, false] rfl rfl (take_ofW HT_.out HW_.out (by kernel_rfl)) (fun _ _ _ h => h) (Or.inl ⟨by rfl, ?_⟩) hHeld ?_ ?_
      rotate_left
      · rintro w' ⟨s0, s1⟩
        go_simp
        with_reducible rfl
      rotate_left
      · simp only [Act.put, List.setIfInBounds_toArray, List.set_cons_zero, List.set_cons_succ, i64_w, i32_w]
        rfl
      refine pure_ (i := 4) (N := some 15) (v := ?_) (a' := ?_) #[true, true, true, true, true, false, false, false, false, false, false, false, false, false, false, false] rfl rfl (any_of HT_.out (by kernel_rfl)) (fun _ _ _ h => h) (Or.inl ⟨by rfl, ?_⟩) ?_ ?_
      rotate_left
      · intro w'
        go_simp
        with_reducible rfl
      rotate_left
      · simp only [Act.put, List.setIfInBounds_toArray, List.set_cons_zero, List.set_cons_succ, i64_w, i32_w]
        rfl
      refine pure_ (i := 5) (N := some 16) (v := ?_) (a' := ?_) #[true, true, true, true, true, true, false, false, false, false, false, false, false, false, false, false] rfl rfl (any_of HT_.out (by kernel_rfl)) (fun _ _ _ h => h) (Or.inl ⟨by rfl, ?_⟩) ?_ ?_
      rotate_left
      · intro w'
        go_simp
        with_reducible rfl
      rotate_left
      · simp only [Act.put, List.setIfInBounds_toArray, List.set_cons_zero, List.set_cons_succ, i64_w, i32_w]
        rfl
      refine pure_ (i := 6) (N := some 17) (v := ?_) (a' := ?_) #[true, true, true, true, true, true, true, false, false, false, false, false, false, false, false, false] rfl rfl (any_of HT_.out (by kernel_rfl)) (fun _ _ _ h => h) (Or.inl ⟨by rfl, ?_⟩) ?_ ?_
      rotate_left
      · intro w'
        go_simp
        with_reducible rfl
      rotate_left
      · simp only [Act.put, List.setIfInBounds_toArray, List.set_cons_zero, List.set_cons_succ, i64_w, i32_w]
        rfl
      refine take_ (i := 7) (N := some 18) (v := ?_) (a' := ?_) #[true, true, true, true, true, true, true, true, false, false, false, false, false, false, false, false] rfl rfl (take_ofW HT_.out HW_.out (by kernel_rfl)) (fun _ _ _ h => h) (Or.inl ⟨by rfl, ?_⟩) hHeld ?_ ?_
      rotate_left
      · rintro w' ⟨s0, s1⟩
        go_simp
        with_reducible rfl
      rotate_left
      · simp only [Act.put, List.setIfInBounds_toArray, List.set_cons_zero, List.set_cons_succ, i64_w, i32_w]
        rfl
      refine one_ (i := 8) (N := some 19) #[true, true, true, true, true, true, true, true, true, false, false, false, false, false, false, false] rfl rfl (one_of HT_.out (by kernel_rfl)) (by decide) (fun K hK => ?_)
      refine goes_ Try.func102 (by kernel_rfl) rfl #[.slice A0 l.length c0, .int .i64 j] (by rfl) rfl rfl (by (try simp only [List.map_toArray, List.map_cons, List.map_nil]); first | done | rfl | (simp only [List.length_drop, List.length_take]; rfl)) ?_
      (with_reducible refine (spec_l01Get.calls k _ _ l j t1 t2 t3 _ (Kd.C_below HR.out HB.out) HC.out E1.out).mono ?_)
      rintro e w2 ⟨rfl, hq⟩
      refine ⟨_, rfl, ?_⟩
      have hk := kept_drawn hq
      replace HG := Aside0.mk (HG.out.step hk no_S)
      replace HK := Aside0.mk (HK.out.then_ hk (fun _ h_ => h_.elim))
      replace HB := Aside0.mk (below_drawn HB.out hq)
      clear hk hq
      (try clear hxG_0 hfG_0 hxG_1 hfG_1 hxG_2 hfG_2)
      have hxG_0 := (HG.out.cell 0).trans (show _ = some (.slice A0 l.length c0) from rfl)
      have hfG_0 := HG.out.frozen 0
      have hxG_1 := (HG.out.cell 1).trans (show _ = some (.int .i64 j) from rfl)
      have hfG_1 := HG.out.frozen 1
      have hxG_2 := (HG.out.cell 2).trans (show _ = some (.bool false) from rfl)
      have hfG_2 := HG.out.frozen 2
      refine hK.out _ _ ⟨hxG_0, hxG_1⟩ (fun hHeld => ?_)
      clear hK K
      refine norm_ (a' := ?_) ?_ ?_
      rotate_left
      · show Act.put _ (some 19) _ = _
        simp only [Act.put, List.setIfInBounds_toArray, List.set_cons_zero, List.set_cons_succ, i64_w, i32_w]
        rfl
      refine pure_ (i := 9) (N := some 10) (v := ?_) (a' := ?_) #[true, true, true, true, true, true, true, true, true, true, false, false, false, false, false, false] rfl rfl (any_of HT_.out (by kernel_rfl)) (fun _ _ _ h => h) (Or.inl ⟨by rfl, ?_⟩) ?_ ?_
      rotate_left
      · intro w'
        go_simp
        with_reducible rfl
      rotate_left
      · simp only [Act.put, List.setIfInBounds_toArray, List.set_cons_zero, List.set_cons_succ, i64_w, i32_w]
        rfl
      refine pure_ (i := 10) (N := some 20) (v := ?_) (a' := ?_) #[true, true, true, true, true, true, true, true, true, true, true, false, false, false, false, false] rfl rfl (any_of HT_.out (by kernel_rfl)) (fun _ _ _ h => h) (Or.inl ⟨by rfl, ?_⟩) ?_ ?_
      rotate_left
      · intro w'
        go_simp
        with_reducible rfl
      rotate_left
      · simp only [Act.put, List.setIfInBounds_toArray, List.set_cons_zero, List.set_cons_succ, i64_w, i32_w]
        rfl
      refine pure_ (i := 11) (N := some 21) (v := ?_) (a' := ?_) #[true, true, true, true, true, true, true, true, true, true, true, true, false, false, false, false] rfl rfl (any_of HT_.out (by kernel_rfl)) (fun _ _ _ h => h) (Or.inl ⟨by rfl, ?_⟩) ?_ ?_
      rotate_left
      · intro w'
        go_simp
        with_reducible rfl
      rotate_left
      · simp only [Act.put, List.setIfInBounds_toArray, List.set_cons_zero, List.set_cons_succ, i64_w, i32_w]
        rfl
      refine pure_ (i := 12) (N := some 22) (v := ?_) (a' := ?_) #[true, true, true, true, true, true, true, true, true, true, true, true, true, false, false, false] rfl rfl (any_of HT_.out (by kernel_rfl)) (fun _ _ _ h => h) (Or.inl ⟨by rfl, ?_⟩) ?_ ?_
      rotate_left
      · intro w'
        go_simp
        with_reducible rfl
      rotate_left
      · simp only [Act.put, List.setIfInBounds_toArray, List.set_cons_zero, List.set_cons_succ, i64_w, i32_w]
        rfl
      refine pure_ (i := 13) (N := some 3) (v := ?_) (a' := ?_) #[true, true, true, true, true, true, true, true, true, true, true, true, true, true, false, false] rfl rfl (any_of HT_.out (by kernel_rfl)) (fun _ _ _ h => h) (Or.inl ⟨by rfl, ?_⟩) ?_ ?_
      rotate_left
      · intro w'
        go_simp
        with_reducible rfl
      rotate_left
      · simp only [Act.put, List.setIfInBounds_toArray, List.set_cons_zero, List.set_cons_succ, i64_w, i32_w]
        rfl
      refine pure_ (i := 14) (N := some 4) (v := ?_) (a' := ?_) #[true, true, true, true, true, true, true, true, true, true, true, true, true, true, true, false] rfl rfl (any_of HT_.out (by kernel_rfl)) (fun _ _ _ h => h) (Or.inl ⟨by rfl, ?_⟩) ?_ ?_
      rotate_left
      · intro w'
        go_simp
        with_reducible rfl
      rotate_left
      · simp only [Act.put, List.setIfInBounds_toArray, List.set_cons_zero, List.set_cons_succ, i64_w, i32_w]
        rfl
      refine pure_ (i := 15) (N := some 5) (v := ?_) (a' := ?_) #[true, true, true, true, true, true, true, true, true, true, true, true, true, true, true, true] rfl rfl (any_of HT_.out (by kernel_rfl)) (fun _ _ _ h => h) (Or.inl ⟨by rfl, ?_⟩) ?_ ?_
      rotate_left
      · intro w'
        go_simp
        with_reducible rfl
      rotate_left
      · simp only [Act.put, List.setIfInBounds_toArray, List.set_cons_zero, List.set_cons_succ, i64_w, i32_w]
        rfl
      refine done_ (done_of HT_.out (by kernel_rfl)) ?_
      go_wp2_with (first | ((with_reducible refine gate_store (t := 4) (p := 27) rfl ?_); refine LB.stored HG.out HB.out GEG.out 2 [.bool true] rfl (t := 4) (p := 27) rfl rfl ?hr_2 ?_; (case hr_2 => first | (go_simp; done) | (go_simp; simp only [World.setCells, Nat.reduceAdd, Nat.zero_add]; done)); intro w2 hx hk hb; replace HK := Aside0.mk (HK.out.then_ hk RRG.out); replace HB := Aside0.mk hb; replace HG := Aside0.mk (show LB w2 PG gG 85 #[.slice A0 l.length c0, .int .i64 j, .bool true] from hx); clear hk hx hb; (try clear hxG_0 hfG_0 hxG_1 hfG_1 hxG_2 hfG_2); have hxG_0 := (HG.out.cell 0).trans (show _ = some (.slice A0 l.length c0) from rfl); have hfG_0 := HG.out.frozen 0; have hxG_1 := (HG.out.cell 1).trans (show _ = some (.int .i64 j) from rfl); have hfG_1 := HG.out.frozen 1; have hxG_2 := (HG.out.cell 2).trans (show _ = some (.bool true) from rfl); have hfG_2 := HG.out.frozen 2))
      go_ret
      exact ⟨rfl, HG.out, HB.out, HK.out⟩
/-! ### spec_l09Reader_text: function 71, by hand -/
def spec_l09Reader_text.f (k : Nat) (l : List Int) (j : Int) (bad : Bool) : Option (ByteArray × Int × Bool) := (spec_l09Reader_number.f k l j bad).bind fun t => (if t.2.2 = true then some (ByteArray.empty, t.2.1, true) else if wrap64 ((l.length : Int) - t.2.1) < t.1 then some (ByteArray.empty, t.2.1, true) else if 0 ≤ t.2.1 then (if t.2.1 ≤ wrap64 (t.2.1 + t.1) then (if wrap64 (t.2.1 + t.1) ≤ (l.length : Int) then some (strOfNums ((l.take (wrap64 (t.2.1 + t.1)).toNat).drop t.2.1.toNat), wrap64 (t.2.1 + t.1), false) else none) else none) else none)
set_option maxHeartbeats 8000000 in
set_option maxRecDepth 100000 in
theorem spec_l09Reader_text.own (k : Nat) (PG : Nat → Prop) (gG : Nat) (A0 : Option Addr) (c0 : Nat) (l : List Int) (j : Int) (bad : Bool) (r1 : ByteArray) (r2 : Int) (r3 : Bool) (w ws : World) (hB : Below w.heap.size w ws) (hge : w.heap.size ≤ gG) (hG : LB ws PG gG 85 #[.slice A0 l.length c0, .int .i64 j, .bool bad]) (hr : Kd.C (Kd.int .u8) w A0 l.length l) (hc : l.length ≤ c0) (h : spec_l09Reader_text.f k l j bad = some (r1, r2, r3)) :
    Calls Try.prog 71 #[.pointer (some ⟨gG, 0, none⟩)] ws fun e w' => e = .returned (.string r1) ∧ LB w' PG gG 85 #[.slice A0 l.length c0, .int .i64 r2, .bool r3] ∧ Below w.heap.size w w' ∧ Kept ws w' PG := by
  have hu := Try.underlying85
  have HG := Aside0.mk hG
  have HR := Aside0.mk hr
  have HC := Aside0.mk hc
  have HB := Aside0.mk hB
  have GEG := Aside0.mk hge
  have HK := Aside0.mk (Kept.refl ws PG)
  have RRG := Aside0.mk (show ∀ k_, PG k_ → PG k_ ∨ ws.heap.size ≤ k_ from fun _ h_ => .inl h_)
  clear hG hr hc hB hge
  unfold spec_l09Reader_text.f at h
  obtain ⟨⟨t1, t2, b1⟩, e1, h⟩ := Option.bind_eq_some_iff.1 h
  have E1 := Aside0.mk e1
  clear e1
  simp only at h
  cases b1 with
  | true =>
    rw [if_pos rfl] at h
    simp only [Option.some.injEq, Prod.mk.injEq] at h
    obtain ⟨rfl, rfl, rfl⟩ := h
    go_enter Try.func71, Try.ntmps71
    go_upto_region 2 with (first | ((with_reducible refine gate_callee (f := 70) rfl ?_); refine goesL_ (some 6) rfl rfl Try.func70 (by kernel_rfl) rfl #[.pointer (some ⟨gG, 0, none⟩)] rfl (by (try simp only [List.map_toArray, List.map_cons, List.map_nil]); first | done | rfl) ?_; (with_reducible refine (spec_l09Reader_number.own k PG gG A0 c0 l j bad t1 t2 true w _ HB.out GEG.out HG.out HR.out HC.out E1.out).mono ?_); rintro e w2 ⟨rfl, hG, hb, hk⟩; refine ⟨_, rfl, ?_⟩; replace HG := Aside0.mk hG; replace HB := Aside0.mk hb; replace HK := Aside0.mk (HK.out.then_ hk RRG.out); clear hG hb hk; (try clear hxG_0 hfG_0 hxG_1 hfG_1 hxG_2 hfG_2); have hxG_0 := (HG.out.cell 0).trans (show _ = some (.slice A0 l.length c0) from rfl); have hfG_0 := HG.out.frozen 0; have hxG_1 := (HG.out.cell 1).trans (show _ = some (.int .i64 t2) from rfl); have hfG_1 := HG.out.frozen 1; have hxG_2 := (HG.out.cell 2).trans (show _ = some (.bool true) from rfl); have hfG_2 := HG.out.frozen 2))
    go_quiet (fail)
    generalize hwd_ : World.drewN w2 nq = wd_
    have hb_ := (show Below (World.heap w2).size w2 wd_ from hwd_ ▸ pw_below_drewN (Below.refl _ _) nq)
    have hk := (Kept.of_below hb_ (fun _ => False))
    replace HG := Aside0.mk (HG.out.step hk no_S)
    replace HK := Aside0.mk (HK.out.then_ hk (fun _ h_ => h_.elim))
    replace HB := Aside0.mk (below_step HB.out hb_)
    clear hk hwd_ hb_
    (try clear hxG_0 hfG_0 hxG_1 hfG_1 hxG_2 hfG_2)
    have hxG_0 := (HG.out.cell 0).trans (show _ = some (.slice A0 l.length c0) from rfl)
    have hfG_0 := HG.out.frozen 0
    have hxG_1 := (HG.out.cell 1).trans (show _ = some (.int .i64 t2) from rfl)
    have hfG_1 := HG.out.frozen 1
    have hxG_2 := (HG.out.cell 2).trans (show _ = some (.bool true) from rfl)
    have hfG_2 := HG.out.frozen 2
    go_wp2_with (first | ((with_reducible refine gate_store (t := 4) (p := 27) rfl ?_); refine LB.stored HG.out HB.out GEG.out 2 [.bool true] rfl (t := 4) (p := 27) rfl rfl ?hr_1 ?_; (case hr_1 => first | (go_simp; done) | (go_simp; simp only [World.setCells, Nat.reduceAdd, Nat.zero_add]; done)); intro w2 hx hk hb; replace HK := Aside0.mk (HK.out.then_ hk RRG.out); replace HB := Aside0.mk hb; replace HG := Aside0.mk (show LB w2 PG gG 85 #[.slice A0 l.length c0, .int .i64 t2, .bool true] from hx); clear hk hx hb; (try clear hxG_0 hfG_0 hxG_1 hfG_1 hxG_2 hfG_2); have hxG_0 := (HG.out.cell 0).trans (show _ = some (.slice A0 l.length c0) from rfl); have hfG_0 := HG.out.frozen 0; have hxG_1 := (HG.out.cell 1).trans (show _ = some (.int .i64 t2) from rfl); have hfG_1 := HG.out.frozen 1; have hxG_2 := (HG.out.cell 2).trans (show _ = some (.bool true) from rfl); have hfG_2 := HG.out.frozen 2))
    go_ret
    exact ⟨rfl, HG.out, HB.out, HK.out⟩
  | false =>
    rw [if_neg (by simp)] at h
    by_cases d1 : wrap64 ((l.length : Int) - t2) < t1
    · rw [if_pos d1] at h
      have cb1 : decide (wrap64 ((l.length : Int) - t2) < t1) = true := decide_eq_true d1
      clear d1
      simp only [Option.some.injEq, Prod.mk.injEq] at h
      obtain ⟨rfl, rfl, rfl⟩ := h
      go_enter Try.func71, Try.ntmps71
      go_upto_region 2 with (first | ((with_reducible refine gate_callee (f := 70) rfl ?_); refine goesL_ (some 6) rfl rfl Try.func70 (by kernel_rfl) rfl #[.pointer (some ⟨gG, 0, none⟩)] rfl (by (try simp only [List.map_toArray, List.map_cons, List.map_nil]); first | done | rfl) ?_; (with_reducible refine (spec_l09Reader_number.own k PG gG A0 c0 l j bad t1 t2 false w _ HB.out GEG.out HG.out HR.out HC.out E1.out).mono ?_); rintro e w2 ⟨rfl, hG, hb, hk⟩; refine ⟨_, rfl, ?_⟩; replace HG := Aside0.mk hG; replace HB := Aside0.mk hb; replace HK := Aside0.mk (HK.out.then_ hk RRG.out); clear hG hb hk; (try clear hxG_0 hfG_0 hxG_1 hfG_1 hxG_2 hfG_2); have hxG_0 := (HG.out.cell 0).trans (show _ = some (.slice A0 l.length c0) from rfl); have hfG_0 := HG.out.frozen 0; have hxG_1 := (HG.out.cell 1).trans (show _ = some (.int .i64 t2) from rfl); have hfG_1 := HG.out.frozen 1; have hxG_2 := (HG.out.cell 2).trans (show _ = some (.bool false) from rfl); have hfG_2 := HG.out.frozen 2))
      go_quiet (fail)
      generalize hwd_ : World.drewN w2 nq = wd_
      have hb_ := (show Below (World.heap w2).size w2 wd_ from hwd_ ▸ pw_below_drewN (Below.refl _ _) nq)
      have hk := (Kept.of_below hb_ (fun _ => False))
      replace HG := Aside0.mk (HG.out.step hk no_S)
      replace HK := Aside0.mk (HK.out.then_ hk (fun _ h_ => h_.elim))
      replace HB := Aside0.mk (below_step HB.out hb_)
      clear hk hwd_ hb_
      (try clear hxG_0 hfG_0 hxG_1 hfG_1 hxG_2 hfG_2)
      have hxG_0 := (HG.out.cell 0).trans (show _ = some (.slice A0 l.length c0) from rfl)
      have hfG_0 := HG.out.frozen 0
      have hxG_1 := (HG.out.cell 1).trans (show _ = some (.int .i64 t2) from rfl)
      have hfG_1 := HG.out.frozen 1
      have hxG_2 := (HG.out.cell 2).trans (show _ = some (.bool false) from rfl)
      have hfG_2 := HG.out.frozen 2
      go_wp2_with (first | ((with_reducible refine gate_store (t := 4) (p := 27) rfl ?_); refine LB.stored HG.out HB.out GEG.out 2 [.bool true] rfl (t := 4) (p := 27) rfl rfl ?hr_2 ?_; (case hr_2 => first | (go_simp; done) | (go_simp; simp only [World.setCells, Nat.reduceAdd, Nat.zero_add]; done)); intro w2 hx hk hb; replace HK := Aside0.mk (HK.out.then_ hk RRG.out); replace HB := Aside0.mk hb; replace HG := Aside0.mk (show LB w2 PG gG 85 #[.slice A0 l.length c0, .int .i64 t2, .bool true] from hx); clear hk hx hb; (try clear hxG_0 hfG_0 hxG_1 hfG_1 hxG_2 hfG_2); have hxG_0 := (HG.out.cell 0).trans (show _ = some (.slice A0 l.length c0) from rfl); have hfG_0 := HG.out.frozen 0; have hxG_1 := (HG.out.cell 1).trans (show _ = some (.int .i64 t2) from rfl); have hfG_1 := HG.out.frozen 1; have hxG_2 := (HG.out.cell 2).trans (show _ = some (.bool true) from rfl); have hfG_2 := HG.out.frozen 2))
      go_ret
      exact ⟨rfl, HG.out, HB.out, HK.out⟩
    · rw [if_neg d1] at h
      have cb1 : decide (wrap64 ((l.length : Int) - t2) < t1) = false := decide_eq_false d1
      clear d1
      obtain ⟨u, hu2⟩ : ∃ u_, u_ = wrap64 (t2 + t1) := ⟨_, rfl⟩
      rw [← hu2] at h
      have hw2 : wrap64 (t2 + t1) = u := hu2.symm
      clear hu2
      by_cases d2 : 0 ≤ t2
      · rw [if_pos d2] at h
        by_cases d3 : t2 ≤ u
        · rw [if_pos d3] at h
          by_cases d4 : u ≤ (l.length : Int)
          · rw [if_pos d4] at h
            obtain ⟨y1, hy1⟩ : ∃ y_ : List Int, y_ = (l.take u.toNat).drop t2.toNat := ⟨_, rfl⟩
            rw [← hy1] at h
            obtain ⟨i01, hi01, _, hsz1, _⟩ := info_parts info5
            obtain ⟨A5, c5, hlc5, hcut5, hC5⟩ := cut_both (d := (Kd.int .u8)) (P := Try.prog) 22 5 .i64 .i64 Try.underlying22 hi01 hsz1 A0 c0 t2 u y1 hy1 HC.out d2 d3 d4
            have HC5 := Aside0.mk (hC5 w HR.out)
            clear hlc5 hC5 hi01 hsz1 hy1 d2 d3 d4
            simp only [Option.some.injEq, Prod.mk.injEq] at h
            obtain ⟨rfl, rfl, rfl⟩ := h
            go_enter Try.func71, Try.ntmps71
            go_upto_region 2 with (first | ((with_reducible refine gate_callee (f := 70) rfl ?_); refine goesL_ (some 6) rfl rfl Try.func70 (by kernel_rfl) rfl #[.pointer (some ⟨gG, 0, none⟩)] rfl (by (try simp only [List.map_toArray, List.map_cons, List.map_nil]); first | done | rfl) ?_; (with_reducible refine (spec_l09Reader_number.own k PG gG A0 c0 l j bad t1 t2 false w _ HB.out GEG.out HG.out HR.out HC.out E1.out).mono ?_); rintro e w2 ⟨rfl, hG, hb, hk⟩; refine ⟨_, rfl, ?_⟩; replace HG := Aside0.mk hG; replace HB := Aside0.mk hb; replace HK := Aside0.mk (HK.out.then_ hk RRG.out); clear hG hb hk; (try clear hxG_0 hfG_0 hxG_1 hfG_1 hxG_2 hfG_2); have hxG_0 := (HG.out.cell 0).trans (show _ = some (.slice A0 l.length c0) from rfl); have hfG_0 := HG.out.frozen 0; have hxG_1 := (HG.out.cell 1).trans (show _ = some (.int .i64 t2) from rfl); have hfG_1 := HG.out.frozen 1; have hxG_2 := (HG.out.cell 2).trans (show _ = some (.bool false) from rfl); have hfG_2 := HG.out.frozen 2))
            go_quiet (fail)
            generalize hwd_ : World.drewN w2 nq = wd_
            have hb_ := (show Below (World.heap w2).size w2 wd_ from hwd_ ▸ pw_below_drewN (Below.refl _ _) nq)
            have hk := (Kept.of_below hb_ (fun _ => False))
            replace HG := Aside0.mk (HG.out.step hk no_S)
            replace HK := Aside0.mk (HK.out.then_ hk (fun _ h_ => h_.elim))
            replace HB := Aside0.mk (below_step HB.out hb_)
            clear hk hwd_ hb_
            (try clear hxG_0 hfG_0 hxG_1 hfG_1 hxG_2 hfG_2)
            have hxG_0 := (HG.out.cell 0).trans (show _ = some (.slice A0 l.length c0) from rfl)
            have hfG_0 := HG.out.frozen 0
            have hxG_1 := (HG.out.cell 1).trans (show _ = some (.int .i64 t2) from rfl)
            have hfG_1 := HG.out.frozen 1
            have hxG_2 := (HG.out.cell 2).trans (show _ = some (.bool false) from rfl)
            have hfG_2 := HG.out.frozen 2
            go_upto_region 5 with (fail)
            have hcv1 := fun m_ : Nat => Kd.C_string (P := Try.prog) (w := wd_.drewN m_) (A := A5) (c := c5) Try.underlying22 Try.underlying5 Try.underlying9 (Kd.C_drewN (Kd.C_below HC5.out HB.out) m_)
            go_quiet (fail)
            generalize hwd_ : World.drewN wd_ nq = we_
            have hb_ := (show Below (World.heap wd_).size wd_ we_ from hwd_ ▸ pw_below_drewN (Below.refl _ _) nq)
            have hk := (Kept.of_below hb_ (fun _ => False))
            replace HG := Aside0.mk (HG.out.step hk no_S)
            replace HK := Aside0.mk (HK.out.then_ hk (fun _ h_ => h_.elim))
            replace HB := Aside0.mk (below_step HB.out hb_)
            clear hk hwd_ hb_
            (try clear hxG_0 hfG_0 hxG_1 hfG_1 hxG_2 hfG_2)
            have hxG_0 := (HG.out.cell 0).trans (show _ = some (.slice A0 l.length c0) from rfl)
            have hfG_0 := HG.out.frozen 0
            have hxG_1 := (HG.out.cell 1).trans (show _ = some (.int .i64 t2) from rfl)
            have hfG_1 := HG.out.frozen 1
            have hxG_2 := (HG.out.cell 2).trans (show _ = some (.bool false) from rfl)
            have hfG_2 := HG.out.frozen 2
            go_wp2_with (first | ((with_reducible refine gate_store (t := 3) (p := 51) rfl ?_); refine LB.stored HG.out HB.out GEG.out 1 [.int .i64 u] rfl (t := 3) (p := 51) rfl rfl ?hr_3 ?_; (case hr_3 => first | (go_simp; done) | (go_simp; simp only [World.setCells, Nat.reduceAdd, Nat.zero_add]; done)); intro w2 hx hk hb; replace HK := Aside0.mk (HK.out.then_ hk RRG.out); replace HB := Aside0.mk hb; replace HG := Aside0.mk (show LB w2 PG gG 85 #[.slice A0 l.length c0, .int .i64 u, .bool false] from hx); clear hk hx hb; (try clear hxG_0 hfG_0 hxG_1 hfG_1 hxG_2 hfG_2); have hxG_0 := (HG.out.cell 0).trans (show _ = some (.slice A0 l.length c0) from rfl); have hfG_0 := HG.out.frozen 0; have hxG_1 := (HG.out.cell 1).trans (show _ = some (.int .i64 u) from rfl); have hfG_1 := HG.out.frozen 1; have hxG_2 := (HG.out.cell 2).trans (show _ = some (.bool false) from rfl); have hfG_2 := HG.out.frozen 2))
            go_ret
            exact ⟨rfl, HG.out, HB.out, HK.out⟩
          · rw [if_neg d4] at h
            exact absurd h (by simp)
        · rw [if_neg d3] at h
          exact absurd h (by simp)
      · rw [if_neg d2] at h
        exact absurd h (by simp)
/-! ### spec_ReadJob: function 28, by hand -/
def spec_ReadJob.g (l : List Int) (a1 a2 : Int) (a3 : ByteArray) (a4 : Int) (a5 a6 : ByteArray) (at_ : Int) (bad : Bool) : Option (Int × Int × ByteArray × Int × ByteArray × ByteArray × Bool × Bool × Int) :=
  if bad = true then some (0, 0, ByteArray.empty, 0, ByteArray.empty, ByteArray.empty, false, false, 3) else if at_ = wrap64 ((l.length : Int) - 1) then (if 0 ≤ at_ then (if at_ < (l.length : Int) then (if 3 < rd l at_ then some (0, 0, ByteArray.empty, 0, ByteArray.empty, ByteArray.empty, false, false, 3) else (spec_l09Job.f a1 a2 a3 a4 a5 a6 (Int.tmod (rd l at_) 2 == 1) (decide (1 < rd l at_))).bind fun b => (if b = true then some (a1, a2, a3, a4, a5, a6, (Int.tmod (rd l at_) 2 == 1), decide (1 < rd l at_), 0) else some (0, 0, ByteArray.empty, 0, ByteArray.empty, ByteArray.empty, false, false, 1))) else none) else none) else some (0, 0, ByteArray.empty, 0, ByteArray.empty, ByteArray.empty, false, false, 3)
def spec_ReadJob.f (k : Nat) (l : List Int) : Option (Int × Int × ByteArray × Int × ByteArray × ByteArray × Bool × Bool × Int) :=
  if (l.length : Int) > 65536 then some (0, 0, ByteArray.empty, 0, ByteArray.empty, ByteArray.empty, false, false, 2) else
  (spec_l09Reader_number.f k l 0 false).bind fun t1 => (spec_l09Reader_number.f k l t1.2.1 t1.2.2).bind fun t2 => (spec_l09Reader_text.f k l t2.2.1 t2.2.2).bind fun t3 => (spec_l09Reader_number.f k l t3.2.1 t3.2.2).bind fun t4 => (spec_l09Reader_text.f k l t4.2.1 t4.2.2).bind fun t5 => (spec_l09Reader_text.f k l t5.2.1 t5.2.2).bind fun t6 => spec_ReadJob.g l t1.1 t2.1 t3.1 t4.1 t5.1 t6.1 t6.2.1 t6.2.2
set_option maxHeartbeats 4000000 in
set_option maxRecDepth 100000 in
theorem spec_ReadJob.calls (k : Nat) (A0 : Option Addr) (c0 : Nat) (l0 : List Int) (r1 : Int) (r2 : Int) (r3 : ByteArray) (r4 : Int) (r5 : ByteArray) (r6 : ByteArray) (r7 : Bool) (r8 : Bool) (r9 : Int) (w : World) (hr0 : Kd.C (Kd.int .u8) w A0 l0.length l0) (hc0 : l0.length ≤ c0) (h : spec_ReadJob.f k l0 = some (r1, r2, r3, r4, r5, r6, r7, r8, r9)) :
    Calls Try.prog 28 #[.slice A0 l0.length c0] w fun e w' => e = .returned (.tuple #[.agg #[.int .i64 r1, .int .i64 r2, .string r3, .int .i64 r4, .string r5, .string r6, .bool r7, .bool r8], .int .i64 r9]) ∧ Below w.heap.size w w' := by
  have hu := Try.underlying32
  have hu2 := Try.underlying85
  have HR := Aside0.mk hr0
  have HC := Aside0.mk hc0
  have HB := Aside0.mk (Below.refl w.heap.size w)
  clear hr0 hc0
  unfold spec_ReadJob.f at h
  by_cases c1 : (l0.length : Int) > 65536
  · rw [if_pos c1] at h
    have cb1 : decide (65536 < l0.length) = true := decide_eq_true (by omega)
    have cb2 : decide (65536 < (l0.length : Int)) = true := decide_eq_true c1
    clear c1
    simp only [Option.some.injEq, Prod.mk.injEq] at h
    obtain ⟨rfl, rfl, rfl, rfl, rfl, rfl, rfl, rfl, rfl⟩ := h
    go_enter Try.func28, Try.ntmps28
    go_wp2_with (first | ((with_reducible refine gate_dst (N := 2) rfl ?_); refine box_event ?hg_1 (N := 2) ?hd_1 (cs := #[.int .i64 0, .int .i64 0, .string ByteArray.empty, .int .i64 0, .string ByteArray.empty, .string ByteArray.empty, .bool false, .bool false]) (t := 32) ?hr_1 ?_; (case hd_1 => rfl); (case hg_1 => rfl); (case hr_1 => first | (go_simp; done) | (go_simp; rfl)); intro gX1 hg w2 hbox hb; have hk := kept_below hb; obtain ⟨PX1, hPX1, HLX1⟩ := LB.fresh hg hbox; have HX1 := Aside0.mk HLX1; clear HLX1; have GEX1 := Aside0.mk (show w.heap.size ≤ gX1 from (by rw [hg]; exact HB.out.size)); replace HB := Aside0.mk (below_step HB.out hb); clear hb hk hbox hg hPX1; (try clear hxX1_0 hfX1_0 hxX1_1 hfX1_1 hxX1_2 hfX1_2 hxX1_3 hfX1_3 hxX1_4 hfX1_4 hxX1_5 hfX1_5 hxX1_6 hfX1_6 hxX1_7 hfX1_7); have hxX1_0 := (HX1.out.cell 0).trans (show _ = some (.int .i64 0) from rfl); have hfX1_0 := HX1.out.frozen 0; have hxX1_1 := (HX1.out.cell 1).trans (show _ = some (.int .i64 0) from rfl); have hfX1_1 := HX1.out.frozen 1; have hxX1_2 := (HX1.out.cell 2).trans (show _ = some (.string ByteArray.empty) from rfl); have hfX1_2 := HX1.out.frozen 2; have hxX1_3 := (HX1.out.cell 3).trans (show _ = some (.int .i64 0) from rfl); have hfX1_3 := HX1.out.frozen 3; have hxX1_4 := (HX1.out.cell 4).trans (show _ = some (.string ByteArray.empty) from rfl); have hfX1_4 := HX1.out.frozen 4; have hxX1_5 := (HX1.out.cell 5).trans (show _ = some (.string ByteArray.empty) from rfl); have hfX1_5 := HX1.out.frozen 5; have hxX1_6 := (HX1.out.cell 6).trans (show _ = some (.bool false) from rfl); have hfX1_6 := HX1.out.frozen 6; have hxX1_7 := (HX1.out.cell 7).trans (show _ = some (.bool false) from rfl); have hfX1_7 := HX1.out.frozen 7) | ((with_reducible refine gate_store (t := 32) (p := 2) rfl ?_); refine LB.storedW HX1.out HB.out GEX1.out [.int .i64 0, .int .i64 0, .string { data := #[] }, .int .i64 0, .string { data := #[] }, .string { data := #[] }, .bool false, .bool false] rfl rfl (t := 32) (p := 2) rfl rfl ?hr_2 ?_; (case hr_2 => first | (go_simp; done) | (go_simp; simp only [World.setCells, Nat.reduceAdd, Nat.zero_add]; done)); intro w2 hx hk hb; replace HB := Aside0.mk hb; replace HX1 := Aside0.mk (show LB w2 PX1 gX1 32 #[.int .i64 0, .int .i64 0, .string { data := #[] }, .int .i64 0, .string { data := #[] }, .string { data := #[] }, .bool false, .bool false] from hx); clear hk hx hb; (try clear hxX1_0 hfX1_0 hxX1_1 hfX1_1 hxX1_2 hfX1_2 hxX1_3 hfX1_3 hxX1_4 hfX1_4 hxX1_5 hfX1_5 hxX1_6 hfX1_6 hxX1_7 hfX1_7); have hxX1_0 := (HX1.out.cell 0).trans (show _ = some (.int .i64 0) from rfl); have hfX1_0 := HX1.out.frozen 0; have hxX1_1 := (HX1.out.cell 1).trans (show _ = some (.int .i64 0) from rfl); have hfX1_1 := HX1.out.frozen 1; have hxX1_2 := (HX1.out.cell 2).trans (show _ = some (.string { data := #[] }) from rfl); have hfX1_2 := HX1.out.frozen 2; have hxX1_3 := (HX1.out.cell 3).trans (show _ = some (.int .i64 0) from rfl); have hfX1_3 := HX1.out.frozen 3; have hxX1_4 := (HX1.out.cell 4).trans (show _ = some (.string { data := #[] }) from rfl); have hfX1_4 := HX1.out.frozen 4; have hxX1_5 := (HX1.out.cell 5).trans (show _ = some (.string { data := #[] }) from rfl); have hfX1_5 := HX1.out.frozen 5; have hxX1_6 := (HX1.out.cell 6).trans (show _ = some (.bool false) from rfl); have hfX1_6 := HX1.out.frozen 6; have hxX1_7 := (HX1.out.cell 7).trans (show _ = some (.bool false) from rfl); have hfX1_7 := HX1.out.frozen 7))
    refine bodyPost_ret (results_ct rfl _ _ gX1 32 #[.int .i64 0, .int .i64 0, .string { data := #[] }, .int .i64 0, .string { data := #[] }, .string { data := #[] }, .bool false, .bool false] (0, 0) _ rfl HX1.out.2.1 Try.underlying32 rfl (by kernel_rfl)) rfl ?_
    exact ⟨rfl, HB.out⟩
  rw [if_neg c1] at h
  have cb1 : decide (65536 < l0.length) = false := decide_eq_false (by omega)
  have cb2 : decide (65536 < (l0.length : Int)) = false := decide_eq_false c1
  clear c1
  obtain ⟨⟨t1, u1, b1⟩, e1, h⟩ := Option.bind_eq_some_iff.1 h
  have E1 := Aside0.mk e1
  clear e1
  obtain ⟨⟨t2, u2, b2⟩, e2, h⟩ := Option.bind_eq_some_iff.1 h
  have E2 := Aside0.mk e2
  clear e2
  obtain ⟨⟨t3, u3, b3⟩, e3, h⟩ := Option.bind_eq_some_iff.1 h
  have E3 := Aside0.mk e3
  clear e3
  obtain ⟨⟨t4, u4, b4⟩, e4, h⟩ := Option.bind_eq_some_iff.1 h
  have E4 := Aside0.mk e4
  clear e4
  obtain ⟨⟨t5, u5, b5⟩, e5, h⟩ := Option.bind_eq_some_iff.1 h
  have E5 := Aside0.mk e5
  clear e5
  obtain ⟨⟨t6, u6, b6⟩, e6, h⟩ := Option.bind_eq_some_iff.1 h
  have E6 := Aside0.mk e6
  clear e6
  simp only at h E1 E2 E3 E4 E5 E6
  unfold spec_ReadJob.g at h
  go_enter Try.func28, Try.ntmps28
  go_upto_region 5 with (first | ((with_reducible refine gate_dst (N := 2) rfl ?_); refine box_event ?hg_3 (N := 2) ?hd_3 (cs := #[.int .i64 0, .int .i64 0, .string ByteArray.empty, .int .i64 0, .string ByteArray.empty, .string ByteArray.empty, .bool false, .bool false]) (t := 32) ?hr_3 ?_; (case hd_3 => rfl); (case hg_3 => rfl); (case hr_3 => first | (go_simp; done) | (go_simp; rfl)); intro gX2 hg w2 hbox hb; have hk := kept_below hb; obtain ⟨PX2, hPX2, HLX2⟩ := LB.fresh hg hbox; have HX2 := Aside0.mk HLX2; clear HLX2; have GEX2 := Aside0.mk (show w.heap.size ≤ gX2 from (by rw [hg]; exact HB.out.size)); replace HB := Aside0.mk (below_step HB.out hb); clear hb hk hbox hg hPX2; (try clear hxX2_0 hfX2_0 hxX2_1 hfX2_1 hxX2_2 hfX2_2 hxX2_3 hfX2_3 hxX2_4 hfX2_4 hxX2_5 hfX2_5 hxX2_6 hfX2_6 hxX2_7 hfX2_7); have hxX2_0 := (HX2.out.cell 0).trans (show _ = some (.int .i64 0) from rfl); have hfX2_0 := HX2.out.frozen 0; have hxX2_1 := (HX2.out.cell 1).trans (show _ = some (.int .i64 0) from rfl); have hfX2_1 := HX2.out.frozen 1; have hxX2_2 := (HX2.out.cell 2).trans (show _ = some (.string ByteArray.empty) from rfl); have hfX2_2 := HX2.out.frozen 2; have hxX2_3 := (HX2.out.cell 3).trans (show _ = some (.int .i64 0) from rfl); have hfX2_3 := HX2.out.frozen 3; have hxX2_4 := (HX2.out.cell 4).trans (show _ = some (.string ByteArray.empty) from rfl); have hfX2_4 := HX2.out.frozen 4; have hxX2_5 := (HX2.out.cell 5).trans (show _ = some (.string ByteArray.empty) from rfl); have hfX2_5 := HX2.out.frozen 5; have hxX2_6 := (HX2.out.cell 6).trans (show _ = some (.bool false) from rfl); have hfX2_6 := HX2.out.frozen 6; have hxX2_7 := (HX2.out.cell 7).trans (show _ = some (.bool false) from rfl); have hfX2_7 := HX2.out.frozen 7) | ((with_reducible refine gate_dst (N := 12) rfl ?_); refine box_event ?hg_4 (N := 12) ?hd_4 (cs := #[.slice A0 l0.length c0, .int .i64 0, .bool false]) (t := 85) ?hr_4 ?_; (case hd_4 => rfl); (case hg_4 => rfl); (case hr_4 => first | (go_simp; done) | (go_simp; rfl)); intro gX3 hg w2 hbox hb; have hk := kept_below hb; obtain ⟨PX3, hPX3, HLX3⟩ := LB.fresh hg hbox; have HX3 := Aside0.mk HLX3; clear HLX3; have GEX3 := Aside0.mk (show w.heap.size ≤ gX3 from (by rw [hg]; exact HB.out.size)); have D_X2_X3 := Aside0.mk (new_apart HX2.out.lt hPX3); replace HX2 := Aside0.mk (HX2.out.step hk no_S); replace HB := Aside0.mk (below_step HB.out hb); clear hb hk hbox hg hPX3; (try clear hxX2_0 hfX2_0 hxX2_1 hfX2_1 hxX2_2 hfX2_2 hxX2_3 hfX2_3 hxX2_4 hfX2_4 hxX2_5 hfX2_5 hxX2_6 hfX2_6 hxX2_7 hfX2_7); have hxX2_0 := (HX2.out.cell 0).trans (show _ = some (.int .i64 0) from rfl); have hfX2_0 := HX2.out.frozen 0; have hxX2_1 := (HX2.out.cell 1).trans (show _ = some (.int .i64 0) from rfl); have hfX2_1 := HX2.out.frozen 1; have hxX2_2 := (HX2.out.cell 2).trans (show _ = some (.string ByteArray.empty) from rfl); have hfX2_2 := HX2.out.frozen 2; have hxX2_3 := (HX2.out.cell 3).trans (show _ = some (.int .i64 0) from rfl); have hfX2_3 := HX2.out.frozen 3; have hxX2_4 := (HX2.out.cell 4).trans (show _ = some (.string ByteArray.empty) from rfl); have hfX2_4 := HX2.out.frozen 4; have hxX2_5 := (HX2.out.cell 5).trans (show _ = some (.string ByteArray.empty) from rfl); have hfX2_5 := HX2.out.frozen 5; have hxX2_6 := (HX2.out.cell 6).trans (show _ = some (.bool false) from rfl); have hfX2_6 := HX2.out.frozen 6; have hxX2_7 := (HX2.out.cell 7).trans (show _ = some (.bool false) from rfl); have hfX2_7 := HX2.out.frozen 7; (try clear hxX3_0 hfX3_0 hxX3_1 hfX3_1 hxX3_2 hfX3_2); have hxX3_0 := (HX3.out.cell 0).trans (show _ = some (.slice A0 l0.length c0) from rfl); have hfX3_0 := HX3.out.frozen 0; have hxX3_1 := (HX3.out.cell 1).trans (show _ = some (.int .i64 0) from rfl); have hfX3_1 := HX3.out.frozen 1; have hxX3_2 := (HX3.out.cell 2).trans (show _ = some (.bool false) from rfl); have hfX3_2 := HX3.out.frozen 2) | ((with_reducible refine gate_dst (N := 14) rfl ?_); refine goesL_ (some 14) rfl rfl Try.func70 (by kernel_rfl) rfl #[.pointer (some ⟨gX3, 0, none⟩)] rfl (by (try simp only [List.map_toArray, List.map_cons, List.map_nil]); first | done | rfl) ?_; (with_reducible refine (spec_l09Reader_number.own k PX3 gX3 A0 c0 l0 0 false t1 u1 b1 w _ HB.out GEX3.out HX3.out HR.out HC.out E1.out).mono ?_); rintro e w2 ⟨rfl, hG, hb, hk⟩; refine ⟨_, rfl, ?_⟩; replace HX2 := Aside0.mk (HX2.out.step hk D_X2_X3.out); replace HX3 := Aside0.mk hG; replace HB := Aside0.mk hb; clear hG hb hk; (try clear hxX2_0 hfX2_0 hxX2_1 hfX2_1 hxX2_2 hfX2_2 hxX2_3 hfX2_3 hxX2_4 hfX2_4 hxX2_5 hfX2_5 hxX2_6 hfX2_6 hxX2_7 hfX2_7); have hxX2_0 := (HX2.out.cell 0).trans (show _ = some (.int .i64 0) from rfl); have hfX2_0 := HX2.out.frozen 0; have hxX2_1 := (HX2.out.cell 1).trans (show _ = some (.int .i64 0) from rfl); have hfX2_1 := HX2.out.frozen 1; have hxX2_2 := (HX2.out.cell 2).trans (show _ = some (.string ByteArray.empty) from rfl); have hfX2_2 := HX2.out.frozen 2; have hxX2_3 := (HX2.out.cell 3).trans (show _ = some (.int .i64 0) from rfl); have hfX2_3 := HX2.out.frozen 3; have hxX2_4 := (HX2.out.cell 4).trans (show _ = some (.string ByteArray.empty) from rfl); have hfX2_4 := HX2.out.frozen 4; have hxX2_5 := (HX2.out.cell 5).trans (show _ = some (.string ByteArray.empty) from rfl); have hfX2_5 := HX2.out.frozen 5; have hxX2_6 := (HX2.out.cell 6).trans (show _ = some (.bool false) from rfl); have hfX2_6 := HX2.out.frozen 6; have hxX2_7 := (HX2.out.cell 7).trans (show _ = some (.bool false) from rfl); have hfX2_7 := HX2.out.frozen 7; (try clear hxX3_0 hfX3_0 hxX3_1 hfX3_1 hxX3_2 hfX3_2); have hxX3_0 := (HX3.out.cell 0).trans (show _ = some (.slice A0 l0.length c0) from rfl); have hfX3_0 := HX3.out.frozen 0; have hxX3_1 := (HX3.out.cell 1).trans (show _ = some (.int .i64 u1) from rfl); have hfX3_1 := HX3.out.frozen 1; have hxX3_2 := (HX3.out.cell 2).trans (show _ = some (.bool b1) from rfl); have hfX3_2 := HX3.out.frozen 2) | ((with_reducible refine gate_dst (N := 16) rfl ?_); refine goesL_ (some 16) rfl rfl Try.func70 (by kernel_rfl) rfl #[.pointer (some ⟨gX3, 0, none⟩)] rfl (by (try simp only [List.map_toArray, List.map_cons, List.map_nil]); first | done | rfl) ?_; (with_reducible refine (spec_l09Reader_number.own k PX3 gX3 A0 c0 l0 u1 b1 t2 u2 b2 w _ HB.out GEX3.out HX3.out HR.out HC.out E2.out).mono ?_); rintro e w2 ⟨rfl, hG, hb, hk⟩; refine ⟨_, rfl, ?_⟩; replace HX2 := Aside0.mk (HX2.out.step hk D_X2_X3.out); replace HX3 := Aside0.mk hG; replace HB := Aside0.mk hb; clear hG hb hk; (try clear hxX2_0 hfX2_0 hxX2_1 hfX2_1 hxX2_2 hfX2_2 hxX2_3 hfX2_3 hxX2_4 hfX2_4 hxX2_5 hfX2_5 hxX2_6 hfX2_6 hxX2_7 hfX2_7); have hxX2_0 := (HX2.out.cell 0).trans (show _ = some (.int .i64 0) from rfl); have hfX2_0 := HX2.out.frozen 0; have hxX2_1 := (HX2.out.cell 1).trans (show _ = some (.int .i64 0) from rfl); have hfX2_1 := HX2.out.frozen 1; have hxX2_2 := (HX2.out.cell 2).trans (show _ = some (.string ByteArray.empty) from rfl); have hfX2_2 := HX2.out.frozen 2; have hxX2_3 := (HX2.out.cell 3).trans (show _ = some (.int .i64 0) from rfl); have hfX2_3 := HX2.out.frozen 3; have hxX2_4 := (HX2.out.cell 4).trans (show _ = some (.string ByteArray.empty) from rfl); have hfX2_4 := HX2.out.frozen 4; have hxX2_5 := (HX2.out.cell 5).trans (show _ = some (.string ByteArray.empty) from rfl); have hfX2_5 := HX2.out.frozen 5; have hxX2_6 := (HX2.out.cell 6).trans (show _ = some (.bool false) from rfl); have hfX2_6 := HX2.out.frozen 6; have hxX2_7 := (HX2.out.cell 7).trans (show _ = some (.bool false) from rfl); have hfX2_7 := HX2.out.frozen 7; (try clear hxX3_0 hfX3_0 hxX3_1 hfX3_1 hxX3_2 hfX3_2); have hxX3_0 := (HX3.out.cell 0).trans (show _ = some (.slice A0 l0.length c0) from rfl); have hfX3_0 := HX3.out.frozen 0; have hxX3_1 := (HX3.out.cell 1).trans (show _ = some (.int .i64 u2) from rfl); have hfX3_1 := HX3.out.frozen 1; have hxX3_2 := (HX3.out.cell 2).trans (show _ = some (.bool b2) from rfl); have hfX3_2 := HX3.out.frozen 2) | ((with_reducible refine gate_dst (N := 18) rfl ?_); refine goesL_ (some 18) rfl rfl Try.func71 (by kernel_rfl) rfl #[.pointer (some ⟨gX3, 0, none⟩)] rfl (by (try simp only [List.map_toArray, List.map_cons, List.map_nil]); first | done | rfl) ?_; (with_reducible refine (spec_l09Reader_text.own k PX3 gX3 A0 c0 l0 u2 b2 t3 u3 b3 w _ HB.out GEX3.out HX3.out HR.out HC.out E3.out).mono ?_); rintro e w2 ⟨rfl, hG, hb, hk⟩; refine ⟨_, rfl, ?_⟩; replace HX2 := Aside0.mk (HX2.out.step hk D_X2_X3.out); replace HX3 := Aside0.mk hG; replace HB := Aside0.mk hb; clear hG hb hk; (try clear hxX2_0 hfX2_0 hxX2_1 hfX2_1 hxX2_2 hfX2_2 hxX2_3 hfX2_3 hxX2_4 hfX2_4 hxX2_5 hfX2_5 hxX2_6 hfX2_6 hxX2_7 hfX2_7); have hxX2_0 := (HX2.out.cell 0).trans (show _ = some (.int .i64 0) from rfl); have hfX2_0 := HX2.out.frozen 0; have hxX2_1 := (HX2.out.cell 1).trans (show _ = some (.int .i64 0) from rfl); have hfX2_1 := HX2.out.frozen 1; have hxX2_2 := (HX2.out.cell 2).trans (show _ = some (.string ByteArray.empty) from rfl); have hfX2_2 := HX2.out.frozen 2; have hxX2_3 := (HX2.out.cell 3).trans (show _ = some (.int .i64 0) from rfl); have hfX2_3 := HX2.out.frozen 3; have hxX2_4 := (HX2.out.cell 4).trans (show _ = some (.string ByteArray.empty) from rfl); have hfX2_4 := HX2.out.frozen 4; have hxX2_5 := (HX2.out.cell 5).trans (show _ = some (.string ByteArray.empty) from rfl); have hfX2_5 := HX2.out.frozen 5; have hxX2_6 := (HX2.out.cell 6).trans (show _ = some (.bool false) from rfl); have hfX2_6 := HX2.out.frozen 6; have hxX2_7 := (HX2.out.cell 7).trans (show _ = some (.bool false) from rfl); have hfX2_7 := HX2.out.frozen 7; (try clear hxX3_0 hfX3_0 hxX3_1 hfX3_1 hxX3_2 hfX3_2); have hxX3_0 := (HX3.out.cell 0).trans (show _ = some (.slice A0 l0.length c0) from rfl); have hfX3_0 := HX3.out.frozen 0; have hxX3_1 := (HX3.out.cell 1).trans (show _ = some (.int .i64 u3) from rfl); have hfX3_1 := HX3.out.frozen 1; have hxX3_2 := (HX3.out.cell 2).trans (show _ = some (.bool b3) from rfl); have hfX3_2 := HX3.out.frozen 2) | ((with_reducible refine gate_dst (N := 20) rfl ?_); refine goesL_ (some 20) rfl rfl Try.func70 (by kernel_rfl) rfl #[.pointer (some ⟨gX3, 0, none⟩)] rfl (by (try simp only [List.map_toArray, List.map_cons, List.map_nil]); first | done | rfl) ?_; (with_reducible refine (spec_l09Reader_number.own k PX3 gX3 A0 c0 l0 u3 b3 t4 u4 b4 w _ HB.out GEX3.out HX3.out HR.out HC.out E4.out).mono ?_); rintro e w2 ⟨rfl, hG, hb, hk⟩; refine ⟨_, rfl, ?_⟩; replace HX2 := Aside0.mk (HX2.out.step hk D_X2_X3.out); replace HX3 := Aside0.mk hG; replace HB := Aside0.mk hb; clear hG hb hk; (try clear hxX2_0 hfX2_0 hxX2_1 hfX2_1 hxX2_2 hfX2_2 hxX2_3 hfX2_3 hxX2_4 hfX2_4 hxX2_5 hfX2_5 hxX2_6 hfX2_6 hxX2_7 hfX2_7); have hxX2_0 := (HX2.out.cell 0).trans (show _ = some (.int .i64 0) from rfl); have hfX2_0 := HX2.out.frozen 0; have hxX2_1 := (HX2.out.cell 1).trans (show _ = some (.int .i64 0) from rfl); have hfX2_1 := HX2.out.frozen 1; have hxX2_2 := (HX2.out.cell 2).trans (show _ = some (.string ByteArray.empty) from rfl); have hfX2_2 := HX2.out.frozen 2; have hxX2_3 := (HX2.out.cell 3).trans (show _ = some (.int .i64 0) from rfl); have hfX2_3 := HX2.out.frozen 3; have hxX2_4 := (HX2.out.cell 4).trans (show _ = some (.string ByteArray.empty) from rfl); have hfX2_4 := HX2.out.frozen 4; have hxX2_5 := (HX2.out.cell 5).trans (show _ = some (.string ByteArray.empty) from rfl); have hfX2_5 := HX2.out.frozen 5; have hxX2_6 := (HX2.out.cell 6).trans (show _ = some (.bool false) from rfl); have hfX2_6 := HX2.out.frozen 6; have hxX2_7 := (HX2.out.cell 7).trans (show _ = some (.bool false) from rfl); have hfX2_7 := HX2.out.frozen 7; (try clear hxX3_0 hfX3_0 hxX3_1 hfX3_1 hxX3_2 hfX3_2); have hxX3_0 := (HX3.out.cell 0).trans (show _ = some (.slice A0 l0.length c0) from rfl); have hfX3_0 := HX3.out.frozen 0; have hxX3_1 := (HX3.out.cell 1).trans (show _ = some (.int .i64 u4) from rfl); have hfX3_1 := HX3.out.frozen 1; have hxX3_2 := (HX3.out.cell 2).trans (show _ = some (.bool b4) from rfl); have hfX3_2 := HX3.out.frozen 2) | ((with_reducible refine gate_dst (N := 22) rfl ?_); refine goesL_ (some 22) rfl rfl Try.func71 (by kernel_rfl) rfl #[.pointer (some ⟨gX3, 0, none⟩)] rfl (by (try simp only [List.map_toArray, List.map_cons, List.map_nil]); first | done | rfl) ?_; (with_reducible refine (spec_l09Reader_text.own k PX3 gX3 A0 c0 l0 u4 b4 t5 u5 b5 w _ HB.out GEX3.out HX3.out HR.out HC.out E5.out).mono ?_); rintro e w2 ⟨rfl, hG, hb, hk⟩; refine ⟨_, rfl, ?_⟩; replace HX2 := Aside0.mk (HX2.out.step hk D_X2_X3.out); replace HX3 := Aside0.mk hG; replace HB := Aside0.mk hb; clear hG hb hk; (try clear hxX2_0 hfX2_0 hxX2_1 hfX2_1 hxX2_2 hfX2_2 hxX2_3 hfX2_3 hxX2_4 hfX2_4 hxX2_5 hfX2_5 hxX2_6 hfX2_6 hxX2_7 hfX2_7); have hxX2_0 := (HX2.out.cell 0).trans (show _ = some (.int .i64 0) from rfl); have hfX2_0 := HX2.out.frozen 0; have hxX2_1 := (HX2.out.cell 1).trans (show _ = some (.int .i64 0) from rfl); have hfX2_1 := HX2.out.frozen 1; have hxX2_2 := (HX2.out.cell 2).trans (show _ = some (.string ByteArray.empty) from rfl); have hfX2_2 := HX2.out.frozen 2; have hxX2_3 := (HX2.out.cell 3).trans (show _ = some (.int .i64 0) from rfl); have hfX2_3 := HX2.out.frozen 3; have hxX2_4 := (HX2.out.cell 4).trans (show _ = some (.string ByteArray.empty) from rfl); have hfX2_4 := HX2.out.frozen 4; have hxX2_5 := (HX2.out.cell 5).trans (show _ = some (.string ByteArray.empty) from rfl); have hfX2_5 := HX2.out.frozen 5; have hxX2_6 := (HX2.out.cell 6).trans (show _ = some (.bool false) from rfl); have hfX2_6 := HX2.out.frozen 6; have hxX2_7 := (HX2.out.cell 7).trans (show _ = some (.bool false) from rfl); have hfX2_7 := HX2.out.frozen 7; (try clear hxX3_0 hfX3_0 hxX3_1 hfX3_1 hxX3_2 hfX3_2); have hxX3_0 := (HX3.out.cell 0).trans (show _ = some (.slice A0 l0.length c0) from rfl); have hfX3_0 := HX3.out.frozen 0; have hxX3_1 := (HX3.out.cell 1).trans (show _ = some (.int .i64 u5) from rfl); have hfX3_1 := HX3.out.frozen 1; have hxX3_2 := (HX3.out.cell 2).trans (show _ = some (.bool b5) from rfl); have hfX3_2 := HX3.out.frozen 2) | ((with_reducible refine gate_dst (N := 24) rfl ?_); refine goesL_ (some 24) rfl rfl Try.func71 (by kernel_rfl) rfl #[.pointer (some ⟨gX3, 0, none⟩)] rfl (by (try simp only [List.map_toArray, List.map_cons, List.map_nil]); first | done | rfl) ?_; (with_reducible refine (spec_l09Reader_text.own k PX3 gX3 A0 c0 l0 u5 b5 t6 u6 b6 w _ HB.out GEX3.out HX3.out HR.out HC.out E6.out).mono ?_); rintro e w2 ⟨rfl, hG, hb, hk⟩; refine ⟨_, rfl, ?_⟩; replace HX2 := Aside0.mk (HX2.out.step hk D_X2_X3.out); replace HX3 := Aside0.mk hG; replace HB := Aside0.mk hb; clear hG hb hk; (try clear hxX2_0 hfX2_0 hxX2_1 hfX2_1 hxX2_2 hfX2_2 hxX2_3 hfX2_3 hxX2_4 hfX2_4 hxX2_5 hfX2_5 hxX2_6 hfX2_6 hxX2_7 hfX2_7); have hxX2_0 := (HX2.out.cell 0).trans (show _ = some (.int .i64 0) from rfl); have hfX2_0 := HX2.out.frozen 0; have hxX2_1 := (HX2.out.cell 1).trans (show _ = some (.int .i64 0) from rfl); have hfX2_1 := HX2.out.frozen 1; have hxX2_2 := (HX2.out.cell 2).trans (show _ = some (.string ByteArray.empty) from rfl); have hfX2_2 := HX2.out.frozen 2; have hxX2_3 := (HX2.out.cell 3).trans (show _ = some (.int .i64 0) from rfl); have hfX2_3 := HX2.out.frozen 3; have hxX2_4 := (HX2.out.cell 4).trans (show _ = some (.string ByteArray.empty) from rfl); have hfX2_4 := HX2.out.frozen 4; have hxX2_5 := (HX2.out.cell 5).trans (show _ = some (.string ByteArray.empty) from rfl); have hfX2_5 := HX2.out.frozen 5; have hxX2_6 := (HX2.out.cell 6).trans (show _ = some (.bool false) from rfl); have hfX2_6 := HX2.out.frozen 6; have hxX2_7 := (HX2.out.cell 7).trans (show _ = some (.bool false) from rfl); have hfX2_7 := HX2.out.frozen 7; (try clear hxX3_0 hfX3_0 hxX3_1 hfX3_1 hxX3_2 hfX3_2); have hxX3_0 := (HX3.out.cell 0).trans (show _ = some (.slice A0 l0.length c0) from rfl); have hfX3_0 := HX3.out.frozen 0; have hxX3_1 := (HX3.out.cell 1).trans (show _ = some (.int .i64 u6) from rfl); have hfX3_1 := HX3.out.frozen 1; have hxX3_2 := (HX3.out.cell 2).trans (show _ = some (.bool b6) from rfl); have hfX3_2 := HX3.out.frozen 2) | ((with_reducible refine gate_dst (N := 5) rfl ?_); refine box_event ?hg_5 (N := 5) ?hd_5 (cs := #[.int .i64 0, .int .i64 0, .string ByteArray.empty, .int .i64 0, .string ByteArray.empty, .string ByteArray.empty, .bool false, .bool false]) (t := 32) ?hr_5 ?_; (case hd_5 => rfl); (case hg_5 => rfl); (case hr_5 => first | (go_simp; done) | (go_simp; rfl)); intro gX4 hg w2 hbox hb; have hk := kept_below hb; obtain ⟨PX4, hPX4, HLX4⟩ := LB.fresh hg hbox; have HX4 := Aside0.mk HLX4; clear HLX4; have GEX4 := Aside0.mk (show w.heap.size ≤ gX4 from (by rw [hg]; exact HB.out.size)); have D_X2_X4 := Aside0.mk (new_apart HX2.out.lt hPX4); have D_X3_X4 := Aside0.mk (new_apart HX3.out.lt hPX4); replace HX2 := Aside0.mk (HX2.out.step hk no_S); replace HX3 := Aside0.mk (HX3.out.step hk no_S); replace HB := Aside0.mk (below_step HB.out hb); clear hb hk hbox hg hPX4; (try clear hxX2_0 hfX2_0 hxX2_1 hfX2_1 hxX2_2 hfX2_2 hxX2_3 hfX2_3 hxX2_4 hfX2_4 hxX2_5 hfX2_5 hxX2_6 hfX2_6 hxX2_7 hfX2_7); have hxX2_0 := (HX2.out.cell 0).trans (show _ = some (.int .i64 0) from rfl); have hfX2_0 := HX2.out.frozen 0; have hxX2_1 := (HX2.out.cell 1).trans (show _ = some (.int .i64 0) from rfl); have hfX2_1 := HX2.out.frozen 1; have hxX2_2 := (HX2.out.cell 2).trans (show _ = some (.string ByteArray.empty) from rfl); have hfX2_2 := HX2.out.frozen 2; have hxX2_3 := (HX2.out.cell 3).trans (show _ = some (.int .i64 0) from rfl); have hfX2_3 := HX2.out.frozen 3; have hxX2_4 := (HX2.out.cell 4).trans (show _ = some (.string ByteArray.empty) from rfl); have hfX2_4 := HX2.out.frozen 4; have hxX2_5 := (HX2.out.cell 5).trans (show _ = some (.string ByteArray.empty) from rfl); have hfX2_5 := HX2.out.frozen 5; have hxX2_6 := (HX2.out.cell 6).trans (show _ = some (.bool false) from rfl); have hfX2_6 := HX2.out.frozen 6; have hxX2_7 := (HX2.out.cell 7).trans (show _ = some (.bool false) from rfl); have hfX2_7 := HX2.out.frozen 7; (try clear hxX3_0 hfX3_0 hxX3_1 hfX3_1 hxX3_2 hfX3_2); have hxX3_0 := (HX3.out.cell 0).trans (show _ = some (.slice A0 l0.length c0) from rfl); have hfX3_0 := HX3.out.frozen 0; have hxX3_1 := (HX3.out.cell 1).trans (show _ = some (.int .i64 u6) from rfl); have hfX3_1 := HX3.out.frozen 1; have hxX3_2 := (HX3.out.cell 2).trans (show _ = some (.bool b6) from rfl); have hfX3_2 := HX3.out.frozen 2; (try clear hxX4_0 hfX4_0 hxX4_1 hfX4_1 hxX4_2 hfX4_2 hxX4_3 hfX4_3 hxX4_4 hfX4_4 hxX4_5 hfX4_5 hxX4_6 hfX4_6 hxX4_7 hfX4_7); have hxX4_0 := (HX4.out.cell 0).trans (show _ = some (.int .i64 0) from rfl); have hfX4_0 := HX4.out.frozen 0; have hxX4_1 := (HX4.out.cell 1).trans (show _ = some (.int .i64 0) from rfl); have hfX4_1 := HX4.out.frozen 1; have hxX4_2 := (HX4.out.cell 2).trans (show _ = some (.string ByteArray.empty) from rfl); have hfX4_2 := HX4.out.frozen 2; have hxX4_3 := (HX4.out.cell 3).trans (show _ = some (.int .i64 0) from rfl); have hfX4_3 := HX4.out.frozen 3; have hxX4_4 := (HX4.out.cell 4).trans (show _ = some (.string ByteArray.empty) from rfl); have hfX4_4 := HX4.out.frozen 4; have hxX4_5 := (HX4.out.cell 5).trans (show _ = some (.string ByteArray.empty) from rfl); have hfX4_5 := HX4.out.frozen 5; have hxX4_6 := (HX4.out.cell 6).trans (show _ = some (.bool false) from rfl); have hfX4_6 := HX4.out.frozen 6; have hxX4_7 := (HX4.out.cell 7).trans (show _ = some (.bool false) from rfl); have hfX4_7 := HX4.out.frozen 7) | ((with_reducible refine gate_store (t := 32) (p := 5) rfl ?_); refine LB.storedW HX4.out HB.out GEX4.out [.int .i64 t1, .int .i64 t2, .string t3, .int .i64 t4, .string t5, .string t6, .bool false, .bool false] rfl rfl (t := 32) (p := 5) rfl rfl ?hr_6 ?_; (case hr_6 => first | (go_simp; done) | (go_simp; simp only [World.setCells, Nat.reduceAdd, Nat.zero_add]; done)); intro w2 hx hk hb; replace HX2 := Aside0.mk (HX2.out.step hk D_X2_X4.out); replace HX3 := Aside0.mk (HX3.out.step hk D_X3_X4.out); replace HB := Aside0.mk hb; replace HX4 := Aside0.mk (show LB w2 PX4 gX4 32 #[.int .i64 t1, .int .i64 t2, .string t3, .int .i64 t4, .string t5, .string t6, .bool false, .bool false] from hx); clear hk hx hb; (try clear hxX2_0 hfX2_0 hxX2_1 hfX2_1 hxX2_2 hfX2_2 hxX2_3 hfX2_3 hxX2_4 hfX2_4 hxX2_5 hfX2_5 hxX2_6 hfX2_6 hxX2_7 hfX2_7); have hxX2_0 := (HX2.out.cell 0).trans (show _ = some (.int .i64 0) from rfl); have hfX2_0 := HX2.out.frozen 0; have hxX2_1 := (HX2.out.cell 1).trans (show _ = some (.int .i64 0) from rfl); have hfX2_1 := HX2.out.frozen 1; have hxX2_2 := (HX2.out.cell 2).trans (show _ = some (.string ByteArray.empty) from rfl); have hfX2_2 := HX2.out.frozen 2; have hxX2_3 := (HX2.out.cell 3).trans (show _ = some (.int .i64 0) from rfl); have hfX2_3 := HX2.out.frozen 3; have hxX2_4 := (HX2.out.cell 4).trans (show _ = some (.string ByteArray.empty) from rfl); have hfX2_4 := HX2.out.frozen 4; have hxX2_5 := (HX2.out.cell 5).trans (show _ = some (.string ByteArray.empty) from rfl); have hfX2_5 := HX2.out.frozen 5; have hxX2_6 := (HX2.out.cell 6).trans (show _ = some (.bool false) from rfl); have hfX2_6 := HX2.out.frozen 6; have hxX2_7 := (HX2.out.cell 7).trans (show _ = some (.bool false) from rfl); have hfX2_7 := HX2.out.frozen 7; (try clear hxX3_0 hfX3_0 hxX3_1 hfX3_1 hxX3_2 hfX3_2); have hxX3_0 := (HX3.out.cell 0).trans (show _ = some (.slice A0 l0.length c0) from rfl); have hfX3_0 := HX3.out.frozen 0; have hxX3_1 := (HX3.out.cell 1).trans (show _ = some (.int .i64 u6) from rfl); have hfX3_1 := HX3.out.frozen 1; have hxX3_2 := (HX3.out.cell 2).trans (show _ = some (.bool b6) from rfl); have hfX3_2 := HX3.out.frozen 2; (try clear hxX4_0 hfX4_0 hxX4_1 hfX4_1 hxX4_2 hfX4_2 hxX4_3 hfX4_3 hxX4_4 hfX4_4 hxX4_5 hfX4_5 hxX4_6 hfX4_6 hxX4_7 hfX4_7); have hxX4_0 := (HX4.out.cell 0).trans (show _ = some (.int .i64 t1) from rfl); have hfX4_0 := HX4.out.frozen 0; have hxX4_1 := (HX4.out.cell 1).trans (show _ = some (.int .i64 t2) from rfl); have hfX4_1 := HX4.out.frozen 1; have hxX4_2 := (HX4.out.cell 2).trans (show _ = some (.string t3) from rfl); have hfX4_2 := HX4.out.frozen 2; have hxX4_3 := (HX4.out.cell 3).trans (show _ = some (.int .i64 t4) from rfl); have hfX4_3 := HX4.out.frozen 3; have hxX4_4 := (HX4.out.cell 4).trans (show _ = some (.string t5) from rfl); have hfX4_4 := HX4.out.frozen 4; have hxX4_5 := (HX4.out.cell 5).trans (show _ = some (.string t6) from rfl); have hfX4_5 := HX4.out.frozen 5; have hxX4_6 := (HX4.out.cell 6).trans (show _ = some (.bool false) from rfl); have hfX4_6 := HX4.out.frozen 6; have hxX4_7 := (HX4.out.cell 7).trans (show _ = some (.bool false) from rfl); have hfX4_7 := HX4.out.frozen 7))
  cases b6 with
  | true =>
    rw [if_pos rfl] at h
    simp only [Option.some.injEq, Prod.mk.injEq] at h
    obtain ⟨rfl, rfl, rfl, rfl, rfl, rfl, rfl, rfl, rfl⟩ := h
    go_wp2_with (first | ((with_reducible refine gate_store (t := 32) (p := 2) rfl ?_); refine LB.storedW HX2.out HB.out GEX2.out [.int .i64 0, .int .i64 0, .string { data := #[] }, .int .i64 0, .string { data := #[] }, .string { data := #[] }, .bool false, .bool false] rfl rfl (t := 32) (p := 2) rfl rfl ?hr_7 ?_; (case hr_7 => first | (go_simp; done) | (go_simp; simp only [World.setCells, Nat.reduceAdd, Nat.zero_add]; done)); intro w2 hx hk hb; replace HX3 := Aside0.mk (HX3.out.step hk (apart_symm D_X2_X3.out)); replace HX4 := Aside0.mk (HX4.out.step hk (apart_symm D_X2_X4.out)); replace HB := Aside0.mk hb; replace HX2 := Aside0.mk (show LB w2 PX2 gX2 32 #[.int .i64 0, .int .i64 0, .string { data := #[] }, .int .i64 0, .string { data := #[] }, .string { data := #[] }, .bool false, .bool false] from hx); clear hk hx hb; (try clear hxX2_0 hfX2_0 hxX2_1 hfX2_1 hxX2_2 hfX2_2 hxX2_3 hfX2_3 hxX2_4 hfX2_4 hxX2_5 hfX2_5 hxX2_6 hfX2_6 hxX2_7 hfX2_7); have hxX2_0 := (HX2.out.cell 0).trans (show _ = some (.int .i64 0) from rfl); have hfX2_0 := HX2.out.frozen 0; have hxX2_1 := (HX2.out.cell 1).trans (show _ = some (.int .i64 0) from rfl); have hfX2_1 := HX2.out.frozen 1; have hxX2_2 := (HX2.out.cell 2).trans (show _ = some (.string { data := #[] }) from rfl); have hfX2_2 := HX2.out.frozen 2; have hxX2_3 := (HX2.out.cell 3).trans (show _ = some (.int .i64 0) from rfl); have hfX2_3 := HX2.out.frozen 3; have hxX2_4 := (HX2.out.cell 4).trans (show _ = some (.string { data := #[] }) from rfl); have hfX2_4 := HX2.out.frozen 4; have hxX2_5 := (HX2.out.cell 5).trans (show _ = some (.string { data := #[] }) from rfl); have hfX2_5 := HX2.out.frozen 5; have hxX2_6 := (HX2.out.cell 6).trans (show _ = some (.bool false) from rfl); have hfX2_6 := HX2.out.frozen 6; have hxX2_7 := (HX2.out.cell 7).trans (show _ = some (.bool false) from rfl); have hfX2_7 := HX2.out.frozen 7; (try clear hxX3_0 hfX3_0 hxX3_1 hfX3_1 hxX3_2 hfX3_2); have hxX3_0 := (HX3.out.cell 0).trans (show _ = some (.slice A0 l0.length c0) from rfl); have hfX3_0 := HX3.out.frozen 0; have hxX3_1 := (HX3.out.cell 1).trans (show _ = some (.int .i64 u6) from rfl); have hfX3_1 := HX3.out.frozen 1; have hxX3_2 := (HX3.out.cell 2).trans (show _ = some (.bool true) from rfl); have hfX3_2 := HX3.out.frozen 2; (try clear hxX4_0 hfX4_0 hxX4_1 hfX4_1 hxX4_2 hfX4_2 hxX4_3 hfX4_3 hxX4_4 hfX4_4 hxX4_5 hfX4_5 hxX4_6 hfX4_6 hxX4_7 hfX4_7); have hxX4_0 := (HX4.out.cell 0).trans (show _ = some (.int .i64 t1) from rfl); have hfX4_0 := HX4.out.frozen 0; have hxX4_1 := (HX4.out.cell 1).trans (show _ = some (.int .i64 t2) from rfl); have hfX4_1 := HX4.out.frozen 1; have hxX4_2 := (HX4.out.cell 2).trans (show _ = some (.string t3) from rfl); have hfX4_2 := HX4.out.frozen 2; have hxX4_3 := (HX4.out.cell 3).trans (show _ = some (.int .i64 t4) from rfl); have hfX4_3 := HX4.out.frozen 3; have hxX4_4 := (HX4.out.cell 4).trans (show _ = some (.string t5) from rfl); have hfX4_4 := HX4.out.frozen 4; have hxX4_5 := (HX4.out.cell 5).trans (show _ = some (.string t6) from rfl); have hfX4_5 := HX4.out.frozen 5; have hxX4_6 := (HX4.out.cell 6).trans (show _ = some (.bool false) from rfl); have hfX4_6 := HX4.out.frozen 6; have hxX4_7 := (HX4.out.cell 7).trans (show _ = some (.bool false) from rfl); have hfX4_7 := HX4.out.frozen 7))
    refine bodyPost_ret (results_ct rfl _ _ gX2 32 #[.int .i64 0, .int .i64 0, .string { data := #[] }, .int .i64 0, .string { data := #[] }, .string { data := #[] }, .bool false, .bool false] (0, 0) _ rfl HX2.out.2.1 Try.underlying32 rfl (by kernel_rfl)) rfl ?_
    exact ⟨rfl, HB.out⟩
  | false =>
    rw [if_neg (by simp)] at h
    by_cases c2 : u6 = wrap64 ((l0.length : Int) - 1)
    · rw [if_pos c2] at h
      have cb3 : (u6 == wrap64 ((l0.length : Int) - 1)) = true := beq_iff_eq.mpr c2
      have cb4 : (u6 != wrap64 ((l0.length : Int) - 1)) = false := bne_eq_false_iff_eq.mpr c2
      clear c2
      by_cases d1 : 0 ≤ u6
      · rw [if_pos d1] at h
        by_cases d2 : u6 < (l0.length : Int)
        · rw [if_pos d2] at h
          have D1 := Aside0.mk d1
          have D2 := Aside0.mk d2
          have d1e := eq_true d1
          have d2e := eq_true d2
          clear d1 d2
          obtain ⟨z, hz⟩ : ∃ z_ : Int, z_ = rd l0 u6 := ⟨_, rfl⟩
          rw [← hz] at h
          have NZ := Aside0.mk hz
          clear hz
          (try clear hz0)
          obtain ⟨ad1, ea1, hz1⟩ := Kd.at_int (Kd.C_below HR.out HB.out) u6 D1.out D2.out
          cases ea1
          rw [← NZ.out] at hz1
          by_cases c3 : 3 < z
          · rw [if_pos c3] at h
            have cb5 : decide (3 < z) = true := decide_eq_true c3
            clear c3
            simp only [Option.some.injEq, Prod.mk.injEq] at h
            obtain ⟨rfl, rfl, rfl, rfl, rfl, rfl, rfl, rfl, rfl⟩ := h
            go_wp2_with (first | ((with_reducible refine gate_store (t := 32) (p := 2) rfl ?_); refine LB.storedW HX2.out HB.out GEX2.out [.int .i64 0, .int .i64 0, .string { data := #[] }, .int .i64 0, .string { data := #[] }, .string { data := #[] }, .bool false, .bool false] rfl rfl (t := 32) (p := 2) rfl rfl ?hr_8 ?_; (case hr_8 => first | (go_simp; done) | (go_simp; simp only [World.setCells, Nat.reduceAdd, Nat.zero_add]; done)); intro w2 hx hk hb; replace HX3 := Aside0.mk (HX3.out.step hk (apart_symm D_X2_X3.out)); replace HX4 := Aside0.mk (HX4.out.step hk (apart_symm D_X2_X4.out)); replace HB := Aside0.mk hb; replace HX2 := Aside0.mk (show LB w2 PX2 gX2 32 #[.int .i64 0, .int .i64 0, .string { data := #[] }, .int .i64 0, .string { data := #[] }, .string { data := #[] }, .bool false, .bool false] from hx); clear hk hx hb; (try clear hxX2_0 hfX2_0 hxX2_1 hfX2_1 hxX2_2 hfX2_2 hxX2_3 hfX2_3 hxX2_4 hfX2_4 hxX2_5 hfX2_5 hxX2_6 hfX2_6 hxX2_7 hfX2_7); have hxX2_0 := (HX2.out.cell 0).trans (show _ = some (.int .i64 0) from rfl); have hfX2_0 := HX2.out.frozen 0; have hxX2_1 := (HX2.out.cell 1).trans (show _ = some (.int .i64 0) from rfl); have hfX2_1 := HX2.out.frozen 1; have hxX2_2 := (HX2.out.cell 2).trans (show _ = some (.string { data := #[] }) from rfl); have hfX2_2 := HX2.out.frozen 2; have hxX2_3 := (HX2.out.cell 3).trans (show _ = some (.int .i64 0) from rfl); have hfX2_3 := HX2.out.frozen 3; have hxX2_4 := (HX2.out.cell 4).trans (show _ = some (.string { data := #[] }) from rfl); have hfX2_4 := HX2.out.frozen 4; have hxX2_5 := (HX2.out.cell 5).trans (show _ = some (.string { data := #[] }) from rfl); have hfX2_5 := HX2.out.frozen 5; have hxX2_6 := (HX2.out.cell 6).trans (show _ = some (.bool false) from rfl); have hfX2_6 := HX2.out.frozen 6; have hxX2_7 := (HX2.out.cell 7).trans (show _ = some (.bool false) from rfl); have hfX2_7 := HX2.out.frozen 7; (try clear hxX3_0 hfX3_0 hxX3_1 hfX3_1 hxX3_2 hfX3_2); have hxX3_0 := (HX3.out.cell 0).trans (show _ = some (.slice (some ad1) l0.length c0) from rfl); have hfX3_0 := HX3.out.frozen 0; have hxX3_1 := (HX3.out.cell 1).trans (show _ = some (.int .i64 u6) from rfl); have hfX3_1 := HX3.out.frozen 1; have hxX3_2 := (HX3.out.cell 2).trans (show _ = some (.bool false) from rfl); have hfX3_2 := HX3.out.frozen 2; (try clear hxX4_0 hfX4_0 hxX4_1 hfX4_1 hxX4_2 hfX4_2 hxX4_3 hfX4_3 hxX4_4 hfX4_4 hxX4_5 hfX4_5 hxX4_6 hfX4_6 hxX4_7 hfX4_7); have hxX4_0 := (HX4.out.cell 0).trans (show _ = some (.int .i64 t1) from rfl); have hfX4_0 := HX4.out.frozen 0; have hxX4_1 := (HX4.out.cell 1).trans (show _ = some (.int .i64 t2) from rfl); have hfX4_1 := HX4.out.frozen 1; have hxX4_2 := (HX4.out.cell 2).trans (show _ = some (.string t3) from rfl); have hfX4_2 := HX4.out.frozen 2; have hxX4_3 := (HX4.out.cell 3).trans (show _ = some (.int .i64 t4) from rfl); have hfX4_3 := HX4.out.frozen 3; have hxX4_4 := (HX4.out.cell 4).trans (show _ = some (.string t5) from rfl); have hfX4_4 := HX4.out.frozen 4; have hxX4_5 := (HX4.out.cell 5).trans (show _ = some (.string t6) from rfl); have hfX4_5 := HX4.out.frozen 5; have hxX4_6 := (HX4.out.cell 6).trans (show _ = some (.bool false) from rfl); have hfX4_6 := HX4.out.frozen 6; have hxX4_7 := (HX4.out.cell 7).trans (show _ = some (.bool false) from rfl); have hfX4_7 := HX4.out.frozen 7))
            refine bodyPost_ret (results_ct rfl _ _ gX2 32 #[.int .i64 0, .int .i64 0, .string { data := #[] }, .int .i64 0, .string { data := #[] }, .string { data := #[] }, .bool false, .bool false] (0, 0) _ rfl HX2.out.2.1 Try.underlying32 rfl (by kernel_rfl)) rfl ?_
            exact ⟨rfl, HB.out⟩
          · rw [if_neg c3] at h
            have cb5 : decide (3 < z) = false := decide_eq_false c3
            clear c3
            obtain ⟨g7, hg7⟩ : ∃ q_ : Bool, q_ = (Int.tmod z 2 == 1) := ⟨_, rfl⟩
            obtain ⟨g8, hg8⟩ : ∃ q_ : Bool, q_ = decide (1 < z) := ⟨_, rfl⟩
            rw [← hg7, ← hg8] at h
            have hg7' : (Int.tmod z 2 == 1) = g7 := hg7.symm
            have hg8' : decide (1 < z) = g8 := hg8.symm
            clear hg7 hg8
            obtain ⟨b9, e9, h⟩ := Option.bind_eq_some_iff.1 h
            have E9 := Aside0.mk e9
            clear e9
            cases b9 with
            | true =>
              rw [if_pos rfl] at h
              simp only [Option.some.injEq, Prod.mk.injEq] at h
              obtain ⟨rfl, rfl, rfl, rfl, rfl, rfl, rfl, rfl, rfl⟩ := h
              go_wp2_with (first | ((with_reducible refine gate_store (t := 4) (p := 60) rfl ?_); refine LB.stored HX4.out HB.out GEX4.out 6 [.bool g7] rfl (t := 4) (p := 60) rfl rfl ?hr_9 ?_; (case hr_9 => first | (go_simp; done) | (go_simp; simp only [World.setCells, Nat.reduceAdd, Nat.zero_add]; done)); intro w2 hx hk hb; replace HX2 := Aside0.mk (HX2.out.step hk D_X2_X4.out); replace HX3 := Aside0.mk (HX3.out.step hk D_X3_X4.out); replace HB := Aside0.mk hb; replace HX4 := Aside0.mk (show LB w2 PX4 gX4 32 #[.int .i64 t1, .int .i64 t2, .string t3, .int .i64 t4, .string t5, .string t6, .bool g7, .bool false] from hx); clear hk hx hb; (try clear hxX2_0 hfX2_0 hxX2_1 hfX2_1 hxX2_2 hfX2_2 hxX2_3 hfX2_3 hxX2_4 hfX2_4 hxX2_5 hfX2_5 hxX2_6 hfX2_6 hxX2_7 hfX2_7); have hxX2_0 := (HX2.out.cell 0).trans (show _ = some (.int .i64 0) from rfl); have hfX2_0 := HX2.out.frozen 0; have hxX2_1 := (HX2.out.cell 1).trans (show _ = some (.int .i64 0) from rfl); have hfX2_1 := HX2.out.frozen 1; have hxX2_2 := (HX2.out.cell 2).trans (show _ = some (.string ByteArray.empty) from rfl); have hfX2_2 := HX2.out.frozen 2; have hxX2_3 := (HX2.out.cell 3).trans (show _ = some (.int .i64 0) from rfl); have hfX2_3 := HX2.out.frozen 3; have hxX2_4 := (HX2.out.cell 4).trans (show _ = some (.string ByteArray.empty) from rfl); have hfX2_4 := HX2.out.frozen 4; have hxX2_5 := (HX2.out.cell 5).trans (show _ = some (.string ByteArray.empty) from rfl); have hfX2_5 := HX2.out.frozen 5; have hxX2_6 := (HX2.out.cell 6).trans (show _ = some (.bool false) from rfl); have hfX2_6 := HX2.out.frozen 6; have hxX2_7 := (HX2.out.cell 7).trans (show _ = some (.bool false) from rfl); have hfX2_7 := HX2.out.frozen 7; (try clear hxX3_0 hfX3_0 hxX3_1 hfX3_1 hxX3_2 hfX3_2); have hxX3_0 := (HX3.out.cell 0).trans (show _ = some (.slice (some ad1) l0.length c0) from rfl); have hfX3_0 := HX3.out.frozen 0; have hxX3_1 := (HX3.out.cell 1).trans (show _ = some (.int .i64 u6) from rfl); have hfX3_1 := HX3.out.frozen 1; have hxX3_2 := (HX3.out.cell 2).trans (show _ = some (.bool false) from rfl); have hfX3_2 := HX3.out.frozen 2; (try clear hxX4_0 hfX4_0 hxX4_1 hfX4_1 hxX4_2 hfX4_2 hxX4_3 hfX4_3 hxX4_4 hfX4_4 hxX4_5 hfX4_5 hxX4_6 hfX4_6 hxX4_7 hfX4_7); have hxX4_0 := (HX4.out.cell 0).trans (show _ = some (.int .i64 t1) from rfl); have hfX4_0 := HX4.out.frozen 0; have hxX4_1 := (HX4.out.cell 1).trans (show _ = some (.int .i64 t2) from rfl); have hfX4_1 := HX4.out.frozen 1; have hxX4_2 := (HX4.out.cell 2).trans (show _ = some (.string t3) from rfl); have hfX4_2 := HX4.out.frozen 2; have hxX4_3 := (HX4.out.cell 3).trans (show _ = some (.int .i64 t4) from rfl); have hfX4_3 := HX4.out.frozen 3; have hxX4_4 := (HX4.out.cell 4).trans (show _ = some (.string t5) from rfl); have hfX4_4 := HX4.out.frozen 4; have hxX4_5 := (HX4.out.cell 5).trans (show _ = some (.string t6) from rfl); have hfX4_5 := HX4.out.frozen 5; have hxX4_6 := (HX4.out.cell 6).trans (show _ = some (.bool g7) from rfl); have hfX4_6 := HX4.out.frozen 6; have hxX4_7 := (HX4.out.cell 7).trans (show _ = some (.bool false) from rfl); have hfX4_7 := HX4.out.frozen 7; (try clear hz1); obtain ⟨ad2, ea2, hz2⟩ := Kd.at_int (Kd.C_below HR.out HB.out) u6 D1.out D2.out; cases ea2; rw [← NZ.out] at hz2) | ((with_reducible refine gate_store (t := 4) (p := 69) rfl ?_); refine LB.stored HX4.out HB.out GEX4.out 7 [.bool g8] rfl (t := 4) (p := 69) rfl rfl ?hr_10 ?_; (case hr_10 => first | (go_simp; done) | (go_simp; simp only [World.setCells, Nat.reduceAdd, Nat.zero_add]; done)); intro w2 hx hk hb; replace HX2 := Aside0.mk (HX2.out.step hk D_X2_X4.out); replace HX3 := Aside0.mk (HX3.out.step hk D_X3_X4.out); replace HB := Aside0.mk hb; replace HX4 := Aside0.mk (show LB w2 PX4 gX4 32 #[.int .i64 t1, .int .i64 t2, .string t3, .int .i64 t4, .string t5, .string t6, .bool g7, .bool g8] from hx); clear hk hx hb; (try clear hxX2_0 hfX2_0 hxX2_1 hfX2_1 hxX2_2 hfX2_2 hxX2_3 hfX2_3 hxX2_4 hfX2_4 hxX2_5 hfX2_5 hxX2_6 hfX2_6 hxX2_7 hfX2_7); have hxX2_0 := (HX2.out.cell 0).trans (show _ = some (.int .i64 0) from rfl); have hfX2_0 := HX2.out.frozen 0; have hxX2_1 := (HX2.out.cell 1).trans (show _ = some (.int .i64 0) from rfl); have hfX2_1 := HX2.out.frozen 1; have hxX2_2 := (HX2.out.cell 2).trans (show _ = some (.string ByteArray.empty) from rfl); have hfX2_2 := HX2.out.frozen 2; have hxX2_3 := (HX2.out.cell 3).trans (show _ = some (.int .i64 0) from rfl); have hfX2_3 := HX2.out.frozen 3; have hxX2_4 := (HX2.out.cell 4).trans (show _ = some (.string ByteArray.empty) from rfl); have hfX2_4 := HX2.out.frozen 4; have hxX2_5 := (HX2.out.cell 5).trans (show _ = some (.string ByteArray.empty) from rfl); have hfX2_5 := HX2.out.frozen 5; have hxX2_6 := (HX2.out.cell 6).trans (show _ = some (.bool false) from rfl); have hfX2_6 := HX2.out.frozen 6; have hxX2_7 := (HX2.out.cell 7).trans (show _ = some (.bool false) from rfl); have hfX2_7 := HX2.out.frozen 7; (try clear hxX3_0 hfX3_0 hxX3_1 hfX3_1 hxX3_2 hfX3_2); have hxX3_0 := (HX3.out.cell 0).trans (show _ = some (.slice (some ad1) l0.length c0) from rfl); have hfX3_0 := HX3.out.frozen 0; have hxX3_1 := (HX3.out.cell 1).trans (show _ = some (.int .i64 u6) from rfl); have hfX3_1 := HX3.out.frozen 1; have hxX3_2 := (HX3.out.cell 2).trans (show _ = some (.bool false) from rfl); have hfX3_2 := HX3.out.frozen 2; (try clear hxX4_0 hfX4_0 hxX4_1 hfX4_1 hxX4_2 hfX4_2 hxX4_3 hfX4_3 hxX4_4 hfX4_4 hxX4_5 hfX4_5 hxX4_6 hfX4_6 hxX4_7 hfX4_7); have hxX4_0 := (HX4.out.cell 0).trans (show _ = some (.int .i64 t1) from rfl); have hfX4_0 := HX4.out.frozen 0; have hxX4_1 := (HX4.out.cell 1).trans (show _ = some (.int .i64 t2) from rfl); have hfX4_1 := HX4.out.frozen 1; have hxX4_2 := (HX4.out.cell 2).trans (show _ = some (.string t3) from rfl); have hfX4_2 := HX4.out.frozen 2; have hxX4_3 := (HX4.out.cell 3).trans (show _ = some (.int .i64 t4) from rfl); have hfX4_3 := HX4.out.frozen 3; have hxX4_4 := (HX4.out.cell 4).trans (show _ = some (.string t5) from rfl); have hfX4_4 := HX4.out.frozen 4; have hxX4_5 := (HX4.out.cell 5).trans (show _ = some (.string t6) from rfl); have hfX4_5 := HX4.out.frozen 5; have hxX4_6 := (HX4.out.cell 6).trans (show _ = some (.bool g7) from rfl); have hfX4_6 := HX4.out.frozen 6; have hxX4_7 := (HX4.out.cell 7).trans (show _ = some (.bool g8) from rfl); have hfX4_7 := HX4.out.frozen 7) | ((with_reducible refine gate_callee (f := 61) rfl ?_); refine goesL_ (some 71) rfl rfl Try.func61 (by kernel_rfl) rfl #[.agg #[.int .i64 t1, .int .i64 t2, .string t3, .int .i64 t4, .string t5, .string t6, .bool g7, .bool g8]] rfl (by (try simp only [List.map_toArray, List.map_cons, List.map_nil]); first | done | rfl | (simp only [List.length_drop, List.length_take]; rfl)) ?_; (with_reducible refine (spec_l09Job.calls t1 t2 t3 t4 t5 t6 g7 g8 true _ E9.out).mono ?_); rintro e w2 ⟨rfl, hb⟩; refine ⟨_, rfl, ?_⟩; have hk := kept_below hb; replace HX2 := Aside0.mk (HX2.out.step hk no_S); replace HX3 := Aside0.mk (HX3.out.step hk no_S); replace HX4 := Aside0.mk (HX4.out.step hk no_S); replace HB := Aside0.mk (below_step HB.out hb); clear hb hk; (try clear hxX2_0 hfX2_0 hxX2_1 hfX2_1 hxX2_2 hfX2_2 hxX2_3 hfX2_3 hxX2_4 hfX2_4 hxX2_5 hfX2_5 hxX2_6 hfX2_6 hxX2_7 hfX2_7); have hxX2_0 := (HX2.out.cell 0).trans (show _ = some (.int .i64 0) from rfl); have hfX2_0 := HX2.out.frozen 0; have hxX2_1 := (HX2.out.cell 1).trans (show _ = some (.int .i64 0) from rfl); have hfX2_1 := HX2.out.frozen 1; have hxX2_2 := (HX2.out.cell 2).trans (show _ = some (.string ByteArray.empty) from rfl); have hfX2_2 := HX2.out.frozen 2; have hxX2_3 := (HX2.out.cell 3).trans (show _ = some (.int .i64 0) from rfl); have hfX2_3 := HX2.out.frozen 3; have hxX2_4 := (HX2.out.cell 4).trans (show _ = some (.string ByteArray.empty) from rfl); have hfX2_4 := HX2.out.frozen 4; have hxX2_5 := (HX2.out.cell 5).trans (show _ = some (.string ByteArray.empty) from rfl); have hfX2_5 := HX2.out.frozen 5; have hxX2_6 := (HX2.out.cell 6).trans (show _ = some (.bool false) from rfl); have hfX2_6 := HX2.out.frozen 6; have hxX2_7 := (HX2.out.cell 7).trans (show _ = some (.bool false) from rfl); have hfX2_7 := HX2.out.frozen 7; (try clear hxX3_0 hfX3_0 hxX3_1 hfX3_1 hxX3_2 hfX3_2); have hxX3_0 := (HX3.out.cell 0).trans (show _ = some (.slice (some ad1) l0.length c0) from rfl); have hfX3_0 := HX3.out.frozen 0; have hxX3_1 := (HX3.out.cell 1).trans (show _ = some (.int .i64 u6) from rfl); have hfX3_1 := HX3.out.frozen 1; have hxX3_2 := (HX3.out.cell 2).trans (show _ = some (.bool false) from rfl); have hfX3_2 := HX3.out.frozen 2; (try clear hxX4_0 hfX4_0 hxX4_1 hfX4_1 hxX4_2 hfX4_2 hxX4_3 hfX4_3 hxX4_4 hfX4_4 hxX4_5 hfX4_5 hxX4_6 hfX4_6 hxX4_7 hfX4_7); have hxX4_0 := (HX4.out.cell 0).trans (show _ = some (.int .i64 t1) from rfl); have hfX4_0 := HX4.out.frozen 0; have hxX4_1 := (HX4.out.cell 1).trans (show _ = some (.int .i64 t2) from rfl); have hfX4_1 := HX4.out.frozen 1; have hxX4_2 := (HX4.out.cell 2).trans (show _ = some (.string t3) from rfl); have hfX4_2 := HX4.out.frozen 2; have hxX4_3 := (HX4.out.cell 3).trans (show _ = some (.int .i64 t4) from rfl); have hfX4_3 := HX4.out.frozen 3; have hxX4_4 := (HX4.out.cell 4).trans (show _ = some (.string t5) from rfl); have hfX4_4 := HX4.out.frozen 4; have hxX4_5 := (HX4.out.cell 5).trans (show _ = some (.string t6) from rfl); have hfX4_5 := HX4.out.frozen 5; have hxX4_6 := (HX4.out.cell 6).trans (show _ = some (.bool g7) from rfl); have hfX4_6 := HX4.out.frozen 6; have hxX4_7 := (HX4.out.cell 7).trans (show _ = some (.bool g8) from rfl); have hfX4_7 := HX4.out.frozen 7) | ((with_reducible refine gate_store (t := 32) (p := 2) rfl ?_); refine LB.storedW HX2.out HB.out GEX2.out [.int .i64 t1, .int .i64 t2, .string t3, .int .i64 t4, .string t5, .string t6, .bool g7, .bool g8] rfl rfl (t := 32) (p := 2) rfl rfl ?hr_11 ?_; (case hr_11 => first | (go_simp; done) | (go_simp; simp only [World.setCells, Nat.reduceAdd, Nat.zero_add]; done)); intro w2 hx hk hb; replace HX3 := Aside0.mk (HX3.out.step hk (apart_symm D_X2_X3.out)); replace HX4 := Aside0.mk (HX4.out.step hk (apart_symm D_X2_X4.out)); replace HB := Aside0.mk hb; replace HX2 := Aside0.mk (show LB w2 PX2 gX2 32 #[.int .i64 t1, .int .i64 t2, .string t3, .int .i64 t4, .string t5, .string t6, .bool g7, .bool g8] from hx); clear hk hx hb; (try clear hxX2_0 hfX2_0 hxX2_1 hfX2_1 hxX2_2 hfX2_2 hxX2_3 hfX2_3 hxX2_4 hfX2_4 hxX2_5 hfX2_5 hxX2_6 hfX2_6 hxX2_7 hfX2_7); have hxX2_0 := (HX2.out.cell 0).trans (show _ = some (.int .i64 t1) from rfl); have hfX2_0 := HX2.out.frozen 0; have hxX2_1 := (HX2.out.cell 1).trans (show _ = some (.int .i64 t2) from rfl); have hfX2_1 := HX2.out.frozen 1; have hxX2_2 := (HX2.out.cell 2).trans (show _ = some (.string t3) from rfl); have hfX2_2 := HX2.out.frozen 2; have hxX2_3 := (HX2.out.cell 3).trans (show _ = some (.int .i64 t4) from rfl); have hfX2_3 := HX2.out.frozen 3; have hxX2_4 := (HX2.out.cell 4).trans (show _ = some (.string t5) from rfl); have hfX2_4 := HX2.out.frozen 4; have hxX2_5 := (HX2.out.cell 5).trans (show _ = some (.string t6) from rfl); have hfX2_5 := HX2.out.frozen 5; have hxX2_6 := (HX2.out.cell 6).trans (show _ = some (.bool g7) from rfl); have hfX2_6 := HX2.out.frozen 6; have hxX2_7 := (HX2.out.cell 7).trans (show _ = some (.bool g8) from rfl); have hfX2_7 := HX2.out.frozen 7; (try clear hxX3_0 hfX3_0 hxX3_1 hfX3_1 hxX3_2 hfX3_2); have hxX3_0 := (HX3.out.cell 0).trans (show _ = some (.slice (some ad1) l0.length c0) from rfl); have hfX3_0 := HX3.out.frozen 0; have hxX3_1 := (HX3.out.cell 1).trans (show _ = some (.int .i64 u6) from rfl); have hfX3_1 := HX3.out.frozen 1; have hxX3_2 := (HX3.out.cell 2).trans (show _ = some (.bool false) from rfl); have hfX3_2 := HX3.out.frozen 2; (try clear hxX4_0 hfX4_0 hxX4_1 hfX4_1 hxX4_2 hfX4_2 hxX4_3 hfX4_3 hxX4_4 hfX4_4 hxX4_5 hfX4_5 hxX4_6 hfX4_6 hxX4_7 hfX4_7); have hxX4_0 := (HX4.out.cell 0).trans (show _ = some (.int .i64 t1) from rfl); have hfX4_0 := HX4.out.frozen 0; have hxX4_1 := (HX4.out.cell 1).trans (show _ = some (.int .i64 t2) from rfl); have hfX4_1 := HX4.out.frozen 1; have hxX4_2 := (HX4.out.cell 2).trans (show _ = some (.string t3) from rfl); have hfX4_2 := HX4.out.frozen 2; have hxX4_3 := (HX4.out.cell 3).trans (show _ = some (.int .i64 t4) from rfl); have hfX4_3 := HX4.out.frozen 3; have hxX4_4 := (HX4.out.cell 4).trans (show _ = some (.string t5) from rfl); have hfX4_4 := HX4.out.frozen 4; have hxX4_5 := (HX4.out.cell 5).trans (show _ = some (.string t6) from rfl); have hfX4_5 := HX4.out.frozen 5; have hxX4_6 := (HX4.out.cell 6).trans (show _ = some (.bool g7) from rfl); have hfX4_6 := HX4.out.frozen 6; have hxX4_7 := (HX4.out.cell 7).trans (show _ = some (.bool g8) from rfl); have hfX4_7 := HX4.out.frozen 7))
              refine bodyPost_ret (results_ct rfl _ _ gX2 32 #[.int .i64 t1, .int .i64 t2, .string t3, .int .i64 t4, .string t5, .string t6, .bool g7, .bool g8] (0, 0) _ rfl HX2.out.2.1 Try.underlying32 rfl (by kernel_rfl)) rfl ?_
              exact ⟨rfl, HB.out⟩
            | false =>
              rw [if_neg (by simp)] at h
              simp only [Option.some.injEq, Prod.mk.injEq] at h
              obtain ⟨rfl, rfl, rfl, rfl, rfl, rfl, rfl, rfl, rfl⟩ := h
              go_wp2_with (first | ((with_reducible refine gate_store (t := 4) (p := 60) rfl ?_); refine LB.stored HX4.out HB.out GEX4.out 6 [.bool g7] rfl (t := 4) (p := 60) rfl rfl ?hr_12 ?_; (case hr_12 => first | (go_simp; done) | (go_simp; simp only [World.setCells, Nat.reduceAdd, Nat.zero_add]; done)); intro w2 hx hk hb; replace HX2 := Aside0.mk (HX2.out.step hk D_X2_X4.out); replace HX3 := Aside0.mk (HX3.out.step hk D_X3_X4.out); replace HB := Aside0.mk hb; replace HX4 := Aside0.mk (show LB w2 PX4 gX4 32 #[.int .i64 t1, .int .i64 t2, .string t3, .int .i64 t4, .string t5, .string t6, .bool g7, .bool false] from hx); clear hk hx hb; (try clear hxX2_0 hfX2_0 hxX2_1 hfX2_1 hxX2_2 hfX2_2 hxX2_3 hfX2_3 hxX2_4 hfX2_4 hxX2_5 hfX2_5 hxX2_6 hfX2_6 hxX2_7 hfX2_7); have hxX2_0 := (HX2.out.cell 0).trans (show _ = some (.int .i64 0) from rfl); have hfX2_0 := HX2.out.frozen 0; have hxX2_1 := (HX2.out.cell 1).trans (show _ = some (.int .i64 0) from rfl); have hfX2_1 := HX2.out.frozen 1; have hxX2_2 := (HX2.out.cell 2).trans (show _ = some (.string ByteArray.empty) from rfl); have hfX2_2 := HX2.out.frozen 2; have hxX2_3 := (HX2.out.cell 3).trans (show _ = some (.int .i64 0) from rfl); have hfX2_3 := HX2.out.frozen 3; have hxX2_4 := (HX2.out.cell 4).trans (show _ = some (.string ByteArray.empty) from rfl); have hfX2_4 := HX2.out.frozen 4; have hxX2_5 := (HX2.out.cell 5).trans (show _ = some (.string ByteArray.empty) from rfl); have hfX2_5 := HX2.out.frozen 5; have hxX2_6 := (HX2.out.cell 6).trans (show _ = some (.bool false) from rfl); have hfX2_6 := HX2.out.frozen 6; have hxX2_7 := (HX2.out.cell 7).trans (show _ = some (.bool false) from rfl); have hfX2_7 := HX2.out.frozen 7; (try clear hxX3_0 hfX3_0 hxX3_1 hfX3_1 hxX3_2 hfX3_2); have hxX3_0 := (HX3.out.cell 0).trans (show _ = some (.slice (some ad1) l0.length c0) from rfl); have hfX3_0 := HX3.out.frozen 0; have hxX3_1 := (HX3.out.cell 1).trans (show _ = some (.int .i64 u6) from rfl); have hfX3_1 := HX3.out.frozen 1; have hxX3_2 := (HX3.out.cell 2).trans (show _ = some (.bool false) from rfl); have hfX3_2 := HX3.out.frozen 2; (try clear hxX4_0 hfX4_0 hxX4_1 hfX4_1 hxX4_2 hfX4_2 hxX4_3 hfX4_3 hxX4_4 hfX4_4 hxX4_5 hfX4_5 hxX4_6 hfX4_6 hxX4_7 hfX4_7); have hxX4_0 := (HX4.out.cell 0).trans (show _ = some (.int .i64 t1) from rfl); have hfX4_0 := HX4.out.frozen 0; have hxX4_1 := (HX4.out.cell 1).trans (show _ = some (.int .i64 t2) from rfl); have hfX4_1 := HX4.out.frozen 1; have hxX4_2 := (HX4.out.cell 2).trans (show _ = some (.string t3) from rfl); have hfX4_2 := HX4.out.frozen 2; have hxX4_3 := (HX4.out.cell 3).trans (show _ = some (.int .i64 t4) from rfl); have hfX4_3 := HX4.out.frozen 3; have hxX4_4 := (HX4.out.cell 4).trans (show _ = some (.string t5) from rfl); have hfX4_4 := HX4.out.frozen 4; have hxX4_5 := (HX4.out.cell 5).trans (show _ = some (.string t6) from rfl); have hfX4_5 := HX4.out.frozen 5; have hxX4_6 := (HX4.out.cell 6).trans (show _ = some (.bool g7) from rfl); have hfX4_6 := HX4.out.frozen 6; have hxX4_7 := (HX4.out.cell 7).trans (show _ = some (.bool false) from rfl); have hfX4_7 := HX4.out.frozen 7; (try clear hz1); obtain ⟨ad2, ea2, hz2⟩ := Kd.at_int (Kd.C_below HR.out HB.out) u6 D1.out D2.out; cases ea2; rw [← NZ.out] at hz2) | ((with_reducible refine gate_store (t := 4) (p := 69) rfl ?_); refine LB.stored HX4.out HB.out GEX4.out 7 [.bool g8] rfl (t := 4) (p := 69) rfl rfl ?hr_13 ?_; (case hr_13 => first | (go_simp; done) | (go_simp; simp only [World.setCells, Nat.reduceAdd, Nat.zero_add]; done)); intro w2 hx hk hb; replace HX2 := Aside0.mk (HX2.out.step hk D_X2_X4.out); replace HX3 := Aside0.mk (HX3.out.step hk D_X3_X4.out); replace HB := Aside0.mk hb; replace HX4 := Aside0.mk (show LB w2 PX4 gX4 32 #[.int .i64 t1, .int .i64 t2, .string t3, .int .i64 t4, .string t5, .string t6, .bool g7, .bool g8] from hx); clear hk hx hb; (try clear hxX2_0 hfX2_0 hxX2_1 hfX2_1 hxX2_2 hfX2_2 hxX2_3 hfX2_3 hxX2_4 hfX2_4 hxX2_5 hfX2_5 hxX2_6 hfX2_6 hxX2_7 hfX2_7); have hxX2_0 := (HX2.out.cell 0).trans (show _ = some (.int .i64 0) from rfl); have hfX2_0 := HX2.out.frozen 0; have hxX2_1 := (HX2.out.cell 1).trans (show _ = some (.int .i64 0) from rfl); have hfX2_1 := HX2.out.frozen 1; have hxX2_2 := (HX2.out.cell 2).trans (show _ = some (.string ByteArray.empty) from rfl); have hfX2_2 := HX2.out.frozen 2; have hxX2_3 := (HX2.out.cell 3).trans (show _ = some (.int .i64 0) from rfl); have hfX2_3 := HX2.out.frozen 3; have hxX2_4 := (HX2.out.cell 4).trans (show _ = some (.string ByteArray.empty) from rfl); have hfX2_4 := HX2.out.frozen 4; have hxX2_5 := (HX2.out.cell 5).trans (show _ = some (.string ByteArray.empty) from rfl); have hfX2_5 := HX2.out.frozen 5; have hxX2_6 := (HX2.out.cell 6).trans (show _ = some (.bool false) from rfl); have hfX2_6 := HX2.out.frozen 6; have hxX2_7 := (HX2.out.cell 7).trans (show _ = some (.bool false) from rfl); have hfX2_7 := HX2.out.frozen 7; (try clear hxX3_0 hfX3_0 hxX3_1 hfX3_1 hxX3_2 hfX3_2); have hxX3_0 := (HX3.out.cell 0).trans (show _ = some (.slice (some ad1) l0.length c0) from rfl); have hfX3_0 := HX3.out.frozen 0; have hxX3_1 := (HX3.out.cell 1).trans (show _ = some (.int .i64 u6) from rfl); have hfX3_1 := HX3.out.frozen 1; have hxX3_2 := (HX3.out.cell 2).trans (show _ = some (.bool false) from rfl); have hfX3_2 := HX3.out.frozen 2; (try clear hxX4_0 hfX4_0 hxX4_1 hfX4_1 hxX4_2 hfX4_2 hxX4_3 hfX4_3 hxX4_4 hfX4_4 hxX4_5 hfX4_5 hxX4_6 hfX4_6 hxX4_7 hfX4_7); have hxX4_0 := (HX4.out.cell 0).trans (show _ = some (.int .i64 t1) from rfl); have hfX4_0 := HX4.out.frozen 0; have hxX4_1 := (HX4.out.cell 1).trans (show _ = some (.int .i64 t2) from rfl); have hfX4_1 := HX4.out.frozen 1; have hxX4_2 := (HX4.out.cell 2).trans (show _ = some (.string t3) from rfl); have hfX4_2 := HX4.out.frozen 2; have hxX4_3 := (HX4.out.cell 3).trans (show _ = some (.int .i64 t4) from rfl); have hfX4_3 := HX4.out.frozen 3; have hxX4_4 := (HX4.out.cell 4).trans (show _ = some (.string t5) from rfl); have hfX4_4 := HX4.out.frozen 4; have hxX4_5 := (HX4.out.cell 5).trans (show _ = some (.string t6) from rfl); have hfX4_5 := HX4.out.frozen 5; have hxX4_6 := (HX4.out.cell 6).trans (show _ = some (.bool g7) from rfl); have hfX4_6 := HX4.out.frozen 6; have hxX4_7 := (HX4.out.cell 7).trans (show _ = some (.bool g8) from rfl); have hfX4_7 := HX4.out.frozen 7) | ((with_reducible refine gate_callee (f := 61) rfl ?_); refine goesL_ (some 71) rfl rfl Try.func61 (by kernel_rfl) rfl #[.agg #[.int .i64 t1, .int .i64 t2, .string t3, .int .i64 t4, .string t5, .string t6, .bool g7, .bool g8]] rfl (by (try simp only [List.map_toArray, List.map_cons, List.map_nil]); first | done | rfl | (simp only [List.length_drop, List.length_take]; rfl)) ?_; (with_reducible refine (spec_l09Job.calls t1 t2 t3 t4 t5 t6 g7 g8 false _ E9.out).mono ?_); rintro e w2 ⟨rfl, hb⟩; refine ⟨_, rfl, ?_⟩; have hk := kept_below hb; replace HX2 := Aside0.mk (HX2.out.step hk no_S); replace HX3 := Aside0.mk (HX3.out.step hk no_S); replace HX4 := Aside0.mk (HX4.out.step hk no_S); replace HB := Aside0.mk (below_step HB.out hb); clear hb hk; (try clear hxX2_0 hfX2_0 hxX2_1 hfX2_1 hxX2_2 hfX2_2 hxX2_3 hfX2_3 hxX2_4 hfX2_4 hxX2_5 hfX2_5 hxX2_6 hfX2_6 hxX2_7 hfX2_7); have hxX2_0 := (HX2.out.cell 0).trans (show _ = some (.int .i64 0) from rfl); have hfX2_0 := HX2.out.frozen 0; have hxX2_1 := (HX2.out.cell 1).trans (show _ = some (.int .i64 0) from rfl); have hfX2_1 := HX2.out.frozen 1; have hxX2_2 := (HX2.out.cell 2).trans (show _ = some (.string ByteArray.empty) from rfl); have hfX2_2 := HX2.out.frozen 2; have hxX2_3 := (HX2.out.cell 3).trans (show _ = some (.int .i64 0) from rfl); have hfX2_3 := HX2.out.frozen 3; have hxX2_4 := (HX2.out.cell 4).trans (show _ = some (.string ByteArray.empty) from rfl); have hfX2_4 := HX2.out.frozen 4; have hxX2_5 := (HX2.out.cell 5).trans (show _ = some (.string ByteArray.empty) from rfl); have hfX2_5 := HX2.out.frozen 5; have hxX2_6 := (HX2.out.cell 6).trans (show _ = some (.bool false) from rfl); have hfX2_6 := HX2.out.frozen 6; have hxX2_7 := (HX2.out.cell 7).trans (show _ = some (.bool false) from rfl); have hfX2_7 := HX2.out.frozen 7; (try clear hxX3_0 hfX3_0 hxX3_1 hfX3_1 hxX3_2 hfX3_2); have hxX3_0 := (HX3.out.cell 0).trans (show _ = some (.slice (some ad1) l0.length c0) from rfl); have hfX3_0 := HX3.out.frozen 0; have hxX3_1 := (HX3.out.cell 1).trans (show _ = some (.int .i64 u6) from rfl); have hfX3_1 := HX3.out.frozen 1; have hxX3_2 := (HX3.out.cell 2).trans (show _ = some (.bool false) from rfl); have hfX3_2 := HX3.out.frozen 2; (try clear hxX4_0 hfX4_0 hxX4_1 hfX4_1 hxX4_2 hfX4_2 hxX4_3 hfX4_3 hxX4_4 hfX4_4 hxX4_5 hfX4_5 hxX4_6 hfX4_6 hxX4_7 hfX4_7); have hxX4_0 := (HX4.out.cell 0).trans (show _ = some (.int .i64 t1) from rfl); have hfX4_0 := HX4.out.frozen 0; have hxX4_1 := (HX4.out.cell 1).trans (show _ = some (.int .i64 t2) from rfl); have hfX4_1 := HX4.out.frozen 1; have hxX4_2 := (HX4.out.cell 2).trans (show _ = some (.string t3) from rfl); have hfX4_2 := HX4.out.frozen 2; have hxX4_3 := (HX4.out.cell 3).trans (show _ = some (.int .i64 t4) from rfl); have hfX4_3 := HX4.out.frozen 3; have hxX4_4 := (HX4.out.cell 4).trans (show _ = some (.string t5) from rfl); have hfX4_4 := HX4.out.frozen 4; have hxX4_5 := (HX4.out.cell 5).trans (show _ = some (.string t6) from rfl); have hfX4_5 := HX4.out.frozen 5; have hxX4_6 := (HX4.out.cell 6).trans (show _ = some (.bool g7) from rfl); have hfX4_6 := HX4.out.frozen 6; have hxX4_7 := (HX4.out.cell 7).trans (show _ = some (.bool g8) from rfl); have hfX4_7 := HX4.out.frozen 7) | ((with_reducible refine gate_store (t := 32) (p := 2) rfl ?_); refine LB.storedW HX2.out HB.out GEX2.out [.int .i64 0, .int .i64 0, .string { data := #[] }, .int .i64 0, .string { data := #[] }, .string { data := #[] }, .bool false, .bool false] rfl rfl (t := 32) (p := 2) rfl rfl ?hr_14 ?_; (case hr_14 => first | (go_simp; done) | (go_simp; simp only [World.setCells, Nat.reduceAdd, Nat.zero_add]; done)); intro w2 hx hk hb; replace HX3 := Aside0.mk (HX3.out.step hk (apart_symm D_X2_X3.out)); replace HX4 := Aside0.mk (HX4.out.step hk (apart_symm D_X2_X4.out)); replace HB := Aside0.mk hb; replace HX2 := Aside0.mk (show LB w2 PX2 gX2 32 #[.int .i64 0, .int .i64 0, .string { data := #[] }, .int .i64 0, .string { data := #[] }, .string { data := #[] }, .bool false, .bool false] from hx); clear hk hx hb; (try clear hxX2_0 hfX2_0 hxX2_1 hfX2_1 hxX2_2 hfX2_2 hxX2_3 hfX2_3 hxX2_4 hfX2_4 hxX2_5 hfX2_5 hxX2_6 hfX2_6 hxX2_7 hfX2_7); have hxX2_0 := (HX2.out.cell 0).trans (show _ = some (.int .i64 0) from rfl); have hfX2_0 := HX2.out.frozen 0; have hxX2_1 := (HX2.out.cell 1).trans (show _ = some (.int .i64 0) from rfl); have hfX2_1 := HX2.out.frozen 1; have hxX2_2 := (HX2.out.cell 2).trans (show _ = some (.string { data := #[] }) from rfl); have hfX2_2 := HX2.out.frozen 2; have hxX2_3 := (HX2.out.cell 3).trans (show _ = some (.int .i64 0) from rfl); have hfX2_3 := HX2.out.frozen 3; have hxX2_4 := (HX2.out.cell 4).trans (show _ = some (.string { data := #[] }) from rfl); have hfX2_4 := HX2.out.frozen 4; have hxX2_5 := (HX2.out.cell 5).trans (show _ = some (.string { data := #[] }) from rfl); have hfX2_5 := HX2.out.frozen 5; have hxX2_6 := (HX2.out.cell 6).trans (show _ = some (.bool false) from rfl); have hfX2_6 := HX2.out.frozen 6; have hxX2_7 := (HX2.out.cell 7).trans (show _ = some (.bool false) from rfl); have hfX2_7 := HX2.out.frozen 7; (try clear hxX3_0 hfX3_0 hxX3_1 hfX3_1 hxX3_2 hfX3_2); have hxX3_0 := (HX3.out.cell 0).trans (show _ = some (.slice (some ad1) l0.length c0) from rfl); have hfX3_0 := HX3.out.frozen 0; have hxX3_1 := (HX3.out.cell 1).trans (show _ = some (.int .i64 u6) from rfl); have hfX3_1 := HX3.out.frozen 1; have hxX3_2 := (HX3.out.cell 2).trans (show _ = some (.bool false) from rfl); have hfX3_2 := HX3.out.frozen 2; (try clear hxX4_0 hfX4_0 hxX4_1 hfX4_1 hxX4_2 hfX4_2 hxX4_3 hfX4_3 hxX4_4 hfX4_4 hxX4_5 hfX4_5 hxX4_6 hfX4_6 hxX4_7 hfX4_7); have hxX4_0 := (HX4.out.cell 0).trans (show _ = some (.int .i64 t1) from rfl); have hfX4_0 := HX4.out.frozen 0; have hxX4_1 := (HX4.out.cell 1).trans (show _ = some (.int .i64 t2) from rfl); have hfX4_1 := HX4.out.frozen 1; have hxX4_2 := (HX4.out.cell 2).trans (show _ = some (.string t3) from rfl); have hfX4_2 := HX4.out.frozen 2; have hxX4_3 := (HX4.out.cell 3).trans (show _ = some (.int .i64 t4) from rfl); have hfX4_3 := HX4.out.frozen 3; have hxX4_4 := (HX4.out.cell 4).trans (show _ = some (.string t5) from rfl); have hfX4_4 := HX4.out.frozen 4; have hxX4_5 := (HX4.out.cell 5).trans (show _ = some (.string t6) from rfl); have hfX4_5 := HX4.out.frozen 5; have hxX4_6 := (HX4.out.cell 6).trans (show _ = some (.bool g7) from rfl); have hfX4_6 := HX4.out.frozen 6; have hxX4_7 := (HX4.out.cell 7).trans (show _ = some (.bool g8) from rfl); have hfX4_7 := HX4.out.frozen 7))
              refine bodyPost_ret (results_ct rfl _ _ gX2 32 #[.int .i64 0, .int .i64 0, .string { data := #[] }, .int .i64 0, .string { data := #[] }, .string { data := #[] }, .bool false, .bool false] (0, 0) _ rfl HX2.out.2.1 Try.underlying32 rfl (by kernel_rfl)) rfl ?_
              exact ⟨rfl, HB.out⟩
        · rw [if_neg d2] at h
          exact absurd h (by simp)
      · rw [if_neg d1] at h
        exact absurd h (by simp)
    · rw [if_neg c2] at h
      have cb3 : (u6 == wrap64 ((l0.length : Int) - 1)) = false := beq_eq_false_iff_ne.mpr c2
      have cb4 : (u6 != wrap64 ((l0.length : Int) - 1)) = true := bne_iff_ne.mpr c2
      clear c2
      simp only [Option.some.injEq, Prod.mk.injEq] at h
      obtain ⟨rfl, rfl, rfl, rfl, rfl, rfl, rfl, rfl, rfl⟩ := h
      go_wp2_with (first | ((with_reducible refine gate_store (t := 32) (p := 2) rfl ?_); refine LB.storedW HX2.out HB.out GEX2.out [.int .i64 0, .int .i64 0, .string { data := #[] }, .int .i64 0, .string { data := #[] }, .string { data := #[] }, .bool false, .bool false] rfl rfl (t := 32) (p := 2) rfl rfl ?hr_15 ?_; (case hr_15 => first | (go_simp; done) | (go_simp; simp only [World.setCells, Nat.reduceAdd, Nat.zero_add]; done)); intro w2 hx hk hb; replace HX3 := Aside0.mk (HX3.out.step hk (apart_symm D_X2_X3.out)); replace HX4 := Aside0.mk (HX4.out.step hk (apart_symm D_X2_X4.out)); replace HB := Aside0.mk hb; replace HX2 := Aside0.mk (show LB w2 PX2 gX2 32 #[.int .i64 0, .int .i64 0, .string { data := #[] }, .int .i64 0, .string { data := #[] }, .string { data := #[] }, .bool false, .bool false] from hx); clear hk hx hb; (try clear hxX2_0 hfX2_0 hxX2_1 hfX2_1 hxX2_2 hfX2_2 hxX2_3 hfX2_3 hxX2_4 hfX2_4 hxX2_5 hfX2_5 hxX2_6 hfX2_6 hxX2_7 hfX2_7); have hxX2_0 := (HX2.out.cell 0).trans (show _ = some (.int .i64 0) from rfl); have hfX2_0 := HX2.out.frozen 0; have hxX2_1 := (HX2.out.cell 1).trans (show _ = some (.int .i64 0) from rfl); have hfX2_1 := HX2.out.frozen 1; have hxX2_2 := (HX2.out.cell 2).trans (show _ = some (.string { data := #[] }) from rfl); have hfX2_2 := HX2.out.frozen 2; have hxX2_3 := (HX2.out.cell 3).trans (show _ = some (.int .i64 0) from rfl); have hfX2_3 := HX2.out.frozen 3; have hxX2_4 := (HX2.out.cell 4).trans (show _ = some (.string { data := #[] }) from rfl); have hfX2_4 := HX2.out.frozen 4; have hxX2_5 := (HX2.out.cell 5).trans (show _ = some (.string { data := #[] }) from rfl); have hfX2_5 := HX2.out.frozen 5; have hxX2_6 := (HX2.out.cell 6).trans (show _ = some (.bool false) from rfl); have hfX2_6 := HX2.out.frozen 6; have hxX2_7 := (HX2.out.cell 7).trans (show _ = some (.bool false) from rfl); have hfX2_7 := HX2.out.frozen 7; (try clear hxX3_0 hfX3_0 hxX3_1 hfX3_1 hxX3_2 hfX3_2); have hxX3_0 := (HX3.out.cell 0).trans (show _ = some (.slice A0 l0.length c0) from rfl); have hfX3_0 := HX3.out.frozen 0; have hxX3_1 := (HX3.out.cell 1).trans (show _ = some (.int .i64 u6) from rfl); have hfX3_1 := HX3.out.frozen 1; have hxX3_2 := (HX3.out.cell 2).trans (show _ = some (.bool false) from rfl); have hfX3_2 := HX3.out.frozen 2; (try clear hxX4_0 hfX4_0 hxX4_1 hfX4_1 hxX4_2 hfX4_2 hxX4_3 hfX4_3 hxX4_4 hfX4_4 hxX4_5 hfX4_5 hxX4_6 hfX4_6 hxX4_7 hfX4_7); have hxX4_0 := (HX4.out.cell 0).trans (show _ = some (.int .i64 t1) from rfl); have hfX4_0 := HX4.out.frozen 0; have hxX4_1 := (HX4.out.cell 1).trans (show _ = some (.int .i64 t2) from rfl); have hfX4_1 := HX4.out.frozen 1; have hxX4_2 := (HX4.out.cell 2).trans (show _ = some (.string t3) from rfl); have hfX4_2 := HX4.out.frozen 2; have hxX4_3 := (HX4.out.cell 3).trans (show _ = some (.int .i64 t4) from rfl); have hfX4_3 := HX4.out.frozen 3; have hxX4_4 := (HX4.out.cell 4).trans (show _ = some (.string t5) from rfl); have hfX4_4 := HX4.out.frozen 4; have hxX4_5 := (HX4.out.cell 5).trans (show _ = some (.string t6) from rfl); have hfX4_5 := HX4.out.frozen 5; have hxX4_6 := (HX4.out.cell 6).trans (show _ = some (.bool false) from rfl); have hfX4_6 := HX4.out.frozen 6; have hxX4_7 := (HX4.out.cell 7).trans (show _ = some (.bool false) from rfl); have hfX4_7 := HX4.out.frozen 7))
      refine bodyPost_ret (results_ct rfl _ _ gX2 32 #[.int .i64 0, .int .i64 0, .string { data := #[] }, .int .i64 0, .string { data := #[] }, .string { data := #[] }, .bool false, .bool false] (0, 0) _ rfl HX2.out.2.1 Try.underlying32 rfl (by kernel_rfl)) rfl ?_
      exact ⟨rfl, HB.out⟩
/-! ### impl_readJob: function 72, by hand -/
def impl_readJob.g (l : List Int) (a1 a2 : Int) (a3 : ByteArray) (a4 : Int) (a5 a6 : ByteArray) (bad : Bool) : Option (Int × Int × ByteArray × Int × ByteArray × ByteArray × Bool × Bool × Int) :=
  if bad = true then some (0, 0, ByteArray.empty, 0, ByteArray.empty, ByteArray.empty, false, false, 3) else if (l.length : Int) = 1 then (if 3 < rd l 0 then some (0, 0, ByteArray.empty, 0, ByteArray.empty, ByteArray.empty, false, false, 3) else (impl_jobOK.f a1 a2 a3 a4 a5 a6 (Go.bits .and .u8 (rd l 0) 1 == 1) (Go.bits .and .u8 (rd l 0) 2 == 2)).bind fun b => (if b = true then some (a1, a2, a3, a4, a5, a6, (Go.bits .and .u8 (rd l 0) 1 == 1), (Go.bits .and .u8 (rd l 0) 2 == 2), 0) else some (0, 0, ByteArray.empty, 0, ByteArray.empty, ByteArray.empty, false, false, 1))) else some (0, 0, ByteArray.empty, 0, ByteArray.empty, ByteArray.empty, false, false, 3)
def impl_readJob.f (k : Nat) (l : List Int) : Option (Int × Int × ByteArray × Int × ByteArray × ByteArray × Bool × Bool × Int) :=
  (impl_byteReader_number.f k l false).bind fun t1 => (impl_byteReader_number.f k t1.2.1 t1.2.2).bind fun t2 => (impl_byteReader_text.f k t2.2.1 t2.2.2).bind fun t3 => (impl_byteReader_number.f k t3.2.1 t3.2.2).bind fun t4 => (impl_byteReader_text.f k t4.2.1 t4.2.2).bind fun t5 => (impl_byteReader_text.f k t5.2.1 t5.2.2).bind fun t6 => impl_readJob.g t6.2.1 t1.1 t2.1 t3.1 t4.1 t5.1 t6.1 t6.2.2
def impl_readJob.T10 : Bool × List (List Nat × List Nat) := (true, [([], []), ([0], [0]), ([1], [1]), ([2], [2]), ([3], [3]), ([4], [4]), ([5], [5]), ([6], [6]), ([], []), ([8], [8]), ([9], [9]), ([10], [10]), ([11], [11]), ([12], [12]), ([13], [13]), ([14], [14]), ([0, 1, 2, 3, 4, 5, 6, 7], []), ([16, 7, 0, 1, 2, 3, 4, 5, 6, 7], [7, 16]), ([0, 1, 2, 3, 4, 5, 6, 7, 8, 9, 10, 11, 12, 13, 14, 15, 16, 17], []), ([18, 15, 17, 0, 1, 2, 3, 4, 5, 6, 7, 8, 9, 10, 11, 12, 13, 14, 15, 16, 17], [15, 18])])
def impl_readJob.B10 : List Nat := [0, 1, 3, 7, 15, 31, 63, 127, 0, 256, 768, 1792, 3840, 7936, 16128, 32512, 255, 65791, 262143, 524287]
theorem impl_readJob.tab10 : rtab .any (opsOf Try.f72 10) = impl_readJob.T10 := by kernel_rfl
theorem impl_readJob.bits10 : waitsOk impl_readJob.T10.2 impl_readJob.B10 = true := by kernel_rfl
set_option maxHeartbeats 4000000 in
set_option maxRecDepth 100000 in
theorem impl_readJob.calls (k : Nat) (A0 : Option Addr) (c0 : Nat) (l0 : List Int) (r1 : Int) (r2 : Int) (r3 : ByteArray) (r4 : Int) (r5 : ByteArray) (r6 : ByteArray) (r7 : Bool) (r8 : Bool) (r9 : Int) (w : World) (hr0 : Kd.C (Kd.int .u8) w A0 l0.length l0) (hc0 : l0.length ≤ c0) (h : impl_readJob.f k l0 = some (r1, r2, r3, r4, r5, r6, r7, r8, r9)) :
    Calls Try.prog 72 #[.slice A0 l0.length c0] w fun e w' => e = .returned (.tuple #[.agg #[.int .i64 r1, .int .i64 r2, .string r3, .int .i64 r4, .string r5, .string r6, .bool r7, .bool r8], .int .i64 r9]) ∧ Below w.heap.size w w' := by
  have hu := Try.underlying32
  have hu2 := Try.underlying109
  have HR := Aside0.mk hr0
  have HC := Aside0.mk hc0
  have HB := Aside0.mk (Below.refl w.heap.size w)
  clear hr0 hc0
  unfold impl_readJob.f at h
  obtain ⟨⟨t1, u1, b1⟩, e1, h⟩ := Option.bind_eq_some_iff.1 h
  have E1 := Aside0.mk e1
  clear e1
  obtain ⟨⟨t2, u2, b2⟩, e2, h⟩ := Option.bind_eq_some_iff.1 h
  have E2 := Aside0.mk e2
  clear e2
  obtain ⟨⟨t3, u3, b3⟩, e3, h⟩ := Option.bind_eq_some_iff.1 h
  have E3 := Aside0.mk e3
  clear e3
  obtain ⟨⟨t4, u4, b4⟩, e4, h⟩ := Option.bind_eq_some_iff.1 h
  have E4 := Aside0.mk e4
  clear e4
  obtain ⟨⟨t5, u5, b5⟩, e5, h⟩ := Option.bind_eq_some_iff.1 h
  have E5 := Aside0.mk e5
  clear e5
  obtain ⟨⟨t6, u6, b6⟩, e6, h⟩ := Option.bind_eq_some_iff.1 h
  have E6 := Aside0.mk e6
  clear e6
  simp only at h E1 E2 E3 E4 E5 E6
  unfold impl_readJob.g at h
  go_enter Try.func72, Try.ntmps72
  go_upto_region 8 with (first | ((with_reducible refine gate_dst (N := 2) rfl ?_); refine box_event ?hg_1 (N := 2) ?hd_1 (cs := #[.int .i64 0, .int .i64 0, .string ByteArray.empty, .int .i64 0, .string ByteArray.empty, .string ByteArray.empty, .bool false, .bool false]) (t := 32) ?hr_1 ?_; (case hd_1 => rfl); (case hg_1 => rfl); (case hr_1 => first | (go_simp; done) | (go_simp; rfl)); intro gX1 hg w2 hbox hb; have hk := kept_below hb; obtain ⟨PX1, hPX1, HLX1⟩ := LB.fresh hg hbox; have HX1 := Aside0.mk HLX1; clear HLX1; have GEX1 := Aside0.mk (show w.heap.size ≤ gX1 from (by rw [hg]; exact HB.out.size)); replace HB := Aside0.mk (below_step HB.out hb); clear hb hk hbox hg hPX1; (try clear hxX1_0 hfX1_0 hxX1_1 hfX1_1 hxX1_2 hfX1_2 hxX1_3 hfX1_3 hxX1_4 hfX1_4 hxX1_5 hfX1_5 hxX1_6 hfX1_6 hxX1_7 hfX1_7); have hxX1_0 := (HX1.out.cell 0).trans (show _ = some (.int .i64 0) from rfl); have hfX1_0 := HX1.out.frozen 0; have hxX1_1 := (HX1.out.cell 1).trans (show _ = some (.int .i64 0) from rfl); have hfX1_1 := HX1.out.frozen 1; have hxX1_2 := (HX1.out.cell 2).trans (show _ = some (.string ByteArray.empty) from rfl); have hfX1_2 := HX1.out.frozen 2; have hxX1_3 := (HX1.out.cell 3).trans (show _ = some (.int .i64 0) from rfl); have hfX1_3 := HX1.out.frozen 3; have hxX1_4 := (HX1.out.cell 4).trans (show _ = some (.string ByteArray.empty) from rfl); have hfX1_4 := HX1.out.frozen 4; have hxX1_5 := (HX1.out.cell 5).trans (show _ = some (.string ByteArray.empty) from rfl); have hfX1_5 := HX1.out.frozen 5; have hxX1_6 := (HX1.out.cell 6).trans (show _ = some (.bool false) from rfl); have hfX1_6 := HX1.out.frozen 6; have hxX1_7 := (HX1.out.cell 7).trans (show _ = some (.bool false) from rfl); have hfX1_7 := HX1.out.frozen 7) | ((with_reducible refine gate_dst (N := 8) rfl ?_); refine box_event ?hg_2 (N := 8) ?hd_2 (cs := #[.slice A0 l0.length c0, .bool false]) (t := 109) ?hr_2 ?_; (case hd_2 => rfl); (case hg_2 => rfl); (case hr_2 => first | (go_simp; done) | (go_simp; rfl)); intro gX2 hg w2 hbox hb; have hk := kept_below hb; obtain ⟨PX2, hPX2, HLX2⟩ := LB.fresh hg hbox; have HX2 := Aside0.mk HLX2; clear HLX2; have GEX2 := Aside0.mk (show w.heap.size ≤ gX2 from (by rw [hg]; exact HB.out.size)); have D_X1_X2 := Aside0.mk (new_apart HX1.out.lt hPX2); replace HX1 := Aside0.mk (HX1.out.step hk no_S); replace HB := Aside0.mk (below_step HB.out hb); clear hb hk hbox hg hPX2; (try clear hxX1_0 hfX1_0 hxX1_1 hfX1_1 hxX1_2 hfX1_2 hxX1_3 hfX1_3 hxX1_4 hfX1_4 hxX1_5 hfX1_5 hxX1_6 hfX1_6 hxX1_7 hfX1_7); have hxX1_0 := (HX1.out.cell 0).trans (show _ = some (.int .i64 0) from rfl); have hfX1_0 := HX1.out.frozen 0; have hxX1_1 := (HX1.out.cell 1).trans (show _ = some (.int .i64 0) from rfl); have hfX1_1 := HX1.out.frozen 1; have hxX1_2 := (HX1.out.cell 2).trans (show _ = some (.string ByteArray.empty) from rfl); have hfX1_2 := HX1.out.frozen 2; have hxX1_3 := (HX1.out.cell 3).trans (show _ = some (.int .i64 0) from rfl); have hfX1_3 := HX1.out.frozen 3; have hxX1_4 := (HX1.out.cell 4).trans (show _ = some (.string ByteArray.empty) from rfl); have hfX1_4 := HX1.out.frozen 4; have hxX1_5 := (HX1.out.cell 5).trans (show _ = some (.string ByteArray.empty) from rfl); have hfX1_5 := HX1.out.frozen 5; have hxX1_6 := (HX1.out.cell 6).trans (show _ = some (.bool false) from rfl); have hfX1_6 := HX1.out.frozen 6; have hxX1_7 := (HX1.out.cell 7).trans (show _ = some (.bool false) from rfl); have hfX1_7 := HX1.out.frozen 7; (try clear hxX2_0 hfX2_0 hxX2_1 hfX2_1); have hxX2_0 := (HX2.out.cell 0).trans (show _ = some (.slice A0 l0.length c0) from rfl); have hfX2_0 := HX2.out.frozen 0; have hxX2_1 := (HX2.out.cell 1).trans (show _ = some (.bool false) from rfl); have hfX2_1 := HX2.out.frozen 1) | ((with_reducible refine gate_dst (N := 10) rfl ?_); refine goesL_ (some 10) rfl rfl Try.func103 (by kernel_rfl) rfl #[.pointer (some ⟨gX2, 0, none⟩)] rfl (by (try simp only [List.map_toArray, List.map_cons, List.map_nil]); first | done | rfl) ?_; (with_reducible refine (impl_byteReader_number.own k PX2 gX2 A0 c0 l0 false t1 u1 b1 w _ HB.out GEX2.out HX2.out HR.out HC.out E1.out).mono ?_); rintro e w2 ⟨A1, c1, rfl, hG, hC, hl, hb, hk⟩; refine ⟨_, rfl, ?_⟩; replace HX1 := Aside0.mk (HX1.out.step hk D_X1_X2.out); replace HX2 := Aside0.mk hG; have HR1 := Aside0.mk hC; have HC1 := Aside0.mk hl; replace HB := Aside0.mk hb; clear hG hC hl hb hk; (try clear hxX1_0 hfX1_0 hxX1_1 hfX1_1 hxX1_2 hfX1_2 hxX1_3 hfX1_3 hxX1_4 hfX1_4 hxX1_5 hfX1_5 hxX1_6 hfX1_6 hxX1_7 hfX1_7); have hxX1_0 := (HX1.out.cell 0).trans (show _ = some (.int .i64 0) from rfl); have hfX1_0 := HX1.out.frozen 0; have hxX1_1 := (HX1.out.cell 1).trans (show _ = some (.int .i64 0) from rfl); have hfX1_1 := HX1.out.frozen 1; have hxX1_2 := (HX1.out.cell 2).trans (show _ = some (.string ByteArray.empty) from rfl); have hfX1_2 := HX1.out.frozen 2; have hxX1_3 := (HX1.out.cell 3).trans (show _ = some (.int .i64 0) from rfl); have hfX1_3 := HX1.out.frozen 3; have hxX1_4 := (HX1.out.cell 4).trans (show _ = some (.string ByteArray.empty) from rfl); have hfX1_4 := HX1.out.frozen 4; have hxX1_5 := (HX1.out.cell 5).trans (show _ = some (.string ByteArray.empty) from rfl); have hfX1_5 := HX1.out.frozen 5; have hxX1_6 := (HX1.out.cell 6).trans (show _ = some (.bool false) from rfl); have hfX1_6 := HX1.out.frozen 6; have hxX1_7 := (HX1.out.cell 7).trans (show _ = some (.bool false) from rfl); have hfX1_7 := HX1.out.frozen 7; (try clear hxX2_0 hfX2_0 hxX2_1 hfX2_1); have hxX2_0 := (HX2.out.cell 0).trans (show _ = some (.slice A1 u1.length c1) from rfl); have hfX2_0 := HX2.out.frozen 0; have hxX2_1 := (HX2.out.cell 1).trans (show _ = some (.bool b1) from rfl); have hfX2_1 := HX2.out.frozen 1) | ((with_reducible refine gate_dst (N := 5) rfl ?_); refine box_event ?hg_3 (N := 5) ?hd_3 (cs := #[.int .i64 0, .int .i64 0, .string ByteArray.empty, .int .i64 0, .string ByteArray.empty, .string ByteArray.empty, .bool false, .bool false]) (t := 32) ?hr_3 ?_; (case hd_3 => rfl); (case hg_3 => rfl); (case hr_3 => first | (go_simp; done) | (go_simp; rfl)); intro gX3 hg w2 hbox hb; have hk := kept_below hb; obtain ⟨PX3, hPX3, HLX3⟩ := LB.fresh hg hbox; have HX3 := Aside0.mk HLX3; clear HLX3; have GEX3 := Aside0.mk (show w.heap.size ≤ gX3 from (by rw [hg]; exact HB.out.size)); have D_X1_X3 := Aside0.mk (new_apart HX1.out.lt hPX3); have D_X2_X3 := Aside0.mk (new_apart HX2.out.lt hPX3); replace HX1 := Aside0.mk (HX1.out.step hk no_S); replace HX2 := Aside0.mk (HX2.out.step hk no_S); replace HB := Aside0.mk (below_step HB.out hb); clear hb hk hbox hg hPX3; (try clear hxX1_0 hfX1_0 hxX1_1 hfX1_1 hxX1_2 hfX1_2 hxX1_3 hfX1_3 hxX1_4 hfX1_4 hxX1_5 hfX1_5 hxX1_6 hfX1_6 hxX1_7 hfX1_7); have hxX1_0 := (HX1.out.cell 0).trans (show _ = some (.int .i64 0) from rfl); have hfX1_0 := HX1.out.frozen 0; have hxX1_1 := (HX1.out.cell 1).trans (show _ = some (.int .i64 0) from rfl); have hfX1_1 := HX1.out.frozen 1; have hxX1_2 := (HX1.out.cell 2).trans (show _ = some (.string ByteArray.empty) from rfl); have hfX1_2 := HX1.out.frozen 2; have hxX1_3 := (HX1.out.cell 3).trans (show _ = some (.int .i64 0) from rfl); have hfX1_3 := HX1.out.frozen 3; have hxX1_4 := (HX1.out.cell 4).trans (show _ = some (.string ByteArray.empty) from rfl); have hfX1_4 := HX1.out.frozen 4; have hxX1_5 := (HX1.out.cell 5).trans (show _ = some (.string ByteArray.empty) from rfl); have hfX1_5 := HX1.out.frozen 5; have hxX1_6 := (HX1.out.cell 6).trans (show _ = some (.bool false) from rfl); have hfX1_6 := HX1.out.frozen 6; have hxX1_7 := (HX1.out.cell 7).trans (show _ = some (.bool false) from rfl); have hfX1_7 := HX1.out.frozen 7; (try clear hxX2_0 hfX2_0 hxX2_1 hfX2_1); have hxX2_0 := (HX2.out.cell 0).trans (show _ = some (.slice A1 u1.length c1) from rfl); have hfX2_0 := HX2.out.frozen 0; have hxX2_1 := (HX2.out.cell 1).trans (show _ = some (.bool b1) from rfl); have hfX2_1 := HX2.out.frozen 1; (try clear hxX3_0 hfX3_0 hxX3_1 hfX3_1 hxX3_2 hfX3_2 hxX3_3 hfX3_3 hxX3_4 hfX3_4 hxX3_5 hfX3_5 hxX3_6 hfX3_6 hxX3_7 hfX3_7); have hxX3_0 := (HX3.out.cell 0).trans (show _ = some (.int .i64 0) from rfl); have hfX3_0 := HX3.out.frozen 0; have hxX3_1 := (HX3.out.cell 1).trans (show _ = some (.int .i64 0) from rfl); have hfX3_1 := HX3.out.frozen 1; have hxX3_2 := (HX3.out.cell 2).trans (show _ = some (.string ByteArray.empty) from rfl); have hfX3_2 := HX3.out.frozen 2; have hxX3_3 := (HX3.out.cell 3).trans (show _ = some (.int .i64 0) from rfl); have hfX3_3 := HX3.out.frozen 3; have hxX3_4 := (HX3.out.cell 4).trans (show _ = some (.string ByteArray.empty) from rfl); have hfX3_4 := HX3.out.frozen 4; have hxX3_5 := (HX3.out.cell 5).trans (show _ = some (.string ByteArray.empty) from rfl); have hfX3_5 := HX3.out.frozen 5; have hxX3_6 := (HX3.out.cell 6).trans (show _ = some (.bool false) from rfl); have hfX3_6 := HX3.out.frozen 6; have hxX3_7 := (HX3.out.cell 7).trans (show _ = some (.bool false) from rfl); have hfX3_7 := HX3.out.frozen 7) | ((with_reducible refine gate_store (t := 32) (p := 5) rfl ?_); refine LB.storedW HX3.out HB.out GEX3.out [.int .i64 t1, .int .i64 0, .string { data := #[] }, .int .i64 0, .string { data := #[] }, .string { data := #[] }, .bool false, .bool false] rfl rfl (t := 32) (p := 5) rfl rfl ?hr_4 ?_; (case hr_4 => first | (go_simp; done) | (go_simp; simp only [World.setCells, Nat.reduceAdd, Nat.zero_add]; done)); intro w2 hx hk hb; replace HX1 := Aside0.mk (HX1.out.step hk D_X1_X3.out); replace HX2 := Aside0.mk (HX2.out.step hk D_X2_X3.out); replace HB := Aside0.mk hb; replace HX3 := Aside0.mk (show LB w2 PX3 gX3 32 #[.int .i64 t1, .int .i64 0, .string { data := #[] }, .int .i64 0, .string { data := #[] }, .string { data := #[] }, .bool false, .bool false] from hx); clear hk hx hb; (try clear hxX1_0 hfX1_0 hxX1_1 hfX1_1 hxX1_2 hfX1_2 hxX1_3 hfX1_3 hxX1_4 hfX1_4 hxX1_5 hfX1_5 hxX1_6 hfX1_6 hxX1_7 hfX1_7); have hxX1_0 := (HX1.out.cell 0).trans (show _ = some (.int .i64 0) from rfl); have hfX1_0 := HX1.out.frozen 0; have hxX1_1 := (HX1.out.cell 1).trans (show _ = some (.int .i64 0) from rfl); have hfX1_1 := HX1.out.frozen 1; have hxX1_2 := (HX1.out.cell 2).trans (show _ = some (.string ByteArray.empty) from rfl); have hfX1_2 := HX1.out.frozen 2; have hxX1_3 := (HX1.out.cell 3).trans (show _ = some (.int .i64 0) from rfl); have hfX1_3 := HX1.out.frozen 3; have hxX1_4 := (HX1.out.cell 4).trans (show _ = some (.string ByteArray.empty) from rfl); have hfX1_4 := HX1.out.frozen 4; have hxX1_5 := (HX1.out.cell 5).trans (show _ = some (.string ByteArray.empty) from rfl); have hfX1_5 := HX1.out.frozen 5; have hxX1_6 := (HX1.out.cell 6).trans (show _ = some (.bool false) from rfl); have hfX1_6 := HX1.out.frozen 6; have hxX1_7 := (HX1.out.cell 7).trans (show _ = some (.bool false) from rfl); have hfX1_7 := HX1.out.frozen 7; (try clear hxX2_0 hfX2_0 hxX2_1 hfX2_1); have hxX2_0 := (HX2.out.cell 0).trans (show _ = some (.slice A1 u1.length c1) from rfl); have hfX2_0 := HX2.out.frozen 0; have hxX2_1 := (HX2.out.cell 1).trans (show _ = some (.bool b1) from rfl); have hfX2_1 := HX2.out.frozen 1; (try clear hxX3_0 hfX3_0 hxX3_1 hfX3_1 hxX3_2 hfX3_2 hxX3_3 hfX3_3 hxX3_4 hfX3_4 hxX3_5 hfX3_5 hxX3_6 hfX3_6 hxX3_7 hfX3_7); have hxX3_0 := (HX3.out.cell 0).trans (show _ = some (.int .i64 t1) from rfl); have hfX3_0 := HX3.out.frozen 0; have hxX3_1 := (HX3.out.cell 1).trans (show _ = some (.int .i64 0) from rfl); have hfX3_1 := HX3.out.frozen 1; have hxX3_2 := (HX3.out.cell 2).trans (show _ = some (.string { data := #[] }) from rfl); have hfX3_2 := HX3.out.frozen 2; have hxX3_3 := (HX3.out.cell 3).trans (show _ = some (.int .i64 0) from rfl); have hfX3_3 := HX3.out.frozen 3; have hxX3_4 := (HX3.out.cell 4).trans (show _ = some (.string { data := #[] }) from rfl); have hfX3_4 := HX3.out.frozen 4; have hxX3_5 := (HX3.out.cell 5).trans (show _ = some (.string { data := #[] }) from rfl); have hfX3_5 := HX3.out.frozen 5; have hxX3_6 := (HX3.out.cell 6).trans (show _ = some (.bool false) from rfl); have hfX3_6 := HX3.out.frozen 6; have hxX3_7 := (HX3.out.cell 7).trans (show _ = some (.bool false) from rfl); have hfX3_7 := HX3.out.frozen 7) | ((with_reducible refine gate_dst (N := 13) rfl ?_); refine goesL_ (some 13) rfl rfl Try.func103 (by kernel_rfl) rfl #[.pointer (some ⟨gX2, 0, none⟩)] rfl (by (try simp only [List.map_toArray, List.map_cons, List.map_nil]); first | done | rfl) ?_; (with_reducible refine (impl_byteReader_number.own k PX2 gX2 A1 c1 u1 b1 t2 u2 b2 w _ HB.out GEX2.out HX2.out HR1.out HC1.out E2.out).mono ?_); rintro e w2 ⟨A2, c2, rfl, hG, hC, hl, hb, hk⟩; refine ⟨_, rfl, ?_⟩; replace HX1 := Aside0.mk (HX1.out.step hk D_X1_X2.out); replace HX3 := Aside0.mk (HX3.out.step hk (apart_symm D_X2_X3.out)); replace HX2 := Aside0.mk hG; have HR2 := Aside0.mk hC; have HC2 := Aside0.mk hl; replace HB := Aside0.mk hb; clear hG hC hl hb hk; (try clear hxX1_0 hfX1_0 hxX1_1 hfX1_1 hxX1_2 hfX1_2 hxX1_3 hfX1_3 hxX1_4 hfX1_4 hxX1_5 hfX1_5 hxX1_6 hfX1_6 hxX1_7 hfX1_7); have hxX1_0 := (HX1.out.cell 0).trans (show _ = some (.int .i64 0) from rfl); have hfX1_0 := HX1.out.frozen 0; have hxX1_1 := (HX1.out.cell 1).trans (show _ = some (.int .i64 0) from rfl); have hfX1_1 := HX1.out.frozen 1; have hxX1_2 := (HX1.out.cell 2).trans (show _ = some (.string ByteArray.empty) from rfl); have hfX1_2 := HX1.out.frozen 2; have hxX1_3 := (HX1.out.cell 3).trans (show _ = some (.int .i64 0) from rfl); have hfX1_3 := HX1.out.frozen 3; have hxX1_4 := (HX1.out.cell 4).trans (show _ = some (.string ByteArray.empty) from rfl); have hfX1_4 := HX1.out.frozen 4; have hxX1_5 := (HX1.out.cell 5).trans (show _ = some (.string ByteArray.empty) from rfl); have hfX1_5 := HX1.out.frozen 5; have hxX1_6 := (HX1.out.cell 6).trans (show _ = some (.bool false) from rfl); have hfX1_6 := HX1.out.frozen 6; have hxX1_7 := (HX1.out.cell 7).trans (show _ = some (.bool false) from rfl); have hfX1_7 := HX1.out.frozen 7; (try clear hxX2_0 hfX2_0 hxX2_1 hfX2_1); have hxX2_0 := (HX2.out.cell 0).trans (show _ = some (.slice A2 u2.length c2) from rfl); have hfX2_0 := HX2.out.frozen 0; have hxX2_1 := (HX2.out.cell 1).trans (show _ = some (.bool b2) from rfl); have hfX2_1 := HX2.out.frozen 1; (try clear hxX3_0 hfX3_0 hxX3_1 hfX3_1 hxX3_2 hfX3_2 hxX3_3 hfX3_3 hxX3_4 hfX3_4 hxX3_5 hfX3_5 hxX3_6 hfX3_6 hxX3_7 hfX3_7); have hxX3_0 := (HX3.out.cell 0).trans (show _ = some (.int .i64 t1) from rfl); have hfX3_0 := HX3.out.frozen 0; have hxX3_1 := (HX3.out.cell 1).trans (show _ = some (.int .i64 0) from rfl); have hfX3_1 := HX3.out.frozen 1; have hxX3_2 := (HX3.out.cell 2).trans (show _ = some (.string { data := #[] }) from rfl); have hfX3_2 := HX3.out.frozen 2; have hxX3_3 := (HX3.out.cell 3).trans (show _ = some (.int .i64 0) from rfl); have hfX3_3 := HX3.out.frozen 3; have hxX3_4 := (HX3.out.cell 4).trans (show _ = some (.string { data := #[] }) from rfl); have hfX3_4 := HX3.out.frozen 4; have hxX3_5 := (HX3.out.cell 5).trans (show _ = some (.string { data := #[] }) from rfl); have hfX3_5 := HX3.out.frozen 5; have hxX3_6 := (HX3.out.cell 6).trans (show _ = some (.bool false) from rfl); have hfX3_6 := HX3.out.frozen 6; have hxX3_7 := (HX3.out.cell 7).trans (show _ = some (.bool false) from rfl); have hfX3_7 := HX3.out.frozen 7) | ((with_reducible refine gate_store (t := 3) (p := 14) rfl ?_); refine LB.stored HX3.out HB.out GEX3.out 1 [.int .i64 t2] rfl (t := 3) (p := 14) rfl rfl ?hr_5 ?_; (case hr_5 => first | (go_simp; done) | (go_simp; simp only [World.setCells, Nat.reduceAdd, Nat.zero_add]; done)); intro w2 hx hk hb; replace HX1 := Aside0.mk (HX1.out.step hk D_X1_X3.out); replace HX2 := Aside0.mk (HX2.out.step hk D_X2_X3.out); replace HB := Aside0.mk hb; replace HX3 := Aside0.mk (show LB w2 PX3 gX3 32 #[.int .i64 t1, .int .i64 t2, .string { data := #[] }, .int .i64 0, .string { data := #[] }, .string { data := #[] }, .bool false, .bool false] from hx); clear hk hx hb; (try clear hxX1_0 hfX1_0 hxX1_1 hfX1_1 hxX1_2 hfX1_2 hxX1_3 hfX1_3 hxX1_4 hfX1_4 hxX1_5 hfX1_5 hxX1_6 hfX1_6 hxX1_7 hfX1_7); have hxX1_0 := (HX1.out.cell 0).trans (show _ = some (.int .i64 0) from rfl); have hfX1_0 := HX1.out.frozen 0; have hxX1_1 := (HX1.out.cell 1).trans (show _ = some (.int .i64 0) from rfl); have hfX1_1 := HX1.out.frozen 1; have hxX1_2 := (HX1.out.cell 2).trans (show _ = some (.string ByteArray.empty) from rfl); have hfX1_2 := HX1.out.frozen 2; have hxX1_3 := (HX1.out.cell 3).trans (show _ = some (.int .i64 0) from rfl); have hfX1_3 := HX1.out.frozen 3; have hxX1_4 := (HX1.out.cell 4).trans (show _ = some (.string ByteArray.empty) from rfl); have hfX1_4 := HX1.out.frozen 4; have hxX1_5 := (HX1.out.cell 5).trans (show _ = some (.string ByteArray.empty) from rfl); have hfX1_5 := HX1.out.frozen 5; have hxX1_6 := (HX1.out.cell 6).trans (show _ = some (.bool false) from rfl); have hfX1_6 := HX1.out.frozen 6; have hxX1_7 := (HX1.out.cell 7).trans (show _ = some (.bool false) from rfl); have hfX1_7 := HX1.out.frozen 7; (try clear hxX2_0 hfX2_0 hxX2_1 hfX2_1); have hxX2_0 := (HX2.out.cell 0).trans (show _ = some (.slice A2 u2.length c2) from rfl); have hfX2_0 := HX2.out.frozen 0; have hxX2_1 := (HX2.out.cell 1).trans (show _ = some (.bool b2) from rfl); have hfX2_1 := HX2.out.frozen 1; (try clear hxX3_0 hfX3_0 hxX3_1 hfX3_1 hxX3_2 hfX3_2 hxX3_3 hfX3_3 hxX3_4 hfX3_4 hxX3_5 hfX3_5 hxX3_6 hfX3_6 hxX3_7 hfX3_7); have hxX3_0 := (HX3.out.cell 0).trans (show _ = some (.int .i64 t1) from rfl); have hfX3_0 := HX3.out.frozen 0; have hxX3_1 := (HX3.out.cell 1).trans (show _ = some (.int .i64 t2) from rfl); have hfX3_1 := HX3.out.frozen 1; have hxX3_2 := (HX3.out.cell 2).trans (show _ = some (.string { data := #[] }) from rfl); have hfX3_2 := HX3.out.frozen 2; have hxX3_3 := (HX3.out.cell 3).trans (show _ = some (.int .i64 0) from rfl); have hfX3_3 := HX3.out.frozen 3; have hxX3_4 := (HX3.out.cell 4).trans (show _ = some (.string { data := #[] }) from rfl); have hfX3_4 := HX3.out.frozen 4; have hxX3_5 := (HX3.out.cell 5).trans (show _ = some (.string { data := #[] }) from rfl); have hfX3_5 := HX3.out.frozen 5; have hxX3_6 := (HX3.out.cell 6).trans (show _ = some (.bool false) from rfl); have hfX3_6 := HX3.out.frozen 6; have hxX3_7 := (HX3.out.cell 7).trans (show _ = some (.bool false) from rfl); have hfX3_7 := HX3.out.frozen 7) | ((with_reducible refine gate_dst (N := 16) rfl ?_); refine goesL_ (some 16) rfl rfl Try.func104 (by kernel_rfl) rfl #[.pointer (some ⟨gX2, 0, none⟩)] rfl (by (try simp only [List.map_toArray, List.map_cons, List.map_nil]); first | done | rfl) ?_; (with_reducible refine (impl_byteReader_text.own k PX2 gX2 A2 c2 u2 b2 t3 u3 b3 w _ HB.out GEX2.out HX2.out HR2.out HC2.out E3.out).mono ?_); rintro e w2 ⟨A3, c3, rfl, hG, hC, hl, hb, hk⟩; refine ⟨_, rfl, ?_⟩; replace HX1 := Aside0.mk (HX1.out.step hk D_X1_X2.out); replace HX3 := Aside0.mk (HX3.out.step hk (apart_symm D_X2_X3.out)); replace HX2 := Aside0.mk hG; have HR3 := Aside0.mk hC; have HC3 := Aside0.mk hl; replace HB := Aside0.mk hb; clear hG hC hl hb hk; (try clear hxX1_0 hfX1_0 hxX1_1 hfX1_1 hxX1_2 hfX1_2 hxX1_3 hfX1_3 hxX1_4 hfX1_4 hxX1_5 hfX1_5 hxX1_6 hfX1_6 hxX1_7 hfX1_7); have hxX1_0 := (HX1.out.cell 0).trans (show _ = some (.int .i64 0) from rfl); have hfX1_0 := HX1.out.frozen 0; have hxX1_1 := (HX1.out.cell 1).trans (show _ = some (.int .i64 0) from rfl); have hfX1_1 := HX1.out.frozen 1; have hxX1_2 := (HX1.out.cell 2).trans (show _ = some (.string ByteArray.empty) from rfl); have hfX1_2 := HX1.out.frozen 2; have hxX1_3 := (HX1.out.cell 3).trans (show _ = some (.int .i64 0) from rfl); have hfX1_3 := HX1.out.frozen 3; have hxX1_4 := (HX1.out.cell 4).trans (show _ = some (.string ByteArray.empty) from rfl); have hfX1_4 := HX1.out.frozen 4; have hxX1_5 := (HX1.out.cell 5).trans (show _ = some (.string ByteArray.empty) from rfl); have hfX1_5 := HX1.out.frozen 5; have hxX1_6 := (HX1.out.cell 6).trans (show _ = some (.bool false) from rfl); have hfX1_6 := HX1.out.frozen 6; have hxX1_7 := (HX1.out.cell 7).trans (show _ = some (.bool false) from rfl); have hfX1_7 := HX1.out.frozen 7; (try clear hxX2_0 hfX2_0 hxX2_1 hfX2_1); have hxX2_0 := (HX2.out.cell 0).trans (show _ = some (.slice A3 u3.length c3) from rfl); have hfX2_0 := HX2.out.frozen 0; have hxX2_1 := (HX2.out.cell 1).trans (show _ = some (.bool b3) from rfl); have hfX2_1 := HX2.out.frozen 1; (try clear hxX3_0 hfX3_0 hxX3_1 hfX3_1 hxX3_2 hfX3_2 hxX3_3 hfX3_3 hxX3_4 hfX3_4 hxX3_5 hfX3_5 hxX3_6 hfX3_6 hxX3_7 hfX3_7); have hxX3_0 := (HX3.out.cell 0).trans (show _ = some (.int .i64 t1) from rfl); have hfX3_0 := HX3.out.frozen 0; have hxX3_1 := (HX3.out.cell 1).trans (show _ = some (.int .i64 t2) from rfl); have hfX3_1 := HX3.out.frozen 1; have hxX3_2 := (HX3.out.cell 2).trans (show _ = some (.string { data := #[] }) from rfl); have hfX3_2 := HX3.out.frozen 2; have hxX3_3 := (HX3.out.cell 3).trans (show _ = some (.int .i64 0) from rfl); have hfX3_3 := HX3.out.frozen 3; have hxX3_4 := (HX3.out.cell 4).trans (show _ = some (.string { data := #[] }) from rfl); have hfX3_4 := HX3.out.frozen 4; have hxX3_5 := (HX3.out.cell 5).trans (show _ = some (.string { data := #[] }) from rfl); have hfX3_5 := HX3.out.frozen 5; have hxX3_6 := (HX3.out.cell 6).trans (show _ = some (.bool false) from rfl); have hfX3_6 := HX3.out.frozen 6; have hxX3_7 := (HX3.out.cell 7).trans (show _ = some (.bool false) from rfl); have hfX3_7 := HX3.out.frozen 7) | ((with_reducible refine gate_store (t := 9) (p := 17) rfl ?_); refine LB.stored HX3.out HB.out GEX3.out 2 [.string t3] rfl (t := 9) (p := 17) rfl rfl ?hr_6 ?_; (case hr_6 => first | (go_simp; done) | (go_simp; simp only [World.setCells, Nat.reduceAdd, Nat.zero_add]; done)); intro w2 hx hk hb; replace HX1 := Aside0.mk (HX1.out.step hk D_X1_X3.out); replace HX2 := Aside0.mk (HX2.out.step hk D_X2_X3.out); replace HB := Aside0.mk hb; replace HX3 := Aside0.mk (show LB w2 PX3 gX3 32 #[.int .i64 t1, .int .i64 t2, .string t3, .int .i64 0, .string { data := #[] }, .string { data := #[] }, .bool false, .bool false] from hx); clear hk hx hb; (try clear hxX1_0 hfX1_0 hxX1_1 hfX1_1 hxX1_2 hfX1_2 hxX1_3 hfX1_3 hxX1_4 hfX1_4 hxX1_5 hfX1_5 hxX1_6 hfX1_6 hxX1_7 hfX1_7); have hxX1_0 := (HX1.out.cell 0).trans (show _ = some (.int .i64 0) from rfl); have hfX1_0 := HX1.out.frozen 0; have hxX1_1 := (HX1.out.cell 1).trans (show _ = some (.int .i64 0) from rfl); have hfX1_1 := HX1.out.frozen 1; have hxX1_2 := (HX1.out.cell 2).trans (show _ = some (.string ByteArray.empty) from rfl); have hfX1_2 := HX1.out.frozen 2; have hxX1_3 := (HX1.out.cell 3).trans (show _ = some (.int .i64 0) from rfl); have hfX1_3 := HX1.out.frozen 3; have hxX1_4 := (HX1.out.cell 4).trans (show _ = some (.string ByteArray.empty) from rfl); have hfX1_4 := HX1.out.frozen 4; have hxX1_5 := (HX1.out.cell 5).trans (show _ = some (.string ByteArray.empty) from rfl); have hfX1_5 := HX1.out.frozen 5; have hxX1_6 := (HX1.out.cell 6).trans (show _ = some (.bool false) from rfl); have hfX1_6 := HX1.out.frozen 6; have hxX1_7 := (HX1.out.cell 7).trans (show _ = some (.bool false) from rfl); have hfX1_7 := HX1.out.frozen 7; (try clear hxX2_0 hfX2_0 hxX2_1 hfX2_1); have hxX2_0 := (HX2.out.cell 0).trans (show _ = some (.slice A3 u3.length c3) from rfl); have hfX2_0 := HX2.out.frozen 0; have hxX2_1 := (HX2.out.cell 1).trans (show _ = some (.bool b3) from rfl); have hfX2_1 := HX2.out.frozen 1; (try clear hxX3_0 hfX3_0 hxX3_1 hfX3_1 hxX3_2 hfX3_2 hxX3_3 hfX3_3 hxX3_4 hfX3_4 hxX3_5 hfX3_5 hxX3_6 hfX3_6 hxX3_7 hfX3_7); have hxX3_0 := (HX3.out.cell 0).trans (show _ = some (.int .i64 t1) from rfl); have hfX3_0 := HX3.out.frozen 0; have hxX3_1 := (HX3.out.cell 1).trans (show _ = some (.int .i64 t2) from rfl); have hfX3_1 := HX3.out.frozen 1; have hxX3_2 := (HX3.out.cell 2).trans (show _ = some (.string t3) from rfl); have hfX3_2 := HX3.out.frozen 2; have hxX3_3 := (HX3.out.cell 3).trans (show _ = some (.int .i64 0) from rfl); have hfX3_3 := HX3.out.frozen 3; have hxX3_4 := (HX3.out.cell 4).trans (show _ = some (.string { data := #[] }) from rfl); have hfX3_4 := HX3.out.frozen 4; have hxX3_5 := (HX3.out.cell 5).trans (show _ = some (.string { data := #[] }) from rfl); have hfX3_5 := HX3.out.frozen 5; have hxX3_6 := (HX3.out.cell 6).trans (show _ = some (.bool false) from rfl); have hfX3_6 := HX3.out.frozen 6; have hxX3_7 := (HX3.out.cell 7).trans (show _ = some (.bool false) from rfl); have hfX3_7 := HX3.out.frozen 7) | ((with_reducible refine gate_dst (N := 19) rfl ?_); refine goesL_ (some 19) rfl rfl Try.func103 (by kernel_rfl) rfl #[.pointer (some ⟨gX2, 0, none⟩)] rfl (by (try simp only [List.map_toArray, List.map_cons, List.map_nil]); first | done | rfl) ?_; (with_reducible refine (impl_byteReader_number.own k PX2 gX2 A3 c3 u3 b3 t4 u4 b4 w _ HB.out GEX2.out HX2.out HR3.out HC3.out E4.out).mono ?_); rintro e w2 ⟨A4, c4, rfl, hG, hC, hl, hb, hk⟩; refine ⟨_, rfl, ?_⟩; replace HX1 := Aside0.mk (HX1.out.step hk D_X1_X2.out); replace HX3 := Aside0.mk (HX3.out.step hk (apart_symm D_X2_X3.out)); replace HX2 := Aside0.mk hG; have HR4 := Aside0.mk hC; have HC4 := Aside0.mk hl; replace HB := Aside0.mk hb; clear hG hC hl hb hk; (try clear hxX1_0 hfX1_0 hxX1_1 hfX1_1 hxX1_2 hfX1_2 hxX1_3 hfX1_3 hxX1_4 hfX1_4 hxX1_5 hfX1_5 hxX1_6 hfX1_6 hxX1_7 hfX1_7); have hxX1_0 := (HX1.out.cell 0).trans (show _ = some (.int .i64 0) from rfl); have hfX1_0 := HX1.out.frozen 0; have hxX1_1 := (HX1.out.cell 1).trans (show _ = some (.int .i64 0) from rfl); have hfX1_1 := HX1.out.frozen 1; have hxX1_2 := (HX1.out.cell 2).trans (show _ = some (.string ByteArray.empty) from rfl); have hfX1_2 := HX1.out.frozen 2; have hxX1_3 := (HX1.out.cell 3).trans (show _ = some (.int .i64 0) from rfl); have hfX1_3 := HX1.out.frozen 3; have hxX1_4 := (HX1.out.cell 4).trans (show _ = some (.string ByteArray.empty) from rfl); have hfX1_4 := HX1.out.frozen 4; have hxX1_5 := (HX1.out.cell 5).trans (show _ = some (.string ByteArray.empty) from rfl); have hfX1_5 := HX1.out.frozen 5; have hxX1_6 := (HX1.out.cell 6).trans (show _ = some (.bool false) from rfl); have hfX1_6 := HX1.out.frozen 6; have hxX1_7 := (HX1.out.cell 7).trans (show _ = some (.bool false) from rfl); have hfX1_7 := HX1.out.frozen 7; (try clear hxX2_0 hfX2_0 hxX2_1 hfX2_1); have hxX2_0 := (HX2.out.cell 0).trans (show _ = some (.slice A4 u4.length c4) from rfl); have hfX2_0 := HX2.out.frozen 0; have hxX2_1 := (HX2.out.cell 1).trans (show _ = some (.bool b4) from rfl); have hfX2_1 := HX2.out.frozen 1; (try clear hxX3_0 hfX3_0 hxX3_1 hfX3_1 hxX3_2 hfX3_2 hxX3_3 hfX3_3 hxX3_4 hfX3_4 hxX3_5 hfX3_5 hxX3_6 hfX3_6 hxX3_7 hfX3_7); have hxX3_0 := (HX3.out.cell 0).trans (show _ = some (.int .i64 t1) from rfl); have hfX3_0 := HX3.out.frozen 0; have hxX3_1 := (HX3.out.cell 1).trans (show _ = some (.int .i64 t2) from rfl); have hfX3_1 := HX3.out.frozen 1; have hxX3_2 := (HX3.out.cell 2).trans (show _ = some (.string t3) from rfl); have hfX3_2 := HX3.out.frozen 2; have hxX3_3 := (HX3.out.cell 3).trans (show _ = some (.int .i64 0) from rfl); have hfX3_3 := HX3.out.frozen 3; have hxX3_4 := (HX3.out.cell 4).trans (show _ = some (.string { data := #[] }) from rfl); have hfX3_4 := HX3.out.frozen 4; have hxX3_5 := (HX3.out.cell 5).trans (show _ = some (.string { data := #[] }) from rfl); have hfX3_5 := HX3.out.frozen 5; have hxX3_6 := (HX3.out.cell 6).trans (show _ = some (.bool false) from rfl); have hfX3_6 := HX3.out.frozen 6; have hxX3_7 := (HX3.out.cell 7).trans (show _ = some (.bool false) from rfl); have hfX3_7 := HX3.out.frozen 7) | ((with_reducible refine gate_store (t := 3) (p := 20) rfl ?_); refine LB.stored HX3.out HB.out GEX3.out 3 [.int .i64 t4] rfl (t := 3) (p := 20) rfl rfl ?hr_7 ?_; (case hr_7 => first | (go_simp; done) | (go_simp; simp only [World.setCells, Nat.reduceAdd, Nat.zero_add]; done)); intro w2 hx hk hb; replace HX1 := Aside0.mk (HX1.out.step hk D_X1_X3.out); replace HX2 := Aside0.mk (HX2.out.step hk D_X2_X3.out); replace HB := Aside0.mk hb; replace HX3 := Aside0.mk (show LB w2 PX3 gX3 32 #[.int .i64 t1, .int .i64 t2, .string t3, .int .i64 t4, .string { data := #[] }, .string { data := #[] }, .bool false, .bool false] from hx); clear hk hx hb; (try clear hxX1_0 hfX1_0 hxX1_1 hfX1_1 hxX1_2 hfX1_2 hxX1_3 hfX1_3 hxX1_4 hfX1_4 hxX1_5 hfX1_5 hxX1_6 hfX1_6 hxX1_7 hfX1_7); have hxX1_0 := (HX1.out.cell 0).trans (show _ = some (.int .i64 0) from rfl); have hfX1_0 := HX1.out.frozen 0; have hxX1_1 := (HX1.out.cell 1).trans (show _ = some (.int .i64 0) from rfl); have hfX1_1 := HX1.out.frozen 1; have hxX1_2 := (HX1.out.cell 2).trans (show _ = some (.string ByteArray.empty) from rfl); have hfX1_2 := HX1.out.frozen 2; have hxX1_3 := (HX1.out.cell 3).trans (show _ = some (.int .i64 0) from rfl); have hfX1_3 := HX1.out.frozen 3; have hxX1_4 := (HX1.out.cell 4).trans (show _ = some (.string ByteArray.empty) from rfl); have hfX1_4 := HX1.out.frozen 4; have hxX1_5 := (HX1.out.cell 5).trans (show _ = some (.string ByteArray.empty) from rfl); have hfX1_5 := HX1.out.frozen 5; have hxX1_6 := (HX1.out.cell 6).trans (show _ = some (.bool false) from rfl); have hfX1_6 := HX1.out.frozen 6; have hxX1_7 := (HX1.out.cell 7).trans (show _ = some (.bool false) from rfl); have hfX1_7 := HX1.out.frozen 7; (try clear hxX2_0 hfX2_0 hxX2_1 hfX2_1); have hxX2_0 := (HX2.out.cell 0).trans (show _ = some (.slice A4 u4.length c4) from rfl); have hfX2_0 := HX2.out.frozen 0; have hxX2_1 := (HX2.out.cell 1).trans (show _ = some (.bool b4) from rfl); have hfX2_1 := HX2.out.frozen 1; (try clear hxX3_0 hfX3_0 hxX3_1 hfX3_1 hxX3_2 hfX3_2 hxX3_3 hfX3_3 hxX3_4 hfX3_4 hxX3_5 hfX3_5 hxX3_6 hfX3_6 hxX3_7 hfX3_7); have hxX3_0 := (HX3.out.cell 0).trans (show _ = some (.int .i64 t1) from rfl); have hfX3_0 := HX3.out.frozen 0; have hxX3_1 := (HX3.out.cell 1).trans (show _ = some (.int .i64 t2) from rfl); have hfX3_1 := HX3.out.frozen 1; have hxX3_2 := (HX3.out.cell 2).trans (show _ = some (.string t3) from rfl); have hfX3_2 := HX3.out.frozen 2; have hxX3_3 := (HX3.out.cell 3).trans (show _ = some (.int .i64 t4) from rfl); have hfX3_3 := HX3.out.frozen 3; have hxX3_4 := (HX3.out.cell 4).trans (show _ = some (.string { data := #[] }) from rfl); have hfX3_4 := HX3.out.frozen 4; have hxX3_5 := (HX3.out.cell 5).trans (show _ = some (.string { data := #[] }) from rfl); have hfX3_5 := HX3.out.frozen 5; have hxX3_6 := (HX3.out.cell 6).trans (show _ = some (.bool false) from rfl); have hfX3_6 := HX3.out.frozen 6; have hxX3_7 := (HX3.out.cell 7).trans (show _ = some (.bool false) from rfl); have hfX3_7 := HX3.out.frozen 7) | ((with_reducible refine gate_dst (N := 22) rfl ?_); refine goesL_ (some 22) rfl rfl Try.func104 (by kernel_rfl) rfl #[.pointer (some ⟨gX2, 0, none⟩)] rfl (by (try simp only [List.map_toArray, List.map_cons, List.map_nil]); first | done | rfl) ?_; (with_reducible refine (impl_byteReader_text.own k PX2 gX2 A4 c4 u4 b4 t5 u5 b5 w _ HB.out GEX2.out HX2.out HR4.out HC4.out E5.out).mono ?_); rintro e w2 ⟨A5, c5, rfl, hG, hC, hl, hb, hk⟩; refine ⟨_, rfl, ?_⟩; replace HX1 := Aside0.mk (HX1.out.step hk D_X1_X2.out); replace HX3 := Aside0.mk (HX3.out.step hk (apart_symm D_X2_X3.out)); replace HX2 := Aside0.mk hG; have HR5 := Aside0.mk hC; have HC5 := Aside0.mk hl; replace HB := Aside0.mk hb; clear hG hC hl hb hk; (try clear hxX1_0 hfX1_0 hxX1_1 hfX1_1 hxX1_2 hfX1_2 hxX1_3 hfX1_3 hxX1_4 hfX1_4 hxX1_5 hfX1_5 hxX1_6 hfX1_6 hxX1_7 hfX1_7); have hxX1_0 := (HX1.out.cell 0).trans (show _ = some (.int .i64 0) from rfl); have hfX1_0 := HX1.out.frozen 0; have hxX1_1 := (HX1.out.cell 1).trans (show _ = some (.int .i64 0) from rfl); have hfX1_1 := HX1.out.frozen 1; have hxX1_2 := (HX1.out.cell 2).trans (show _ = some (.string ByteArray.empty) from rfl); have hfX1_2 := HX1.out.frozen 2; have hxX1_3 := (HX1.out.cell 3).trans (show _ = some (.int .i64 0) from rfl); have hfX1_3 := HX1.out.frozen 3; have hxX1_4 := (HX1.out.cell 4).trans (show _ = some (.string ByteArray.empty) from rfl); have hfX1_4 := HX1.out.frozen 4; have hxX1_5 := (HX1.out.cell 5).trans (show _ = some (.string ByteArray.empty) from rfl); have hfX1_5 := HX1.out.frozen 5; have hxX1_6 := (HX1.out.cell 6).trans (show _ = some (.bool false) from rfl); have hfX1_6 := HX1.out.frozen 6; have hxX1_7 := (HX1.out.cell 7).trans (show _ = some (.bool false) from rfl); have hfX1_7 := HX1.out.frozen 7; (try clear hxX2_0 hfX2_0 hxX2_1 hfX2_1); have hxX2_0 := (HX2.out.cell 0).trans (show _ = some (.slice A5 u5.length c5) from rfl); have hfX2_0 := HX2.out.frozen 0; have hxX2_1 := (HX2.out.cell 1).trans (show _ = some (.bool b5) from rfl); have hfX2_1 := HX2.out.frozen 1; (try clear hxX3_0 hfX3_0 hxX3_1 hfX3_1 hxX3_2 hfX3_2 hxX3_3 hfX3_3 hxX3_4 hfX3_4 hxX3_5 hfX3_5 hxX3_6 hfX3_6 hxX3_7 hfX3_7); have hxX3_0 := (HX3.out.cell 0).trans (show _ = some (.int .i64 t1) from rfl); have hfX3_0 := HX3.out.frozen 0; have hxX3_1 := (HX3.out.cell 1).trans (show _ = some (.int .i64 t2) from rfl); have hfX3_1 := HX3.out.frozen 1; have hxX3_2 := (HX3.out.cell 2).trans (show _ = some (.string t3) from rfl); have hfX3_2 := HX3.out.frozen 2; have hxX3_3 := (HX3.out.cell 3).trans (show _ = some (.int .i64 t4) from rfl); have hfX3_3 := HX3.out.frozen 3; have hxX3_4 := (HX3.out.cell 4).trans (show _ = some (.string { data := #[] }) from rfl); have hfX3_4 := HX3.out.frozen 4; have hxX3_5 := (HX3.out.cell 5).trans (show _ = some (.string { data := #[] }) from rfl); have hfX3_5 := HX3.out.frozen 5; have hxX3_6 := (HX3.out.cell 6).trans (show _ = some (.bool false) from rfl); have hfX3_6 := HX3.out.frozen 6; have hxX3_7 := (HX3.out.cell 7).trans (show _ = some (.bool false) from rfl); have hfX3_7 := HX3.out.frozen 7) | ((with_reducible refine gate_store (t := 9) (p := 23) rfl ?_); refine LB.stored HX3.out HB.out GEX3.out 4 [.string t5] rfl (t := 9) (p := 23) rfl rfl ?hr_8 ?_; (case hr_8 => first | (go_simp; done) | (go_simp; simp only [World.setCells, Nat.reduceAdd, Nat.zero_add]; done)); intro w2 hx hk hb; replace HX1 := Aside0.mk (HX1.out.step hk D_X1_X3.out); replace HX2 := Aside0.mk (HX2.out.step hk D_X2_X3.out); replace HB := Aside0.mk hb; replace HX3 := Aside0.mk (show LB w2 PX3 gX3 32 #[.int .i64 t1, .int .i64 t2, .string t3, .int .i64 t4, .string t5, .string { data := #[] }, .bool false, .bool false] from hx); clear hk hx hb; (try clear hxX1_0 hfX1_0 hxX1_1 hfX1_1 hxX1_2 hfX1_2 hxX1_3 hfX1_3 hxX1_4 hfX1_4 hxX1_5 hfX1_5 hxX1_6 hfX1_6 hxX1_7 hfX1_7); have hxX1_0 := (HX1.out.cell 0).trans (show _ = some (.int .i64 0) from rfl); have hfX1_0 := HX1.out.frozen 0; have hxX1_1 := (HX1.out.cell 1).trans (show _ = some (.int .i64 0) from rfl); have hfX1_1 := HX1.out.frozen 1; have hxX1_2 := (HX1.out.cell 2).trans (show _ = some (.string ByteArray.empty) from rfl); have hfX1_2 := HX1.out.frozen 2; have hxX1_3 := (HX1.out.cell 3).trans (show _ = some (.int .i64 0) from rfl); have hfX1_3 := HX1.out.frozen 3; have hxX1_4 := (HX1.out.cell 4).trans (show _ = some (.string ByteArray.empty) from rfl); have hfX1_4 := HX1.out.frozen 4; have hxX1_5 := (HX1.out.cell 5).trans (show _ = some (.string ByteArray.empty) from rfl); have hfX1_5 := HX1.out.frozen 5; have hxX1_6 := (HX1.out.cell 6).trans (show _ = some (.bool false) from rfl); have hfX1_6 := HX1.out.frozen 6; have hxX1_7 := (HX1.out.cell 7).trans (show _ = some (.bool false) from rfl); have hfX1_7 := HX1.out.frozen 7; (try clear hxX2_0 hfX2_0 hxX2_1 hfX2_1); have hxX2_0 := (HX2.out.cell 0).trans (show _ = some (.slice A5 u5.length c5) from rfl); have hfX2_0 := HX2.out.frozen 0; have hxX2_1 := (HX2.out.cell 1).trans (show _ = some (.bool b5) from rfl); have hfX2_1 := HX2.out.frozen 1; (try clear hxX3_0 hfX3_0 hxX3_1 hfX3_1 hxX3_2 hfX3_2 hxX3_3 hfX3_3 hxX3_4 hfX3_4 hxX3_5 hfX3_5 hxX3_6 hfX3_6 hxX3_7 hfX3_7); have hxX3_0 := (HX3.out.cell 0).trans (show _ = some (.int .i64 t1) from rfl); have hfX3_0 := HX3.out.frozen 0; have hxX3_1 := (HX3.out.cell 1).trans (show _ = some (.int .i64 t2) from rfl); have hfX3_1 := HX3.out.frozen 1; have hxX3_2 := (HX3.out.cell 2).trans (show _ = some (.string t3) from rfl); have hfX3_2 := HX3.out.frozen 2; have hxX3_3 := (HX3.out.cell 3).trans (show _ = some (.int .i64 t4) from rfl); have hfX3_3 := HX3.out.frozen 3; have hxX3_4 := (HX3.out.cell 4).trans (show _ = some (.string t5) from rfl); have hfX3_4 := HX3.out.frozen 4; have hxX3_5 := (HX3.out.cell 5).trans (show _ = some (.string { data := #[] }) from rfl); have hfX3_5 := HX3.out.frozen 5; have hxX3_6 := (HX3.out.cell 6).trans (show _ = some (.bool false) from rfl); have hfX3_6 := HX3.out.frozen 6; have hxX3_7 := (HX3.out.cell 7).trans (show _ = some (.bool false) from rfl); have hfX3_7 := HX3.out.frozen 7) | ((with_reducible refine gate_dst (N := 25) rfl ?_); refine goesL_ (some 25) rfl rfl Try.func104 (by kernel_rfl) rfl #[.pointer (some ⟨gX2, 0, none⟩)] rfl (by (try simp only [List.map_toArray, List.map_cons, List.map_nil]); first | done | rfl) ?_; (with_reducible refine (impl_byteReader_text.own k PX2 gX2 A5 c5 u5 b5 t6 u6 b6 w _ HB.out GEX2.out HX2.out HR5.out HC5.out E6.out).mono ?_); rintro e w2 ⟨A6, c6, rfl, hG, hC, hl, hb, hk⟩; refine ⟨_, rfl, ?_⟩; replace HX1 := Aside0.mk (HX1.out.step hk D_X1_X2.out); replace HX3 := Aside0.mk (HX3.out.step hk (apart_symm D_X2_X3.out)); replace HX2 := Aside0.mk hG; have HR6 := Aside0.mk hC; have HC6 := Aside0.mk hl; replace HB := Aside0.mk hb; clear hG hC hl hb hk; (try clear hxX1_0 hfX1_0 hxX1_1 hfX1_1 hxX1_2 hfX1_2 hxX1_3 hfX1_3 hxX1_4 hfX1_4 hxX1_5 hfX1_5 hxX1_6 hfX1_6 hxX1_7 hfX1_7); have hxX1_0 := (HX1.out.cell 0).trans (show _ = some (.int .i64 0) from rfl); have hfX1_0 := HX1.out.frozen 0; have hxX1_1 := (HX1.out.cell 1).trans (show _ = some (.int .i64 0) from rfl); have hfX1_1 := HX1.out.frozen 1; have hxX1_2 := (HX1.out.cell 2).trans (show _ = some (.string ByteArray.empty) from rfl); have hfX1_2 := HX1.out.frozen 2; have hxX1_3 := (HX1.out.cell 3).trans (show _ = some (.int .i64 0) from rfl); have hfX1_3 := HX1.out.frozen 3; have hxX1_4 := (HX1.out.cell 4).trans (show _ = some (.string ByteArray.empty) from rfl); have hfX1_4 := HX1.out.frozen 4; have hxX1_5 := (HX1.out.cell 5).trans (show _ = some (.string ByteArray.empty) from rfl); have hfX1_5 := HX1.out.frozen 5; have hxX1_6 := (HX1.out.cell 6).trans (show _ = some (.bool false) from rfl); have hfX1_6 := HX1.out.frozen 6; have hxX1_7 := (HX1.out.cell 7).trans (show _ = some (.bool false) from rfl); have hfX1_7 := HX1.out.frozen 7; (try clear hxX2_0 hfX2_0 hxX2_1 hfX2_1); have hxX2_0 := (HX2.out.cell 0).trans (show _ = some (.slice A6 u6.length c6) from rfl); have hfX2_0 := HX2.out.frozen 0; have hxX2_1 := (HX2.out.cell 1).trans (show _ = some (.bool b6) from rfl); have hfX2_1 := HX2.out.frozen 1; (try clear hxX3_0 hfX3_0 hxX3_1 hfX3_1 hxX3_2 hfX3_2 hxX3_3 hfX3_3 hxX3_4 hfX3_4 hxX3_5 hfX3_5 hxX3_6 hfX3_6 hxX3_7 hfX3_7); have hxX3_0 := (HX3.out.cell 0).trans (show _ = some (.int .i64 t1) from rfl); have hfX3_0 := HX3.out.frozen 0; have hxX3_1 := (HX3.out.cell 1).trans (show _ = some (.int .i64 t2) from rfl); have hfX3_1 := HX3.out.frozen 1; have hxX3_2 := (HX3.out.cell 2).trans (show _ = some (.string t3) from rfl); have hfX3_2 := HX3.out.frozen 2; have hxX3_3 := (HX3.out.cell 3).trans (show _ = some (.int .i64 t4) from rfl); have hfX3_3 := HX3.out.frozen 3; have hxX3_4 := (HX3.out.cell 4).trans (show _ = some (.string t5) from rfl); have hfX3_4 := HX3.out.frozen 4; have hxX3_5 := (HX3.out.cell 5).trans (show _ = some (.string { data := #[] }) from rfl); have hfX3_5 := HX3.out.frozen 5; have hxX3_6 := (HX3.out.cell 6).trans (show _ = some (.bool false) from rfl); have hfX3_6 := HX3.out.frozen 6; have hxX3_7 := (HX3.out.cell 7).trans (show _ = some (.bool false) from rfl); have hfX3_7 := HX3.out.frozen 7) | ((with_reducible refine gate_store (t := 9) (p := 26) rfl ?_); refine LB.stored HX3.out HB.out GEX3.out 5 [.string t6] rfl (t := 9) (p := 26) rfl rfl ?hr_9 ?_; (case hr_9 => first | (go_simp; done) | (go_simp; simp only [World.setCells, Nat.reduceAdd, Nat.zero_add]; done)); intro w2 hx hk hb; replace HX1 := Aside0.mk (HX1.out.step hk D_X1_X3.out); replace HX2 := Aside0.mk (HX2.out.step hk D_X2_X3.out); replace HB := Aside0.mk hb; replace HX3 := Aside0.mk (show LB w2 PX3 gX3 32 #[.int .i64 t1, .int .i64 t2, .string t3, .int .i64 t4, .string t5, .string t6, .bool false, .bool false] from hx); clear hk hx hb; (try clear hxX1_0 hfX1_0 hxX1_1 hfX1_1 hxX1_2 hfX1_2 hxX1_3 hfX1_3 hxX1_4 hfX1_4 hxX1_5 hfX1_5 hxX1_6 hfX1_6 hxX1_7 hfX1_7); have hxX1_0 := (HX1.out.cell 0).trans (show _ = some (.int .i64 0) from rfl); have hfX1_0 := HX1.out.frozen 0; have hxX1_1 := (HX1.out.cell 1).trans (show _ = some (.int .i64 0) from rfl); have hfX1_1 := HX1.out.frozen 1; have hxX1_2 := (HX1.out.cell 2).trans (show _ = some (.string ByteArray.empty) from rfl); have hfX1_2 := HX1.out.frozen 2; have hxX1_3 := (HX1.out.cell 3).trans (show _ = some (.int .i64 0) from rfl); have hfX1_3 := HX1.out.frozen 3; have hxX1_4 := (HX1.out.cell 4).trans (show _ = some (.string ByteArray.empty) from rfl); have hfX1_4 := HX1.out.frozen 4; have hxX1_5 := (HX1.out.cell 5).trans (show _ = some (.string ByteArray.empty) from rfl); have hfX1_5 := HX1.out.frozen 5; have hxX1_6 := (HX1.out.cell 6).trans (show _ = some (.bool false) from rfl); have hfX1_6 := HX1.out.frozen 6; have hxX1_7 := (HX1.out.cell 7).trans (show _ = some (.bool false) from rfl); have hfX1_7 := HX1.out.frozen 7; (try clear hxX2_0 hfX2_0 hxX2_1 hfX2_1); have hxX2_0 := (HX2.out.cell 0).trans (show _ = some (.slice A6 u6.length c6) from rfl); have hfX2_0 := HX2.out.frozen 0; have hxX2_1 := (HX2.out.cell 1).trans (show _ = some (.bool b6) from rfl); have hfX2_1 := HX2.out.frozen 1; (try clear hxX3_0 hfX3_0 hxX3_1 hfX3_1 hxX3_2 hfX3_2 hxX3_3 hfX3_3 hxX3_4 hfX3_4 hxX3_5 hfX3_5 hxX3_6 hfX3_6 hxX3_7 hfX3_7); have hxX3_0 := (HX3.out.cell 0).trans (show _ = some (.int .i64 t1) from rfl); have hfX3_0 := HX3.out.frozen 0; have hxX3_1 := (HX3.out.cell 1).trans (show _ = some (.int .i64 t2) from rfl); have hfX3_1 := HX3.out.frozen 1; have hxX3_2 := (HX3.out.cell 2).trans (show _ = some (.string t3) from rfl); have hfX3_2 := HX3.out.frozen 2; have hxX3_3 := (HX3.out.cell 3).trans (show _ = some (.int .i64 t4) from rfl); have hfX3_3 := HX3.out.frozen 3; have hxX3_4 := (HX3.out.cell 4).trans (show _ = some (.string t5) from rfl); have hfX3_4 := HX3.out.frozen 4; have hxX3_5 := (HX3.out.cell 5).trans (show _ = some (.string t6) from rfl); have hfX3_5 := HX3.out.frozen 5; have hxX3_6 := (HX3.out.cell 6).trans (show _ = some (.bool false) from rfl); have hfX3_6 := HX3.out.frozen 6; have hxX3_7 := (HX3.out.cell 7).trans (show _ = some (.bool false) from rfl); have hfX3_7 := HX3.out.frozen 7))
  cases b6 with
  | true =>
    rw [if_pos rfl] at h
    simp only [Option.some.injEq, Prod.mk.injEq] at h
    obtain ⟨rfl, rfl, rfl, rfl, rfl, rfl, rfl, rfl, rfl⟩ := h
    go_wp2_with (first | ((with_reducible refine gate_store (t := 32) (p := 2) rfl ?_); refine LB.storedW HX1.out HB.out GEX1.out [.int .i64 0, .int .i64 0, .string { data := #[] }, .int .i64 0, .string { data := #[] }, .string { data := #[] }, .bool false, .bool false] rfl rfl (t := 32) (p := 2) rfl rfl ?hr_10 ?_; (case hr_10 => first | (go_simp; done) | (go_simp; simp only [World.setCells, Nat.reduceAdd, Nat.zero_add]; done)); intro w2 hx hk hb; replace HX2 := Aside0.mk (HX2.out.step hk (apart_symm D_X1_X2.out)); replace HX3 := Aside0.mk (HX3.out.step hk (apart_symm D_X1_X3.out)); replace HB := Aside0.mk hb; replace HX1 := Aside0.mk (show LB w2 PX1 gX1 32 #[.int .i64 0, .int .i64 0, .string { data := #[] }, .int .i64 0, .string { data := #[] }, .string { data := #[] }, .bool false, .bool false] from hx); clear hk hx hb; (try clear hxX1_0 hfX1_0 hxX1_1 hfX1_1 hxX1_2 hfX1_2 hxX1_3 hfX1_3 hxX1_4 hfX1_4 hxX1_5 hfX1_5 hxX1_6 hfX1_6 hxX1_7 hfX1_7); have hxX1_0 := (HX1.out.cell 0).trans (show _ = some (.int .i64 0) from rfl); have hfX1_0 := HX1.out.frozen 0; have hxX1_1 := (HX1.out.cell 1).trans (show _ = some (.int .i64 0) from rfl); have hfX1_1 := HX1.out.frozen 1; have hxX1_2 := (HX1.out.cell 2).trans (show _ = some (.string { data := #[] }) from rfl); have hfX1_2 := HX1.out.frozen 2; have hxX1_3 := (HX1.out.cell 3).trans (show _ = some (.int .i64 0) from rfl); have hfX1_3 := HX1.out.frozen 3; have hxX1_4 := (HX1.out.cell 4).trans (show _ = some (.string { data := #[] }) from rfl); have hfX1_4 := HX1.out.frozen 4; have hxX1_5 := (HX1.out.cell 5).trans (show _ = some (.string { data := #[] }) from rfl); have hfX1_5 := HX1.out.frozen 5; have hxX1_6 := (HX1.out.cell 6).trans (show _ = some (.bool false) from rfl); have hfX1_6 := HX1.out.frozen 6; have hxX1_7 := (HX1.out.cell 7).trans (show _ = some (.bool false) from rfl); have hfX1_7 := HX1.out.frozen 7; (try clear hxX2_0 hfX2_0 hxX2_1 hfX2_1); have hxX2_0 := (HX2.out.cell 0).trans (show _ = some (.slice A6 u6.length c6) from rfl); have hfX2_0 := HX2.out.frozen 0; have hxX2_1 := (HX2.out.cell 1).trans (show _ = some (.bool true) from rfl); have hfX2_1 := HX2.out.frozen 1; (try clear hxX3_0 hfX3_0 hxX3_1 hfX3_1 hxX3_2 hfX3_2 hxX3_3 hfX3_3 hxX3_4 hfX3_4 hxX3_5 hfX3_5 hxX3_6 hfX3_6 hxX3_7 hfX3_7); have hxX3_0 := (HX3.out.cell 0).trans (show _ = some (.int .i64 t1) from rfl); have hfX3_0 := HX3.out.frozen 0; have hxX3_1 := (HX3.out.cell 1).trans (show _ = some (.int .i64 t2) from rfl); have hfX3_1 := HX3.out.frozen 1; have hxX3_2 := (HX3.out.cell 2).trans (show _ = some (.string t3) from rfl); have hfX3_2 := HX3.out.frozen 2; have hxX3_3 := (HX3.out.cell 3).trans (show _ = some (.int .i64 t4) from rfl); have hfX3_3 := HX3.out.frozen 3; have hxX3_4 := (HX3.out.cell 4).trans (show _ = some (.string t5) from rfl); have hfX3_4 := HX3.out.frozen 4; have hxX3_5 := (HX3.out.cell 5).trans (show _ = some (.string t6) from rfl); have hfX3_5 := HX3.out.frozen 5; have hxX3_6 := (HX3.out.cell 6).trans (show _ = some (.bool false) from rfl); have hfX3_6 := HX3.out.frozen 6; have hxX3_7 := (HX3.out.cell 7).trans (show _ = some (.bool false) from rfl); have hfX3_7 := HX3.out.frozen 7))
    refine bodyPost_ret (results_ct rfl _ _ gX1 32 #[.int .i64 0, .int .i64 0, .string { data := #[] }, .int .i64 0, .string { data := #[] }, .string { data := #[] }, .bool false, .bool false] (0, 0) _ rfl HX1.out.2.1 Try.underlying32 rfl (by kernel_rfl)) rfl ?_
    exact ⟨rfl, HB.out⟩
  | false =>
    rw [if_neg (by simp)] at h
    by_cases c2 : (u6.length : Int) = 1
    · rw [if_pos c2] at h
      have LE := Aside0.mk c2
      have cb3 : ((u6.length : Int) == 1) = true := beq_iff_eq.mpr c2
      have cb4 : ((u6.length : Int) != 1) = false := bne_eq_false_iff_eq.mpr c2
      have LE0 : 0 < u6.length := by omega
      have cb3n : (u6.length == 1) = true := beq_iff_eq.mpr (by omega)
      have cb4n : (u6.length != 1) = false := bne_eq_false_iff_eq.mpr (by omega)
      clear c2
      obtain ⟨z, hz⟩ : ∃ z_ : Int, z_ = rd u6 0 := ⟨_, rfl⟩
      rw [← hz] at h
      have NZ := Aside0.mk hz
      clear hz
      (try clear hz0)
      obtain ⟨ad1, ea1, hz1⟩ := Kd.at_int (Kd.C_below HR6.out HB.out) 0 (by decide) (by have := LE.out; omega)
      cases ea1
      rw [← NZ.out] at hz1
      rw [show ad1.add (0 : Int).toNat = ad1 from rfl] at hz1
      by_cases c3 : 3 < z
      · rw [if_pos c3] at h
        have cb5 : decide (3 < z) = true := decide_eq_true c3
        clear c3
        simp only [Option.some.injEq, Prod.mk.injEq] at h
        obtain ⟨rfl, rfl, rfl, rfl, rfl, rfl, rfl, rfl, rfl⟩ := h
        go_wp2_with (first | ((with_reducible refine gate_store (t := 32) (p := 2) rfl ?_); refine LB.storedW HX1.out HB.out GEX1.out [.int .i64 0, .int .i64 0, .string { data := #[] }, .int .i64 0, .string { data := #[] }, .string { data := #[] }, .bool false, .bool false] rfl rfl (t := 32) (p := 2) rfl rfl ?hr_11 ?_; (case hr_11 => first | (go_simp; done) | (go_simp; simp only [World.setCells, Nat.reduceAdd, Nat.zero_add]; done)); intro w2 hx hk hb; replace HX2 := Aside0.mk (HX2.out.step hk (apart_symm D_X1_X2.out)); replace HX3 := Aside0.mk (HX3.out.step hk (apart_symm D_X1_X3.out)); replace HB := Aside0.mk hb; replace HX1 := Aside0.mk (show LB w2 PX1 gX1 32 #[.int .i64 0, .int .i64 0, .string { data := #[] }, .int .i64 0, .string { data := #[] }, .string { data := #[] }, .bool false, .bool false] from hx); clear hk hx hb; (try clear hxX1_0 hfX1_0 hxX1_1 hfX1_1 hxX1_2 hfX1_2 hxX1_3 hfX1_3 hxX1_4 hfX1_4 hxX1_5 hfX1_5 hxX1_6 hfX1_6 hxX1_7 hfX1_7); have hxX1_0 := (HX1.out.cell 0).trans (show _ = some (.int .i64 0) from rfl); have hfX1_0 := HX1.out.frozen 0; have hxX1_1 := (HX1.out.cell 1).trans (show _ = some (.int .i64 0) from rfl); have hfX1_1 := HX1.out.frozen 1; have hxX1_2 := (HX1.out.cell 2).trans (show _ = some (.string { data := #[] }) from rfl); have hfX1_2 := HX1.out.frozen 2; have hxX1_3 := (HX1.out.cell 3).trans (show _ = some (.int .i64 0) from rfl); have hfX1_3 := HX1.out.frozen 3; have hxX1_4 := (HX1.out.cell 4).trans (show _ = some (.string { data := #[] }) from rfl); have hfX1_4 := HX1.out.frozen 4; have hxX1_5 := (HX1.out.cell 5).trans (show _ = some (.string { data := #[] }) from rfl); have hfX1_5 := HX1.out.frozen 5; have hxX1_6 := (HX1.out.cell 6).trans (show _ = some (.bool false) from rfl); have hfX1_6 := HX1.out.frozen 6; have hxX1_7 := (HX1.out.cell 7).trans (show _ = some (.bool false) from rfl); have hfX1_7 := HX1.out.frozen 7; (try clear hxX2_0 hfX2_0 hxX2_1 hfX2_1); have hxX2_0 := (HX2.out.cell 0).trans (show _ = some (.slice (some ad1) u6.length c6) from rfl); have hfX2_0 := HX2.out.frozen 0; have hxX2_1 := (HX2.out.cell 1).trans (show _ = some (.bool false) from rfl); have hfX2_1 := HX2.out.frozen 1; (try clear hxX3_0 hfX3_0 hxX3_1 hfX3_1 hxX3_2 hfX3_2 hxX3_3 hfX3_3 hxX3_4 hfX3_4 hxX3_5 hfX3_5 hxX3_6 hfX3_6 hxX3_7 hfX3_7); have hxX3_0 := (HX3.out.cell 0).trans (show _ = some (.int .i64 t1) from rfl); have hfX3_0 := HX3.out.frozen 0; have hxX3_1 := (HX3.out.cell 1).trans (show _ = some (.int .i64 t2) from rfl); have hfX3_1 := HX3.out.frozen 1; have hxX3_2 := (HX3.out.cell 2).trans (show _ = some (.string t3) from rfl); have hfX3_2 := HX3.out.frozen 2; have hxX3_3 := (HX3.out.cell 3).trans (show _ = some (.int .i64 t4) from rfl); have hfX3_3 := HX3.out.frozen 3; have hxX3_4 := (HX3.out.cell 4).trans (show _ = some (.string t5) from rfl); have hfX3_4 := HX3.out.frozen 4; have hxX3_5 := (HX3.out.cell 5).trans (show _ = some (.string t6) from rfl); have hfX3_5 := HX3.out.frozen 5; have hxX3_6 := (HX3.out.cell 6).trans (show _ = some (.bool false) from rfl); have hfX3_6 := HX3.out.frozen 6; have hxX3_7 := (HX3.out.cell 7).trans (show _ = some (.bool false) from rfl); have hfX3_7 := HX3.out.frozen 7))
        refine bodyPost_ret (results_ct rfl _ _ gX1 32 #[.int .i64 0, .int .i64 0, .string { data := #[] }, .int .i64 0, .string { data := #[] }, .string { data := #[] }, .bool false, .bool false] (0, 0) _ rfl HX1.out.2.1 Try.underlying32 rfl (by kernel_rfl)) rfl ?_
        exact ⟨rfl, HB.out⟩
      · rw [if_neg c3] at h
        have cb5 : decide (3 < z) = false := decide_eq_false c3
        clear c3
        obtain ⟨g7, hg7⟩ : ∃ q_ : Bool, q_ = (Go.bits .and .u8 z 1 == 1) := ⟨_, rfl⟩
        obtain ⟨g8, hg8⟩ : ∃ q_ : Bool, q_ = (Go.bits .and .u8 z 2 == 2) := ⟨_, rfl⟩
        rw [← hg7, ← hg8] at h
        have hg7' : (Go.bits .and .u8 z 1 == 1) = g7 := hg7.symm
        have hg8' : (Go.bits .and .u8 z 2 == 2) = g8 := hg8.symm
        clear hg7 hg8
        go_upto_region 10 with (fail)
        refine start_ (n := 20) (S := fun w' => w'.cell? ⟨gX2, 0, none⟩ = some (.slice (some ad1) u6.length c6) ∧ w'.cell? ad1 = some (.int .u8 z)) (ds := [19]) #[false, false, false, false, false, false, false, false, false, false, false, false, false, false, false, false, false, false, false, false] (by kernel_rfl) rfl rfl ⟨hxX2_0, hz1⟩ (fun hHeld => ?_)
        refine with_tabW impl_readJob.tab10 impl_readJob.bits10 (fun HT_ HW_ => ?_)
        generalize hwd_ : World.drew w2 = wd_ at hHeld ⊢
        have hk := kept_drew hwd_
        replace HX1 := Aside0.mk (HX1.out.step hk no_S)
        replace HX2 := Aside0.mk (HX2.out.step hk no_S)
        replace HX3 := Aside0.mk (HX3.out.step hk no_S)
        replace HB := Aside0.mk (below_drewd HB.out hwd_)
        clear hk hwd_
        (try clear hxX1_0 hfX1_0 hxX1_1 hfX1_1 hxX1_2 hfX1_2 hxX1_3 hfX1_3 hxX1_4 hfX1_4 hxX1_5 hfX1_5 hxX1_6 hfX1_6 hxX1_7 hfX1_7)
        have hxX1_0 := (HX1.out.cell 0).trans (show _ = some (.int .i64 0) from rfl)
        have hfX1_0 := HX1.out.frozen 0
        have hxX1_1 := (HX1.out.cell 1).trans (show _ = some (.int .i64 0) from rfl)
        have hfX1_1 := HX1.out.frozen 1
        have hxX1_2 := (HX1.out.cell 2).trans (show _ = some (.string ByteArray.empty) from rfl)
        have hfX1_2 := HX1.out.frozen 2
        have hxX1_3 := (HX1.out.cell 3).trans (show _ = some (.int .i64 0) from rfl)
        have hfX1_3 := HX1.out.frozen 3
        have hxX1_4 := (HX1.out.cell 4).trans (show _ = some (.string ByteArray.empty) from rfl)
        have hfX1_4 := HX1.out.frozen 4
        have hxX1_5 := (HX1.out.cell 5).trans (show _ = some (.string ByteArray.empty) from rfl)
        have hfX1_5 := HX1.out.frozen 5
        have hxX1_6 := (HX1.out.cell 6).trans (show _ = some (.bool false) from rfl)
        have hfX1_6 := HX1.out.frozen 6
        have hxX1_7 := (HX1.out.cell 7).trans (show _ = some (.bool false) from rfl)
        have hfX1_7 := HX1.out.frozen 7
        (try clear hxX2_0 hfX2_0 hxX2_1 hfX2_1)
        have hxX2_0 := (HX2.out.cell 0).trans (show _ = some (.slice (some ad1) u6.length c6) from rfl)
        have hfX2_0 := HX2.out.frozen 0
        have hxX2_1 := (HX2.out.cell 1).trans (show _ = some (.bool false) from rfl)
        have hfX2_1 := HX2.out.frozen 1
        (try clear hxX3_0 hfX3_0 hxX3_1 hfX3_1 hxX3_2 hfX3_2 hxX3_3 hfX3_3 hxX3_4 hfX3_4 hxX3_5 hfX3_5 hxX3_6 hfX3_6 hxX3_7 hfX3_7)
        have hxX3_0 := (HX3.out.cell 0).trans (show _ = some (.int .i64 t1) from rfl)
        have hfX3_0 := HX3.out.frozen 0
        have hxX3_1 := (HX3.out.cell 1).trans (show _ = some (.int .i64 t2) from rfl)
        have hfX3_1 := HX3.out.frozen 1
        have hxX3_2 := (HX3.out.cell 2).trans (show _ = some (.string t3) from rfl)
        have hfX3_2 := HX3.out.frozen 2
        have hxX3_3 := (HX3.out.cell 3).trans (show _ = some (.int .i64 t4) from rfl)
        have hfX3_3 := HX3.out.frozen 3
        have hxX3_4 := (HX3.out.cell 4).trans (show _ = some (.string t5) from rfl)
        have hfX3_4 := HX3.out.frozen 4
        have hxX3_5 := (HX3.out.cell 5).trans (show _ = some (.string t6) from rfl)
        have hfX3_5 := HX3.out.frozen 5
        have hxX3_6 := (HX3.out.cell 6).trans (show _ = some (.bool false) from rfl)
        have hfX3_6 := HX3.out.frozen 6
        have hxX3_7 := (HX3.out.cell 7).trans (show _ = some (.bool false) from rfl)
        have hfX3_7 := HX3.out.frozen 7
        refine pure_ (i := 0) (N := some 49) (v := ?_) (a' := ?_) #[true, false, false, false, false, false, false, false, false, false, false, false, false, false, false, false, false, false, false, false] rfl rfl (any_of HT_.out (by kernel_rfl)) (fun _ _ _ h => h) (Or.inl ⟨by rfl, ?_⟩) ?_ ?_
        rotate_left
        · intro w'
          go_simp
          with_reducible rfl
        rotate_left
        · simp only [Act.put, List.setIfInBounds_toArray, List.set_cons_zero, List.set_cons_succ, i64_w, i32_w]
          rfl
        refine pure_ (i := 1) (N := some 50) (v := ?_) (a' := ?_) #[true, true, false, false, false, false, false, false, false, false, false, false, false, false, false, false, false, false, false, false] rfl rfl (any_of HT_.out (by kernel_rfl)) (fun _ _ _ h => h) (Or.inl ⟨by rfl, ?_⟩) ?_ ?_
        rotate_left
        · intro w'
          go_simp
          with_reducible rfl
        rotate_left
        · simp only [Act.put, List.setIfInBounds_toArray, List.set_cons_zero, List.set_cons_succ, i64_w, i32_w]
          rfl
        refine pure_ (i := 2) (N := some 51) (v := ?_) (a' := ?_) #[true, true, true, false, false, false, false, false, false, false, false, false, false, false, false, false, false, false, false, false] rfl rfl (any_of HT_.out (by kernel_rfl)) (fun _ _ _ h => h) (Or.inl ⟨by rfl, ?_⟩) ?_ ?_
        rotate_left
        · intro w'
          go_simp
          with_reducible rfl
        rotate_left
        · simp only [Act.put, List.setIfInBounds_toArray, List.set_cons_zero, List.set_cons_succ, i64_w, i32_w]
          rfl
        refine take_ (i := 3) (N := some 52) (v := ?_) (a' := ?_) #[true, true, true, true, false, false, false, false, false, false, false, false, false, false, false, false, false, false, false, false] rfl rfl (take_ofW HT_.out HW_.out (by kernel_rfl)) (fun _ _ _ h => h) (Or.inl ⟨by rfl, ?_⟩) hHeld ?_ ?_
        rotate_left
        · rintro w' ⟨s0, s1⟩
          go_simp
          with_reducible rfl
        rotate_left
        · simp only [Act.put, List.setIfInBounds_toArray, List.set_cons_zero, List.set_cons_succ, i64_w, i32_w]
          rfl
        refine pure_ (i := 4) (N := some 53) (v := ?_) (a' := ?_) #[true, true, true, true, true, false, false, false, false, false, false, false, false, false, false, false, false, false, false, false] rfl rfl (any_of HT_.out (by kernel_rfl)) (fun _ _ _ h => h) (Or.inl ⟨by rfl, ?_⟩) ?_ ?_
        rotate_left
        · intro w'
          go_simp
          with_reducible rfl
        rotate_left
        · simp only [Act.put, List.setIfInBounds_toArray, List.set_cons_zero, List.set_cons_succ, i64_w, i32_w]
          rfl
        refine take_ (i := 5) (N := some 54) (v := ?_) (a' := ?_) #[true, true, true, true, true, true, false, false, false, false, false, false, false, false, false, false, false, false, false, false] rfl rfl (take_ofW HT_.out HW_.out (by kernel_rfl)) (fun _ _ _ h => h) (Or.inl ⟨by rfl, ?_⟩) hHeld ?_ ?_
        rotate_left
        · rintro w' ⟨s0, s1⟩
          go_simp
          with_reducible rfl
        rotate_left
        · simp only [Act.put, List.setIfInBounds_toArray, List.set_cons_zero, List.set_cons_succ, i64_w, i32_w]
          rfl
        refine pure_ (i := 6) (N := some 55) (v := ?_) (a' := ?_) #[true, true, true, true, true, true, true, false, false, false, false, false, false, false, false, false, false, false, false, false] rfl rfl (any_of HT_.out (by kernel_rfl)) (fun _ _ _ h => h) (Or.inl ⟨by rfl, ?_⟩) ?_ ?_
        rotate_left
        · intro w'
          go_simp
          with_reducible rfl
        rotate_left
        · simp only [Act.put, List.setIfInBounds_toArray, List.set_cons_zero, List.set_cons_succ, i64_w, i32_w]
          rfl
        refine pure_ (i := 7) (N := some 56) (v := ?_) (a' := ?_) #[true, true, true, true, true, true, true, true, false, false, false, false, false, false, false, false, false, false, false, false] rfl rfl (any_of HT_.out (by kernel_rfl)) (fun _ _ _ h => h) (Or.inl ⟨by rfl, ?_⟩) ?_ ?_
        rotate_left
        · intro w'
          go_simp
          with_reducible rfl
        rotate_left
        · simp only [Act.put, List.setIfInBounds_toArray, List.set_cons_zero, List.set_cons_succ, i64_w, i32_w]
          rfl
        refine pure_ (i := 8) (N := some 57) (v := ?_) (a' := ?_) #[true, true, true, true, true, true, true, true, true, false, false, false, false, false, false, false, false, false, false, false] rfl rfl (any_of HT_.out (by kernel_rfl)) (fun _ _ _ h => h) (Or.inl ⟨by rfl, ?_⟩) ?_ ?_
        rotate_left
        · intro w'
          go_simp
          with_reducible rfl
        rotate_left
        · simp only [Act.put, List.setIfInBounds_toArray, List.set_cons_zero, List.set_cons_succ, i64_w, i32_w]
          rfl
        refine pure_ (i := 9) (N := some 58) (v := ?_) (a' := ?_) #[true, true, true, true, true, true, true, true, true, true, false, false, false, false, false, false, false, false, false, false] rfl rfl (any_of HT_.out (by kernel_rfl)) (fun _ _ _ h => h) (Or.inl ⟨by rfl, ?_⟩) ?_ ?_
        rotate_left
        · intro w'
          go_simp
          with_reducible rfl
        rotate_left
        · simp only [Act.put, List.setIfInBounds_toArray, List.set_cons_zero, List.set_cons_succ, i64_w, i32_w]
          rfl
        refine pure_ (i := 10) (N := some 59) (v := ?_) (a' := ?_) #[true, true, true, true, true, true, true, true, true, true, true, false, false, false, false, false, false, false, false, false] rfl rfl (any_of HT_.out (by kernel_rfl)) (fun _ _ _ h => h) (Or.inl ⟨by rfl, ?_⟩) ?_ ?_
        rotate_left
        · intro w'
          go_simp
          with_reducible rfl
        rotate_left
        · simp only [Act.put, List.setIfInBounds_toArray, List.set_cons_zero, List.set_cons_succ, i64_w, i32_w]
          rfl
        refine take_ (i := 11) (N := some 60) (v := ?_) (a' := ?_) #[true, true, true, true, true, true, true, true, true, true, true, true, false, false, false, false, false, false, false, false] rfl rfl (take_ofW HT_.out HW_.out (by kernel_rfl)) (fun _ _ _ h => h) (Or.inl ⟨by rfl, ?_⟩) hHeld ?_ ?_
        rotate_left
        · rintro w' ⟨s0, s1⟩
          go_simp
          with_reducible rfl
        rotate_left
        · simp only [Act.put, List.setIfInBounds_toArray, List.set_cons_zero, List.set_cons_succ, i64_w, i32_w]
          rfl
        refine pure_ (i := 12) (N := some 61) (v := ?_) (a' := ?_) #[true, true, true, true, true, true, true, true, true, true, true, true, true, false, false, false, false, false, false, false] rfl rfl (any_of HT_.out (by kernel_rfl)) (fun _ _ _ h => h) (Or.inl ⟨by rfl, ?_⟩) ?_ ?_
        rotate_left
        · intro w'
          go_simp
          with_reducible rfl
        rotate_left
        · simp only [Act.put, List.setIfInBounds_toArray, List.set_cons_zero, List.set_cons_succ, i64_w, i32_w]
          rfl
        refine take_ (i := 13) (N := some 62) (v := ?_) (a' := ?_) #[true, true, true, true, true, true, true, true, true, true, true, true, true, true, false, false, false, false, false, false] rfl rfl (take_ofW HT_.out HW_.out (by kernel_rfl)) (fun _ _ _ h => h) (Or.inl ⟨by rfl, ?_⟩) hHeld ?_ ?_
        rotate_left
        · rintro w' ⟨s0, s1⟩
          go_simp
          with_reducible rfl
        rotate_left
        · simp only [Act.put, List.setIfInBounds_toArray, List.set_cons_zero, List.set_cons_succ, i64_w, i32_w]
          rfl
        refine pure_ (i := 14) (N := some 63) (v := ?_) (a' := ?_) #[true, true, true, true, true, true, true, true, true, true, true, true, true, true, true, false, false, false, false, false] rfl rfl (any_of HT_.out (by kernel_rfl)) (fun _ _ _ h => h) (Or.inl ⟨by rfl, ?_⟩) ?_ ?_
        rotate_left
        · intro w'
          go_simp
          with_reducible rfl
        rotate_left
        · simp only [Act.put, List.setIfInBounds_toArray, List.set_cons_zero, List.set_cons_succ, i64_w, i32_w]
          rfl
        refine pure_ (i := 15) (N := some 64) (v := ?_) (a' := ?_) #[true, true, true, true, true, true, true, true, true, true, true, true, true, true, true, true, false, false, false, false] rfl rfl (any_of HT_.out (by kernel_rfl)) (fun _ _ _ h => h) (Or.inl ⟨by rfl, ?_⟩) ?_ ?_
        rotate_left
        · intro w'
          go_simp
          with_reducible rfl
        rotate_left
        · simp only [Act.put, List.setIfInBounds_toArray, List.set_cons_zero, List.set_cons_succ, i64_w, i32_w]
          rfl
        refine pure_ (i := 16) (N := some 65) (v := ?_) (a' := ?_) #[true, true, true, true, true, true, true, true, true, true, true, true, true, true, true, true, true, false, false, false] rfl rfl (any_of HT_.out (by kernel_rfl)) (fun _ _ _ h => h) (Or.inl ⟨by rfl, ?_⟩) ?_ ?_
        rotate_left
        · intro w'
          go_simp
          with_reducible rfl
        rotate_left
        · simp only [Act.put, List.setIfInBounds_toArray, List.set_cons_zero, List.set_cons_succ, i64_w, i32_w]
          rfl
        refine one_ (i := 17) (N := none) #[true, true, true, true, true, true, true, true, true, true, true, true, true, true, true, true, true, true, false, false] rfl rfl (one_of HT_.out (by kernel_rfl)) (by decide) (fun K hK => ?_)
        refine LB.stored_step HX3.out HB.out GEX3.out 6 [.bool g7] (by rfl) rfl ?hr_12 ?_
        (case hr_12 => first | (go_simp; done) | (go_simp; simp only [World.setCells, Nat.reduceAdd, Nat.zero_add]; done))
        intro w2 hx hk hb
        replace HX1 := Aside0.mk (HX1.out.step hk D_X1_X3.out)
        replace HX2 := Aside0.mk (HX2.out.step hk D_X2_X3.out)
        replace HB := Aside0.mk hb
        replace HX3 := Aside0.mk (show LB w2 PX3 gX3 32 #[.int .i64 t1, .int .i64 t2, .string t3, .int .i64 t4, .string t5, .string t6, .bool g7, .bool false] from hx)
        clear hk hx hb
        (try clear hxX1_0 hfX1_0 hxX1_1 hfX1_1 hxX1_2 hfX1_2 hxX1_3 hfX1_3 hxX1_4 hfX1_4 hxX1_5 hfX1_5 hxX1_6 hfX1_6 hxX1_7 hfX1_7)
        have hxX1_0 := (HX1.out.cell 0).trans (show _ = some (.int .i64 0) from rfl)
        have hfX1_0 := HX1.out.frozen 0
        have hxX1_1 := (HX1.out.cell 1).trans (show _ = some (.int .i64 0) from rfl)
        have hfX1_1 := HX1.out.frozen 1
        have hxX1_2 := (HX1.out.cell 2).trans (show _ = some (.string ByteArray.empty) from rfl)
        have hfX1_2 := HX1.out.frozen 2
        have hxX1_3 := (HX1.out.cell 3).trans (show _ = some (.int .i64 0) from rfl)
        have hfX1_3 := HX1.out.frozen 3
        have hxX1_4 := (HX1.out.cell 4).trans (show _ = some (.string ByteArray.empty) from rfl)
        have hfX1_4 := HX1.out.frozen 4
        have hxX1_5 := (HX1.out.cell 5).trans (show _ = some (.string ByteArray.empty) from rfl)
        have hfX1_5 := HX1.out.frozen 5
        have hxX1_6 := (HX1.out.cell 6).trans (show _ = some (.bool false) from rfl)
        have hfX1_6 := HX1.out.frozen 6
        have hxX1_7 := (HX1.out.cell 7).trans (show _ = some (.bool false) from rfl)
        have hfX1_7 := HX1.out.frozen 7
        (try clear hxX2_0 hfX2_0 hxX2_1 hfX2_1)
        have hxX2_0 := (HX2.out.cell 0).trans (show _ = some (.slice (some ad1) u6.length c6) from rfl)
        have hfX2_0 := HX2.out.frozen 0
        have hxX2_1 := (HX2.out.cell 1).trans (show _ = some (.bool false) from rfl)
        have hfX2_1 := HX2.out.frozen 1
        (try clear hxX3_0 hfX3_0 hxX3_1 hfX3_1 hxX3_2 hfX3_2 hxX3_3 hfX3_3 hxX3_4 hfX3_4 hxX3_5 hfX3_5 hxX3_6 hfX3_6 hxX3_7 hfX3_7)
        have hxX3_0 := (HX3.out.cell 0).trans (show _ = some (.int .i64 t1) from rfl)
        have hfX3_0 := HX3.out.frozen 0
        have hxX3_1 := (HX3.out.cell 1).trans (show _ = some (.int .i64 t2) from rfl)
        have hfX3_1 := HX3.out.frozen 1
        have hxX3_2 := (HX3.out.cell 2).trans (show _ = some (.string t3) from rfl)
        have hfX3_2 := HX3.out.frozen 2
        have hxX3_3 := (HX3.out.cell 3).trans (show _ = some (.int .i64 t4) from rfl)
        have hfX3_3 := HX3.out.frozen 3
        have hxX3_4 := (HX3.out.cell 4).trans (show _ = some (.string t5) from rfl)
        have hfX3_4 := HX3.out.frozen 4
        have hxX3_5 := (HX3.out.cell 5).trans (show _ = some (.string t6) from rfl)
        have hfX3_5 := HX3.out.frozen 5
        have hxX3_6 := (HX3.out.cell 6).trans (show _ = some (.bool g7) from rfl)
        have hfX3_6 := HX3.out.frozen 6
        have hxX3_7 := (HX3.out.cell 7).trans (show _ = some (.bool false) from rfl)
        have hfX3_7 := HX3.out.frozen 7
        (try clear hz1)
        obtain ⟨ad2, ea2, hz2⟩ := Kd.at_int (Kd.C_below HR6.out HB.out) 0 (by decide) (by have := LE.out; omega)
        cases ea2
        rw [← NZ.out] at hz2
        rw [show ad1.add (0 : Int).toNat = ad1 from rfl] at hz2
        refine hK.out _ _ ⟨hxX2_0, hz2⟩ (fun hHeld => ?_)
        clear hK K
        refine pure_ (i := 18) (N := some 66) (v := ?_) (a' := ?_) #[true, true, true, true, true, true, true, true, true, true, true, true, true, true, true, true, true, true, true, false] rfl rfl (any_of HT_.out (by kernel_rfl)) (fun _ _ _ h => h) (Or.inl ⟨by rfl, ?_⟩) ?_ ?_
        rotate_left
        · intro w'
          go_simp
          with_reducible rfl
        rotate_left
        · simp only [Act.put, List.setIfInBounds_toArray, List.set_cons_zero, List.set_cons_succ, i64_w, i32_w]
          rfl
        refine last_ (i := 19) (N := none) #[true, true, true, true, true, true, true, true, true, true, true, true, true, true, true, true, true, true, true, true] rfl rfl (one_of HT_.out (by kernel_rfl)) (by decide) (fun K hK => ?_)
        refine LB.stored_step HX3.out HB.out GEX3.out 7 [.bool g8] (by rfl) rfl ?hr_13 ?_
        (case hr_13 => first | (go_simp; done) | (go_simp; simp only [World.setCells, Nat.reduceAdd, Nat.zero_add]; done))
        intro w2 hx hk hb
        replace HX1 := Aside0.mk (HX1.out.step hk D_X1_X3.out)
        replace HX2 := Aside0.mk (HX2.out.step hk D_X2_X3.out)
        replace HB := Aside0.mk hb
        replace HX3 := Aside0.mk (show LB w2 PX3 gX3 32 #[.int .i64 t1, .int .i64 t2, .string t3, .int .i64 t4, .string t5, .string t6, .bool g7, .bool g8] from hx)
        clear hk hx hb
        (try clear hxX1_0 hfX1_0 hxX1_1 hfX1_1 hxX1_2 hfX1_2 hxX1_3 hfX1_3 hxX1_4 hfX1_4 hxX1_5 hfX1_5 hxX1_6 hfX1_6 hxX1_7 hfX1_7)
        have hxX1_0 := (HX1.out.cell 0).trans (show _ = some (.int .i64 0) from rfl)
        have hfX1_0 := HX1.out.frozen 0
        have hxX1_1 := (HX1.out.cell 1).trans (show _ = some (.int .i64 0) from rfl)
        have hfX1_1 := HX1.out.frozen 1
        have hxX1_2 := (HX1.out.cell 2).trans (show _ = some (.string ByteArray.empty) from rfl)
        have hfX1_2 := HX1.out.frozen 2
        have hxX1_3 := (HX1.out.cell 3).trans (show _ = some (.int .i64 0) from rfl)
        have hfX1_3 := HX1.out.frozen 3
        have hxX1_4 := (HX1.out.cell 4).trans (show _ = some (.string ByteArray.empty) from rfl)
        have hfX1_4 := HX1.out.frozen 4
        have hxX1_5 := (HX1.out.cell 5).trans (show _ = some (.string ByteArray.empty) from rfl)
        have hfX1_5 := HX1.out.frozen 5
        have hxX1_6 := (HX1.out.cell 6).trans (show _ = some (.bool false) from rfl)
        have hfX1_6 := HX1.out.frozen 6
        have hxX1_7 := (HX1.out.cell 7).trans (show _ = some (.bool false) from rfl)
        have hfX1_7 := HX1.out.frozen 7
        (try clear hxX2_0 hfX2_0 hxX2_1 hfX2_1)
        have hxX2_0 := (HX2.out.cell 0).trans (show _ = some (.slice (some ad1) u6.length c6) from rfl)
        have hfX2_0 := HX2.out.frozen 0
        have hxX2_1 := (HX2.out.cell 1).trans (show _ = some (.bool false) from rfl)
        have hfX2_1 := HX2.out.frozen 1
        (try clear hxX3_0 hfX3_0 hxX3_1 hfX3_1 hxX3_2 hfX3_2 hxX3_3 hfX3_3 hxX3_4 hfX3_4 hxX3_5 hfX3_5 hxX3_6 hfX3_6 hxX3_7 hfX3_7)
        have hxX3_0 := (HX3.out.cell 0).trans (show _ = some (.int .i64 t1) from rfl)
        have hfX3_0 := HX3.out.frozen 0
        have hxX3_1 := (HX3.out.cell 1).trans (show _ = some (.int .i64 t2) from rfl)
        have hfX3_1 := HX3.out.frozen 1
        have hxX3_2 := (HX3.out.cell 2).trans (show _ = some (.string t3) from rfl)
        have hfX3_2 := HX3.out.frozen 2
        have hxX3_3 := (HX3.out.cell 3).trans (show _ = some (.int .i64 t4) from rfl)
        have hfX3_3 := HX3.out.frozen 3
        have hxX3_4 := (HX3.out.cell 4).trans (show _ = some (.string t5) from rfl)
        have hfX3_4 := HX3.out.frozen 4
        have hxX3_5 := (HX3.out.cell 5).trans (show _ = some (.string t6) from rfl)
        have hfX3_5 := HX3.out.frozen 5
        have hxX3_6 := (HX3.out.cell 6).trans (show _ = some (.bool g7) from rfl)
        have hfX3_6 := HX3.out.frozen 6
        have hxX3_7 := (HX3.out.cell 7).trans (show _ = some (.bool g8) from rfl)
        have hfX3_7 := HX3.out.frozen 7
        refine hK.out _ _ ?_
        clear hK K
        refine done_ (done_of HT_.out (by kernel_rfl)) ?_
        obtain ⟨b9, e9, h⟩ := Option.bind_eq_some_iff.1 h
        have E9 := Aside0.mk e9
        clear e9
        cases b9 with
        | true =>
          rw [if_pos rfl] at h
          simp only [Option.some.injEq, Prod.mk.injEq] at h
          obtain ⟨rfl, rfl, rfl, rfl, rfl, rfl, rfl, rfl, rfl⟩ := h
          go_wp2_with (first | ((with_reducible refine gate_callee (f := 63) rfl ?_); refine goesL_ (some 68) rfl rfl Try.func63 (by kernel_rfl) rfl #[.agg #[.int .i64 t1, .int .i64 t2, .string t3, .int .i64 t4, .string t5, .string t6, .bool g7, .bool g8]] rfl (by (try simp only [List.map_toArray, List.map_cons, List.map_nil]); first | done | rfl | (simp only [List.length_drop, List.length_take]; rfl)) ?_; (with_reducible refine (impl_jobOK.calls t1 t2 t3 t4 t5 t6 g7 g8 true _ E9.out).mono ?_); rintro e w2 ⟨rfl, hb⟩; refine ⟨_, rfl, ?_⟩; have hk := kept_below hb; replace HX1 := Aside0.mk (HX1.out.step hk no_S); replace HX2 := Aside0.mk (HX2.out.step hk no_S); replace HX3 := Aside0.mk (HX3.out.step hk no_S); replace HB := Aside0.mk (below_step HB.out hb); clear hb hk; (try clear hxX1_0 hfX1_0 hxX1_1 hfX1_1 hxX1_2 hfX1_2 hxX1_3 hfX1_3 hxX1_4 hfX1_4 hxX1_5 hfX1_5 hxX1_6 hfX1_6 hxX1_7 hfX1_7); have hxX1_0 := (HX1.out.cell 0).trans (show _ = some (.int .i64 0) from rfl); have hfX1_0 := HX1.out.frozen 0; have hxX1_1 := (HX1.out.cell 1).trans (show _ = some (.int .i64 0) from rfl); have hfX1_1 := HX1.out.frozen 1; have hxX1_2 := (HX1.out.cell 2).trans (show _ = some (.string ByteArray.empty) from rfl); have hfX1_2 := HX1.out.frozen 2; have hxX1_3 := (HX1.out.cell 3).trans (show _ = some (.int .i64 0) from rfl); have hfX1_3 := HX1.out.frozen 3; have hxX1_4 := (HX1.out.cell 4).trans (show _ = some (.string ByteArray.empty) from rfl); have hfX1_4 := HX1.out.frozen 4; have hxX1_5 := (HX1.out.cell 5).trans (show _ = some (.string ByteArray.empty) from rfl); have hfX1_5 := HX1.out.frozen 5; have hxX1_6 := (HX1.out.cell 6).trans (show _ = some (.bool false) from rfl); have hfX1_6 := HX1.out.frozen 6; have hxX1_7 := (HX1.out.cell 7).trans (show _ = some (.bool false) from rfl); have hfX1_7 := HX1.out.frozen 7; (try clear hxX2_0 hfX2_0 hxX2_1 hfX2_1); have hxX2_0 := (HX2.out.cell 0).trans (show _ = some (.slice (some ad1) u6.length c6) from rfl); have hfX2_0 := HX2.out.frozen 0; have hxX2_1 := (HX2.out.cell 1).trans (show _ = some (.bool false) from rfl); have hfX2_1 := HX2.out.frozen 1; (try clear hxX3_0 hfX3_0 hxX3_1 hfX3_1 hxX3_2 hfX3_2 hxX3_3 hfX3_3 hxX3_4 hfX3_4 hxX3_5 hfX3_5 hxX3_6 hfX3_6 hxX3_7 hfX3_7); have hxX3_0 := (HX3.out.cell 0).trans (show _ = some (.int .i64 t1) from rfl); have hfX3_0 := HX3.out.frozen 0; have hxX3_1 := (HX3.out.cell 1).trans (show _ = some (.int .i64 t2) from rfl); have hfX3_1 := HX3.out.frozen 1; have hxX3_2 := (HX3.out.cell 2).trans (show _ = some (.string t3) from rfl); have hfX3_2 := HX3.out.frozen 2; have hxX3_3 := (HX3.out.cell 3).trans (show _ = some (.int .i64 t4) from rfl); have hfX3_3 := HX3.out.frozen 3; have hxX3_4 := (HX3.out.cell 4).trans (show _ = some (.string t5) from rfl); have hfX3_4 := HX3.out.frozen 4; have hxX3_5 := (HX3.out.cell 5).trans (show _ = some (.string t6) from rfl); have hfX3_5 := HX3.out.frozen 5; have hxX3_6 := (HX3.out.cell 6).trans (show _ = some (.bool g7) from rfl); have hfX3_6 := HX3.out.frozen 6; have hxX3_7 := (HX3.out.cell 7).trans (show _ = some (.bool g8) from rfl); have hfX3_7 := HX3.out.frozen 7) | ((with_reducible refine gate_store (t := 32) (p := 2) rfl ?_); refine LB.storedW HX1.out HB.out GEX1.out [.int .i64 t1, .int .i64 t2, .string t3, .int .i64 t4, .string t5, .string t6, .bool g7, .bool g8] rfl rfl (t := 32) (p := 2) rfl rfl ?hr_14 ?_; (case hr_14 => first | (go_simp; done) | (go_simp; simp only [World.setCells, Nat.reduceAdd, Nat.zero_add]; done)); intro w2 hx hk hb; replace HX2 := Aside0.mk (HX2.out.step hk (apart_symm D_X1_X2.out)); replace HX3 := Aside0.mk (HX3.out.step hk (apart_symm D_X1_X3.out)); replace HB := Aside0.mk hb; replace HX1 := Aside0.mk (show LB w2 PX1 gX1 32 #[.int .i64 t1, .int .i64 t2, .string t3, .int .i64 t4, .string t5, .string t6, .bool g7, .bool g8] from hx); clear hk hx hb; (try clear hxX1_0 hfX1_0 hxX1_1 hfX1_1 hxX1_2 hfX1_2 hxX1_3 hfX1_3 hxX1_4 hfX1_4 hxX1_5 hfX1_5 hxX1_6 hfX1_6 hxX1_7 hfX1_7); have hxX1_0 := (HX1.out.cell 0).trans (show _ = some (.int .i64 t1) from rfl); have hfX1_0 := HX1.out.frozen 0; have hxX1_1 := (HX1.out.cell 1).trans (show _ = some (.int .i64 t2) from rfl); have hfX1_1 := HX1.out.frozen 1; have hxX1_2 := (HX1.out.cell 2).trans (show _ = some (.string t3) from rfl); have hfX1_2 := HX1.out.frozen 2; have hxX1_3 := (HX1.out.cell 3).trans (show _ = some (.int .i64 t4) from rfl); have hfX1_3 := HX1.out.frozen 3; have hxX1_4 := (HX1.out.cell 4).trans (show _ = some (.string t5) from rfl); have hfX1_4 := HX1.out.frozen 4; have hxX1_5 := (HX1.out.cell 5).trans (show _ = some (.string t6) from rfl); have hfX1_5 := HX1.out.frozen 5; have hxX1_6 := (HX1.out.cell 6).trans (show _ = some (.bool g7) from rfl); have hfX1_6 := HX1.out.frozen 6; have hxX1_7 := (HX1.out.cell 7).trans (show _ = some (.bool g8) from rfl); have hfX1_7 := HX1.out.frozen 7; (try clear hxX2_0 hfX2_0 hxX2_1 hfX2_1); have hxX2_0 := (HX2.out.cell 0).trans (show _ = some (.slice (some ad1) u6.length c6) from rfl); have hfX2_0 := HX2.out.frozen 0; have hxX2_1 := (HX2.out.cell 1).trans (show _ = some (.bool false) from rfl); have hfX2_1 := HX2.out.frozen 1; (try clear hxX3_0 hfX3_0 hxX3_1 hfX3_1 hxX3_2 hfX3_2 hxX3_3 hfX3_3 hxX3_4 hfX3_4 hxX3_5 hfX3_5 hxX3_6 hfX3_6 hxX3_7 hfX3_7); have hxX3_0 := (HX3.out.cell 0).trans (show _ = some (.int .i64 t1) from rfl); have hfX3_0 := HX3.out.frozen 0; have hxX3_1 := (HX3.out.cell 1).trans (show _ = some (.int .i64 t2) from rfl); have hfX3_1 := HX3.out.frozen 1; have hxX3_2 := (HX3.out.cell 2).trans (show _ = some (.string t3) from rfl); have hfX3_2 := HX3.out.frozen 2; have hxX3_3 := (HX3.out.cell 3).trans (show _ = some (.int .i64 t4) from rfl); have hfX3_3 := HX3.out.frozen 3; have hxX3_4 := (HX3.out.cell 4).trans (show _ = some (.string t5) from rfl); have hfX3_4 := HX3.out.frozen 4; have hxX3_5 := (HX3.out.cell 5).trans (show _ = some (.string t6) from rfl); have hfX3_5 := HX3.out.frozen 5; have hxX3_6 := (HX3.out.cell 6).trans (show _ = some (.bool g7) from rfl); have hfX3_6 := HX3.out.frozen 6; have hxX3_7 := (HX3.out.cell 7).trans (show _ = some (.bool g8) from rfl); have hfX3_7 := HX3.out.frozen 7))
          refine bodyPost_ret (results_ct rfl _ _ gX1 32 #[.int .i64 t1, .int .i64 t2, .string t3, .int .i64 t4, .string t5, .string t6, .bool g7, .bool g8] (0, 0) _ rfl HX1.out.2.1 Try.underlying32 rfl (by kernel_rfl)) rfl ?_
          exact ⟨rfl, HB.out⟩
        | false =>
          rw [if_neg (by simp)] at h
          simp only [Option.some.injEq, Prod.mk.injEq] at h
          obtain ⟨rfl, rfl, rfl, rfl, rfl, rfl, rfl, rfl, rfl⟩ := h
          go_wp2_with (first | ((with_reducible refine gate_callee (f := 63) rfl ?_); refine goesL_ (some 68) rfl rfl Try.func63 (by kernel_rfl) rfl #[.agg #[.int .i64 t1, .int .i64 t2, .string t3, .int .i64 t4, .string t5, .string t6, .bool g7, .bool g8]] rfl (by (try simp only [List.map_toArray, List.map_cons, List.map_nil]); first | done | rfl | (simp only [List.length_drop, List.length_take]; rfl)) ?_; (with_reducible refine (impl_jobOK.calls t1 t2 t3 t4 t5 t6 g7 g8 false _ E9.out).mono ?_); rintro e w2 ⟨rfl, hb⟩; refine ⟨_, rfl, ?_⟩; have hk := kept_below hb; replace HX1 := Aside0.mk (HX1.out.step hk no_S); replace HX2 := Aside0.mk (HX2.out.step hk no_S); replace HX3 := Aside0.mk (HX3.out.step hk no_S); replace HB := Aside0.mk (below_step HB.out hb); clear hb hk; (try clear hxX1_0 hfX1_0 hxX1_1 hfX1_1 hxX1_2 hfX1_2 hxX1_3 hfX1_3 hxX1_4 hfX1_4 hxX1_5 hfX1_5 hxX1_6 hfX1_6 hxX1_7 hfX1_7); have hxX1_0 := (HX1.out.cell 0).trans (show _ = some (.int .i64 0) from rfl); have hfX1_0 := HX1.out.frozen 0; have hxX1_1 := (HX1.out.cell 1).trans (show _ = some (.int .i64 0) from rfl); have hfX1_1 := HX1.out.frozen 1; have hxX1_2 := (HX1.out.cell 2).trans (show _ = some (.string ByteArray.empty) from rfl); have hfX1_2 := HX1.out.frozen 2; have hxX1_3 := (HX1.out.cell 3).trans (show _ = some (.int .i64 0) from rfl); have hfX1_3 := HX1.out.frozen 3; have hxX1_4 := (HX1.out.cell 4).trans (show _ = some (.string ByteArray.empty) from rfl); have hfX1_4 := HX1.out.frozen 4; have hxX1_5 := (HX1.out.cell 5).trans (show _ = some (.string ByteArray.empty) from rfl); have hfX1_5 := HX1.out.frozen 5; have hxX1_6 := (HX1.out.cell 6).trans (show _ = some (.bool false) from rfl); have hfX1_6 := HX1.out.frozen 6; have hxX1_7 := (HX1.out.cell 7).trans (show _ = some (.bool false) from rfl); have hfX1_7 := HX1.out.frozen 7; (try clear hxX2_0 hfX2_0 hxX2_1 hfX2_1); have hxX2_0 := (HX2.out.cell 0).trans (show _ = some (.slice (some ad1) u6.length c6) from rfl); have hfX2_0 := HX2.out.frozen 0; have hxX2_1 := (HX2.out.cell 1).trans (show _ = some (.bool false) from rfl); have hfX2_1 := HX2.out.frozen 1; (try clear hxX3_0 hfX3_0 hxX3_1 hfX3_1 hxX3_2 hfX3_2 hxX3_3 hfX3_3 hxX3_4 hfX3_4 hxX3_5 hfX3_5 hxX3_6 hfX3_6 hxX3_7 hfX3_7); have hxX3_0 := (HX3.out.cell 0).trans (show _ = some (.int .i64 t1) from rfl); have hfX3_0 := HX3.out.frozen 0; have hxX3_1 := (HX3.out.cell 1).trans (show _ = some (.int .i64 t2) from rfl); have hfX3_1 := HX3.out.frozen 1; have hxX3_2 := (HX3.out.cell 2).trans (show _ = some (.string t3) from rfl); have hfX3_2 := HX3.out.frozen 2; have hxX3_3 := (HX3.out.cell 3).trans (show _ = some (.int .i64 t4) from rfl); have hfX3_3 := HX3.out.frozen 3; have hxX3_4 := (HX3.out.cell 4).trans (show _ = some (.string t5) from rfl); have hfX3_4 := HX3.out.frozen 4; have hxX3_5 := (HX3.out.cell 5).trans (show _ = some (.string t6) from rfl); have hfX3_5 := HX3.out.frozen 5; have hxX3_6 := (HX3.out.cell 6).trans (show _ = some (.bool g7) from rfl); have hfX3_6 := HX3.out.frozen 6; have hxX3_7 := (HX3.out.cell 7).trans (show _ = some (.bool g8) from rfl); have hfX3_7 := HX3.out.frozen 7) | ((with_reducible refine gate_store (t := 32) (p := 2) rfl ?_); refine LB.storedW HX1.out HB.out GEX1.out [.int .i64 0, .int .i64 0, .string { data := #[] }, .int .i64 0, .string { data := #[] }, .string { data := #[] }, .bool false, .bool false] rfl rfl (t := 32) (p := 2) rfl rfl ?hr_15 ?_; (case hr_15 => first | (go_simp; done) | (go_simp; simp only [World.setCells, Nat.reduceAdd, Nat.zero_add]; done)); intro w2 hx hk hb; replace HX2 := Aside0.mk (HX2.out.step hk (apart_symm D_X1_X2.out)); replace HX3 := Aside0.mk (HX3.out.step hk (apart_symm D_X1_X3.out)); replace HB := Aside0.mk hb; replace HX1 := Aside0.mk (show LB w2 PX1 gX1 32 #[.int .i64 0, .int .i64 0, .string { data := #[] }, .int .i64 0, .string { data := #[] }, .string { data := #[] }, .bool false, .bool false] from hx); clear hk hx hb; (try clear hxX1_0 hfX1_0 hxX1_1 hfX1_1 hxX1_2 hfX1_2 hxX1_3 hfX1_3 hxX1_4 hfX1_4 hxX1_5 hfX1_5 hxX1_6 hfX1_6 hxX1_7 hfX1_7); have hxX1_0 := (HX1.out.cell 0).trans (show _ = some (.int .i64 0) from rfl); have hfX1_0 := HX1.out.frozen 0; have hxX1_1 := (HX1.out.cell 1).trans (show _ = some (.int .i64 0) from rfl); have hfX1_1 := HX1.out.frozen 1; have hxX1_2 := (HX1.out.cell 2).trans (show _ = some (.string { data := #[] }) from rfl); have hfX1_2 := HX1.out.frozen 2; have hxX1_3 := (HX1.out.cell 3).trans (show _ = some (.int .i64 0) from rfl); have hfX1_3 := HX1.out.frozen 3; have hxX1_4 := (HX1.out.cell 4).trans (show _ = some (.string { data := #[] }) from rfl); have hfX1_4 := HX1.out.frozen 4; have hxX1_5 := (HX1.out.cell 5).trans (show _ = some (.string { data := #[] }) from rfl); have hfX1_5 := HX1.out.frozen 5; have hxX1_6 := (HX1.out.cell 6).trans (show _ = some (.bool false) from rfl); have hfX1_6 := HX1.out.frozen 6; have hxX1_7 := (HX1.out.cell 7).trans (show _ = some (.bool false) from rfl); have hfX1_7 := HX1.out.frozen 7; (try clear hxX2_0 hfX2_0 hxX2_1 hfX2_1); have hxX2_0 := (HX2.out.cell 0).trans (show _ = some (.slice (some ad1) u6.length c6) from rfl); have hfX2_0 := HX2.out.frozen 0; have hxX2_1 := (HX2.out.cell 1).trans (show _ = some (.bool false) from rfl); have hfX2_1 := HX2.out.frozen 1; (try clear hxX3_0 hfX3_0 hxX3_1 hfX3_1 hxX3_2 hfX3_2 hxX3_3 hfX3_3 hxX3_4 hfX3_4 hxX3_5 hfX3_5 hxX3_6 hfX3_6 hxX3_7 hfX3_7); have hxX3_0 := (HX3.out.cell 0).trans (show _ = some (.int .i64 t1) from rfl); have hfX3_0 := HX3.out.frozen 0; have hxX3_1 := (HX3.out.cell 1).trans (show _ = some (.int .i64 t2) from rfl); have hfX3_1 := HX3.out.frozen 1; have hxX3_2 := (HX3.out.cell 2).trans (show _ = some (.string t3) from rfl); have hfX3_2 := HX3.out.frozen 2; have hxX3_3 := (HX3.out.cell 3).trans (show _ = some (.int .i64 t4) from rfl); have hfX3_3 := HX3.out.frozen 3; have hxX3_4 := (HX3.out.cell 4).trans (show _ = some (.string t5) from rfl); have hfX3_4 := HX3.out.frozen 4; have hxX3_5 := (HX3.out.cell 5).trans (show _ = some (.string t6) from rfl); have hfX3_5 := HX3.out.frozen 5; have hxX3_6 := (HX3.out.cell 6).trans (show _ = some (.bool g7) from rfl); have hfX3_6 := HX3.out.frozen 6; have hxX3_7 := (HX3.out.cell 7).trans (show _ = some (.bool g8) from rfl); have hfX3_7 := HX3.out.frozen 7))
          refine bodyPost_ret (results_ct rfl _ _ gX1 32 #[.int .i64 0, .int .i64 0, .string { data := #[] }, .int .i64 0, .string { data := #[] }, .string { data := #[] }, .bool false, .bool false] (0, 0) _ rfl HX1.out.2.1 Try.underlying32 rfl (by kernel_rfl)) rfl ?_
          exact ⟨rfl, HB.out⟩
    · rw [if_neg c2] at h
      have cb3 : ((u6.length : Int) == 1) = false := beq_eq_false_iff_ne.mpr c2
      have cb4 : ((u6.length : Int) != 1) = true := bne_iff_ne.mpr c2
      have cb3n : (u6.length == 1) = false := beq_eq_false_iff_ne.mpr (by omega)
      have cb4n : (u6.length != 1) = true := bne_iff_ne.mpr (by omega)
      clear c2
      simp only [Option.some.injEq, Prod.mk.injEq] at h
      obtain ⟨rfl, rfl, rfl, rfl, rfl, rfl, rfl, rfl, rfl⟩ := h
      go_wp2_with (first | ((with_reducible refine gate_store (t := 32) (p := 2) rfl ?_); refine LB.storedW HX1.out HB.out GEX1.out [.int .i64 0, .int .i64 0, .string { data := #[] }, .int .i64 0, .string { data := #[] }, .string { data := #[] }, .bool false, .bool false] rfl rfl (t := 32) (p := 2) rfl rfl ?hr_16 ?_; (case hr_16 => first | (go_simp; done) | (go_simp; simp only [World.setCells, Nat.reduceAdd, Nat.zero_add]; done)); intro w2 hx hk hb; replace HX2 := Aside0.mk (HX2.out.step hk (apart_symm D_X1_X2.out)); replace HX3 := Aside0.mk (HX3.out.step hk (apart_symm D_X1_X3.out)); replace HB := Aside0.mk hb; replace HX1 := Aside0.mk (show LB w2 PX1 gX1 32 #[.int .i64 0, .int .i64 0, .string { data := #[] }, .int .i64 0, .string { data := #[] }, .string { data := #[] }, .bool false, .bool false] from hx); clear hk hx hb; (try clear hxX1_0 hfX1_0 hxX1_1 hfX1_1 hxX1_2 hfX1_2 hxX1_3 hfX1_3 hxX1_4 hfX1_4 hxX1_5 hfX1_5 hxX1_6 hfX1_6 hxX1_7 hfX1_7); have hxX1_0 := (HX1.out.cell 0).trans (show _ = some (.int .i64 0) from rfl); have hfX1_0 := HX1.out.frozen 0; have hxX1_1 := (HX1.out.cell 1).trans (show _ = some (.int .i64 0) from rfl); have hfX1_1 := HX1.out.frozen 1; have hxX1_2 := (HX1.out.cell 2).trans (show _ = some (.string { data := #[] }) from rfl); have hfX1_2 := HX1.out.frozen 2; have hxX1_3 := (HX1.out.cell 3).trans (show _ = some (.int .i64 0) from rfl); have hfX1_3 := HX1.out.frozen 3; have hxX1_4 := (HX1.out.cell 4).trans (show _ = some (.string { data := #[] }) from rfl); have hfX1_4 := HX1.out.frozen 4; have hxX1_5 := (HX1.out.cell 5).trans (show _ = some (.string { data := #[] }) from rfl); have hfX1_5 := HX1.out.frozen 5; have hxX1_6 := (HX1.out.cell 6).trans (show _ = some (.bool false) from rfl); have hfX1_6 := HX1.out.frozen 6; have hxX1_7 := (HX1.out.cell 7).trans (show _ = some (.bool false) from rfl); have hfX1_7 := HX1.out.frozen 7; (try clear hxX2_0 hfX2_0 hxX2_1 hfX2_1); have hxX2_0 := (HX2.out.cell 0).trans (show _ = some (.slice A6 u6.length c6) from rfl); have hfX2_0 := HX2.out.frozen 0; have hxX2_1 := (HX2.out.cell 1).trans (show _ = some (.bool false) from rfl); have hfX2_1 := HX2.out.frozen 1; (try clear hxX3_0 hfX3_0 hxX3_1 hfX3_1 hxX3_2 hfX3_2 hxX3_3 hfX3_3 hxX3_4 hfX3_4 hxX3_5 hfX3_5 hxX3_6 hfX3_6 hxX3_7 hfX3_7); have hxX3_0 := (HX3.out.cell 0).trans (show _ = some (.int .i64 t1) from rfl); have hfX3_0 := HX3.out.frozen 0; have hxX3_1 := (HX3.out.cell 1).trans (show _ = some (.int .i64 t2) from rfl); have hfX3_1 := HX3.out.frozen 1; have hxX3_2 := (HX3.out.cell 2).trans (show _ = some (.string t3) from rfl); have hfX3_2 := HX3.out.frozen 2; have hxX3_3 := (HX3.out.cell 3).trans (show _ = some (.int .i64 t4) from rfl); have hfX3_3 := HX3.out.frozen 3; have hxX3_4 := (HX3.out.cell 4).trans (show _ = some (.string t5) from rfl); have hfX3_4 := HX3.out.frozen 4; have hxX3_5 := (HX3.out.cell 5).trans (show _ = some (.string t6) from rfl); have hfX3_5 := HX3.out.frozen 5; have hxX3_6 := (HX3.out.cell 6).trans (show _ = some (.bool false) from rfl); have hfX3_6 := HX3.out.frozen 6; have hxX3_7 := (HX3.out.cell 7).trans (show _ = some (.bool false) from rfl); have hfX3_7 := HX3.out.frozen 7))
      refine bodyPost_ret (results_ct rfl _ _ gX1 32 #[.int .i64 0, .int .i64 0, .string { data := #[] }, .int .i64 0, .string { data := #[] }, .string { data := #[] }, .bool false, .bool false] (0, 0) _ rfl HX1.out.2.1 Try.underlying32 rfl (by kernel_rfl)) rfl ?_
      exact ⟨rfl, HB.out⟩
/-! ### impl_ReadJob: function 29, by hand -/
def impl_ReadJob.f (k : Nat) (l : List Int) : Option (Int × Int × ByteArray × Int × ByteArray × ByteArray × Bool × Bool × Int) := (impl_longBytes.f l).bind fun c => (if c = 0 then impl_readJob.f k l else some (0, 0, ByteArray.empty, 0, ByteArray.empty, ByteArray.empty, false, false, c))
set_option maxHeartbeats 4000000 in
set_option maxRecDepth 100000 in
theorem impl_ReadJob.calls (k : Nat) (A0 : Option Addr) (c0 : Nat) (l0 : List Int) (r1 : Int) (r2 : Int) (r3 : ByteArray) (r4 : Int) (r5 : ByteArray) (r6 : ByteArray) (r7 : Bool) (r8 : Bool) (r9 : Int) (w : World) (hr0 : Kd.C (Kd.int .u8) w A0 l0.length l0) (hc0 : l0.length ≤ c0) (h : impl_ReadJob.f k l0 = some (r1, r2, r3, r4, r5, r6, r7, r8, r9)) :
    Calls Try.prog 29 #[.slice A0 l0.length c0] w fun e w' => e = .returned (.tuple #[.agg #[.int .i64 r1, .int .i64 r2, .string r3, .int .i64 r4, .string r5, .string r6, .bool r7, .bool r8], .int .i64 r9]) ∧ Below w.heap.size w w' := by
  have hu := Try.underlying32
  have HR := Aside0.mk hr0
  have HC := Aside0.mk hc0
  have HB := Aside0.mk (Below.refl w.heap.size w)
  clear hr0 hc0
  unfold impl_ReadJob.f at h
  obtain ⟨t1, e1, h⟩ := Option.bind_eq_some_iff.1 h
  have E1 := Aside0.mk e1
  clear e1
  by_cases c1 : t1 = 0
  · rw [if_pos c1] at h
    have cb1 : (t1 == 0) = true := beq_iff_eq.mpr c1
    have cb2 : (t1 != 0) = false := bne_eq_false_iff_eq.mpr c1
    clear c1
    have E2 := Aside0.mk h
    clear h
    go_enter Try.func29, Try.ntmps29
    go_wp2_with (first | ((with_reducible refine gate_dst (N := 2) rfl ?_); refine box_event ?hg_17 (N := 2) ?hd_17 (cs := #[.int .i64 0, .int .i64 0, .string ByteArray.empty, .int .i64 0, .string ByteArray.empty, .string ByteArray.empty, .bool false, .bool false]) (t := 32) ?hr_17 ?_; (case hd_17 => rfl); (case hg_17 => rfl); (case hr_17 => first | (go_simp; done) | (go_simp; rfl)); intro gX4 hg w2 hbox hb; have hk := kept_below hb; obtain ⟨PX4, hPX4, HLX4⟩ := LB.fresh hg hbox; have HX4 := Aside0.mk HLX4; clear HLX4; have GEX4 := Aside0.mk (show w.heap.size ≤ gX4 from (by rw [hg]; exact HB.out.size)); replace HB := Aside0.mk (below_step HB.out hb); clear hb hk hbox hg hPX4; (try clear hxX4_0 hfX4_0 hxX4_1 hfX4_1 hxX4_2 hfX4_2 hxX4_3 hfX4_3 hxX4_4 hfX4_4 hxX4_5 hfX4_5 hxX4_6 hfX4_6 hxX4_7 hfX4_7); have hxX4_0 := (HX4.out.cell 0).trans (show _ = some (.int .i64 0) from rfl); have hfX4_0 := HX4.out.frozen 0; have hxX4_1 := (HX4.out.cell 1).trans (show _ = some (.int .i64 0) from rfl); have hfX4_1 := HX4.out.frozen 1; have hxX4_2 := (HX4.out.cell 2).trans (show _ = some (.string ByteArray.empty) from rfl); have hfX4_2 := HX4.out.frozen 2; have hxX4_3 := (HX4.out.cell 3).trans (show _ = some (.int .i64 0) from rfl); have hfX4_3 := HX4.out.frozen 3; have hxX4_4 := (HX4.out.cell 4).trans (show _ = some (.string ByteArray.empty) from rfl); have hfX4_4 := HX4.out.frozen 4; have hxX4_5 := (HX4.out.cell 5).trans (show _ = some (.string ByteArray.empty) from rfl); have hfX4_5 := HX4.out.frozen 5; have hxX4_6 := (HX4.out.cell 6).trans (show _ = some (.bool false) from rfl); have hfX4_6 := HX4.out.frozen 6; have hxX4_7 := (HX4.out.cell 7).trans (show _ = some (.bool false) from rfl); have hfX4_7 := HX4.out.frozen 7) | ((with_reducible refine gate_callee (f := 67) rfl ?_); refine goesL_ (some 6) rfl rfl Try.func67 (by kernel_rfl) rfl #[.slice A0 l0.length c0] rfl (by (try simp only [List.map_toArray, List.map_cons, List.map_nil]); first | done | rfl | (simp only [List.length_drop, List.length_take]; rfl)) ?_; (with_reducible refine (impl_longBytes.calls _ _ l0 t1 _ (Kd.C_below HR.out HB.out) HC.out E1.out).mono ?_); rintro e w2 ⟨rfl, hq⟩; refine ⟨_, rfl, ?_⟩; have hk := kept_drawn hq; replace HX4 := Aside0.mk (HX4.out.step hk no_S); replace HB := Aside0.mk (below_drawn HB.out hq); clear hk hq; (try clear hxX4_0 hfX4_0 hxX4_1 hfX4_1 hxX4_2 hfX4_2 hxX4_3 hfX4_3 hxX4_4 hfX4_4 hxX4_5 hfX4_5 hxX4_6 hfX4_6 hxX4_7 hfX4_7); have hxX4_0 := (HX4.out.cell 0).trans (show _ = some (.int .i64 0) from rfl); have hfX4_0 := HX4.out.frozen 0; have hxX4_1 := (HX4.out.cell 1).trans (show _ = some (.int .i64 0) from rfl); have hfX4_1 := HX4.out.frozen 1; have hxX4_2 := (HX4.out.cell 2).trans (show _ = some (.string ByteArray.empty) from rfl); have hfX4_2 := HX4.out.frozen 2; have hxX4_3 := (HX4.out.cell 3).trans (show _ = some (.int .i64 0) from rfl); have hfX4_3 := HX4.out.frozen 3; have hxX4_4 := (HX4.out.cell 4).trans (show _ = some (.string ByteArray.empty) from rfl); have hfX4_4 := HX4.out.frozen 4; have hxX4_5 := (HX4.out.cell 5).trans (show _ = some (.string ByteArray.empty) from rfl); have hfX4_5 := HX4.out.frozen 5; have hxX4_6 := (HX4.out.cell 6).trans (show _ = some (.bool false) from rfl); have hfX4_6 := HX4.out.frozen 6; have hxX4_7 := (HX4.out.cell 7).trans (show _ = some (.bool false) from rfl); have hfX4_7 := HX4.out.frozen 7) | ((with_reducible refine gate_callee (f := 72) rfl ?_); refine goesL_ (some 12) rfl rfl Try.func72 (by kernel_rfl) rfl #[.slice A0 l0.length c0] rfl (by (try simp only [List.map_toArray, List.map_cons, List.map_nil]); first | done | rfl | (simp only [List.length_drop, List.length_take]; rfl)) ?_; (with_reducible refine (impl_readJob.calls k _ _ l0 r1 r2 r3 r4 r5 r6 r7 r8 r9 _ (Kd.C_below HR.out HB.out) HC.out E2.out).mono ?_); rintro e w2 ⟨rfl, hb⟩; refine ⟨_, rfl, ?_⟩; have hk := kept_below hb; replace HX4 := Aside0.mk (HX4.out.step hk no_S); replace HB := Aside0.mk (below_step HB.out hb); clear hb hk; (try clear hxX4_0 hfX4_0 hxX4_1 hfX4_1 hxX4_2 hfX4_2 hxX4_3 hfX4_3 hxX4_4 hfX4_4 hxX4_5 hfX4_5 hxX4_6 hfX4_6 hxX4_7 hfX4_7); have hxX4_0 := (HX4.out.cell 0).trans (show _ = some (.int .i64 0) from rfl); have hfX4_0 := HX4.out.frozen 0; have hxX4_1 := (HX4.out.cell 1).trans (show _ = some (.int .i64 0) from rfl); have hfX4_1 := HX4.out.frozen 1; have hxX4_2 := (HX4.out.cell 2).trans (show _ = some (.string ByteArray.empty) from rfl); have hfX4_2 := HX4.out.frozen 2; have hxX4_3 := (HX4.out.cell 3).trans (show _ = some (.int .i64 0) from rfl); have hfX4_3 := HX4.out.frozen 3; have hxX4_4 := (HX4.out.cell 4).trans (show _ = some (.string ByteArray.empty) from rfl); have hfX4_4 := HX4.out.frozen 4; have hxX4_5 := (HX4.out.cell 5).trans (show _ = some (.string ByteArray.empty) from rfl); have hfX4_5 := HX4.out.frozen 5; have hxX4_6 := (HX4.out.cell 6).trans (show _ = some (.bool false) from rfl); have hfX4_6 := HX4.out.frozen 6; have hxX4_7 := (HX4.out.cell 7).trans (show _ = some (.bool false) from rfl); have hfX4_7 := HX4.out.frozen 7) | ((with_reducible refine gate_store (t := 32) (p := 2) rfl ?_); refine LB.storedW HX4.out HB.out GEX4.out [.int .i64 r1, .int .i64 r2, .string r3, .int .i64 r4, .string r5, .string r6, .bool r7, .bool r8] rfl rfl (t := 32) (p := 2) rfl rfl ?hr_18 ?_; (case hr_18 => first | (go_simp; done) | (go_simp; simp only [World.setCells, Nat.reduceAdd, Nat.zero_add]; done)); intro w2 hx hk hb; replace HB := Aside0.mk hb; replace HX4 := Aside0.mk (show LB w2 PX4 gX4 32 #[.int .i64 r1, .int .i64 r2, .string r3, .int .i64 r4, .string r5, .string r6, .bool r7, .bool r8] from hx); clear hk hx hb; (try clear hxX4_0 hfX4_0 hxX4_1 hfX4_1 hxX4_2 hfX4_2 hxX4_3 hfX4_3 hxX4_4 hfX4_4 hxX4_5 hfX4_5 hxX4_6 hfX4_6 hxX4_7 hfX4_7); have hxX4_0 := (HX4.out.cell 0).trans (show _ = some (.int .i64 r1) from rfl); have hfX4_0 := HX4.out.frozen 0; have hxX4_1 := (HX4.out.cell 1).trans (show _ = some (.int .i64 r2) from rfl); have hfX4_1 := HX4.out.frozen 1; have hxX4_2 := (HX4.out.cell 2).trans (show _ = some (.string r3) from rfl); have hfX4_2 := HX4.out.frozen 2; have hxX4_3 := (HX4.out.cell 3).trans (show _ = some (.int .i64 r4) from rfl); have hfX4_3 := HX4.out.frozen 3; have hxX4_4 := (HX4.out.cell 4).trans (show _ = some (.string r5) from rfl); have hfX4_4 := HX4.out.frozen 4; have hxX4_5 := (HX4.out.cell 5).trans (show _ = some (.string r6) from rfl); have hfX4_5 := HX4.out.frozen 5; have hxX4_6 := (HX4.out.cell 6).trans (show _ = some (.bool r7) from rfl); have hfX4_6 := HX4.out.frozen 6; have hxX4_7 := (HX4.out.cell 7).trans (show _ = some (.bool r8) from rfl); have hfX4_7 := HX4.out.frozen 7))
    refine bodyPost_ret (results_ct rfl _ _ gX4 32 #[.int .i64 r1, .int .i64 r2, .string r3, .int .i64 r4, .string r5, .string r6, .bool r7, .bool r8] (0, 0) _ rfl HX4.out.2.1 Try.underlying32 rfl (by kernel_rfl)) rfl ?_
    exact ⟨rfl, HB.out⟩
  · rw [if_neg c1] at h
    have cb1 : (t1 == 0) = false := beq_eq_false_iff_ne.mpr c1
    have cb2 : (t1 != 0) = true := bne_iff_ne.mpr c1
    clear c1
    simp only [Option.some.injEq, Prod.mk.injEq] at h
    obtain ⟨rfl, rfl, rfl, rfl, rfl, rfl, rfl, rfl, rfl⟩ := h
    go_enter Try.func29, Try.ntmps29
    go_wp2_with (first | ((with_reducible refine gate_dst (N := 2) rfl ?_); refine box_event ?hg_19 (N := 2) ?hd_19 (cs := #[.int .i64 0, .int .i64 0, .string ByteArray.empty, .int .i64 0, .string ByteArray.empty, .string ByteArray.empty, .bool false, .bool false]) (t := 32) ?hr_19 ?_; (case hd_19 => rfl); (case hg_19 => rfl); (case hr_19 => first | (go_simp; done) | (go_simp; rfl)); intro gX5 hg w2 hbox hb; have hk := kept_below hb; obtain ⟨PX5, hPX5, HLX5⟩ := LB.fresh hg hbox; have HX5 := Aside0.mk HLX5; clear HLX5; have GEX5 := Aside0.mk (show w.heap.size ≤ gX5 from (by rw [hg]; exact HB.out.size)); replace HB := Aside0.mk (below_step HB.out hb); clear hb hk hbox hg hPX5; (try clear hxX5_0 hfX5_0 hxX5_1 hfX5_1 hxX5_2 hfX5_2 hxX5_3 hfX5_3 hxX5_4 hfX5_4 hxX5_5 hfX5_5 hxX5_6 hfX5_6 hxX5_7 hfX5_7); have hxX5_0 := (HX5.out.cell 0).trans (show _ = some (.int .i64 0) from rfl); have hfX5_0 := HX5.out.frozen 0; have hxX5_1 := (HX5.out.cell 1).trans (show _ = some (.int .i64 0) from rfl); have hfX5_1 := HX5.out.frozen 1; have hxX5_2 := (HX5.out.cell 2).trans (show _ = some (.string ByteArray.empty) from rfl); have hfX5_2 := HX5.out.frozen 2; have hxX5_3 := (HX5.out.cell 3).trans (show _ = some (.int .i64 0) from rfl); have hfX5_3 := HX5.out.frozen 3; have hxX5_4 := (HX5.out.cell 4).trans (show _ = some (.string ByteArray.empty) from rfl); have hfX5_4 := HX5.out.frozen 4; have hxX5_5 := (HX5.out.cell 5).trans (show _ = some (.string ByteArray.empty) from rfl); have hfX5_5 := HX5.out.frozen 5; have hxX5_6 := (HX5.out.cell 6).trans (show _ = some (.bool false) from rfl); have hfX5_6 := HX5.out.frozen 6; have hxX5_7 := (HX5.out.cell 7).trans (show _ = some (.bool false) from rfl); have hfX5_7 := HX5.out.frozen 7) | ((with_reducible refine gate_callee (f := 67) rfl ?_); refine goesL_ (some 6) rfl rfl Try.func67 (by kernel_rfl) rfl #[.slice A0 l0.length c0] rfl (by (try simp only [List.map_toArray, List.map_cons, List.map_nil]); first | done | rfl | (simp only [List.length_drop, List.length_take]; rfl)) ?_; (with_reducible refine (impl_longBytes.calls _ _ l0 t1 _ (Kd.C_below HR.out HB.out) HC.out E1.out).mono ?_); rintro e w2 ⟨rfl, hq⟩; refine ⟨_, rfl, ?_⟩; have hk := kept_drawn hq; replace HX5 := Aside0.mk (HX5.out.step hk no_S); replace HB := Aside0.mk (below_drawn HB.out hq); clear hk hq; (try clear hxX5_0 hfX5_0 hxX5_1 hfX5_1 hxX5_2 hfX5_2 hxX5_3 hfX5_3 hxX5_4 hfX5_4 hxX5_5 hfX5_5 hxX5_6 hfX5_6 hxX5_7 hfX5_7); have hxX5_0 := (HX5.out.cell 0).trans (show _ = some (.int .i64 0) from rfl); have hfX5_0 := HX5.out.frozen 0; have hxX5_1 := (HX5.out.cell 1).trans (show _ = some (.int .i64 0) from rfl); have hfX5_1 := HX5.out.frozen 1; have hxX5_2 := (HX5.out.cell 2).trans (show _ = some (.string ByteArray.empty) from rfl); have hfX5_2 := HX5.out.frozen 2; have hxX5_3 := (HX5.out.cell 3).trans (show _ = some (.int .i64 0) from rfl); have hfX5_3 := HX5.out.frozen 3; have hxX5_4 := (HX5.out.cell 4).trans (show _ = some (.string ByteArray.empty) from rfl); have hfX5_4 := HX5.out.frozen 4; have hxX5_5 := (HX5.out.cell 5).trans (show _ = some (.string ByteArray.empty) from rfl); have hfX5_5 := HX5.out.frozen 5; have hxX5_6 := (HX5.out.cell 6).trans (show _ = some (.bool false) from rfl); have hfX5_6 := HX5.out.frozen 6; have hxX5_7 := (HX5.out.cell 7).trans (show _ = some (.bool false) from rfl); have hfX5_7 := HX5.out.frozen 7) | ((with_reducible refine gate_store (t := 32) (p := 2) rfl ?_); refine LB.storedW HX5.out HB.out GEX5.out [.int .i64 0, .int .i64 0, .string { data := #[] }, .int .i64 0, .string { data := #[] }, .string { data := #[] }, .bool false, .bool false] rfl rfl (t := 32) (p := 2) rfl rfl ?hr_20 ?_; (case hr_20 => first | (go_simp; done) | (go_simp; simp only [World.setCells, Nat.reduceAdd, Nat.zero_add]; done)); intro w2 hx hk hb; replace HB := Aside0.mk hb; replace HX5 := Aside0.mk (show LB w2 PX5 gX5 32 #[.int .i64 0, .int .i64 0, .string { data := #[] }, .int .i64 0, .string { data := #[] }, .string { data := #[] }, .bool false, .bool false] from hx); clear hk hx hb; (try clear hxX5_0 hfX5_0 hxX5_1 hfX5_1 hxX5_2 hfX5_2 hxX5_3 hfX5_3 hxX5_4 hfX5_4 hxX5_5 hfX5_5 hxX5_6 hfX5_6 hxX5_7 hfX5_7); have hxX5_0 := (HX5.out.cell 0).trans (show _ = some (.int .i64 0) from rfl); have hfX5_0 := HX5.out.frozen 0; have hxX5_1 := (HX5.out.cell 1).trans (show _ = some (.int .i64 0) from rfl); have hfX5_1 := HX5.out.frozen 1; have hxX5_2 := (HX5.out.cell 2).trans (show _ = some (.string { data := #[] }) from rfl); have hfX5_2 := HX5.out.frozen 2; have hxX5_3 := (HX5.out.cell 3).trans (show _ = some (.int .i64 0) from rfl); have hfX5_3 := HX5.out.frozen 3; have hxX5_4 := (HX5.out.cell 4).trans (show _ = some (.string { data := #[] }) from rfl); have hfX5_4 := HX5.out.frozen 4; have hxX5_5 := (HX5.out.cell 5).trans (show _ = some (.string { data := #[] }) from rfl); have hfX5_5 := HX5.out.frozen 5; have hxX5_6 := (HX5.out.cell 6).trans (show _ = some (.bool false) from rfl); have hfX5_6 := HX5.out.frozen 6; have hxX5_7 := (HX5.out.cell 7).trans (show _ = some (.bool false) from rfl); have hfX5_7 := HX5.out.frozen 7))
    refine bodyPost_ret (results_ct rfl _ _ gX5 32 #[.int .i64 0, .int .i64 0, .string { data := #[] }, .int .i64 0, .string { data := #[] }, .string { data := #[] }, .bool false, .bool false] (0, 0) _ rfl HX5.out.2.1 Try.underlying32 rfl (by kernel_rfl)) rfl ?_
    exact ⟨rfl, HB.out⟩
end Go.Proofs.Ytkiknhljomobpaa.PFnExactReadJob
