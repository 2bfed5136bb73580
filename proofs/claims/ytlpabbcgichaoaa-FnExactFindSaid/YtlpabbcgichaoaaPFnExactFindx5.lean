import Derived.Test.YtlpabbcgichaoaaPFnExactFindx0
import Derived.Test.YtlpabbcgichaoaaPFnExactFindx1
import Derived.Test.YtlpabbcgichaoaaWWords
namespace Go.Proofs.Ytlpabbcgichaoaa.PFnExactFind
open Go.RowKit Go.Proofs.YtlpabbcgichaoaaW.PrintWords Go.Proofs.YtlpabbcgichaoaaW.PrintLast Go.Proofs.YtlpabbcgichaoaaW.PrintMore
attribute [local go_sem] max2_int min2_int max_two min_two max_three min_three max_four min_four
set_option maxHeartbeats 8000000
set_option maxRecDepth 100000
set_option linter.unusedVariables false
set_option linter.unusedSimpArgs false
theorem rx5_0 {p : Prop} (h : p := by exact ⟨by rw [NV.out]; exact HG, HX3, HB, HK⟩) : p := h
theorem rx5_1 {p : Prop} (h : p := by exact ⟨by rw [HA.out], by rw [HA.out], by rw [HA.out] <;> simp, by rw [HA.out] <;> simp, by rw [HA.out], by rw [HA.out]; exact HG, HX3, HB, HK⟩) : p := h

def impl_looker.rises (s : ByteArray) : Bool := (impl_rises.f 700 s).getD false
theorem impl_looker.rises_end (s : ByteArray) (i : Int) (k : Nat) : ∃ b, impl_rises.j1 (k + 1) s i false = some b := by
 rw [impl_rises.j1, if_neg (by simp), impl_within.f]
 split <;> exact ⟨_, rfl⟩
theorem impl_looker.rises_go (s : ByteArray) : ∀ (d i : Nat), i + d = 300 → 1 ≤ i → ∀ k, 2 * d + 2 ≤ k → ∃ b, impl_rises.l0 k s (i : Int) = some b := by
 intro d
 induction d with
 | zero =>
  intro i hi h1 k hk
  obtain ⟨k, rfl⟩ : ∃ m, k = m + 2 := ⟨k - 2, by omega⟩
  rw [impl_rises.l0, show decide ((i : Int) < 300) = false from decide_eq_false (by omega)]
  split <;> exact impl_looker.rises_end _ _ _
 | succ d ih =>
  intro i hi h1 k hk
  obtain ⟨k, rfl⟩ : ∃ m, k = m + 2 := ⟨k - 2, by omega⟩
  rw [impl_rises.l0, show decide ((i : Int) < 300) = true from decide_eq_true (by omega)]
  have hw : wrap64 ((i : Int) - 1) = (i : Int) - 1 := by unfold wrap64; omega
  have hw2 : wrap64 ((i : Int) + 1) = ((i + 1 : Nat) : Int) := by unfold wrap64; omega
  by_cases hs : (i : Int) < (s.size : Int)
  ·
   rw [if_pos hs, impl_rises.j1, if_pos rfl, if_pos (by omega), if_pos hs, hw, if_pos (by omega), if_pos (by omega), hw2]
   split
   ·
    exact ⟨_, rfl⟩
   exact ih (i + 1) (by omega) (by omega) k (by omega)
  rw [if_neg hs]
  exact impl_looker.rises_end _ _ _
theorem impl_looker.rises_ev (s : ByteArray) : impl_rises.f 700 s = some (impl_looker.rises s) := by
 obtain ⟨b, hb⟩ := impl_looker.rises_go s 299 1 rfl (Nat.le_refl _) 700 (by omega)
 have : impl_rises.f 700 s = some b := hb
 unfold impl_looker.rises
 rw [this]
 rfl
structure impl_looker.Ask where
 least : Int
 most : Int
 n : Bool
 m : Bool
 set : Bool
 gr : Int
 bad : Bool
def impl_looker.ask (k n m : Int) (s : ByteArray) (gr : Int) : impl_looker.Ask :=
 if k = 1 then ⟨0, 0, decide (0 ≤ n ∧ n ≤ 255), m == 0, s.toList.isEmpty, gr, false⟩
 else if k = 2 ∨ k = 4 ∨ k = 5 then ⟨0, 0, n == 0, m == 0, s.toList.isEmpty, gr, false⟩
 else if k = 3 then ⟨0, 0, n == 0, m == 0, impl_looker.rises s, gr, false⟩
 else if k = 6 then ⟨1, 1, (n == wrap64 (gr + 1)) && decide (n ≤ 9), m == 0, s.toList.isEmpty, wrap64 (gr + 1), false⟩
 else if k = 7 then ⟨0, 120, n == 0, m == 0, s.toList.isEmpty, gr, false⟩
 else if k = 8 then ⟨2, 120, n == 0, m == 0, s.toList.isEmpty, gr, false⟩
 else if k = 9 then ⟨1, 1, decide (0 ≤ n ∧ n ≤ 20), (m == -1) || decide (n ≤ m ∧ m ≤ 20), s.toList.isEmpty, gr, false⟩
 else ⟨0, 0, true, true, s.toList.isEmpty, gr, true⟩
def impl_looker.b3 (a : impl_looker.Ask) (len : Int) : Bool := a.bad || (!a.n || (!a.m || (!a.set || !decide (a.least ≤ len ∧ len ≤ a.most))))
def impl_looker.w2 (k n m w : Int) (bad : Bool) : Int := if (k == 9 && !bad) = true then wrap64 (w * wrap64 (mx n m + 1)) else w
def impl_looker.fin (k n m : Int) (q : Bool × Int × Int × Int × Bool) : Int × Int × Int × Bool :=
 if q.1 = true then (0, q.2.2.1, q.2.2.2.1, true) else (impl_looker.w2 k n m q.2.1 q.2.2.2.2, q.2.2.1, q.2.2.2.1, q.2.2.2.2 || decide (300 < impl_looker.w2 k n m q.2.1 q.2.2.2.2))
mutual
def impl_looker.g : S31 → Int → Int → Bool → Int × Int × Int × Bool
 | ⟨k, n, m, s, kids⟩, nd, gr, bad =>
  if (decide (120 < wrap64 (nd + 1)) || bad) = true then (0, wrap64 (nd + 1), gr, true)
  else impl_looker.fin k n m (impl_looker.go kids 1 (wrap64 (nd + 1)) (impl_looker.ask k n m s gr).gr (impl_looker.b3 (impl_looker.ask k n m s gr) kids.length))
def impl_looker.go : List S31 → Int → Int → Int → Bool → Bool × Int × Int × Int × Bool
 | [], w, nd, gr, bad => (false, w, nd, gr, bad)
 | x :: l, w, nd, gr, bad => if bad = true then (true, 0, nd, gr, true) else
   impl_looker.go l (wrap64 (w + (impl_looker.g x nd gr false).1)) (impl_looker.g x nd gr false).2.1 (impl_looker.g x nd gr false).2.2.1 (impl_looker.g x nd gr false).2.2.2
end
section
open Go.Proofs.Ytlpabbcgichaoaa.Lawful
theorem impl_looker_weight.early (x0 x1 x2 : Int) (x3 : ByteArray) (x4 : List S31) (PG : Nat → Prop) (gG : Nat) (A4 : Option Addr) (c4 : Nat) (nd gr : Int) (bad : Bool) (w ws : World) (hB : Below w.heap.size w ws) (hge : w.heap.size ≤ gG) (hG : LB ws PG gG 97 #[.int .i64 nd, .int .i64 gr, .bool bad]) (hb : (decide (120 < wrap64 (nd + 1)) || bad) = true) :
  Calls Try.prog 59 #[.pointer (some ⟨gG, 0, none⟩), .agg #[.int .i64 x0, .int .i64 x1, .int .i64 x2, .string x3, .slice A4 x4.length c4]] ws fun e w' => e = .returned (.int .i64 0) ∧ LB w' PG gG 97 #[.int .i64 (wrap64 (nd + 1)), .int .i64 gr, .bool true] ∧ Below w.heap.size w w' ∧ Kept ws w' PG := by
 have hu := Try.underlying31
 have hu2 := Try.underlying97
 have HG := am hG
 have HB := am hB
 have GEG := am hge
 have HK := am (Kept.refl ws PG)
 have RRG := am (show ∀ k_, PG k_ → PG k_ ∨ ws.heap.size ≤ k_ from fun _ h_ => .inl h_)
 clear hG hB hge
 obtain ⟨m1, hm⟩ : ∃ m_, m_ = wrap64 (nd + 1) := ⟨_, rfl⟩
 rw [← hm] at hb ⊢
 have hw : wrap64 (nd + 1) = m1 := hm.symm
 clear hm
 by_cases c : 120 < m1
 ·
  have cb := decide_eq_true c
  clear c hb
  replace jG := HG.out.c3
  go_enter Try.func59, Try.ntmps59
  go_wp2_with (first | ((with_reducible refine gate_dst (N := 3) rfl ?_); refine bx_ (N := 3) (cs := #[.int .i64 x0, .int .i64 x1, .int .i64 x2, .string x3, .slice A4 x4.length c4]) (t := 31) rfl rfl ?hr_1 ?_; (case hr_1 => first | (go_simp; done) | (go_simp; rfl)); intro gX1 hg w2 hb hk PX1 hPX1 HX1; have GEX1 := am (gen_ hg HB.out); have D_G_X1 := na hPX1 HG; have RRX1 := am (show ∀ k_, PX1 k_ → (PG) k_ ∨ ws.heap.size ≤ k_ from fun k_ h_ => .inr (Nat.le_trans HK.out.1 (hPX1 k_ h_).1)); replace HG := sn hk HG; replace HK := am (HK.out.then_ hk no_R); replace HB := am (below_step HB.out hb); clear hb hk hg hPX1; replace jG := HG.out.c3; replace jX1 := HX1.out.c5) | ((with_reducible refine gate_store (t := 3) (p := 19) rfl ?_); refine LB.stored HG.out HB.out GEG.out 0 [.int .i64 m1] rfl (t := 3) (p := 19) rfl rfl ?hr_2 ?_; (case hr_2 => first | (go_simp; done) | (go_simp; simp only [World.setCells, Nat.reduceAdd, Nat.zero_add]; done)); intro w2 hx hk hb; replace HX1 := ss hk HX1 (apart_symm D_G_X1.out); replace HK := am (HK.out.then_ hk RRG.out); replace HB := am hb; replace HG := am (show LB w2 PG gG 97 #[.int .i64 m1, .int .i64 gr, .bool bad] from hx); clear hk hx hb; replace jG := HG.out.c3; replace jX1 := HX1.out.c5) | ((with_reducible refine gate_store (t := 4) (p := 27) rfl ?_); refine LB.stored HG.out HB.out GEG.out 2 [.bool true] rfl (t := 4) (p := 27) rfl rfl ?hr_3 ?_; (case hr_3 => first | (go_simp; done) | (go_simp; simp only [World.setCells, Nat.reduceAdd, Nat.zero_add]; done)); intro w2 hx hk hb; replace HX1 := ss hk HX1 (apart_symm D_G_X1.out); replace HK := am (HK.out.then_ hk RRG.out); replace HB := am hb; replace HG := am (show LB w2 PG gG 97 #[.int .i64 m1, .int .i64 gr, .bool true] from hx); clear hk hx hb; replace jG := HG.out.c3; replace jX1 := HX1.out.c5))
  go_ret
  exact ⟨rfl, HG.out, HB.out, HK.out⟩
 have cb := decide_eq_false c
 rw [cb, Bool.false_or] at hb
 subst hb
 clear c
 replace jG := HG.out.c3
 go_enter Try.func59, Try.ntmps59
 go_wp2_with (first | ((with_reducible refine gate_dst (N := 3) rfl ?_); refine bx_ (N := 3) (cs := #[.int .i64 x0, .int .i64 x1, .int .i64 x2, .string x3, .slice A4 x4.length c4]) (t := 31) rfl rfl ?hr_4 ?_; (case hr_4 => first | (go_simp; done) | (go_simp; rfl)); intro gX2 hg w2 hb hk PX2 hPX2 HX2; have GEX2 := am (gen_ hg HB.out); have D_G_X2 := na hPX2 HG; have RRX2 := am (show ∀ k_, PX2 k_ → (PG) k_ ∨ ws.heap.size ≤ k_ from fun k_ h_ => .inr (Nat.le_trans HK.out.1 (hPX2 k_ h_).1)); replace HG := sn hk HG; replace HK := am (HK.out.then_ hk no_R); replace HB := am (below_step HB.out hb); clear hb hk hg hPX2; replace jG := HG.out.c3; replace jX2 := HX2.out.c5) | ((with_reducible refine gate_store (t := 3) (p := 19) rfl ?_); refine LB.stored HG.out HB.out GEG.out 0 [.int .i64 m1] rfl (t := 3) (p := 19) rfl rfl ?hr_5 ?_; (case hr_5 => first | (go_simp; done) | (go_simp; simp only [World.setCells, Nat.reduceAdd, Nat.zero_add]; done)); intro w2 hx hk hb; replace HX2 := ss hk HX2 (apart_symm D_G_X2.out); replace HK := am (HK.out.then_ hk RRG.out); replace HB := am hb; replace HG := am (show LB w2 PG gG 97 #[.int .i64 m1, .int .i64 gr, .bool true] from hx); clear hk hx hb; replace jG := HG.out.c3; replace jX2 := HX2.out.c5))
 go_ret
 exact ⟨rfl, HG.out, HB.out, HK.out⟩
theorem impl_looker.rd_at (l : List S31) (i : Nat) (hi : i < l.length) : rd_T31 l (i : Int) = l[i] := by
 unfold rd_T31
 simp [List.getD_eq_getElem?_getD, List.getElem?_eq_getElem hi]
theorem impl_looker.sz_at (l : List S31) (i : Nat) (hi : i < l.length) {n : Nat} (hn : SizeOf.sizeOf l ≤ n + 1) : SizeOf.sizeOf (rd_T31 l (i : Int)) ≤ n := by
 rw [impl_looker.rd_at l i hi]
 have := List.sizeOf_lt_of_mem (List.getElem_mem hi)
 omega
theorem impl_looker.go_step (l : List S31) (i : Nat) (w nd gr : Int) (bad : Bool) (h : i < l.length) : impl_looker.go (l.drop i) w nd gr bad = if bad = true then (true, 0, nd, gr, true) else impl_looker.go (l.drop (i + 1)) (wrap64 (w + (impl_looker.g (rd_T31 l (i : Int)) nd gr false).1)) (impl_looker.g (rd_T31 l (i : Int)) nd gr false).2.1 (impl_looker.g (rd_T31 l (i : Int)) nd gr false).2.2.1 (impl_looker.g (rd_T31 l (i : Int)) nd gr false).2.2.2 := by
 rw [List.drop_eq_getElem_cons h, impl_looker.go, impl_looker.rd_at l i h]
theorem impl_looker.within_ev (a b c : Int) : impl_within.f a b c = some (decide (b ≤ a ∧ a ≤ c)) := by
 unfold impl_within.f
 by_cases h : b ≤ a
 ·
  rw [if_pos h]; simp [h]
 rw [if_neg h]; simp [h]
theorem impl_looker_weight.main (x0 x1 x2 : Int) (x3 : ByteArray) (x4 : List S31) (PG : Nat → Prop) (gG : Nat) (A4 : Option Addr) (c4 : Nat) (nd gr : Int) (w ws : World) (hB : Below w.heap.size w ws) (hge : w.heap.size ≤ gG) (hG : LB ws PG gG 97 #[.int .i64 nd, .int .i64 gr, .bool false]) (hb : (decide (120 < wrap64 (nd + 1)) || false) = false) (n : Nat) (ih : ∀ x : S31, SizeOf.sizeOf x ≤ n → ∀ (PG : Nat → Prop) (gG : Nat) (A4 : Option Addr) (c4 : Nat) (nd gr : Int) (bad : Bool) (w ws : World), Below w.heap.size w ws → w.heap.size ≤ gG → LB ws PG gG 97 #[.int .i64 nd, .int .i64 gr, .bool bad] → k31.C w A4 x.f4.length x.f4 → x.f4.length ≤ c4 → Calls Try.prog 59 #[.pointer (some ⟨gG, 0, none⟩), .agg #[.int .i64 x.f0, .int .i64 x.f1, .int .i64 x.f2, .string x.f3, .slice A4 x.f4.length c4]] ws fun e w' => e = .returned (.int .i64 (impl_looker.g x nd gr bad).1) ∧ LB w' PG gG 97 #[.int .i64 (impl_looker.g x nd gr bad).2.1, .int .i64 (impl_looker.g x nd gr bad).2.2.1, .bool (impl_looker.g x nd gr bad).2.2.2] ∧ Below w.heap.size w w' ∧ Kept ws w' PG) (hn : SizeOf.sizeOf x4 ≤ n + 1) (hr : k31.C w A4 x4.length x4) (q : Int × Int × Int × Bool) (hq : impl_looker.g ⟨x0, x1, x2, x3, x4⟩ nd gr false = q) :
  Calls Try.prog 59 #[.pointer (some ⟨gG, 0, none⟩), .agg #[.int .i64 x0, .int .i64 x1, .int .i64 x2, .string x3, .slice A4 x4.length c4]] ws fun e w' => e = .returned (.int .i64 q.1) ∧ LB w' PG gG 97 #[.int .i64 q.2.1, .int .i64 q.2.2.1, .bool q.2.2.2] ∧ Below w.heap.size w w' ∧ Kept ws w' PG := by
 have hu := Try.underlying31
 have hu2 := Try.underlying97
 have HG := am hG
 have HB := am hB
 have GEG := am hge
 have HK := am (Kept.refl ws PG)
 have RRG := am (show ∀ k_, PG k_ → PG k_ ∨ ws.heap.size ≤ k_ from fun _ h_ => .inl h_)
 clear hG hB hge
 obtain ⟨m1, hm⟩ : ∃ m_, m_ = wrap64 (nd + 1) := ⟨_, rfl⟩
 rw [← hm] at hb
 have hw : wrap64 (nd + 1) = m1 := hm.symm
 clear hm
 have IH := am ih
 have HN := am hn
 have HR := am hr
 have HL := am hr.2.1
 have QE := am (show q = impl_looker.fin x0 x1 x2 (impl_looker.go x4 1 m1 (impl_looker.ask x0 x1 x2 x3 gr).gr (impl_looker.b3 (impl_looker.ask x0 x1 x2 x3 gr) x4.length)) from by rw [← hq, impl_looker.g, if_neg (by rw [hw, hb]; simp), hw])
 clear ih hn hr hq
 rw [Bool.or_false] at hb
 replace jG := HG.out.c3
 go_enter Try.func59, Try.ntmps59
 go_upto_region 7 with (first | ((with_reducible refine gate_dst (N := 3) rfl ?_); refine bx_ (N := 3) (cs := #[.int .i64 x0, .int .i64 x1, .int .i64 x2, .string x3, .slice A4 x4.length c4]) (t := 31) rfl rfl ?hr_6 ?_; (case hr_6 => first | (go_simp; done) | (go_simp; rfl)); intro gX3 hg w2 hb hk PX3 hPX3 HX3; have GEX3 := am (gen_ hg HB.out); have D_G_X3 := na hPX3 HG; have RRX3 := am (show ∀ k_, PX3 k_ → (PG) k_ ∨ ws.heap.size ≤ k_ from fun k_ h_ => .inr (Nat.le_trans HK.out.1 (hPX3 k_ h_).1)); replace HG := sn hk HG; replace HK := am (HK.out.then_ hk no_R); replace HB := am (below_step HB.out hb); clear hb hk hg hPX3; replace jG := HG.out.c3; replace jX3 := HX3.out.c5) | ((with_reducible refine gate_store (t := 3) (p := 19) rfl ?_); refine LB.stored HG.out HB.out GEG.out 0 [.int .i64 m1] rfl (t := 3) (p := 19) rfl rfl ?hr_7 ?_; (case hr_7 => first | (go_simp; done) | (go_simp; simp only [World.setCells, Nat.reduceAdd, Nat.zero_add]; done)); intro w2 hx hk hb; replace HX3 := ss hk HX3 (apart_symm D_G_X3.out); replace HK := am (HK.out.then_ hk RRG.out); replace HB := am hb; replace HG := am (show LB w2 PG gG 97 #[.int .i64 m1, .int .i64 gr, .bool false] from hx); clear hk hx hb; replace jG := HG.out.c3; replace jX3 := HX3.out.c5))
 go_quiet (fail)
 generalize hwd_ : World.drewN w2 nq = wd_
 have hb_ := (show Below (World.heap w2).size w2 wd_ from hwd_ ▸ pw_below_drewN (Below.refl _ _) nq)
 have hk := (Kept.of_below hb_ (fun _ => False))
 replace HG := sn hk HG
 replace HX3 := sn hk HX3
 replace HK := am (HK.out.then_ hk no_R)
 replace HB := am (below_step HB.out hb_)
 clear hk hwd_ hb_
 replace jG := HG.out.c3
 replace jX3 := HX3.out.c5
 go_step
 go_step
 go_step
 obtain ⟨a, ha⟩ : ∃ a_, a_ = impl_looker.ask x0 x1 x2 x3 gr := ⟨_, rfl⟩
 have NA := am ha
 clear ha
 go_cut [5, 6, 7, 8, 9] from 13 (fun v5 v6 v7 v8 v9 wc => v5 = .int .i64 a.least ∧ v6 = .int .i64 a.most ∧ v7 = .bool a.n ∧ v8 = .bool a.m ∧ v9 = .bool a.set ∧ Aside0 (LB wc PG gG 97 #[.int .i64 m1, .int .i64 a.gr, .bool a.bad]) ∧ Aside0 (LB wc PX3 gX3 31 #[.int .i64 x0, .int .i64 x1, .int .i64 x2, .string x3, .slice A4 x4.length c4]) ∧ Aside0 (Below w.heap.size w wc) ∧ Aside0 (Kept ws wc PG))
 case rest =>
  obtain ⟨rfl, rfl, rfl, rfl, rfl, HG, HX3, HB, HK⟩ := hcut
  obtain ⟨b, hb⟩ : ∃ b_, b_ = impl_looker.b3 a (x4.length : Int) := ⟨_, rfl⟩
  have NB := am hb
  clear hb
  have NA2 := am NA.out
  have QA := am (show q = impl_looker.fin x0 x1 x2 (impl_looker.go x4 1 m1 a.gr b) from by rw [QE.out, NB.out, NA.out])
  clear NA QE
  obtain ⟨least, most, an, am_, as_, gr1, bad1⟩ := a
  dsimp only at HG QA
  dsimp only
  go_step
  go_step
  replace jG := HG.out.c3
  replace jX3 := HX3.out.c5
  go_cut [] from 13 (fun wd => Aside0 (LB wd PG gG 97 #[.int .i64 m1, .int .i64 gr1, .bool b]) ∧ Aside0 (LB wd PX3 gX3 31 #[.int .i64 x0, .int .i64 x1, .int .i64 x2, .string x3, .slice A4 x4.length c4]) ∧ Aside0 (Below w.heap.size w wd) ∧ Aside0 (Kept ws wd PG))
  case first =>
   rcases an with _ | _
   ·
    have NV := am (NB.out.trans (show _ = true from by simp [impl_looker.b3]))
    go_wp2_with (first | ((with_reducible refine gate_store (t := 4) (p := 141) rfl ?_); refine LB.stored HG.out HB.out GEG.out 2 [.bool true] rfl (t := 4) (p := 141) rfl rfl ?hr_8 ?_; (case hr_8 => first | (go_simp; done) | (go_simp; simp only [World.setCells, Nat.reduceAdd, Nat.zero_add]; done)); intro w2 hx hk hb; replace HX3 := ss hk HX3 (apart_symm D_G_X3.out); replace HK := am (HK.out.then_ hk RRG.out); replace HB := am hb; replace HG := am (show LB w2 PG gG 97 #[.int .i64 m1, .int .i64 gr1, .bool true] from hx); clear hk hx hb; replace jG := HG.out.c3; replace jX3 := HX3.out.c5))
    go_meet
    case rel => exact rx5_0
   rcases am_ with _ | _
   ·
    have NV := am (NB.out.trans (show _ = true from by simp [impl_looker.b3]))
    go_wp2_with (first | ((with_reducible refine gate_store (t := 4) (p := 141) rfl ?_); refine LB.stored HG.out HB.out GEG.out 2 [.bool true] rfl (t := 4) (p := 141) rfl rfl ?hr_9 ?_; (case hr_9 => first | (go_simp; done) | (go_simp; simp only [World.setCells, Nat.reduceAdd, Nat.zero_add]; done)); intro w2 hx hk hb; replace HX3 := ss hk HX3 (apart_symm D_G_X3.out); replace HK := am (HK.out.then_ hk RRG.out); replace HB := am hb; replace HG := am (show LB w2 PG gG 97 #[.int .i64 m1, .int .i64 gr1, .bool true] from hx); clear hk hx hb; replace jG := HG.out.c3; replace jX3 := HX3.out.c5))
    go_meet
    case rel => exact rx5_0
   rcases as_ with _ | _
   ·
    have NV := am (NB.out.trans (show _ = true from by simp [impl_looker.b3]))
    go_wp2_with (first | ((with_reducible refine gate_store (t := 4) (p := 141) rfl ?_); refine LB.stored HG.out HB.out GEG.out 2 [.bool true] rfl (t := 4) (p := 141) rfl rfl ?hr_10 ?_; (case hr_10 => first | (go_simp; done) | (go_simp; simp only [World.setCells, Nat.reduceAdd, Nat.zero_add]; done)); intro w2 hx hk hb; replace HX3 := ss hk HX3 (apart_symm D_G_X3.out); replace HK := am (HK.out.then_ hk RRG.out); replace HB := am hb; replace HG := am (show LB w2 PG gG 97 #[.int .i64 m1, .int .i64 gr1, .bool true] from hx); clear hk hx hb; replace jG := HG.out.c3; replace jX3 := HX3.out.c5))
    go_meet
    case rel => exact rx5_0
   by_cases cw : least ≤ (x4.length : Int) ∧ (x4.length : Int) ≤ most
   ·
    have EW := am (show impl_within.f (x4.length : Int) least most = some true from (impl_looker.within_ev _ _ _).trans (by rw [decide_eq_true cw]))
    have NV := am (NB.out.trans (show _ = bad1 from by unfold impl_looker.b3; dsimp only; rw [decide_eq_true cw]; simp))
    clear cw
    go_wp2_with (first | ((with_reducible refine gate_dst (N := 136) rfl ?_); (refine gate_guard (by rfl) ?_; dsimp only); refine goesL_ (some 136) rfl rfl Try.func29 (by kernel_rfl) rfl #[.int .i64 (x4.length : Int), .int .i64 least, .int .i64 most] rfl tA ?_; (with_reducible refine (impl_within.calls (x4.length : Int) least most true _ EW.out).mono ?_); rintro e w2 ⟨rfl, hq⟩; refine ⟨_, rfl, ?_⟩; have hk := kept_drawn hq; replace HG := sn hk HG; replace HX3 := sn hk HX3; replace HK := am (HK.out.then_ hk no_R); replace HB := am (below_drawn HB.out hq); clear hk hq; replace jG := HG.out.c3; replace jX3 := HX3.out.c5))
    go_meet
    case rel => exact rx5_0
   have EW := am (show impl_within.f (x4.length : Int) least most = some false from (impl_looker.within_ev _ _ _).trans (by rw [decide_eq_false cw]))
   have NV := am (NB.out.trans (show _ = true from by unfold impl_looker.b3; dsimp only; rw [decide_eq_false cw]; simp))
   clear cw
   go_wp2_with (first | ((with_reducible refine gate_dst (N := 136) rfl ?_); (refine gate_guard (by rfl) ?_; dsimp only); refine goesL_ (some 136) rfl rfl Try.func29 (by kernel_rfl) rfl #[.int .i64 (x4.length : Int), .int .i64 least, .int .i64 most] rfl tA ?_; (with_reducible refine (impl_within.calls (x4.length : Int) least most false _ EW.out).mono ?_); rintro e w2 ⟨rfl, hq⟩; refine ⟨_, rfl, ?_⟩; have hk := kept_drawn hq; replace HG := sn hk HG; replace HX3 := sn hk HX3; replace HK := am (HK.out.then_ hk no_R); replace HB := am (below_drawn HB.out hq); clear hk hq; replace jG := HG.out.c3; replace jX3 := HX3.out.c5) | ((with_reducible refine gate_store (t := 4) (p := 141) rfl ?_); refine LB.stored HG.out HB.out GEG.out 2 [.bool true] rfl (t := 4) (p := 141) rfl rfl ?hr_11 ?_; (case hr_11 => first | (go_simp; done) | (go_simp; simp only [World.setCells, Nat.reduceAdd, Nat.zero_add]; done)); intro w2 hx hk hb; replace HX3 := ss hk HX3 (apart_symm D_G_X3.out); replace HK := am (HK.out.then_ hk RRG.out); replace HB := am hb; replace HG := am (show LB w2 PG gG 97 #[.int .i64 m1, .int .i64 gr1, .bool true] from hx); clear hk hx hb; replace jG := HG.out.c3; replace jX3 := HX3.out.c5))
   go_meet
   case rel => exact rx5_0
  case rest =>
   clear HB HK HG HX3
   obtain ⟨HG, HX3, HB, HK⟩ := hcut
   clear NA2 NB
   replace jG := HG.out.c3
   replace jX3 := HX3.out.c5
   go_wp2
   go_loopg [10, 145] (x4.length + 1) (fun kq v10 v145 w' => ∃ (i : Nat) (wv nd2 gr2 : Int) (bd : Bool), v10 = .int .i64 wv ∧ v145 = .int .i64 (i : Int) ∧ Aside0 (i + kq = x4.length + 1) ∧ Aside0 (impl_looker.go x4 1 m1 gr1 b = impl_looker.go (x4.drop i) wv nd2 gr2 bd) ∧ Aside0 (LB w' PG gG 97 #[.int .i64 nd2, .int .i64 gr2, .bool bd]) ∧ Aside0 (LB w' PX3 gX3 31 #[.int .i64 x0, .int .i64 x1, .int .i64 x2, .string x3, .slice A4 x4.length c4]) ∧ Aside0 (Below w.heap.size w w') ∧ Aside0 (Kept ws w' PG))
   case atStart => exact ⟨0, _, _, _, _, rfl, rfl, ⟨by omega⟩, ⟨rfl⟩, HG, HX3, HB, HK⟩
   case round =>
    clear HB HK HG HX3
    try clear jG.1 jG.2.1 jG.2.2.1 jG.2.2.2.1 jG.2.2.2.2.1 jG.2.2.2.2.2 jX3.1 jX3.2.1 jX3.2.2.1 jX3.2.2.2.1 jX3.2.2.2.2.1 jX3.2.2.2.2.2.1 jX3.2.2.2.2.2.2.1 jX3.2.2.2.2.2.2.2.1 jX3.2.2.2.2.2.2.2.2.1 jX3.2.2.2.2.2.2.2.2.2
    obtain ⟨i, wv, nd2, gr2, bd, rfl, rfl, HI, HGO, HG, HX3, HB, HK⟩ := hrel
    by_cases hi : i < x4.length
    ·
     obtain ⟨k1, rfl⟩ : ∃ k_, gk = k_ + 1 := ⟨gk - 1, by have := HI.out; omega⟩
     have hlt : decide ((i : Int) < (x4.length : Int)) = true := decide_eq_true (by omega)
     have hltn : decide (i < x4.length) = true := decide_eq_true (by omega)
     have hwi : wrap64 ((i : Int) + 1) = ((i + 1 : Nat) : Int) := by have := HL.out; unfold wrap64; omega
     have hwwi : IntKind.i64.wrap ((i : Int) + 1) = ((i + 1 : Nat) : Int) := (i64_w _).trans hwi
     obtain ⟨ad, A5, c5, ea, ha0, ha1, ha2, ha3, ha4, hl5, hC5⟩ := at_T31 HR.out (i : Int) (by omega) (by omega)
     cases ea
     simp only [Int.toNat_natCast] at ha0 ha1 ha2 ha3 ha4
     replace ha0 := (HB.out.cell (World.block_lt_of_cell? w _ ha0)).trans ha0
     replace ha1 := (HB.out.cell (World.block_lt_of_cell? w _ ha1)).trans ha1
     replace ha2 := (HB.out.cell (World.block_lt_of_cell? w _ ha2)).trans ha2
     replace ha3 := (HB.out.cell (World.block_lt_of_cell? w _ ha3)).trans ha3
     replace ha4 := (HB.out.cell (World.block_lt_of_cell? w _ ha4)).trans ha4
     have HC5 := am hC5
     have HL5 := am hl5
     clear hC5 hl5
     have SZ := am (impl_looker.sz_at x4 i hi HN.out)
     have HS := am (impl_looker.go_step x4 i wv nd2 gr2 bd hi)
     have p1 := eq_true (show (0 : Int) ≤ (i : Int) by omega)
     have q1 := eq_true (show (i : Int) < (x4.length : Int) by omega)
     rcases bd with _ | _
     ·
      replace jG := HG.out.c3
      replace jX3 := HX3.out.c5
      obtain ⟨⟨r1, r2, r3, r4⟩, hrr⟩ : ∃ r_, r_ = impl_looker.g (rd_T31 x4 (i : Int)) nd2 gr2 false := ⟨_, rfl⟩
      have HE := am (show impl_looker.go x4 1 m1 gr1 b = impl_looker.go (x4.drop (i + 1)) (wrap64 (wv + r1)) r2 r3 r4 from by rw [HGO.out, HS.out, if_neg (by simp), ← hrr])
      have IHC := am (show ∀ ws' : World, Below w.heap.size w ws' → LB ws' PG gG 97 #[.int .i64 nd2, .int .i64 gr2, .bool false] → Calls Try.prog 59 #[.pointer (some ⟨gG, 0, none⟩), .agg #[.int .i64 (rd_T31 x4 (i : Int)).f0, .int .i64 (rd_T31 x4 (i : Int)).f1, .int .i64 (rd_T31 x4 (i : Int)).f2, .string (rd_T31 x4 (i : Int)).f3, .slice A5 (rd_T31 x4 (i : Int)).f4.length c5]] ws' fun e w' => e = .returned (.int .i64 r1) ∧ LB w' PG gG 97 #[.int .i64 r2, .int .i64 r3, .bool r4] ∧ Below w.heap.size w w' ∧ Kept ws' w' PG from fun ws' h1_ h2_ => by have h3_ := IH.out (rd_T31 x4 (i : Int)) SZ.out PG gG A5 c5 nd2 gr2 false w ws' h1_ GEG.out h2_ HC5.out HL5.out; rw [← hrr] at h3_; exact h3_)
      clear hrr
      go_wp2_with (first | ((with_reducible refine gate_dst (N := 12) rfl ?_); refine bx_ (N := 12) (cs := #[.int .i64 0, .int .i64 0, .int .i64 0, .string ByteArray.empty, .slice none 0 0]) (t := 31) rfl rfl ?hr_12 ?_; (case hr_12 => first | (go_simp; done) | (go_simp; rfl)); intro gX4 hg w2 hb hk PX4 hPX4 HX4; have GEX4 := am (gen_ hg HB.out); have D_G_X4 := na hPX4 HG; have D_X3_X4 := na hPX4 HX3; have RRX4 := am (show ∀ k_, PX4 k_ → (PG) k_ ∨ ws.heap.size ≤ k_ from fun k_ h_ => .inr (Nat.le_trans HK.out.1 (hPX4 k_ h_).1)); replace HG := sn hk HG; replace HX3 := sn hk HX3; replace HK := am (HK.out.then_ hk no_R); replace HB := am (below_step HB.out hb); clear hb hk hg hPX4; replace jG := HG.out.c3; replace jX3 := HX3.out.c5; replace jX4 := HX4.out.c5) | ((with_reducible refine gate_store (t := 31) (p := 12) rfl ?_); refine LB.storedW HX4.out HB.out GEX4.out [.int .i64 (rd_T31 x4 (i : Int)).f0, .int .i64 (rd_T31 x4 (i : Int)).f1, .int .i64 (rd_T31 x4 (i : Int)).f2, .string (rd_T31 x4 (i : Int)).f3, .slice A5 (rd_T31 x4 (i : Int)).f4.length c5] rfl rfl (t := 31) (p := 12) rfl rfl ?hr_13 ?_; (case hr_13 => first | (go_simp; done) | (go_simp; simp only [World.setCells, Nat.reduceAdd, Nat.zero_add]; done)); intro w2 hx hk hb; replace HG := ss hk HG D_G_X4.out; replace HX3 := ss hk HX3 D_X3_X4.out; replace HK := am (HK.out.then_ hk RRX4.out); replace HB := am hb; replace HX4 := am (show LB w2 PX4 gX4 31 #[.int .i64 (rd_T31 x4 (i : Int)).f0, .int .i64 (rd_T31 x4 (i : Int)).f1, .int .i64 (rd_T31 x4 (i : Int)).f2, .string (rd_T31 x4 (i : Int)).f3, .slice A5 (rd_T31 x4 (i : Int)).f4.length c5] from hx); clear hk hx hb; replace jG := HG.out.c3; replace jX3 := HX3.out.c5; replace jX4 := HX4.out.c5) | ((with_reducible refine gate_dst (N := 156) rfl ?_); refine goesL_ (some 156) rfl rfl Try.func59 (by kernel_rfl) rfl #[.pointer (some ⟨gG, 0, none⟩), .agg #[.int .i64 (rd_T31 x4 (i : Int)).f0, .int .i64 (rd_T31 x4 (i : Int)).f1, .int .i64 (rd_T31 x4 (i : Int)).f2, .string (rd_T31 x4 (i : Int)).f3, .slice A5 (rd_T31 x4 (i : Int)).f4.length c5]] rfl (by (try simp only [List.map_toArray, List.map_cons, List.map_nil]); first | done | rfl) ?_; (with_reducible refine (IHC.out _ HB.out HG.out).mono ?_); rintro e w2 ⟨rfl, hg2, hb2, hk2⟩; refine ⟨_, rfl, ?_⟩; replace HX3 := ss hk2 HX3 (apart_symm D_G_X3.out); replace HX4 := ss hk2 HX4 (apart_symm D_G_X4.out); replace HK := am (HK.out.then_ hk2 (fun _ h_ => .inl h_)); replace HB := am hb2; replace HG := am hg2; clear hk2 hb2 hg2; replace jG := HG.out.c3; replace jX3 := HX3.out.c5; replace jX4 := HX4.out.c5))
      go_roundg k1
      case measure => have := HI.out; omega
      case rel => exact ⟨i + 1, _, _, _, _, rfl, by first | rfl | (simp only [hwi]) | simp, ⟨by have := HI.out; omega⟩, HE, HG, HX3, HB, HK⟩
     replace jG := HG.out.c3
     replace jX3 := HX3.out.c5
     have HE := am (show q = (0, nd2, gr2, true) from by rw [QA.out, HGO.out, HS.out]; rfl)
     go_wp2_with (first | ((with_reducible refine gate_dst (N := 12) rfl ?_); refine bx_ (N := 12) (cs := #[.int .i64 0, .int .i64 0, .int .i64 0, .string ByteArray.empty, .slice none 0 0]) (t := 31) rfl rfl ?hr_14 ?_; (case hr_14 => first | (go_simp; done) | (go_simp; rfl)); intro gX5 hg w2 hb hk PX5 hPX5 HX5; have GEX5 := am (gen_ hg HB.out); have D_G_X5 := na hPX5 HG; have D_X3_X5 := na hPX5 HX3; have RRX5 := am (show ∀ k_, PX5 k_ → (PG) k_ ∨ ws.heap.size ≤ k_ from fun k_ h_ => .inr (Nat.le_trans HK.out.1 (hPX5 k_ h_).1)); replace HG := sn hk HG; replace HX3 := sn hk HX3; replace HK := am (HK.out.then_ hk no_R); replace HB := am (below_step HB.out hb); clear hb hk hg hPX5; replace jG := HG.out.c3; replace jX3 := HX3.out.c5; replace jX5 := HX5.out.c5) | ((with_reducible refine gate_store (t := 31) (p := 12) rfl ?_); refine LB.storedW HX5.out HB.out GEX5.out [.int .i64 (rd_T31 x4 (i : Int)).f0, .int .i64 (rd_T31 x4 (i : Int)).f1, .int .i64 (rd_T31 x4 (i : Int)).f2, .string (rd_T31 x4 (i : Int)).f3, .slice A5 (rd_T31 x4 (i : Int)).f4.length c5] rfl rfl (t := 31) (p := 12) rfl rfl ?hr_15 ?_; (case hr_15 => first | (go_simp; done) | (go_simp; simp only [World.setCells, Nat.reduceAdd, Nat.zero_add]; done)); intro w2 hx hk hb; replace HG := ss hk HG D_G_X5.out; replace HX3 := ss hk HX3 D_X3_X5.out; replace HK := am (HK.out.then_ hk RRX5.out); replace HB := am hb; replace HX5 := am (show LB w2 PX5 gX5 31 #[.int .i64 (rd_T31 x4 (i : Int)).f0, .int .i64 (rd_T31 x4 (i : Int)).f1, .int .i64 (rd_T31 x4 (i : Int)).f2, .string (rd_T31 x4 (i : Int)).f3, .slice A5 (rd_T31 x4 (i : Int)).f4.length c5] from hx); clear hk hx hb; replace jG := HG.out.c3; replace jX3 := HX3.out.c5; replace jX5 := HX5.out.c5))
     go_ret
     exact ⟨by rw [HE.out]; first | rfl | exact congrArg (fun z_ => Ending.returned (Value.int .i64 z_)) hW2, by rw [HE.out]; exact HG.out, HB.out, HK.out⟩
    have hlt : decide ((i : Int) < (x4.length : Int)) = false := decide_eq_false (by omega)
    have hltn : decide (i < x4.length) = false := decide_eq_false (by omega)
    have HQ := am (show q = impl_looker.fin x0 x1 x2 (false, wv, nd2, gr2, bd) from by rw [QA.out, HGO.out, List.drop_eq_nil_of_le (by omega), impl_looker.go])
    by_cases h9 : x0 = 9
    ·
     rcases bd with _ | _
     ·
      by_cases hm : x1 < x2
      ·
       have k9 : (x0 == 9) = true := beq_iff_eq.mpr h9
       have hmd := decide_eq_true hm
       obtain ⟨W2, hW⟩ : ∃ W_, W_ = wrap64 (wv * wrap64 (x2 + 1)) := ⟨_, rfl⟩
       have hW2 : wrap64 (wv * wrap64 (x2 + 1)) = W2 := hW.symm
       have HV := am (show impl_looker.w2 x0 x1 x2 wv false = W2 from by rw [impl_looker.w2, if_pos (by rw [k9]; rfl), mx, if_pos hm]; exact hW2)
       clear hW
       replace HQ := am (show q = (W2, nd2, gr2, false || decide (300 < W2)) from by rw [HQ.out, impl_looker.fin, if_neg (by simp)]; dsimp only; rw [HV.out])
       clear h9 HV
       by_cases hbig : 300 < W2
       ·
        have kb := decide_eq_true hbig
        have HE := am (show q = (W2, nd2, gr2, true) from by rw [HQ.out, kb]; simp)
        clear hbig
        replace jG := HG.out.c3
        replace jX3 := HX3.out.c5
        go_wp2_with (first | ((with_reducible refine gate_store (t := 4) (p := 181) rfl ?_); refine LB.stored HG.out HB.out GEG.out 2 [.bool true] rfl (t := 4) (p := 181) rfl rfl ?hr_16 ?_; (case hr_16 => first | (go_simp; done) | (go_simp; simp only [World.setCells, Nat.reduceAdd, Nat.zero_add]; done)); intro w2 hx hk hb; replace HX3 := ss hk HX3 (apart_symm D_G_X3.out); replace HK := am (HK.out.then_ hk RRG.out); replace HB := am hb; replace HG := am (show LB w2 PG gG 97 #[.int .i64 nd2, .int .i64 gr2, .bool true] from hx); clear hk hx hb; replace jG := HG.out.c3; replace jX3 := HX3.out.c5))
        go_ret
        exact ⟨by rw [HE.out]; first | rfl | exact congrArg (fun z_ => Ending.returned (Value.int .i64 z_)) hW2, by rw [HE.out]; exact HG.out, HB.out, HK.out⟩
       have kb := decide_eq_false hbig
       have HE := am (show q = (W2, nd2, gr2, false) from by rw [HQ.out, kb]; simp)
       clear hbig
       replace jG := HG.out.c3
       replace jX3 := HX3.out.c5
       go_wp2
       go_ret
       exact ⟨by rw [HE.out]; first | rfl | exact congrArg (fun z_ => Ending.returned (Value.int .i64 z_)) hW2, by rw [HE.out]; exact HG.out, HB.out, HK.out⟩
      have k9 : (x0 == 9) = true := beq_iff_eq.mpr h9
      have hmd := decide_eq_false hm
      obtain ⟨W2, hW⟩ : ∃ W_, W_ = wrap64 (wv * wrap64 (x1 + 1)) := ⟨_, rfl⟩
      have hW2 : wrap64 (wv * wrap64 (x1 + 1)) = W2 := hW.symm
      have HV := am (show impl_looker.w2 x0 x1 x2 wv false = W2 from by rw [impl_looker.w2, if_pos (by rw [k9]; rfl), mx, if_neg hm]; exact hW2)
      clear hW
      replace HQ := am (show q = (W2, nd2, gr2, false || decide (300 < W2)) from by rw [HQ.out, impl_looker.fin, if_neg (by simp)]; dsimp only; rw [HV.out])
      clear h9 HV
      by_cases hbig : 300 < W2
      ·
       have kb := decide_eq_true hbig
       have HE := am (show q = (W2, nd2, gr2, true) from by rw [HQ.out, kb]; simp)
       clear hbig
       replace jG := HG.out.c3
       replace jX3 := HX3.out.c5
       go_wp2_with (first | ((with_reducible refine gate_store (t := 4) (p := 181) rfl ?_); refine LB.stored HG.out HB.out GEG.out 2 [.bool true] rfl (t := 4) (p := 181) rfl rfl ?hr_17 ?_; (case hr_17 => first | (go_simp; done) | (go_simp; simp only [World.setCells, Nat.reduceAdd, Nat.zero_add]; done)); intro w2 hx hk hb; replace HX3 := ss hk HX3 (apart_symm D_G_X3.out); replace HK := am (HK.out.then_ hk RRG.out); replace HB := am hb; replace HG := am (show LB w2 PG gG 97 #[.int .i64 nd2, .int .i64 gr2, .bool true] from hx); clear hk hx hb; replace jG := HG.out.c3; replace jX3 := HX3.out.c5))
       go_ret
       exact ⟨by rw [HE.out]; first | rfl | exact congrArg (fun z_ => Ending.returned (Value.int .i64 z_)) hW2, by rw [HE.out]; exact HG.out, HB.out, HK.out⟩
      have kb := decide_eq_false hbig
      have HE := am (show q = (W2, nd2, gr2, false) from by rw [HQ.out, kb]; simp)
      clear hbig
      replace jG := HG.out.c3
      replace jX3 := HX3.out.c5
      go_wp2
      go_ret
      exact ⟨by rw [HE.out]; first | rfl | exact congrArg (fun z_ => Ending.returned (Value.int .i64 z_)) hW2, by rw [HE.out]; exact HG.out, HB.out, HK.out⟩
     have k9 : (x0 == 9) = true := beq_iff_eq.mpr h9
     have HV := am (show impl_looker.w2 x0 x1 x2 wv true = wv from by rw [impl_looker.w2, if_neg (by rw [k9]; simp)])
     replace HQ := am (show q = (wv, nd2, gr2, true || decide (300 < wv)) from by rw [HQ.out, impl_looker.fin, if_neg (by simp)]; dsimp only; rw [HV.out])
     clear h9 HV
     by_cases hbig : 300 < wv
     ·
      have kb := decide_eq_true hbig
      have HE := am (show q = (wv, nd2, gr2, true) from by rw [HQ.out, kb]; simp)
      clear hbig
      replace jG := HG.out.c3
      replace jX3 := HX3.out.c5
      go_wp2_with (first | ((with_reducible refine gate_store (t := 4) (p := 181) rfl ?_); refine LB.stored HG.out HB.out GEG.out 2 [.bool true] rfl (t := 4) (p := 181) rfl rfl ?hr_18 ?_; (case hr_18 => first | (go_simp; done) | (go_simp; simp only [World.setCells, Nat.reduceAdd, Nat.zero_add]; done)); intro w2 hx hk hb; replace HX3 := ss hk HX3 (apart_symm D_G_X3.out); replace HK := am (HK.out.then_ hk RRG.out); replace HB := am hb; replace HG := am (show LB w2 PG gG 97 #[.int .i64 nd2, .int .i64 gr2, .bool true] from hx); clear hk hx hb; replace jG := HG.out.c3; replace jX3 := HX3.out.c5))
      go_ret
      exact ⟨by rw [HE.out]; first | rfl | exact congrArg (fun z_ => Ending.returned (Value.int .i64 z_)) hW2, by rw [HE.out]; exact HG.out, HB.out, HK.out⟩
     have kb := decide_eq_false hbig
     have HE := am (show q = (wv, nd2, gr2, true) from by rw [HQ.out, kb]; simp)
     clear hbig
     replace jG := HG.out.c3
     replace jX3 := HX3.out.c5
     go_wp2
     go_ret
     exact ⟨by rw [HE.out]; first | rfl | exact congrArg (fun z_ => Ending.returned (Value.int .i64 z_)) hW2, by rw [HE.out]; exact HG.out, HB.out, HK.out⟩
    have k9 : (x0 == 9) = false := beq_eq_false_iff_ne.mpr h9
    have HV := am (show impl_looker.w2 x0 x1 x2 wv bd = wv from by rw [impl_looker.w2, if_neg (by rw [k9]; simp)])
    replace HQ := am (show q = (wv, nd2, gr2, bd || decide (300 < wv)) from by rw [HQ.out, impl_looker.fin, if_neg (by simp)]; dsimp only; rw [HV.out])
    clear h9 HV
    by_cases hbig : 300 < wv
    ·
     have kb := decide_eq_true hbig
     have HE := am (show q = (wv, nd2, gr2, true) from by rw [HQ.out, kb]; simp)
     clear hbig
     replace jG := HG.out.c3
     replace jX3 := HX3.out.c5
     go_wp2_with (first | ((with_reducible refine gate_store (t := 4) (p := 181) rfl ?_); refine LB.stored HG.out HB.out GEG.out 2 [.bool true] rfl (t := 4) (p := 181) rfl rfl ?hr_19 ?_; (case hr_19 => first | (go_simp; done) | (go_simp; simp only [World.setCells, Nat.reduceAdd, Nat.zero_add]; done)); intro w2 hx hk hb; replace HX3 := ss hk HX3 (apart_symm D_G_X3.out); replace HK := am (HK.out.then_ hk RRG.out); replace HB := am hb; replace HG := am (show LB w2 PG gG 97 #[.int .i64 nd2, .int .i64 gr2, .bool true] from hx); clear hk hx hb; replace jG := HG.out.c3; replace jX3 := HX3.out.c5))
     go_ret
     exact ⟨by rw [HE.out]; first | rfl | exact congrArg (fun z_ => Ending.returned (Value.int .i64 z_)) hW2, by rw [HE.out]; exact HG.out, HB.out, HK.out⟩
    have kb := decide_eq_false hbig
    have HE := am (show q = (wv, nd2, gr2, bd) from by rw [HQ.out, kb]; simp)
    clear hbig
    replace jG := HG.out.c3
    replace jX3 := HX3.out.c5
    go_wp2
    go_ret
    exact ⟨by rw [HE.out]; first | rfl | exact congrArg (fun z_ => Ending.returned (Value.int .i64 z_)) hW2, by rw [HE.out]; exact HG.out, HB.out, HK.out⟩
 case first =>
  rcases Classical.em (x0 = 1) with hk0 | hk0_1
  ·
   have k1 : (x0 == 1) = true := beq_iff_eq.mpr hk0
   have k2 : (x0 == 2) = false := bo
   have k4 : (x0 == 4) = false := bo
   have k5 : (x0 == 5) = false := bo
   have k3 : (x0 == 3) = false := bo
   have k6 : (x0 == 6) = false := bo
   have k7 : (x0 == 7) = false := bo
   have k8 : (x0 == 8) = false := bo
   have k9 : (x0 == 9) = false := bo
   have HA := am (show a = (⟨0, 0, decide (0 ≤ x1 ∧ x1 ≤ 255), x2 == 0, x3.toList.isEmpty, gr, false⟩ : impl_looker.Ask) from NA.out.trans (by subst hk0; simp [impl_looker.ask]))
   go_upto_region 11 with (fail)
   go_quiet ((go_at_call 29; (with_reducible refine (impl_within.calls x1 0 255 (decide (0 ≤ x1 ∧ x1 ≤ 255)) _ (impl_looker.within_ev _ _ _)).mono ?_); rintro e w' ⟨rfl, ⟨nd_, rfl⟩⟩; exact ⟨rfl, _, World.drewN_drewN _ _ _⟩))
   generalize hwd_ : World.drewN wd_ nq = we_
   have hb_ := (show Below (World.heap wd_).size wd_ we_ from hwd_ ▸ pw_below_drewN (Below.refl _ _) nq)
   have hk := (Kept.of_below hb_ (fun _ => False))
   replace HG := sn hk HG
   replace HX3 := sn hk HX3
   replace HK := am (HK.out.then_ hk no_R)
   replace HB := am (below_step HB.out hb_)
   clear hk hwd_ hb_
   replace jG := HG.out.c3
   replace jX3 := HX3.out.c5
   go_wp2
   go_meet
   case rel => exact rx5_1
  rcases Classical.em (x0 = 2) with hk0 | hk0_2
  ·
   have k1 : (x0 == 1) = false := bo
   have k2 : (x0 == 2) = true := beq_iff_eq.mpr hk0
   have k4 : (x0 == 4) = false := bo
   have k5 : (x0 == 5) = false := bo
   have k3 : (x0 == 3) = false := bo
   have k6 : (x0 == 6) = false := bo
   have k7 : (x0 == 7) = false := bo
   have k8 : (x0 == 8) = false := bo
   have k9 : (x0 == 9) = false := bo
   have HA := am (show a = (⟨0, 0, x1 == 0, x2 == 0, x3.toList.isEmpty, gr, false⟩ : impl_looker.Ask) from NA.out.trans (by subst hk0; simp [impl_looker.ask]))
   go_upto_region 15 with (fail)
   go_quiet (fail)
   generalize hwd_ : World.drewN wd_ nq = we_
   have hb_ := (show Below (World.heap wd_).size wd_ we_ from hwd_ ▸ pw_below_drewN (Below.refl _ _) nq)
   have hk := (Kept.of_below hb_ (fun _ => False))
   replace HG := sn hk HG
   replace HX3 := sn hk HX3
   replace HK := am (HK.out.then_ hk no_R)
   replace HB := am (below_step HB.out hb_)
   clear hk hwd_ hb_
   replace jG := HG.out.c3
   replace jX3 := HX3.out.c5
   go_wp2
   go_meet
   case rel => exact rx5_1
  rcases Classical.em (x0 = 4) with hk0 | hk0_4
  ·
   have k1 : (x0 == 1) = false := bo
   have k2 : (x0 == 2) = false := bo
   have k4 : (x0 == 4) = true := beq_iff_eq.mpr hk0
   have k5 : (x0 == 5) = false := bo
   have k3 : (x0 == 3) = false := bo
   have k6 : (x0 == 6) = false := bo
   have k7 : (x0 == 7) = false := bo
   have k8 : (x0 == 8) = false := bo
   have k9 : (x0 == 9) = false := bo
   have HA := am (show a = (⟨0, 0, x1 == 0, x2 == 0, x3.toList.isEmpty, gr, false⟩ : impl_looker.Ask) from NA.out.trans (by subst hk0; simp [impl_looker.ask]))
   go_upto_region 15 with (fail)
   go_quiet (fail)
   generalize hwd_ : World.drewN wd_ nq = we_
   have hb_ := (show Below (World.heap wd_).size wd_ we_ from hwd_ ▸ pw_below_drewN (Below.refl _ _) nq)
   have hk := (Kept.of_below hb_ (fun _ => False))
   replace HG := sn hk HG
   replace HX3 := sn hk HX3
   replace HK := am (HK.out.then_ hk no_R)
   replace HB := am (below_step HB.out hb_)
   clear hk hwd_ hb_
   replace jG := HG.out.c3
   replace jX3 := HX3.out.c5
   go_wp2
   go_meet
   case rel => exact rx5_1
  rcases Classical.em (x0 = 5) with hk0 | hk0_5
  ·
   have k1 : (x0 == 1) = false := bo
   have k2 : (x0 == 2) = false := bo
   have k4 : (x0 == 4) = false := bo
   have k5 : (x0 == 5) = true := beq_iff_eq.mpr hk0
   have k3 : (x0 == 3) = false := bo
   have k6 : (x0 == 6) = false := bo
   have k7 : (x0 == 7) = false := bo
   have k8 : (x0 == 8) = false := bo
   have k9 : (x0 == 9) = false := bo
   have HA := am (show a = (⟨0, 0, x1 == 0, x2 == 0, x3.toList.isEmpty, gr, false⟩ : impl_looker.Ask) from NA.out.trans (by subst hk0; simp [impl_looker.ask]))
   go_upto_region 15 with (fail)
   go_quiet (fail)
   generalize hwd_ : World.drewN wd_ nq = we_
   have hb_ := (show Below (World.heap wd_).size wd_ we_ from hwd_ ▸ pw_below_drewN (Below.refl _ _) nq)
   have hk := (Kept.of_below hb_ (fun _ => False))
   replace HG := sn hk HG
   replace HX3 := sn hk HX3
   replace HK := am (HK.out.then_ hk no_R)
   replace HB := am (below_step HB.out hb_)
   clear hk hwd_ hb_
   replace jG := HG.out.c3
   replace jX3 := HX3.out.c5
   go_wp2
   go_meet
   case rel => exact rx5_1
  rcases Classical.em (x0 = 3) with hk0 | hk0_3
  ·
   have k1 : (x0 == 1) = false := bo
   have k2 : (x0 == 2) = false := bo
   have k4 : (x0 == 4) = false := bo
   have k5 : (x0 == 5) = false := bo
   have k3 : (x0 == 3) = true := beq_iff_eq.mpr hk0
   have k6 : (x0 == 6) = false := bo
   have k7 : (x0 == 7) = false := bo
   have k8 : (x0 == 8) = false := bo
   have k9 : (x0 == 9) = false := bo
   have HA := am (show a = (⟨0, 0, x1 == 0, x2 == 0, impl_looker.rises x3, gr, false⟩ : impl_looker.Ask) from NA.out.trans (by subst hk0; simp [impl_looker.ask]))
   go_upto_region 17 with (fail)
   go_quiet ((go_at_call 64; (with_reducible refine (impl_rises.calls 700 x3 (impl_looker.rises x3) _ (impl_looker.rises_ev x3)).mono ?_); rintro e w' ⟨rfl, ⟨nd_, rfl⟩⟩; exact ⟨rfl, _, World.drewN_drewN _ _ _⟩))
   generalize hwd_ : World.drewN wd_ nq = we_
   have hb_ := (show Below (World.heap wd_).size wd_ we_ from hwd_ ▸ pw_below_drewN (Below.refl _ _) nq)
   have hk := (Kept.of_below hb_ (fun _ => False))
   replace HG := sn hk HG
   replace HX3 := sn hk HX3
   replace HK := am (HK.out.then_ hk no_R)
   replace HB := am (below_step HB.out hb_)
   clear hk hwd_ hb_
   replace jG := HG.out.c3
   replace jX3 := HX3.out.c5
   go_wp2
   go_meet
   case rel => exact rx5_1
  rcases Classical.em (x0 = 6) with hk0 | hk0_6
  ·
   obtain ⟨g1, hg1⟩ : ∃ g_, g_ = wrap64 (gr + 1) := ⟨_, rfl⟩
   have hwg : wrap64 (gr + 1) = g1 := hg1.symm
   clear hg1
   by_cases cg : x1 = g1
   ·
    have k1 : (x0 == 1) = false := bo
    have k2 : (x0 == 2) = false := bo
    have k4 : (x0 == 4) = false := bo
    have k5 : (x0 == 5) = false := bo
    have k3 : (x0 == 3) = false := bo
    have k6 : (x0 == 6) = true := beq_iff_eq.mpr hk0
    have k7 : (x0 == 7) = false := bo
    have k8 : (x0 == 8) = false := bo
    have k9 : (x0 == 9) = false := bo
    have HA := am (show a = (⟨1, 1, (x1 == g1) && decide (x1 ≤ 9), x2 == 0, x3.toList.isEmpty, g1, false⟩ : impl_looker.Ask) from NA.out.trans (by subst hk0; simp [impl_looker.ask, hwg]))
    have kg : (x1 == g1) = true := beq_iff_eq.mpr cg
    rw [kg] at HA
    clear cg
    go_upto_region 21 with (((with_reducible refine gate_store (t := 3) (p := 77) rfl ?_); refine LB.stored HG.out HB.out GEG.out 1 [.int .i64 g1] rfl (t := 3) (p := 77) rfl rfl ?hr_20 ?_; (case hr_20 => first | (go_simp; done) | (go_simp; simp only [World.setCells, Nat.reduceAdd, Nat.zero_add]; done)); intro w2 hx hk hb; replace HX3 := ss hk HX3 (apart_symm D_G_X3.out); replace HK := am (HK.out.then_ hk RRG.out); replace HB := am hb; replace HG := am (show LB w2 PG gG 97 #[.int .i64 m1, .int .i64 g1, .bool false] from hx); clear hk hx hb; replace jG := HG.out.c3; replace jX3 := HX3.out.c5))
    go_quiet (fail)
    generalize hwd_ : World.drewN w2 nq = we_
    have hb_ := (show Below (World.heap w2).size w2 we_ from hwd_ ▸ pw_below_drewN (Below.refl _ _) nq)
    have hk := (Kept.of_below hb_ (fun _ => False))
    replace HG := sn hk HG
    replace HX3 := sn hk HX3
    replace HK := am (HK.out.then_ hk no_R)
    replace HB := am (below_step HB.out hb_)
    clear hk hwd_ hb_
    replace jG := HG.out.c3
    replace jX3 := HX3.out.c5
    go_wp2
    go_meet
    case rel => exact rx5_1
   have k1 : (x0 == 1) = false := bo
   have k2 : (x0 == 2) = false := bo
   have k4 : (x0 == 4) = false := bo
   have k5 : (x0 == 5) = false := bo
   have k3 : (x0 == 3) = false := bo
   have k6 : (x0 == 6) = true := beq_iff_eq.mpr hk0
   have k7 : (x0 == 7) = false := bo
   have k8 : (x0 == 8) = false := bo
   have k9 : (x0 == 9) = false := bo
   have HA := am (show a = (⟨1, 1, (x1 == g1) && decide (x1 ≤ 9), x2 == 0, x3.toList.isEmpty, g1, false⟩ : impl_looker.Ask) from NA.out.trans (by subst hk0; simp [impl_looker.ask, hwg]))
   have kg : (x1 == g1) = false := beq_eq_false_iff_ne.mpr cg
   rw [kg] at HA
   clear cg
   go_upto_region 21 with (((with_reducible refine gate_store (t := 3) (p := 77) rfl ?_); refine LB.stored HG.out HB.out GEG.out 1 [.int .i64 g1] rfl (t := 3) (p := 77) rfl rfl ?hr_21 ?_; (case hr_21 => first | (go_simp; done) | (go_simp; simp only [World.setCells, Nat.reduceAdd, Nat.zero_add]; done)); intro w2 hx hk hb; replace HX3 := ss hk HX3 (apart_symm D_G_X3.out); replace HK := am (HK.out.then_ hk RRG.out); replace HB := am hb; replace HG := am (show LB w2 PG gG 97 #[.int .i64 m1, .int .i64 g1, .bool false] from hx); clear hk hx hb; replace jG := HG.out.c3; replace jX3 := HX3.out.c5))
   go_quiet (fail)
   generalize hwd_ : World.drewN w2 nq = we_
   have hb_ := (show Below (World.heap w2).size w2 we_ from hwd_ ▸ pw_below_drewN (Below.refl _ _) nq)
   have hk := (Kept.of_below hb_ (fun _ => False))
   replace HG := sn hk HG
   replace HX3 := sn hk HX3
   replace HK := am (HK.out.then_ hk no_R)
   replace HB := am (below_step HB.out hb_)
   clear hk hwd_ hb_
   replace jG := HG.out.c3
   replace jX3 := HX3.out.c5
   go_wp2
   go_meet
   case rel => exact rx5_1
  rcases Classical.em (x0 = 7) with hk0 | hk0_7
  ·
   have k1 : (x0 == 1) = false := bo
   have k2 : (x0 == 2) = false := bo
   have k4 : (x0 == 4) = false := bo
   have k5 : (x0 == 5) = false := bo
   have k3 : (x0 == 3) = false := bo
   have k6 : (x0 == 6) = false := bo
   have k7 : (x0 == 7) = true := beq_iff_eq.mpr hk0
   have k8 : (x0 == 8) = false := bo
   have k9 : (x0 == 9) = false := bo
   have HA := am (show a = (⟨0, 120, x1 == 0, x2 == 0, x3.toList.isEmpty, gr, false⟩ : impl_looker.Ask) from NA.out.trans (by subst hk0; simp [impl_looker.ask]))
   go_upto_region 27 with (fail)
   go_quiet (fail)
   generalize hwd_ : World.drewN wd_ nq = we_
   have hb_ := (show Below (World.heap wd_).size wd_ we_ from hwd_ ▸ pw_below_drewN (Below.refl _ _) nq)
   have hk := (Kept.of_below hb_ (fun _ => False))
   replace HG := sn hk HG
   replace HX3 := sn hk HX3
   replace HK := am (HK.out.then_ hk no_R)
   replace HB := am (below_step HB.out hb_)
   clear hk hwd_ hb_
   replace jG := HG.out.c3
   replace jX3 := HX3.out.c5
   go_wp2
   go_meet
   case rel => exact rx5_1
  rcases Classical.em (x0 = 8) with hk0 | hk0_8
  ·
   have k1 : (x0 == 1) = false := bo
   have k2 : (x0 == 2) = false := bo
   have k4 : (x0 == 4) = false := bo
   have k5 : (x0 == 5) = false := bo
   have k3 : (x0 == 3) = false := bo
   have k6 : (x0 == 6) = false := bo
   have k7 : (x0 == 7) = false := bo
   have k8 : (x0 == 8) = true := beq_iff_eq.mpr hk0
   have k9 : (x0 == 9) = false := bo
   have HA := am (show a = (⟨2, 120, x1 == 0, x2 == 0, x3.toList.isEmpty, gr, false⟩ : impl_looker.Ask) from NA.out.trans (by subst hk0; simp [impl_looker.ask]))
   go_upto_region 27 with (fail)
   go_quiet (fail)
   generalize hwd_ : World.drewN wd_ nq = we_
   have hb_ := (show Below (World.heap wd_).size wd_ we_ from hwd_ ▸ pw_below_drewN (Below.refl _ _) nq)
   have hk := (Kept.of_below hb_ (fun _ => False))
   replace HG := sn hk HG
   replace HX3 := sn hk HX3
   replace HK := am (HK.out.then_ hk no_R)
   replace HB := am (below_step HB.out hb_)
   clear hk hwd_ hb_
   replace jG := HG.out.c3
   replace jX3 := HX3.out.c5
   go_wp2
   go_meet
   case rel => exact rx5_1
  rcases Classical.em (x0 = 9) with hk0 | hk0_9
  ·
   by_cases cg : x2 = -1
   ·
    have k1 : (x0 == 1) = false := bo
    have k2 : (x0 == 2) = false := bo
    have k4 : (x0 == 4) = false := bo
    have k5 : (x0 == 5) = false := bo
    have k3 : (x0 == 3) = false := bo
    have k6 : (x0 == 6) = false := bo
    have k7 : (x0 == 7) = false := bo
    have k8 : (x0 == 8) = false := bo
    have k9 : (x0 == 9) = true := beq_iff_eq.mpr hk0
    have HA := am (show a = (⟨1, 1, decide (0 ≤ x1 ∧ x1 ≤ 20), (x2 == -1) || decide (x1 ≤ x2 ∧ x2 ≤ 20), x3.toList.isEmpty, gr, false⟩ : impl_looker.Ask) from NA.out.trans (by subst hk0; simp [impl_looker.ask]))
    have kg : (x2 == -1) = true := beq_iff_eq.mpr cg
    rw [kg] at HA
    clear cg
    go_upto_region 30 with (fail)
    go_quiet ((first | (go_at_call 29; (with_reducible refine (impl_within.calls x1 0 20 (decide (0 ≤ x1 ∧ x1 ≤ 20)) _ (impl_looker.within_ev _ _ _)).mono ?_); rintro e w' ⟨rfl, ⟨nd_, rfl⟩⟩; exact ⟨rfl, _, World.drewN_drewN _ _ _⟩) | (go_at_call 29; (with_reducible refine (impl_within.calls x2 x1 20 (decide (x1 ≤ x2 ∧ x2 ≤ 20)) _ (impl_looker.within_ev _ _ _)).mono ?_); rintro e w' ⟨rfl, ⟨nd_, rfl⟩⟩; exact ⟨rfl, _, World.drewN_drewN _ _ _⟩)))
    generalize hwd_ : World.drewN wd_ nq = we_
    have hb_ := (show Below (World.heap wd_).size wd_ we_ from hwd_ ▸ pw_below_drewN (Below.refl _ _) nq)
    have hk := (Kept.of_below hb_ (fun _ => False))
    replace HG := sn hk HG
    replace HX3 := sn hk HX3
    replace HK := am (HK.out.then_ hk no_R)
    replace HB := am (below_step HB.out hb_)
    clear hk hwd_ hb_
    replace jG := HG.out.c3
    replace jX3 := HX3.out.c5
    go_wp2
    go_meet
    case rel => exact rx5_1
   have k1 : (x0 == 1) = false := bo
   have k2 : (x0 == 2) = false := bo
   have k4 : (x0 == 4) = false := bo
   have k5 : (x0 == 5) = false := bo
   have k3 : (x0 == 3) = false := bo
   have k6 : (x0 == 6) = false := bo
   have k7 : (x0 == 7) = false := bo
   have k8 : (x0 == 8) = false := bo
   have k9 : (x0 == 9) = true := beq_iff_eq.mpr hk0
   have HA := am (show a = (⟨1, 1, decide (0 ≤ x1 ∧ x1 ≤ 20), (x2 == -1) || decide (x1 ≤ x2 ∧ x2 ≤ 20), x3.toList.isEmpty, gr, false⟩ : impl_looker.Ask) from NA.out.trans (by subst hk0; simp [impl_looker.ask]))
   have kg : (x2 == -1) = false := beq_eq_false_iff_ne.mpr cg
   rw [kg] at HA
   clear cg
   go_upto_region 30 with (fail)
   go_quiet ((first | (go_at_call 29; (with_reducible refine (impl_within.calls x1 0 20 (decide (0 ≤ x1 ∧ x1 ≤ 20)) _ (impl_looker.within_ev _ _ _)).mono ?_); rintro e w' ⟨rfl, ⟨nd_, rfl⟩⟩; exact ⟨rfl, _, World.drewN_drewN _ _ _⟩) | (go_at_call 29; (with_reducible refine (impl_within.calls x2 x1 20 (decide (x1 ≤ x2 ∧ x2 ≤ 20)) _ (impl_looker.within_ev _ _ _)).mono ?_); rintro e w' ⟨rfl, ⟨nd_, rfl⟩⟩; exact ⟨rfl, _, World.drewN_drewN _ _ _⟩)))
   generalize hwd_ : World.drewN wd_ nq = we_
   have hb_ := (show Below (World.heap wd_).size wd_ we_ from hwd_ ▸ pw_below_drewN (Below.refl _ _) nq)
   have hk := (Kept.of_below hb_ (fun _ => False))
   replace HG := sn hk HG
   replace HX3 := sn hk HX3
   replace HK := am (HK.out.then_ hk no_R)
   replace HB := am (below_step HB.out hb_)
   clear hk hwd_ hb_
   replace jG := HG.out.c3
   replace jX3 := HX3.out.c5
   go_wp2
   go_meet
   case rel => exact rx5_1
  have k1 : (x0 == 1) = false := bo
  have k2 : (x0 == 2) = false := bo
  have k4 : (x0 == 4) = false := bo
  have k5 : (x0 == 5) = false := bo
  have k3 : (x0 == 3) = false := bo
  have k6 : (x0 == 6) = false := bo
  have k7 : (x0 == 7) = false := bo
  have k8 : (x0 == 8) = false := bo
  have k9 : (x0 == 9) = false := bo
  have HA := am (show a = (⟨0, 0, true, true, x3.toList.isEmpty, gr, true⟩ : impl_looker.Ask) from NA.out.trans (by unfold impl_looker.ask; rw [if_neg (by omega), if_neg (by omega), if_neg (by omega), if_neg (by omega), if_neg (by omega), if_neg (by omega), if_neg (by omega)]))
  go_wp2_with (((with_reducible refine gate_store (t := 4) (p := 39) rfl ?_); refine LB.stored HG.out HB.out GEG.out 2 [.bool true] rfl (t := 4) (p := 39) rfl rfl ?hr_22 ?_; (case hr_22 => first | (go_simp; done) | (go_simp; simp only [World.setCells, Nat.reduceAdd, Nat.zero_add]; done)); intro w2 hx hk hb; replace HX3 := ss hk HX3 (apart_symm D_G_X3.out); replace HK := am (HK.out.then_ hk RRG.out); replace HB := am hb; replace HG := am (show LB w2 PG gG 97 #[.int .i64 m1, .int .i64 gr, .bool true] from hx); clear hk hx hb; replace jG := HG.out.c3; replace jX3 := HX3.out.c5))
  go_meet
  case rel => exact rx5_1
theorem impl_looker_weight.any : ∀ n : Nat, ∀ x : S31, SizeOf.sizeOf x ≤ n → ∀ (PG : Nat → Prop) (gG : Nat) (A4 : Option Addr) (c4 : Nat) (nd gr : Int) (bad : Bool) (w ws : World), Below w.heap.size w ws → w.heap.size ≤ gG → LB ws PG gG 97 #[.int .i64 nd, .int .i64 gr, .bool bad] → k31.C w A4 x.f4.length x.f4 → x.f4.length ≤ c4 → Calls Try.prog 59 #[.pointer (some ⟨gG, 0, none⟩), .agg #[.int .i64 x.f0, .int .i64 x.f1, .int .i64 x.f2, .string x.f3, .slice A4 x.f4.length c4]] ws fun e w' => e = .returned (.int .i64 (impl_looker.g x nd gr bad).1) ∧ LB w' PG gG 97 #[.int .i64 (impl_looker.g x nd gr bad).2.1, .int .i64 (impl_looker.g x nd gr bad).2.2.1, .bool (impl_looker.g x nd gr bad).2.2.2] ∧ Below w.heap.size w w' ∧ Kept ws w' PG
 | 0 => fun x h => by cases x; simp at h
 | n + 1 => by
  intro x hx PG gG A4 c4 nd gr bad w ws hB hge hG hr hc
  obtain ⟨x0, x1, x2, x3, x4⟩ := x
  by_cases hb : (decide (120 < wrap64 (nd + 1)) || bad) = true
  ·
   have hg : impl_looker.g ⟨x0, x1, x2, x3, x4⟩ nd gr bad = (0, wrap64 (nd + 1), gr, true) := by rw [impl_looker.g, if_pos hb]
   rw [hg]
   exact impl_looker_weight.early x0 x1 x2 x3 x4 PG gG A4 c4 nd gr bad w ws hB hge hG hb
  have hb0 : bad = false := by
   cases bad with
   | false => rfl
   | true => simp at hb
  subst hb0
  exact impl_looker_weight.main x0 x1 x2 x3 x4 PG gG A4 c4 nd gr w ws hB hge hG (by simpa using hb) n (impl_looker_weight.any n) (by simp at hx; omega) hr _ rfl
end

end Go.Proofs.Ytlpabbcgichaoaa.PFnExactFind
