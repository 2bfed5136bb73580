import Derived.Test.YtlpabbcgichaoaaMatFnExactFind
import Derived.Test.YtlpabbcgichaoaaPFnExactFindx3
import Derived.Test.YtlpabbcgichaoaaWWords
section
namespace Go.Proofs.Ytlpabbcgichaoaa.PFnExactFind
open Go.RowKit Go.Proofs.Ytlpabbcgichaoaa.Lawful Go.Proofs.YtlpabbcgichaoaaW.PrintWords Go.Proofs.YtlpabbcgichaoaaW.PrintLast Go.Proofs.YtlpabbcgichaoaaW.PrintMore
attribute [local go_sem] max2_int min2_int max_two min_two max_three min_three max_four min_four
set_option maxHeartbeats 16000000
set_option maxRecDepth 100000
set_option linter.unusedVariables false
set_option linter.unusedSimpArgs false
section
open Go.Proofs.Ytlpabbcgichaoaa.Lawful
structure l06E where
 PG : Nat → Prop
 PN : Nat → Prop
 PK : Nat → Prop
 gG : Nat
 gK : Nat
 BN : Option Addr
 DN : Nat
 L : Nat
 cK : Nat
 ns : List S85
 T : ByteArray
 den : Nat → Mt
 spf : Nat → Spf
@[reducible] def l06E.At (E : l06E) (w ws : World) (kn : List Int) : Prop :=
 Below w.heap.size w ws ∧ LB ws E.PG E.gG 82 #[.slice E.BN E.ns.length E.DN, .string E.T, .slice (some ⟨E.gK, 0, none⟩) E.L E.cK] ∧ LN k85 85 ws w.heap.size E.PN (.slice E.BN E.ns.length E.DN) E.ns ∧ LR (Kd.int .u8) 5 ws w.heap.size E.PK (.slice (some ⟨E.gK, 0, none⟩) E.L E.cK) kn
def l06E.Ok (E : l06E) : Prop :=
 ndGood (fun i => bt E.T (i : Int)) E.T.size E.ns E.den E.spf ∧ E.ns.length * (E.T.size + 1) * (E.T.size + 1) < 4611686018427387904 ∧ (∀ x ∈ E.ns, x.f2.size < 4611686018427387904) ∧ (∀ k, E.PG k → ¬ E.PK k) ∧ (∀ k, E.PN k → ¬ E.PK k) ∧ E.T.size < 4611686018427387904
@[reducible] def l06E.Post (E : l06E) (w ws : World) (kn : List Int) (M : Nat) (v : Value) (e : Ending) (w' : World) : Prop :=
 ∃ kn', e = .returned v ∧ St E.den E.ns.length E.T.size kn kn' M ∧ E.At w w' kn' ∧ Kept ws w' E.PK
def l06E.Can (E : l06E) (w : World) (m : Nat) : Prop := ∀ (M k i j : Nat) (kn : List Int) (ws : World), mu E.T.size k i j < m → mu E.T.size k i j < M → k < E.ns.length → i ≤ j → j ≤ E.T.size → E.At w ws kn → RB E.den E.ns.length E.T.size kn M →
 Calls Try.prog 37 #[.pointer (some ⟨E.gG, 0, none⟩), .int .i64 (k : Int), .int .i64 (i : Int), .int .i64 (j : Int)] ws (E.Post w ws kn M (.bool (E.den k i j)))
section
variable {P : Program} {ops : Array Oper} {rest : List Oper} {o : Oper} {a : Act} {Q : Exit → Act → World → Prop} {w0 W : World} {P1 : Nat → Prop}
theorem l06_at {g n c : Nat} {kn : List Int} (H : LR (Kd.int .u8) 5 W w0.heap.size P1 (.slice (some ⟨g, 0, none⟩) n c) kn) (i : Nat) (h : i < n) : W.cell? ⟨g, i, none⟩ = some (.int .u8 (kn.getD i 0)) ∧ W.frozen? ⟨g, i, none⟩ = false := by
 have := Kd.R_celln 0 H.1 (i : Int) (by omega) (by omega)
 rw [Int.toNat_natCast] at this
 refine ⟨?_, this.2⟩
 rw [this.1]
 simp [rdOf]
theorem l06_put1 {g n c : Nat} {kn : List Int} (H : LR (Kd.int .u8) 5 W w0.heap.size P1 (.slice (some ⟨g, 0, none⟩) n c) kn) (hB : Below w0.heap.size w0 W) (i : Nat) (hi : i < n) (x : Int) (hgd : o.guard = none) {t : TypeId} {p : Tmp} {y : Operand} (hN : o.dst = none) (ho : o.op = .store t (.tmp p) y)
  (hrun : (execOp a.eval o).run P W = .ok .skip (W.setCell ⟨g, i, none⟩ (.int .u8 x)))
  (h : ∀ w2, LR (Kd.int .u8) 5 w2 w0.heap.size P1 (.slice (some ⟨g, 0, none⟩) n c) (kn.set i x) → Kept W w2 P1 → Below w0.heap.size w0 w2 → wpList P ops Q rest a w2) : wpList P ops Q (o :: rest) a W := by
 have hl : n = kn.length := H.len
 have hp := Kd.R_putg H.1 (i : Int) x
 rw [Int.toNat_natCast] at hp
 obtain ⟨g', c', he, hge, hlt, _⟩ := Kd.R_form H.1 (by omega)
 injection he with he1 _ _
 injection he1 with he1
 injection he1 with he1 _ _
 subst he1
 have hk : Kept W (W.setCell ⟨g, i, none⟩ (.int .u8 x)) P1 := Kept.of_grown hp.2 (Kept.refl W P1) (fun k hk_ => by injection hk_ with hk_; subst hk_; exact .inl (H.1.1 _ rfl))
 refine store_event hgd ho hN hrun (fun w' hw => ?_)
 subst hw
 exact h _ (H.wrote hp.1 hk) hk (below_set hB hge)
theorem l06In_go (s : ByteArray) (c : Int) (hs : s.size < 4611686018427387904) : ∀ (d i : Nat), i + d = s.size → spec_l06In.l0 (d + 1) s c (i : Int) = some ((s.data.toList.drop i).any fun b => ((b.toNat : Nat) : Int) == c) := by
 intro d
 induction d with
 | zero =>
  intro i hi
  rw [spec_l06In.l0, if_neg (by omega), List.drop_eq_nil_of_le (by rw [Array.length_toList]; exact Nat.le_of_eq hi.symm)]
  rfl
 | succ d ih =>
  intro i hi
  have hlt : i < s.size := by omega
  have hl2 : i < s.data.toList.length := by rw [Array.length_toList]; exact hlt
  rw [spec_l06In.l0, if_pos (by omega), if_pos (by omega), List.drop_eq_getElem_cons hl2, List.any_cons]
  have hb : bt s (i : Int) = ((s.data.toList[i].toNat : Nat) : Int) := by
   rw [← bt_at s (i : Int) (by rw [Int.toNat_natCast]; exact hlt)]
   rfl
  rw [hb]
  by_cases hc : ((s.data.toList[i].toNat : Nat) : Int) = c
  ·
   rw [if_pos hc, beq_iff_eq.mpr hc, Bool.true_or]
  rw [if_neg hc, beq_eq_false_iff_ne.mpr hc, Bool.false_or, show wrap64 ((i : Int) + 1) = ((i + 1 : Nat) : Int) by unfold wrap64; omega]
  exact ih (i + 1) (by omega)
theorem l06In_ev (s : ByteArray) (c : Int) (hs : s.size < 4611686018427387904) : spec_l06In.f (s.size + 1) s c = some (inS s c) := by
 have := l06In_go s c hs s.size 0 (by omega)
 rw [List.drop_zero] at this
 exact this
end
theorem spec_split (E : l06E) (w : World) (M : Nat) (hC : E.Can w M) (a b i j least : Nat) (ha : a < E.ns.length) (hb : b < E.ns.length) (hil : i ≤ least) (hij : i ≤ j) (hj : j ≤ E.T.size) (hl : least ≤ j + 1) (hT : E.T.size < 4611686018427387904) (hm : ∀ q, least ≤ q → q ≤ j → mu E.T.size a i q < M ∧ mu E.T.size b q j < M) (kn : List Int) (ws : World) (hAt : E.At w ws kn) (hR : RB E.den E.ns.length E.T.size kn M) :
  Calls Try.prog 58 #[.pointer (some ⟨E.gG, 0, none⟩), .int .i64 (a : Int), .int .i64 (b : Int), .int .i64 (i : Int), .int .i64 (j : Int), .int .i64 (least : Int)] ws (E.Post w ws kn M (.int .i64 (spl (E.den a) (E.den b) least i j))) := by
 obtain ⟨PG, PN, PK, gG, gK, BN, DN, L, cK, ns, T, den, spf⟩ := E
 have hu := Try.underlying82
 have hu2 := Try.underlying85
 obtain ⟨hb_, hg_, hn_, hk_⟩ := hAt
 dsimp only at hb_ hg_ hn_ hk_
 have HB := am hb_
 have HG := am hg_
 have HN := am hn_
 have HY := am hk_
 have HK := am (Kept.refl ws PK)
 clear hb_ hg_ hn_ hk_
 dsimp only at ha hb hj hT hm hR ⊢
 have ST := am (St.refl hR)
 have HC := am hC
 have HM := am hm
 have SZ := am (show a < ns.length ∧ b < ns.length ∧ i ≤ least ∧ i ≤ j ∧ j ≤ T.size ∧ least ≤ j + 1 ∧ T.size < 4611686018427387904 from ⟨ha, hb, hil, hij, hj, hl, hT⟩)
 clear hR hC hm ha hb hil hij hj hl hT
 go_enter Try.func58, Try.ntmps58
 go_wp2
 go_loopg [13] (j + 2) (fun kq v13 w' => ∃ (t : Nat) (z : Int) (kn1 : List Int), v13 = .int .i64 z ∧ Aside0 (z = (t : Int) - 1) ∧ Aside0 (t + 1 = kq ∧ least ≤ t ∧ t ≤ j + 1) ∧ Aside0 (∀ q, t ≤ q → q ≤ j → (den a i q && den b q j) = false) ∧ Aside0 (Below w.heap.size w w') ∧ Aside0 (LB w' PG gG 82 #[.slice BN ns.length DN, .string T, .slice (some ⟨gK, 0, none⟩) L cK]) ∧ Aside0 (LN k85 85 w' w.heap.size PN (.slice BN ns.length DN) ns) ∧ Aside0 (LR (Kd.int .u8) 5 w' w.heap.size PK (.slice (some ⟨gK, 0, none⟩) L cK) kn1) ∧ Aside0 (St den ns.length T.size kn kn1 M) ∧ Aside0 (Kept ws w' PK))
 case atStart => exact ⟨j + 1, _, kn, rfl, ⟨by omega⟩, ⟨by have := SZ.out; omega⟩, ⟨fun q h1 h2 => by omega⟩, HB, HG, HN, HY, ST, HK⟩
 case round =>
  clear HB HG HN HY HK ST
  obtain ⟨t, z, kn1, rfl, HZ, HT, HNO, HB, HG, HN, HY, ST, HK⟩ := hrel
  by_cases hlt : least < t
  ·
   obtain ⟨q, rfl⟩ : ∃ q, t = q + 1 := ⟨t - 1, by omega⟩
   obtain ⟨k1, rfl⟩ : ∃ k_, gk = k_ + 1 := ⟨gk - 1, by have := HT.out; omega⟩
   obtain rfl : z = (q : Int) := by have := HZ.out; omega
   have HQ := am (show least ≤ q ∧ q ≤ j from by have := HT.out; omega)
   have cb1 : decide ((least : Int) ≤ (q : Int)) = true := decide_eq_true (by omega)
   have cb2 : decide (least ≤ q) = true := decide_eq_true (by omega)
   have hw1 : wrap64 ((q : Int) - 1) = (q : Int) - 1 := by have := SZ.out; have := HQ.out; unfold wrap64; omega
   clear hlt
   have IA := am (show ∀ (kn' : List Int) (ws' : World), l06E.At ⟨PG, PN, PK, gG, gK, BN, DN, L, cK, ns, T, den, spf⟩ w ws' kn' → RB den ns.length T.size kn' M → _ from fun kn' ws' h1 h2 => HC.out M a i q kn' ws' (HM.out q HQ.out.1 HQ.out.2).1 (HM.out q HQ.out.1 HQ.out.2).1 SZ.out.1 (by have := SZ.out; have := HQ.out; omega) (by have := SZ.out; have := HQ.out; dsimp only; omega) h1 h2)
   have IB := am (show ∀ (kn' : List Int) (ws' : World), l06E.At ⟨PG, PN, PK, gG, gK, BN, DN, L, cK, ns, T, den, spf⟩ w ws' kn' → RB den ns.length T.size kn' M → _ from fun kn' ws' h1 h2 => HC.out M b q j kn' ws' (HM.out q HQ.out.1 HQ.out.2).2 (HM.out q HQ.out.1 HQ.out.2).2 SZ.out.2.1 HQ.out.2 SZ.out.2.2.2.2.1 h1 h2)
   dsimp only at IA IB
   replace jG := HG.out.c3
   rcases hA : den a i q with _ | _
   ·
    rw [hA] at IA
    go_wp2_with (first | ((with_reducible refine gd 24 rfl ?_); refine gl_ (some 24) rfl rfl Try.func37 #[.pointer (some ⟨gG, 0, none⟩), .int .i64 (a : Int), .int .i64 (i : Int), .int .i64 (q : Int)] rfl rfl ?_; (with_reducible refine (IA.out _ _ ⟨HB.out, HG.out, HN.out, HY.out⟩ (St.rb ST.out)).mono ?_); rintro e w2 ⟨kn2, rfl, hst_, ⟨hb_, hg_, hn_, hk_⟩, hkk_⟩; refine ⟨_, rfl, ?_⟩; dsimp only at hst_ hb_ hg_ hn_ hk_ hkk_; replace HB := am hb_; replace HG := am hg_; replace HN := am hn_; replace HY := am hk_; replace HK := kl HK hkk_; replace ST := am (ST.out.trans hst_); clear hb_ hg_ hn_ hk_ hkk_ hst_; replace jG := HG.out.c3))
    go_roundg k1
    case measure => have := HT.out; omega
    case rel => exact ⟨q, _, _, rfl, ⟨by first | rfl | exact hw1⟩, ⟨by have := HT.out; have := HQ.out; omega⟩, ⟨fun q' h1 h2 => by rcases Nat.eq_or_lt_of_le h1 with h3 | h3; (subst h3; rw [hA]; rfl); exact HNO.out q' h3 h2⟩, HB, HG, HN, HY, ST, HK⟩
   rw [hA] at IA
   rcases hB : den b q j with _ | _
   ·
    rw [hB] at IB
    go_wp2_with (first | ((with_reducible refine gd 24 rfl ?_); refine gl_ (some 24) rfl rfl Try.func37 #[.pointer (some ⟨gG, 0, none⟩), .int .i64 (a : Int), .int .i64 (i : Int), .int .i64 (q : Int)] rfl rfl ?_; (with_reducible refine (IA.out _ _ ⟨HB.out, HG.out, HN.out, HY.out⟩ (St.rb ST.out)).mono ?_); rintro e w2 ⟨kn2, rfl, hst_, ⟨hb_, hg_, hn_, hk_⟩, hkk_⟩; refine ⟨_, rfl, ?_⟩; dsimp only at hst_ hb_ hg_ hn_ hk_ hkk_; replace HB := am hb_; replace HG := am hg_; replace HN := am hn_; replace HY := am hk_; replace HK := kl HK hkk_; replace ST := am (ST.out.trans hst_); clear hb_ hg_ hn_ hk_ hkk_ hst_; replace jG := HG.out.c3) | ((with_reducible refine gd 30 rfl ?_); (refine gate_guard (by rfl) ?_; dsimp only); refine gl_ (some 30) rfl rfl Try.func37 #[.pointer (some ⟨gG, 0, none⟩), .int .i64 (b : Int), .int .i64 (q : Int), .int .i64 (j : Int)] rfl rfl ?_; (with_reducible refine (IB.out _ _ ⟨HB.out, HG.out, HN.out, HY.out⟩ (St.rb ST.out)).mono ?_); rintro e w2 ⟨kn3, rfl, hst_, ⟨hb_, hg_, hn_, hk_⟩, hkk_⟩; refine ⟨_, rfl, ?_⟩; dsimp only at hst_ hb_ hg_ hn_ hk_ hkk_; replace HB := am hb_; replace HG := am hg_; replace HN := am hn_; replace HY := am hk_; replace HK := kl HK hkk_; replace ST := am (ST.out.trans hst_); clear hb_ hg_ hn_ hk_ hkk_ hst_; replace jG := HG.out.c3))
    go_roundg k1
    case measure => have := HT.out; omega
    case rel => exact ⟨q, _, _, rfl, ⟨by first | rfl | exact hw1⟩, ⟨by have := HT.out; have := HQ.out; omega⟩, ⟨fun q' h1 h2 => by rcases Nat.eq_or_lt_of_le h1 with h3 | h3; (subst h3; rw [hA, hB]; rfl); exact HNO.out q' h3 h2⟩, HB, HG, HN, HY, ST, HK⟩
   rw [hB] at IB
   go_wp2_with (first | ((with_reducible refine gd 24 rfl ?_); refine gl_ (some 24) rfl rfl Try.func37 #[.pointer (some ⟨gG, 0, none⟩), .int .i64 (a : Int), .int .i64 (i : Int), .int .i64 (q : Int)] rfl rfl ?_; (with_reducible refine (IA.out _ _ ⟨HB.out, HG.out, HN.out, HY.out⟩ (St.rb ST.out)).mono ?_); rintro e w2 ⟨kn2, rfl, hst_, ⟨hb_, hg_, hn_, hk_⟩, hkk_⟩; refine ⟨_, rfl, ?_⟩; dsimp only at hst_ hb_ hg_ hn_ hk_ hkk_; replace HB := am hb_; replace HG := am hg_; replace HN := am hn_; replace HY := am hk_; replace HK := kl HK hkk_; replace ST := am (ST.out.trans hst_); clear hb_ hg_ hn_ hk_ hkk_ hst_; replace jG := HG.out.c3) | ((with_reducible refine gd 30 rfl ?_); (refine gate_guard (by rfl) ?_; dsimp only); refine gl_ (some 30) rfl rfl Try.func37 #[.pointer (some ⟨gG, 0, none⟩), .int .i64 (b : Int), .int .i64 (q : Int), .int .i64 (j : Int)] rfl rfl ?_; (with_reducible refine (IB.out _ _ ⟨HB.out, HG.out, HN.out, HY.out⟩ (St.rb ST.out)).mono ?_); rintro e w2 ⟨kn3, rfl, hst_, ⟨hb_, hg_, hn_, hk_⟩, hkk_⟩; refine ⟨_, rfl, ?_⟩; dsimp only at hst_ hb_ hg_ hn_ hk_ hkk_; replace HB := am hb_; replace HG := am hg_; replace HN := am hn_; replace HY := am hk_; replace HK := kl HK hkk_; replace ST := am (ST.out.trans hst_); clear hb_ hg_ hn_ hk_ hkk_ hst_; replace jG := HG.out.c3))
   go_ret
   rw [spl_at HQ.out.1 HQ.out.2 (by rw [hA, hB]; rfl) HNO.out]
   exact ⟨_, rfl, ST.out, ⟨HB.out, HG.out, HN.out, HY.out⟩, HK.out⟩
  obtain rfl : z = (least : Int) - 1 := by have := HZ.out; have := HT.out; omega
  have cb1 : decide ((least : Int) ≤ (least : Int) - 1) = false := decide_eq_false (by omega)
  obtain rfl : t = least := by have := HT.out; omega
  go_wp2
  go_ret
  rw [spl_none HNO.out]
  exact ⟨_, rfl, ST.out, ⟨HB.out, HG.out, HN.out, HY.out⟩, HK.out⟩
theorem spec_find (E : l06E) (w : World) (hok : E.Ok) (k i j : Nat) (hk : k < E.ns.length) (hij : i ≤ j) (hj : j ≤ E.T.size) (hC : E.Can w (mu E.T.size k i j)) (f0 f1 : Int) (f2 : ByteArray) (f3 f4 : Int) (hx : E.ns[k]? = some ⟨f0, f1, f2, f3, f4⟩) (kn : List Int) (ws : World) (hAt : E.At w ws kn) (hR : RB E.den E.ns.length E.T.size kn (mu E.T.size k i j)) :
  Calls Try.prog 49 #[.pointer (some ⟨E.gG, 0, none⟩), .agg #[.int .i64 f0, .int .i64 f1, .string f2, .int .i64 f3, .int .i64 f4], .int .i64 (k : Int), .int .i64 (i : Int), .int .i64 (j : Int)] ws (E.Post w ws kn (mu E.T.size k i j) (.bool (E.den k i j))) := by
 obtain ⟨PG, PN, PK, gG, gK, BN, DN, L, cK, ns, T, den, spf⟩ := E
 have hu := Try.underlying82
 have hu2 := Try.underlying85
 obtain ⟨hb_, hg_, hn_, hk_⟩ := hAt
 dsimp only at hb_ hg_ hn_ hk_
 have HB := am hb_
 have HG := am hg_
 have HN := am hn_
 have HY := am hk_
 have HK := am (Kept.refl ws PK)
 clear hb_ hg_ hn_ hk_
 obtain ⟨hgood, hbig, hset, hdG, hdN, hT⟩ := hok
 dsimp only at hgood hbig hset hdG hdN hT hk hj hR hx hC ⊢
 have ST := am (St.refl hR)
 have HC := am hC
 have D_G_Y := am hdG
 have D_N_Y := am hdN
 obtain ⟨hnd, hkd, hden, _⟩ := hgood k _ hx
 obtain ⟨h30, h40, h3k, h4k⟩ := hnd
 dsimp only at h30 h40 h3k h4k hkd hden
 obtain ⟨a, rfl⟩ : ∃ a : Nat, f3 = (a : Int) := ⟨f3.toNat, by omega⟩
 obtain ⟨b, rfl⟩ : ∃ b : Nat, f4 = (b : Int) := ⟨f4.toNat, by omega⟩
 rw [Int.toNat_natCast] at h3k
 rw [Int.toNat_natCast] at h4k
 have HS := am (hset _ (List.mem_of_getElem? hx))
 have HDN := am hden
 have SZ := am (show k < ns.length ∧ i ≤ j ∧ j ≤ T.size ∧ T.size < 4611686018427387904 from ⟨hk, hij, hj, hT⟩)
 have HKD := am hkd
 have H3 := am h3k
 have H4 := am h4k
 have HV := am (hden i j)
 have hwi : wrap64 ((i : Int) + 1) = ((i + 1 : Nat) : Int) := by unfold wrap64; omega
 have hwik : IntKind.i64.wrap ((i : Int) + 1) = ((i + 1 : Nat) : Int) := (i64_w _).trans hwi
 clear hgood hbig hset hdG hdN hR hC hx h30 h40 hkd h3k h4k hden hk hij hj hT
 replace jG := HG.out.c3
 go_enter Try.func49, Try.ntmps49
 go_upto_region 1 with (first | ((with_reducible refine gd 6 rfl ?_); refine bx_ (N := 6) (cs := #[.int .i64 f0, .int .i64 f1, .string f2, .int .i64 (a : Int), .int .i64 (b : Int)]) (t := 85) rfl rfl ?hr_1 ?_; (case hr_1 => first | (go_simp; done) | (go_simp; rfl)); intro gX1 hg w2 hb hk PX1 hPX1 HX1; have GEX1 := ge_ hg HB; have D_N_X1 := nl hPX1 HN.out.lt; have D_Y_X1 := nl hPX1 HY.out.lt; have D_G_X1 := na hPX1 HG; have RRX1 := am (show ∀ k_, PX1 k_ → (PK) k_ ∨ ws.heap.size ≤ k_ from fun k_ h_ => .inr (Nat.le_trans HK.out.1 (hPX1 k_ h_).1)); replace HN := nn hk HN; replace HY := rn hk HY; replace HG := sn hk HG; replace HK := kt HK hk; replace HB := bs HB hb; clear hb hk hg hPX1; replace jG := HG.out.c3; replace jX1 := HX1.out.c5))
 by_cases hc1 : f0 = 1
 ·
  have hc0 := hc1
  have k1 : (f0 == 1) = true := beq_iff_eq.mpr hc0
  have HV1 := am (show den k i j = (j == i + 1 && decide (bt T (i : Int) = f1)) from HV.out.trans (by subst hc0; rfl))
  by_cases cj : j = i + 1
  ·
   have ea : (((j : Int) : Int) == ((i + 1 : Nat) : Int)) = true := beq_iff_eq.mpr (by omega)
   have eb : (j == i + 1) = true := beq_iff_eq.mpr (by omega)
   have ec : ((j : Int) == (i : Int) + 1) = true := by first | exact ea | (push_cast at ea; exact ea)
   have pI := eq_true (show (0 : Int) ≤ (i : Int) by omega)
   have qI := eq_true (show (i : Int) < (T.size : Int) by have := SZ.out; omega)
   have hx5 := bt_at T (i : Int)
   have hx6 : ∀ h : i < T.size, ((T[i]'h).toNat : Int) = bt T (i : Int) := hx5
   have bw : wrap64 (bt T (i : Int)) = bt T (i : Int) := by have := bt_range T (i : Int); unfold wrap64; omega
   have bwk : IntKind.i64.wrap (bt T (i : Int)) = bt T (i : Int) := (i64_w _).trans bw
   by_cases cb : bt T (i : Int) = f1
   ·
    have kb : (bt T (i : Int) == f1) = true := beq_iff_eq.mpr cb
    have kd := decide_eq_true cb
    try clear cj
    try clear cb
    try clear c0
    try clear c1
    try clear c2
    try clear hc0
    try clear hc1
    try clear hc2
    try clear hc3
    try clear hc4
    try clear hc5
    try clear hc21
    try clear hc6
    try clear hc8
    try clear hc20
    try clear hc9
    go_upto_region 3 with (fail)
    go_quiet (fail)
    generalize hwd_ : World.drewN w2 nq = wd_
    have hb_ := (show Below (World.heap w2).size w2 wd_ from hwd_ ▸ pw_below_drewN (Below.refl _ _) nq)
    have hk := (Kept.of_below hb_ (fun _ => False))
    replace HN := nn hk HN
    replace HY := rn hk HY
    replace HG := sn hk HG
    replace HX1 := sn hk HX1
    replace HK := kt HK hk
    replace HB := bs HB hb_
    clear hk hwd_ hb_
    replace jG := HG.out.c3
    replace jX1 := HX1.out.c5
    go_wp2
    go_ret
    exact ⟨_, (by rw [HV1.out, eb, kd]; rfl), ST.out, ⟨HB.out, HG.out, HN.out, HY.out⟩, HK.out⟩
   have kb : (bt T (i : Int) == f1) = false := beq_eq_false_iff_ne.mpr cb
   have kd := decide_eq_false cb
   try clear cj
   try clear cb
   try clear c0
   try clear c1
   try clear c2
   try clear hc0
   try clear hc1
   try clear hc2
   try clear hc3
   try clear hc4
   try clear hc5
   try clear hc21
   try clear hc6
   try clear hc8
   try clear hc20
   try clear hc9
   go_upto_region 3 with (fail)
   go_quiet (fail)
   generalize hwd_ : World.drewN w2 nq = wd_
   have hb_ := (show Below (World.heap w2).size w2 wd_ from hwd_ ▸ pw_below_drewN (Below.refl _ _) nq)
   have hk := (Kept.of_below hb_ (fun _ => False))
   replace HN := nn hk HN
   replace HY := rn hk HY
   replace HG := sn hk HG
   replace HX1 := sn hk HX1
   replace HK := kt HK hk
   replace HB := bs HB hb_
   clear hk hwd_ hb_
   replace jG := HG.out.c3
   replace jX1 := HX1.out.c5
   go_wp2
   go_ret
   exact ⟨_, (by rw [HV1.out, eb, kd]; rfl), ST.out, ⟨HB.out, HG.out, HN.out, HY.out⟩, HK.out⟩
  have ea : (((j : Int) : Int) == ((i + 1 : Nat) : Int)) = false := bo
  have eb : (j == i + 1) = false := bo
  have ec : ((j : Int) == (i : Int) + 1) = false := by first | exact ea | (push_cast at ea; exact ea)
  try clear cj
  try clear cb
  try clear c0
  try clear c1
  try clear c2
  try clear hc0
  try clear hc1
  try clear hc2
  try clear hc3
  try clear hc4
  try clear hc5
  try clear hc21
  try clear hc6
  try clear hc8
  try clear hc20
  try clear hc9
  go_upto_region 3 with (fail)
  go_quiet (fail)
  generalize hwd_ : World.drewN w2 nq = wd_
  have hb_ := (show Below (World.heap w2).size w2 wd_ from hwd_ ▸ pw_below_drewN (Below.refl _ _) nq)
  have hk := (Kept.of_below hb_ (fun _ => False))
  replace HN := nn hk HN
  replace HY := rn hk HY
  replace HG := sn hk HG
  replace HX1 := sn hk HX1
  replace HK := kt HK hk
  replace HB := bs HB hb_
  clear hk hwd_ hb_
  replace jG := HG.out.c3
  replace jX1 := HX1.out.c5
  go_wp2
  go_ret
  exact ⟨_, (by rw [HV1.out, eb]; rfl), ST.out, ⟨HB.out, HG.out, HN.out, HY.out⟩, HK.out⟩
 have k1 : (f0 == 1) = false := beq_eq_false_iff_ne.mpr hc1
 by_cases hc2 : f0 = 2
 ·
  have hc0 := hc2
  have k2 : (f0 == 2) = true := beq_iff_eq.mpr hc0
  have HV1 := am (show den k i j = (j == i + 1) from HV.out.trans (by subst hc0; rfl))
  by_cases cj : j = i + 1
  ·
   have ea : (((j : Int) : Int) == ((i + 1 : Nat) : Int)) = true := beq_iff_eq.mpr (by omega)
   have eb : (j == i + 1) = true := beq_iff_eq.mpr (by omega)
   have ec : ((j : Int) == (i : Int) + 1) = true := by first | exact ea | (push_cast at ea; exact ea)
   try clear cj
   try clear cb
   try clear c0
   try clear c1
   try clear c2
   try clear hc0
   try clear hc1
   try clear hc2
   try clear hc3
   try clear hc4
   try clear hc5
   try clear hc21
   try clear hc6
   try clear hc8
   try clear hc20
   try clear hc9
   go_wp2
   go_ret
   exact ⟨_, (by rw [HV1.out, eb]; rfl), ST.out, ⟨HB.out, HG.out, HN.out, HY.out⟩, HK.out⟩
  have ea : (((j : Int) : Int) == ((i + 1 : Nat) : Int)) = false := bo
  have eb : (j == i + 1) = false := bo
  have ec : ((j : Int) == (i : Int) + 1) = false := by first | exact ea | (push_cast at ea; exact ea)
  try clear cj
  try clear cb
  try clear c0
  try clear c1
  try clear c2
  try clear hc0
  try clear hc1
  try clear hc2
  try clear hc3
  try clear hc4
  try clear hc5
  try clear hc21
  try clear hc6
  try clear hc8
  try clear hc20
  try clear hc9
  go_wp2
  go_ret
  exact ⟨_, (by rw [HV1.out, eb]; rfl), ST.out, ⟨HB.out, HG.out, HN.out, HY.out⟩, HK.out⟩
 have k2 : (f0 == 2) = false := beq_eq_false_iff_ne.mpr hc2
 by_cases hc3 : f0 = 3
 ·
  have hc0 := hc3
  have k3 : (f0 == 3) = true := beq_iff_eq.mpr hc0
  have HV1 := am (show den k i j = (j == i + 1 && inS f2 (bt T (i : Int))) from HV.out.trans (by subst hc0; rfl))
  by_cases cj : j = i + 1
  ·
   have ea : (((j : Int) : Int) == ((i + 1 : Nat) : Int)) = true := beq_iff_eq.mpr (by omega)
   have eb : (j == i + 1) = true := beq_iff_eq.mpr (by omega)
   have ec : ((j : Int) == (i : Int) + 1) = true := by first | exact ea | (push_cast at ea; exact ea)
   have pI := eq_true (show (0 : Int) ≤ (i : Int) by omega)
   have qI := eq_true (show (i : Int) < (T.size : Int) by have := SZ.out; omega)
   have hx5 := bt_at T (i : Int)
   have hx6 : ∀ h : i < T.size, ((T[i]'h).toNat : Int) = bt T (i : Int) := hx5
   have bw : wrap64 (bt T (i : Int)) = bt T (i : Int) := by have := bt_range T (i : Int); unfold wrap64; omega
   have bwk : IntKind.i64.wrap (bt T (i : Int)) = bt T (i : Int) := (i64_w _).trans bw
   try clear cj
   try clear cb
   try clear c0
   try clear c1
   try clear c2
   try clear hc0
   try clear hc1
   try clear hc2
   try clear hc3
   try clear hc4
   try clear hc5
   try clear hc21
   try clear hc6
   try clear hc8
   try clear hc20
   try clear hc9
   go_upto_region 7 with (fail)
   go_quiet ((go_at_call 63; (with_reducible refine (spec_l06In.calls (f2.size + 1) f2 (bt T (i : Int)) (inS f2 (bt T (i : Int))) _ (l06In_ev _ _ HS.out)).mono ?_); rintro e w' ⟨rfl, ⟨nd_, rfl⟩⟩; exact ⟨rfl, _, World.drewN_drewN _ _ _⟩))
   generalize hwd_ : World.drewN w2 nq = wd_
   have hb_ := (show Below (World.heap w2).size w2 wd_ from hwd_ ▸ pw_below_drewN (Below.refl _ _) nq)
   have hk := (Kept.of_below hb_ (fun _ => False))
   replace HN := nn hk HN
   replace HY := rn hk HY
   replace HG := sn hk HG
   replace HX1 := sn hk HX1
   replace HK := kt HK hk
   replace HB := bs HB hb_
   clear hk hwd_ hb_
   replace jG := HG.out.c3
   replace jX1 := HX1.out.c5
   go_wp2
   go_ret
   exact ⟨_, (by rw [HV1.out, eb, Bool.true_and]; rfl), ST.out, ⟨HB.out, HG.out, HN.out, HY.out⟩, HK.out⟩
  have ea : (((j : Int) : Int) == ((i + 1 : Nat) : Int)) = false := bo
  have eb : (j == i + 1) = false := bo
  have ec : ((j : Int) == (i : Int) + 1) = false := by first | exact ea | (push_cast at ea; exact ea)
  try clear cj
  try clear cb
  try clear c0
  try clear c1
  try clear c2
  try clear hc0
  try clear hc1
  try clear hc2
  try clear hc3
  try clear hc4
  try clear hc5
  try clear hc21
  try clear hc6
  try clear hc8
  try clear hc20
  try clear hc9
  go_upto_region 7 with (fail)
  go_quiet ((go_at_call 63; (with_reducible refine (spec_l06In.calls (f2.size + 1) f2 (bt T (i : Int)) (inS f2 (bt T (i : Int))) _ (l06In_ev _ _ HS.out)).mono ?_); rintro e w' ⟨rfl, ⟨nd_, rfl⟩⟩; exact ⟨rfl, _, World.drewN_drewN _ _ _⟩))
  generalize hwd_ : World.drewN w2 nq = wd_
  have hb_ := (show Below (World.heap w2).size w2 wd_ from hwd_ ▸ pw_below_drewN (Below.refl _ _) nq)
  have hk := (Kept.of_below hb_ (fun _ => False))
  replace HN := nn hk HN
  replace HY := rn hk HY
  replace HG := sn hk HG
  replace HX1 := sn hk HX1
  replace HK := kt HK hk
  replace HB := bs HB hb_
  clear hk hwd_ hb_
  replace jG := HG.out.c3
  replace jX1 := HX1.out.c5
  go_wp2
  go_ret
  exact ⟨_, (by rw [HV1.out, eb]; rfl), ST.out, ⟨HB.out, HG.out, HN.out, HY.out⟩, HK.out⟩
 have k3 : (f0 == 3) = false := beq_eq_false_iff_ne.mpr hc3
 by_cases hc4 : f0 = 4
 ·
  have hc0 := hc4
  have k4 : (f0 == 4) = true := beq_iff_eq.mpr hc0
  have HV1 := am (show den k i j = (i == 0 && j == 0) from HV.out.trans (by subst hc0; rfl))
  by_cases c1 : i = 0
  ·
   have ea : (((i : Int) : Int) == (0 : Int)) = true := beq_iff_eq.mpr (by omega)
   have eb : (i == 0) = true := beq_iff_eq.mpr (by omega)
   by_cases c2 : j = 0
   ·
    have fa : (((j : Int) : Int) == (0 : Int)) = true := beq_iff_eq.mpr (by omega)
    have fb : (j == 0) = true := beq_iff_eq.mpr (by omega)
    try clear cj
    try clear cb
    try clear c0
    try clear c1
    try clear c2
    try clear hc0
    try clear hc1
    try clear hc2
    try clear hc3
    try clear hc4
    try clear hc5
    try clear hc21
    try clear hc6
    try clear hc8
    try clear hc20
    try clear hc9
    go_wp2
    go_ret
    exact ⟨_, (by rw [HV1.out, eb, fb]; rfl), ST.out, ⟨HB.out, HG.out, HN.out, HY.out⟩, HK.out⟩
   have fa : (((j : Int) : Int) == (0 : Int)) = false := bo
   have fb : (j == 0) = false := bo
   try clear cj
   try clear cb
   try clear c0
   try clear c1
   try clear c2
   try clear hc0
   try clear hc1
   try clear hc2
   try clear hc3
   try clear hc4
   try clear hc5
   try clear hc21
   try clear hc6
   try clear hc8
   try clear hc20
   try clear hc9
   go_wp2
   go_ret
   exact ⟨_, (by rw [HV1.out, eb, fb]; rfl), ST.out, ⟨HB.out, HG.out, HN.out, HY.out⟩, HK.out⟩
  have ea : (((i : Int) : Int) == (0 : Int)) = false := bo
  have eb : (i == 0) = false := bo
  try clear cj
  try clear cb
  try clear c0
  try clear c1
  try clear c2
  try clear hc0
  try clear hc1
  try clear hc2
  try clear hc3
  try clear hc4
  try clear hc5
  try clear hc21
  try clear hc6
  try clear hc8
  try clear hc20
  try clear hc9
  go_wp2
  go_ret
  exact ⟨_, (by rw [HV1.out, eb]; rfl), ST.out, ⟨HB.out, HG.out, HN.out, HY.out⟩, HK.out⟩
 have k4 : (f0 == 4) = false := beq_eq_false_iff_ne.mpr hc4
 by_cases hc5 : f0 = 5
 ·
  have hc0 := hc5
  have k5 : (f0 == 5) = true := beq_iff_eq.mpr hc0
  have HV1 := am (show den k i j = (i == T.size && j == i) from HV.out.trans (by subst hc0; rfl))
  by_cases c1 : i = T.size
  ·
   have ea : (((i : Int) : Int) == (T.size : Int)) = true := beq_iff_eq.mpr (by omega)
   have eb : (i == T.size) = true := beq_iff_eq.mpr (by omega)
   by_cases c2 : j = i
   ·
    have fa : (((j : Int) : Int) == (i : Int)) = true := beq_iff_eq.mpr (by omega)
    have fb : (j == i) = true := beq_iff_eq.mpr (by omega)
    try clear cj
    try clear cb
    try clear c0
    try clear c1
    try clear c2
    try clear hc0
    try clear hc1
    try clear hc2
    try clear hc3
    try clear hc4
    try clear hc5
    try clear hc21
    try clear hc6
    try clear hc8
    try clear hc20
    try clear hc9
    go_wp2
    go_ret
    exact ⟨_, (by rw [HV1.out, eb, fb]; rfl), ST.out, ⟨HB.out, HG.out, HN.out, HY.out⟩, HK.out⟩
   have fa : (((j : Int) : Int) == (i : Int)) = false := bo
   have fb : (j == i) = false := bo
   try clear cj
   try clear cb
   try clear c0
   try clear c1
   try clear c2
   try clear hc0
   try clear hc1
   try clear hc2
   try clear hc3
   try clear hc4
   try clear hc5
   try clear hc21
   try clear hc6
   try clear hc8
   try clear hc20
   try clear hc9
   go_wp2
   go_ret
   exact ⟨_, (by rw [HV1.out, eb, fb]; rfl), ST.out, ⟨HB.out, HG.out, HN.out, HY.out⟩, HK.out⟩
  have ea : (((i : Int) : Int) == (T.size : Int)) = false := bo
  have eb : (i == T.size) = false := bo
  try clear cj
  try clear cb
  try clear c0
  try clear c1
  try clear c2
  try clear hc0
  try clear hc1
  try clear hc2
  try clear hc3
  try clear hc4
  try clear hc5
  try clear hc21
  try clear hc6
  try clear hc8
  try clear hc20
  try clear hc9
  go_wp2
  go_ret
  exact ⟨_, (by rw [HV1.out, eb]; rfl), ST.out, ⟨HB.out, HG.out, HN.out, HY.out⟩, HK.out⟩
 have k5 : (f0 == 5) = false := beq_eq_false_iff_ne.mpr hc5
 by_cases hc21 : f0 = 21
 ·
  have hc0 := hc21
  have k21 : (f0 == 21) = true := beq_iff_eq.mpr hc0
  have HV1 := am (show den k i j = (i == j) from HV.out.trans (by subst hc0; rfl))
  by_cases cj : i = j
  ·
   have ea : (((i : Int) : Int) == (j : Int)) = true := beq_iff_eq.mpr (by omega)
   have eb : (i == j) = true := beq_iff_eq.mpr (by omega)
   try clear cj
   try clear cb
   try clear c0
   try clear c1
   try clear c2
   try clear hc0
   try clear hc1
   try clear hc2
   try clear hc3
   try clear hc4
   try clear hc5
   try clear hc21
   try clear hc6
   try clear hc8
   try clear hc20
   try clear hc9
   go_wp2
   go_ret
   exact ⟨_, (by rw [HV1.out, eb]; rfl), ST.out, ⟨HB.out, HG.out, HN.out, HY.out⟩, HK.out⟩
  have ea : (((i : Int) : Int) == (j : Int)) = false := bo
  have eb : (i == j) = false := bo
  try clear cj
  try clear cb
  try clear c0
  try clear c1
  try clear c2
  try clear hc0
  try clear hc1
  try clear hc2
  try clear hc3
  try clear hc4
  try clear hc5
  try clear hc21
  try clear hc6
  try clear hc8
  try clear hc20
  try clear hc9
  go_wp2
  go_ret
  exact ⟨_, (by rw [HV1.out, eb]; rfl), ST.out, ⟨HB.out, HG.out, HN.out, HY.out⟩, HK.out⟩
 have k21 : (f0 == 21) = false := beq_eq_false_iff_ne.mpr hc21
 by_cases hc6 : f0 = 6
 ·
  have hc0 := hc6
  have k6 : (f0 == 6) = true := beq_iff_eq.mpr hc0
  have HV1 := am (show den k i j = den a i j from HV.out.trans (by subst hc0; rfl))
  have IA := am (show ∀ (kn' : List Int) (ws' : World), l06E.At ⟨PG, PN, PK, gG, gK, BN, DN, L, cK, ns, T, den, spf⟩ w ws' kn' → RB den ns.length T.size kn' (mu T.size k i j) → _ from fun kn' ws' h1 h2 => HC.out (mu T.size k i j) a i j kn' ws' (mu_kid (H3.out (by omega)) SZ.out.2.2.1 i j SZ.out.2.2.1) (mu_kid (H3.out (by omega)) SZ.out.2.2.1 i j SZ.out.2.2.1) (Nat.lt_trans (H3.out (by omega)) SZ.out.1) SZ.out.2.1 SZ.out.2.2.1 h1 h2)
  dsimp only at IA
  rw [← HV1.out] at IA
  try clear cj
  try clear cb
  try clear c0
  try clear c1
  try clear c2
  try clear hc0
  try clear hc1
  try clear hc2
  try clear hc3
  try clear hc4
  try clear hc5
  try clear hc21
  try clear hc6
  try clear hc8
  try clear hc20
  try clear hc9
  go_wp2_with (first | ((with_reducible refine gd 88 rfl ?_); refine gl_ (some 88) rfl rfl Try.func37 #[.pointer (some ⟨gG, 0, none⟩), .int .i64 (a : Int), .int .i64 (i : Int), .int .i64 (j : Int)] rfl rfl ?_; (with_reducible refine (IA.out _ _ ⟨HB.out, HG.out, HN.out, HY.out⟩ (St.rb ST.out)).mono ?_); rintro e w2 ⟨kn2, rfl, hst_, ⟨hb_, hg_, hn_, hk_⟩, hkk_⟩; refine ⟨_, rfl, ?_⟩; dsimp only at hst_ hb_ hg_ hn_ hk_ hkk_; replace HX1 := ss hkk_ HX1 (apart_symm D_Y_X1.out); replace HB := am hb_; replace HG := am hg_; replace HN := am hn_; replace HY := am hk_; replace HK := kl HK hkk_; replace ST := am (ST.out.trans hst_); clear hb_ hg_ hn_ hk_ hkk_ hst_; replace jG := HG.out.c3; replace jX1 := HX1.out.c5))
  go_ret
  exact ⟨_, rfl, ST.out, ⟨HB.out, HG.out, HN.out, HY.out⟩, HK.out⟩
 have k6 : (f0 == 6) = false := beq_eq_false_iff_ne.mpr hc6
 by_cases hc8 : f0 = 8
 ·
  have hc0 := hc8
  have k8 : (f0 == 8) = true := beq_iff_eq.mpr hc0
  have HV1 := am (show den k i j = (den a i j || den b i j) from HV.out.trans (by subst hc0; rfl))
  have IA := am (show ∀ (kn' : List Int) (ws' : World), l06E.At ⟨PG, PN, PK, gG, gK, BN, DN, L, cK, ns, T, den, spf⟩ w ws' kn' → RB den ns.length T.size kn' (mu T.size k i j) → _ from fun kn' ws' h1 h2 => HC.out (mu T.size k i j) a i j kn' ws' (mu_kid (H3.out (by omega)) SZ.out.2.2.1 i j SZ.out.2.2.1) (mu_kid (H3.out (by omega)) SZ.out.2.2.1 i j SZ.out.2.2.1) (Nat.lt_trans (H3.out (by omega)) SZ.out.1) SZ.out.2.1 SZ.out.2.2.1 h1 h2)
  dsimp only at IA
  have IB := am (show ∀ (kn' : List Int) (ws' : World), l06E.At ⟨PG, PN, PK, gG, gK, BN, DN, L, cK, ns, T, den, spf⟩ w ws' kn' → RB den ns.length T.size kn' (mu T.size k i j) → _ from fun kn' ws' h1 h2 => HC.out (mu T.size k i j) b i j kn' ws' (mu_kid (H4.out (by omega)) SZ.out.2.2.1 i j SZ.out.2.2.1) (mu_kid (H4.out (by omega)) SZ.out.2.2.1 i j SZ.out.2.2.1) (Nat.lt_trans (H4.out (by omega)) SZ.out.1) SZ.out.2.1 SZ.out.2.2.1 h1 h2)
  dsimp only at IB
  rcases hA : den a i j with _ | _
  ·
   rw [hA] at IA
   try clear cj
   try clear cb
   try clear c0
   try clear c1
   try clear c2
   try clear hc0
   try clear hc1
   try clear hc2
   try clear hc3
   try clear hc4
   try clear hc5
   try clear hc21
   try clear hc6
   try clear hc8
   try clear hc20
   try clear hc9
   go_wp2_with (first | ((with_reducible refine gd 96 rfl ?_); refine gl_ (some 96) rfl rfl Try.func37 #[.pointer (some ⟨gG, 0, none⟩), .int .i64 (a : Int), .int .i64 (i : Int), .int .i64 (j : Int)] rfl rfl ?_; (with_reducible refine (IA.out _ _ ⟨HB.out, HG.out, HN.out, HY.out⟩ (St.rb ST.out)).mono ?_); rintro e w2 ⟨kn2, rfl, hst_, ⟨hb_, hg_, hn_, hk_⟩, hkk_⟩; refine ⟨_, rfl, ?_⟩; dsimp only at hst_ hb_ hg_ hn_ hk_ hkk_; replace HX1 := ss hkk_ HX1 (apart_symm D_Y_X1.out); replace HB := am hb_; replace HG := am hg_; replace HN := am hn_; replace HY := am hk_; replace HK := kl HK hkk_; replace ST := am (ST.out.trans hst_); clear hb_ hg_ hn_ hk_ hkk_ hst_; replace jG := HG.out.c3; replace jX1 := HX1.out.c5) | ((with_reducible refine gd 103 rfl ?_); (refine gate_guard (by rfl) ?_; dsimp only); refine gl_ (some 103) rfl rfl Try.func37 #[.pointer (some ⟨gG, 0, none⟩), .int .i64 (b : Int), .int .i64 (i : Int), .int .i64 (j : Int)] rfl rfl ?_; (with_reducible refine (IB.out _ _ ⟨HB.out, HG.out, HN.out, HY.out⟩ (St.rb ST.out)).mono ?_); rintro e w2 ⟨kn3, rfl, hst_, ⟨hb_, hg_, hn_, hk_⟩, hkk_⟩; refine ⟨_, rfl, ?_⟩; dsimp only at hst_ hb_ hg_ hn_ hk_ hkk_; replace HX1 := ss hkk_ HX1 (apart_symm D_Y_X1.out); replace HB := am hb_; replace HG := am hg_; replace HN := am hn_; replace HY := am hk_; replace HK := kl HK hkk_; replace ST := am (ST.out.trans hst_); clear hb_ hg_ hn_ hk_ hkk_ hst_; replace jG := HG.out.c3; replace jX1 := HX1.out.c5))
   go_ret
   exact ⟨_, (by rw [HV1.out, hA, Bool.false_or]; rfl), ST.out, ⟨HB.out, HG.out, HN.out, HY.out⟩, HK.out⟩
  rw [hA] at IA
  try clear cj
  try clear cb
  try clear c0
  try clear c1
  try clear c2
  try clear hc0
  try clear hc1
  try clear hc2
  try clear hc3
  try clear hc4
  try clear hc5
  try clear hc21
  try clear hc6
  try clear hc8
  try clear hc20
  try clear hc9
  go_wp2_with (first | ((with_reducible refine gd 96 rfl ?_); refine gl_ (some 96) rfl rfl Try.func37 #[.pointer (some ⟨gG, 0, none⟩), .int .i64 (a : Int), .int .i64 (i : Int), .int .i64 (j : Int)] rfl rfl ?_; (with_reducible refine (IA.out _ _ ⟨HB.out, HG.out, HN.out, HY.out⟩ (St.rb ST.out)).mono ?_); rintro e w2 ⟨kn2, rfl, hst_, ⟨hb_, hg_, hn_, hk_⟩, hkk_⟩; refine ⟨_, rfl, ?_⟩; dsimp only at hst_ hb_ hg_ hn_ hk_ hkk_; replace HX1 := ss hkk_ HX1 (apart_symm D_Y_X1.out); replace HB := am hb_; replace HG := am hg_; replace HN := am hn_; replace HY := am hk_; replace HK := kl HK hkk_; replace ST := am (ST.out.trans hst_); clear hb_ hg_ hn_ hk_ hkk_ hst_; replace jG := HG.out.c3; replace jX1 := HX1.out.c5))
  go_ret
  exact ⟨_, (by rw [HV1.out, hA]; rfl), ST.out, ⟨HB.out, HG.out, HN.out, HY.out⟩, HK.out⟩
 have k8 : (f0 == 8) = false := beq_eq_false_iff_ne.mpr hc8
 by_cases hc20 : f0 = 20
 ·
  have hc0 := hc20
  have k20 : (f0 == 20) = true := beq_iff_eq.mpr hc0
  have HV1 := am (show den k i j = (i == j || den a i j) from HV.out.trans (by subst hc0; rfl))
  have IA := am (show ∀ (kn' : List Int) (ws' : World), l06E.At ⟨PG, PN, PK, gG, gK, BN, DN, L, cK, ns, T, den, spf⟩ w ws' kn' → RB den ns.length T.size kn' (mu T.size k i j) → _ from fun kn' ws' h1 h2 => HC.out (mu T.size k i j) a i j kn' ws' (mu_kid (H3.out (by omega)) SZ.out.2.2.1 i j SZ.out.2.2.1) (mu_kid (H3.out (by omega)) SZ.out.2.2.1 i j SZ.out.2.2.1) (Nat.lt_trans (H3.out (by omega)) SZ.out.1) SZ.out.2.1 SZ.out.2.2.1 h1 h2)
  dsimp only at IA
  by_cases cj : i = j
  ·
   have ea : (((i : Int) : Int) == (j : Int)) = true := beq_iff_eq.mpr (by omega)
   have eb : (i == j) = true := beq_iff_eq.mpr (by omega)
   try clear cj
   try clear cb
   try clear c0
   try clear c1
   try clear c2
   try clear hc0
   try clear hc1
   try clear hc2
   try clear hc3
   try clear hc4
   try clear hc5
   try clear hc21
   try clear hc6
   try clear hc8
   try clear hc20
   try clear hc9
   go_wp2
   go_ret
   exact ⟨_, (by rw [HV1.out, eb]; rfl), ST.out, ⟨HB.out, HG.out, HN.out, HY.out⟩, HK.out⟩
  have ea : (((i : Int) : Int) == (j : Int)) = false := bo
  have eb : (i == j) = false := bo
  try clear cj
  try clear cb
  try clear c0
  try clear c1
  try clear c2
  try clear hc0
  try clear hc1
  try clear hc2
  try clear hc3
  try clear hc4
  try clear hc5
  try clear hc21
  try clear hc6
  try clear hc8
  try clear hc20
  try clear hc9
  go_wp2_with (first | ((with_reducible refine gd 116 rfl ?_); (refine gate_guard (by rfl) ?_; dsimp only); refine gl_ (some 116) rfl rfl Try.func37 #[.pointer (some ⟨gG, 0, none⟩), .int .i64 (a : Int), .int .i64 (i : Int), .int .i64 (j : Int)] rfl rfl ?_; (with_reducible refine (IA.out _ _ ⟨HB.out, HG.out, HN.out, HY.out⟩ (St.rb ST.out)).mono ?_); rintro e w2 ⟨kn2, rfl, hst_, ⟨hb_, hg_, hn_, hk_⟩, hkk_⟩; refine ⟨_, rfl, ?_⟩; dsimp only at hst_ hb_ hg_ hn_ hk_ hkk_; replace HX1 := ss hkk_ HX1 (apart_symm D_Y_X1.out); replace HB := am hb_; replace HG := am hg_; replace HN := am hn_; replace HY := am hk_; replace HK := kl HK hkk_; replace ST := am (ST.out.trans hst_); clear hb_ hg_ hn_ hk_ hkk_ hst_; replace jG := HG.out.c3; replace jX1 := HX1.out.c5))
  go_ret
  exact ⟨_, (by rw [HV1.out, eb, Bool.false_or]; rfl), ST.out, ⟨HB.out, HG.out, HN.out, HY.out⟩, HK.out⟩
 have k20 : (f0 == 20) = false := beq_eq_false_iff_ne.mpr hc20
 by_cases hc9 : f0 = 9
 ·
  have hc0 := hc9
  have k9 : (f0 == 9) = true := beq_iff_eq.mpr hc0
  have HV1 := am (show den k i j = (i == j || decide (0 ≤ spl (den a) (den k) (i + 1) i j)) from HV.out.trans (ndMat_star hc0 HDN.out i j))
  by_cases cj : i = j
  ·
   have ea : (((i : Int) : Int) == (j : Int)) = true := beq_iff_eq.mpr (by omega)
   have eb : (i == j) = true := beq_iff_eq.mpr (by omega)
   try clear cj
   try clear cb
   try clear c0
   try clear c1
   try clear c2
   try clear hc0
   try clear hc1
   try clear hc2
   try clear hc3
   try clear hc4
   try clear hc5
   try clear hc21
   try clear hc6
   try clear hc8
   try clear hc20
   try clear hc9
   go_wp2
   go_ret
   exact ⟨_, (by rw [HV1.out, eb]; rfl), ST.out, ⟨HB.out, HG.out, HN.out, HY.out⟩, HK.out⟩
  have ea : (((i : Int) : Int) == (j : Int)) = false := bo
  have eb : (i == j) = false := bo
  have IS := am (show ∀ (kn' : List Int) (ws' : World), l06E.At ⟨PG, PN, PK, gG, gK, BN, DN, L, cK, ns, T, den, spf⟩ w ws' kn' → RB den ns.length T.size kn' (mu T.size k i j) → _ from fun kn' ws' h1 h2 => spec_split ⟨PG, PN, PK, gG, gK, BN, DN, L, cK, ns, T, den, spf⟩ w (mu T.size k i j) HC.out a k i j (i + 1) (Nat.lt_trans (H3.out (by omega)) SZ.out.1) SZ.out.1 (by omega) SZ.out.2.1 SZ.out.2.2.1 (by have := SZ.out; omega) SZ.out.2.2.2 (fun q h1 h2 => ⟨mu_kid (H3.out (by omega)) SZ.out.2.2.1 i q (Nat.le_trans h2 SZ.out.2.2.1), mu_rest h1 h2⟩) kn' ws' h1 h2)
  dsimp only at IS
  obtain ⟨sv, hsv⟩ : ∃ v_, v_ = spl (den a) (den k) (i + 1) i j := ⟨_, rfl⟩
  rw [← hsv] at IS HV1
  clear hsv
  by_cases c0 : 0 ≤ sv
  ·
   have cs := decide_eq_true c0
   try clear cj
   try clear cb
   try clear c0
   try clear c1
   try clear c2
   try clear hc0
   try clear hc1
   try clear hc2
   try clear hc3
   try clear hc4
   try clear hc5
   try clear hc21
   try clear hc6
   try clear hc8
   try clear hc20
   try clear hc9
   go_wp2_with (first | ((with_reducible refine gd 132 rfl ?_); (refine gate_guard (by rfl) ?_; dsimp only); refine gl_ (some 132) rfl rfl Try.func58 #[.pointer (some ⟨gG, 0, none⟩), .int .i64 (a : Int), .int .i64 (k : Int), .int .i64 (i : Int), .int .i64 (j : Int), .int .i64 ((i + 1 : Nat) : Int)] rfl rfl ?_; (with_reducible refine (IS.out _ _ ⟨HB.out, HG.out, HN.out, HY.out⟩ (St.rb ST.out)).mono ?_); rintro e w2 ⟨kn2, rfl, hst_, ⟨hb_, hg_, hn_, hk_⟩, hkk_⟩; refine ⟨_, rfl, ?_⟩; dsimp only at hst_ hb_ hg_ hn_ hk_ hkk_; replace HX1 := ss hkk_ HX1 (apart_symm D_Y_X1.out); replace HB := am hb_; replace HG := am hg_; replace HN := am hn_; replace HY := am hk_; replace HK := kl HK hkk_; replace ST := am (ST.out.trans hst_); clear hb_ hg_ hn_ hk_ hkk_ hst_; replace jG := HG.out.c3; replace jX1 := HX1.out.c5))
   go_ret
   exact ⟨_, (by rw [HV1.out, eb, cs]; rfl), ST.out, ⟨HB.out, HG.out, HN.out, HY.out⟩, HK.out⟩
  have cs := decide_eq_false c0
  try clear cj
  try clear cb
  try clear c0
  try clear c1
  try clear c2
  try clear hc0
  try clear hc1
  try clear hc2
  try clear hc3
  try clear hc4
  try clear hc5
  try clear hc21
  try clear hc6
  try clear hc8
  try clear hc20
  try clear hc9
  go_wp2_with (first | ((with_reducible refine gd 132 rfl ?_); (refine gate_guard (by rfl) ?_; dsimp only); refine gl_ (some 132) rfl rfl Try.func58 #[.pointer (some ⟨gG, 0, none⟩), .int .i64 (a : Int), .int .i64 (k : Int), .int .i64 (i : Int), .int .i64 (j : Int), .int .i64 ((i + 1 : Nat) : Int)] rfl rfl ?_; (with_reducible refine (IS.out _ _ ⟨HB.out, HG.out, HN.out, HY.out⟩ (St.rb ST.out)).mono ?_); rintro e w2 ⟨kn2, rfl, hst_, ⟨hb_, hg_, hn_, hk_⟩, hkk_⟩; refine ⟨_, rfl, ?_⟩; dsimp only at hst_ hb_ hg_ hn_ hk_ hkk_; replace HX1 := ss hkk_ HX1 (apart_symm D_Y_X1.out); replace HB := am hb_; replace HG := am hg_; replace HN := am hn_; replace HY := am hk_; replace HK := kl HK hkk_; replace ST := am (ST.out.trans hst_); clear hb_ hg_ hn_ hk_ hkk_ hst_; replace jG := HG.out.c3; replace jX1 := HX1.out.c5))
  go_ret
  exact ⟨_, (by rw [HV1.out, eb, cs]; rfl), ST.out, ⟨HB.out, HG.out, HN.out, HY.out⟩, HK.out⟩
 have k9 : (f0 == 9) = false := beq_eq_false_iff_ne.mpr hc9
 have hc0 : f0 = 7 := by have := HKD.out; omega
 have HV1 := am (show den k i j = decide (0 ≤ spl (den a) (den b) i i j) from HV.out.trans (ndMat_cat den hc0 i j))
 have IS := am (show ∀ (kn' : List Int) (ws' : World), l06E.At ⟨PG, PN, PK, gG, gK, BN, DN, L, cK, ns, T, den, spf⟩ w ws' kn' → RB den ns.length T.size kn' (mu T.size k i j) → _ from fun kn' ws' h1 h2 => spec_split ⟨PG, PN, PK, gG, gK, BN, DN, L, cK, ns, T, den, spf⟩ w (mu T.size k i j) HC.out a b i j i (Nat.lt_trans (H3.out (by omega)) SZ.out.1) (Nat.lt_trans (H4.out (by omega)) SZ.out.1) (by omega) SZ.out.2.1 SZ.out.2.2.1 (by have := SZ.out; omega) SZ.out.2.2.2 (fun q h1 h2 => ⟨mu_kid (H3.out (by omega)) SZ.out.2.2.1 i q (Nat.le_trans h2 SZ.out.2.2.1), mu_kid (H4.out (by omega)) SZ.out.2.2.1 q j SZ.out.2.2.1⟩) kn' ws' h1 h2)
 dsimp only at IS
 obtain ⟨sv, hsv⟩ : ∃ v_, v_ = spl (den a) (den b) i i j := ⟨_, rfl⟩
 rw [← hsv] at IS HV1
 clear hsv
 by_cases c0 : 0 ≤ sv
 ·
  have cs := decide_eq_true c0
  try clear cj
  try clear cb
  try clear c0
  try clear c1
  try clear c2
  try clear hc0
  try clear hc1
  try clear hc2
  try clear hc3
  try clear hc4
  try clear hc5
  try clear hc21
  try clear hc6
  try clear hc8
  try clear hc20
  try clear hc9
  go_wp2_with (first | ((with_reducible refine gd 143 rfl ?_); refine gl_ (some 143) rfl rfl Try.func58 #[.pointer (some ⟨gG, 0, none⟩), .int .i64 (a : Int), .int .i64 (b : Int), .int .i64 (i : Int), .int .i64 (j : Int), .int .i64 (i : Int)] rfl rfl ?_; (with_reducible refine (IS.out _ _ ⟨HB.out, HG.out, HN.out, HY.out⟩ (St.rb ST.out)).mono ?_); rintro e w2 ⟨kn2, rfl, hst_, ⟨hb_, hg_, hn_, hk_⟩, hkk_⟩; refine ⟨_, rfl, ?_⟩; dsimp only at hst_ hb_ hg_ hn_ hk_ hkk_; replace HX1 := ss hkk_ HX1 (apart_symm D_Y_X1.out); replace HB := am hb_; replace HG := am hg_; replace HN := am hn_; replace HY := am hk_; replace HK := kl HK hkk_; replace ST := am (ST.out.trans hst_); clear hb_ hg_ hn_ hk_ hkk_ hst_; replace jG := HG.out.c3; replace jX1 := HX1.out.c5))
  go_ret
  exact ⟨_, (by rw [HV1.out, cs]; rfl), ST.out, ⟨HB.out, HG.out, HN.out, HY.out⟩, HK.out⟩
 have cs := decide_eq_false c0
 try clear cj
 try clear cb
 try clear c0
 try clear c1
 try clear c2
 try clear hc0
 try clear hc1
 try clear hc2
 try clear hc3
 try clear hc4
 try clear hc5
 try clear hc21
 try clear hc6
 try clear hc8
 try clear hc20
 try clear hc9
 go_wp2_with (first | ((with_reducible refine gd 143 rfl ?_); refine gl_ (some 143) rfl rfl Try.func58 #[.pointer (some ⟨gG, 0, none⟩), .int .i64 (a : Int), .int .i64 (b : Int), .int .i64 (i : Int), .int .i64 (j : Int), .int .i64 (i : Int)] rfl rfl ?_; (with_reducible refine (IS.out _ _ ⟨HB.out, HG.out, HN.out, HY.out⟩ (St.rb ST.out)).mono ?_); rintro e w2 ⟨kn2, rfl, hst_, ⟨hb_, hg_, hn_, hk_⟩, hkk_⟩; refine ⟨_, rfl, ?_⟩; dsimp only at hst_ hb_ hg_ hn_ hk_ hkk_; replace HX1 := ss hkk_ HX1 (apart_symm D_Y_X1.out); replace HB := am hb_; replace HG := am hg_; replace HN := am hn_; replace HY := am hk_; replace HK := kl HK hkk_; replace ST := am (ST.out.trans hst_); clear hb_ hg_ hn_ hk_ hkk_ hst_; replace jG := HG.out.c3; replace jX1 := HX1.out.c5))
 go_ret
 exact ⟨_, (by rw [HV1.out, cs]; rfl), ST.out, ⟨HB.out, HG.out, HN.out, HY.out⟩, HK.out⟩
end
section
open Go.Proofs.Ytlpabbcgichaoaa.Lawful
theorem spec_can (E : l06E) (w : World) (hok : E.Ok) (k i j : Nat) (hk : k < E.ns.length) (hij : i ≤ j) (hj : j ≤ E.T.size) (hC : E.Can w (mu E.T.size k i j)) (kn : List Int) (ws : World) (hAt : E.At w ws kn) (hR : RB E.den E.ns.length E.T.size kn (mu E.T.size k i j + 1)) :
  Calls Try.prog 37 #[.pointer (some ⟨E.gG, 0, none⟩), .int .i64 (k : Int), .int .i64 (i : Int), .int .i64 (j : Int)] ws (E.Post w ws kn (mu E.T.size k i j + 1) (.bool (E.den k i j))) := by
 have hF := spec_find E w hok k i j hk hij hj hC
 obtain ⟨PG, PN, PK, gG, gK, BN, DN, L, cK, ns, T, den, spf⟩ := E
 have hu := Try.underlying82
 have hu2 := Try.underlying85
 obtain ⟨hb_, hg_, hn_, hk_⟩ := hAt
 dsimp only at hb_ hg_ hn_ hk_
 have HB := am hb_
 have HG := am hg_
 have HN := am hn_
 have HY := am hk_
 have HK := am (Kept.refl ws PK)
 clear hb_ hg_ hn_ hk_
 obtain ⟨hgood, hbig, hset, hdG, hdN, hT⟩ := hok
 dsimp only at hgood hbig hset hdG hdN hT hk hj hR hC hF ⊢
 have D_G_Y := am hdG
 have D_N_Y := am hdN
 have HR := am hR
 have SZ := am (show k < ns.length ∧ i ≤ j ∧ j ≤ T.size from ⟨hk, hij, hj⟩)
 have HL := am (show L = ns.length * (T.size + 1) * (T.size + 1) from (LR.len HY.out).trans hR.1)
 have HLT := ix_lt (N := ns.length) hk (Nat.le_trans hij hj) hj
 have HRT := hR.2 k i j hk hij hj (Nat.lt_succ_self _)
 obtain ⟨W1, hW⟩ : ∃ W_, W_ = T.size + 1 := ⟨_, rfl⟩
 obtain ⟨p1, hp1⟩ : ∃ p_, p_ = k * W1 := ⟨_, rfl⟩
 obtain ⟨q1, hq1⟩ : ∃ p_, p_ = p1 + i := ⟨_, rfl⟩
 obtain ⟨s1, hs1⟩ : ∃ p_, p_ = q1 * W1 := ⟨_, rfl⟩
 obtain ⟨at1, hat⟩ : ∃ p_, p_ = s1 + j := ⟨_, rfl⟩
 have hix : ix T.size k i j = at1 := by rw [hat, hs1, hq1, hp1, hW]; rfl
 have hsb : q1 ≤ s1 := by rw [hs1]; exact Nat.le_mul_of_pos_right _ (by rw [hW]; exact Nat.succ_pos _)
 have hb1 : at1 < 4611686018427387904 := by rw [← hix]; exact Nat.lt_trans HLT hbig
 have hbq : s1 ≤ at1 := by rw [hat]; exact Nat.le_add_right _ _
 have hbp : p1 ≤ q1 := by rw [hq1]; exact Nat.le_add_right _ _
 have hb2 : p1 < 9223372036854775808 := Nat.lt_trans (Nat.lt_of_le_of_lt (Nat.le_trans hbp (Nat.le_trans hsb hbq)) hb1) (by decide)
 have hb3 : q1 < 9223372036854775808 := Nat.lt_trans (Nat.lt_of_le_of_lt (Nat.le_trans hsb hbq) hb1) (by decide)
 have hb4 : s1 < 9223372036854775808 := Nat.lt_trans (Nat.lt_of_le_of_lt hbq hb1) (by decide)
 have hb5 : at1 < 9223372036854775808 := Nat.lt_trans hb1 (by decide)
 have hbw : W1 < 9223372036854775808 := by rw [hW]; omega
 have e1 : wrap64 ((T.size : Int) + 1) = (W1 : Int) := wrap_nat (by rw [hW]; rfl) hbw
 have e2 : wrap64 ((k : Int) * (W1 : Int)) = (p1 : Int) := wrap_nat (by rw [hp1]; exact (Int.natCast_mul _ _).symm) hb2
 have e3 : wrap64 ((p1 : Int) + (i : Int)) = (q1 : Int) := wrap_nat (by rw [hq1]; rfl) hb3
 have e4 : wrap64 ((q1 : Int) * (W1 : Int)) = (s1 : Int) := wrap_nat (by rw [hs1]; exact (Int.natCast_mul _ _).symm) hb4
 have e5 : wrap64 ((s1 : Int) + (j : Int)) = (at1 : Int) := wrap_nat (by rw [hat]; rfl) hb5
 have e1k : IntKind.i64.wrap ((T.size : Int) + 1) = (W1 : Int) := (i64_w _).trans e1
 have e2k : IntKind.i64.wrap ((k : Int) * (W1 : Int)) = (p1 : Int) := (i64_w _).trans e2
 have e3k : IntKind.i64.wrap ((p1 : Int) + (i : Int)) = (q1 : Int) := (i64_w _).trans e3
 have e4k : IntKind.i64.wrap ((q1 : Int) * (W1 : Int)) = (s1 : Int) := (i64_w _).trans e4
 have e5k : IntKind.i64.wrap ((s1 : Int) + (j : Int)) = (at1 : Int) := (i64_w _).trans e5
 have hlt : at1 < L := by rw [HL.out, ← hix]; exact HLT
 have HI := am hlt
 have HX := am hix
 have pa := zn at1
 have qa := il hlt
 have pk := zn k
 have qk := il hk
 have hent : kn.getD at1 0 = ent kn T.size k i j := by rw [← hix]; rfl
 obtain ⟨hy0, hy1⟩ := l06_at HY.out at1 hlt
 obtain ⟨x, hxk⟩ : ∃ x, ns[k]? = some x := ⟨_, List.getElem?_eq_getElem hk⟩
 obtain ⟨f0, f1, f2, f3, f4⟩ := x
 have HF := am (fun kn' ws' h1 h2 => hF f0 f1 f2 f3 f4 hxk kn' ws' h1 h2)
 have HRD := am (show rd_T85 ns (k : Int) = ⟨f0, f1, f2, f3, f4⟩ by unfold rd_T85; rw [Int.toNat_natCast, List.getD_eq_getElem?_getD, hxk]; rfl)
 try dsimp only at HF
 clear hgood hbig hset hdG hdN hT hC hF hR hk hij hj hW hp1 hq1 hs1 hat hix hsb hlt HLT hxk hb1 hb2 hb3 hb4 hb5 hbq hbp hbw
 replace jG := HG.out.c3
 go_enter Try.func37, Try.ntmps37
 rcases HRT with h0 | ⟨h1, hd⟩ | ⟨h1, hd⟩
 ·
  rw [hent, h0] at hy0
  clear hent h0
  have SK := am (show (0 : Int) ≤ (k : Int) ∧ (k : Int) < (ns.length : Int) from ⟨Int.natCast_nonneg _, Int.ofNat_lt.2 SZ.out.1⟩)
  obtain ⟨ad, ea, _⟩ := at_T85 HN.out.reads (k : Int) SK.out.1 SK.out.2
  subst ea
  have ST := am (St.refl ((HR.out).note SZ.out.1 SZ.out.2.1 SZ.out.2.2))
  rw [HX.out] at ST
  have HF1 := am (show ∀ (kn' : List Int) (ws' : World), l06E.At ⟨PG, PN, PK, gG, gK, some ad, DN, L, cK, ns, T, den, spf⟩ w ws' kn' → RB den ns.length T.size kn' (mu T.size k i j) → _ from fun kn' ws' h1 h2 => HF.out kn' ws' h1 h2)
  try dsimp only at HF1
  clear HF
  have e1E : ∀ kn2 : List Int, St den ns.length T.size (kn.set at1 1) kn2 (mu T.size k i j) → kn2.getD at1 0 = 1 := fun kn2 h => by have := St.asked HR.out SZ.out.1 SZ.out.2.1 SZ.out.2.2 (by rw [HX.out]; exact h); unfold ent at this; rw [HX.out] at this; exact this
  have e2E : ∀ kn2 : List Int, St den ns.length T.size (kn.set at1 1) kn2 (mu T.size k i j) → (kn2.set at1 2).getD at1 0 = 2 := fun kn2 h => by have := ent_two (h.1.1) SZ.out.1 (Nat.le_trans SZ.out.2.1 SZ.out.2.2) SZ.out.2.2; unfold ent at this; rw [HX.out] at this; exact this
  have E1 := am e1E
  have E2 := am e2E
  clear e1E e2E
  rcases hD : den k i j with _ | _
  ·
   rw [hD] at HF1
   go_wp2_with (first | ((with_reducible refine gate_store (t := 5) (p := 39) rfl ?_); refine l06_put1 HY.out HB.out at1 HI.out 1 rfl (t := 5) (p := 39) rfl rfl ?hr_1 ?_; (case hr_1 => first | (go_simp; done) | (go_simp; simp only [World.setCells, Nat.reduceAdd, Nat.zero_add]; done)); intro w2 hx hk hb; replace HG := ss hk HG D_G_Y.out; replace HN := ns_ hk HN D_N_Y.out; replace HK := kl HK hk; replace HB := am hb; replace HY := am hx; clear hk hx hb hy0 hy1; obtain ⟨_, ea, ha0, ha1, ha2, ha3, ha4⟩ := at_T85 HN.out.reads (k : Int) SK.out.1 SK.out.2; cases ea; simp only [HRD.out, Int.toNat_natCast] at ha0 ha1 ha2 ha3 ha4; replace jG := HG.out.c3) | ((with_reducible refine gd 51 rfl ?_); refine gl_ (some 51) rfl rfl Try.func49 #[.pointer (some ⟨gG, 0, none⟩), .agg #[.int .i64 f0, .int .i64 f1, .string f2, .int .i64 f3, .int .i64 f4], .int .i64 (k : Int), .int .i64 (i : Int), .int .i64 (j : Int)] rfl rfl ?_; (with_reducible refine (HF1.out _ _ ⟨HB.out, HG.out, HN.out, HY.out⟩ (St.rb ST.out)).mono ?_); rintro e w2 ⟨kn2, rfl, hst_, ⟨hb_, hg_, hn_, hk_⟩, hkk_⟩; refine ⟨_, rfl, ?_⟩; dsimp only at hst_ hb_ hg_ hn_ hk_ hkk_; replace HB := am hb_; replace HG := am hg_; replace HN := am hn_; replace HY := am hk_; replace HK := kl HK hkk_; replace ST := am (ST.out.trans hst_); clear hb_ hg_ hn_ hk_ hkk_ hst_; replace jG := HG.out.c3; clear ha0 ha1 ha2 ha3 ha4; obtain ⟨hy0, hy1⟩ := l06_at HY.out at1 HI.out; rw [E1.out _ ST.out] at hy0))
   go_ret
   exact ⟨_, rfl, St.no HR.out SZ.out.1 SZ.out.2.1 SZ.out.2.2 (by rw [HX.out]; exact ST.out) hD, ⟨HB.out, HG.out, HN.out, HY.out⟩, HK.out⟩
  rw [hD] at HF1
  go_wp2_with (first | ((with_reducible refine gate_store (t := 5) (p := 39) rfl ?_); refine l06_put1 HY.out HB.out at1 HI.out 1 rfl (t := 5) (p := 39) rfl rfl ?hr_1 ?_; (case hr_1 => first | (go_simp; done) | (go_simp; simp only [World.setCells, Nat.reduceAdd, Nat.zero_add]; done)); intro w2 hx hk hb; replace HG := ss hk HG D_G_Y.out; replace HN := ns_ hk HN D_N_Y.out; replace HK := kl HK hk; replace HB := am hb; replace HY := am hx; clear hk hx hb hy0 hy1; obtain ⟨_, ea, ha0, ha1, ha2, ha3, ha4⟩ := at_T85 HN.out.reads (k : Int) SK.out.1 SK.out.2; cases ea; simp only [HRD.out, Int.toNat_natCast] at ha0 ha1 ha2 ha3 ha4; replace jG := HG.out.c3) | ((with_reducible refine gd 51 rfl ?_); refine gl_ (some 51) rfl rfl Try.func49 #[.pointer (some ⟨gG, 0, none⟩), .agg #[.int .i64 f0, .int .i64 f1, .string f2, .int .i64 f3, .int .i64 f4], .int .i64 (k : Int), .int .i64 (i : Int), .int .i64 (j : Int)] rfl rfl ?_; (with_reducible refine (HF1.out _ _ ⟨HB.out, HG.out, HN.out, HY.out⟩ (St.rb ST.out)).mono ?_); rintro e w2 ⟨kn2, rfl, hst_, ⟨hb_, hg_, hn_, hk_⟩, hkk_⟩; refine ⟨_, rfl, ?_⟩; dsimp only at hst_ hb_ hg_ hn_ hk_ hkk_; replace HB := am hb_; replace HG := am hg_; replace HN := am hn_; replace HY := am hk_; replace HK := kl HK hkk_; replace ST := am (ST.out.trans hst_); clear hb_ hg_ hn_ hk_ hkk_ hst_; replace jG := HG.out.c3; clear ha0 ha1 ha2 ha3 ha4; obtain ⟨hy0, hy1⟩ := l06_at HY.out at1 HI.out) | ((with_reducible refine gate_store (t := 5) (p := 57) rfl ?_); refine l06_put1 HY.out HB.out at1 HI.out 2 rfl (t := 5) (p := 57) rfl rfl ?hr_2 ?_; (case hr_2 => first | (go_simp; done) | (go_simp; simp only [World.setCells, Nat.reduceAdd, Nat.zero_add]; done)); intro w2 hx hk hb; replace HG := ss hk HG D_G_Y.out; replace HN := ns_ hk HN D_N_Y.out; replace HK := kl HK hk; replace HB := am hb; replace HY := am hx; clear hk hx hb hy0 hy1; obtain ⟨hy0, hy1⟩ := l06_at HY.out at1 HI.out; rw [E2.out _ ST.out] at hy0; replace jG := HG.out.c3))
  go_ret
  exact ⟨_, rfl, by have h_ := St.yes HR.out SZ.out.1 SZ.out.2.1 SZ.out.2.2 (by rw [HX.out]; exact ST.out) hD; rw [HX.out] at h_; exact h_, ⟨HB.out, HG.out, HN.out, HY.out⟩, HK.out⟩
 ·
  rw [hent, h1] at hy0
  clear hent h1
  go_wp2
  go_ret
  exact ⟨_, (by rw [hd]; rfl), St.refl HR.out, ⟨HB.out, HG.out, HN.out, HY.out⟩, HK.out⟩
 rw [hent, h1] at hy0
 clear hent h1
 go_wp2
 go_ret
 exact ⟨_, (by rw [hd]; rfl), St.refl HR.out, ⟨HB.out, HG.out, HN.out, HY.out⟩, HK.out⟩
theorem spec_any (E : l06E) (w : World) (hok : E.Ok) : ∀ m, E.Can w m := by
 intro m
 induction m with
 | zero => intro M k i j kn ws h; omega
 | succ m ih =>
  intro M k i j kn ws h hM hk hij hj hAt hR
  have hC : E.Can w (mu E.T.size k i j) := fun M' k' i' j' kn' ws' h' => ih M' k' i' j' kn' ws' (by omega)
  refine (spec_can E w hok k i j hk hij hj hC kn ws hAt (hR.down (by omega))).mono ?_
  rintro e w' ⟨kn', rfl, hst, hat, hkk⟩
  exact ⟨kn', rfl, hst.up hR (by omega), hat, hkk⟩
end
end Go.Proofs.Ytlpabbcgichaoaa.PFnExactFind
end
