/- The program's matcher: from. -/
import Derived.Test.YtlpabbcgichaoaaImPFnExactFind
import Derived.Test.YtlpabbcgichaoaaMatFnExactFind
import Derived.Test.YtlpabbcgichaoaaWWords
namespace Go.Proofs.Ytlpabbcgichaoaa.PFnExactFind
open Go.RowKit Go.Proofs.Ytlpabbcgichaoaa.Lawful Go.Proofs.YtlpabbcgichaoaaW.PrintWords Go.Proofs.YtlpabbcgichaoaaW.PrintLast Go.Proofs.YtlpabbcgichaoaaW.PrintMore
attribute [local go_sem] max2_int min2_int max_two min_two max_three min_three max_four min_four
set_option maxHeartbeats 16000000
set_option maxRecDepth 100000
set_option linter.unusedVariables false
set_option linter.unusedSimpArgs false
theorem rmF0 {p : Prop} (h : p := by exact ⟨_, HB, HG, HN, HE, HX1, HX2, HX3, HQ, HO, HXO, HXN, ⟨D_G_E.out⟩, ⟨D_N_E.out⟩, ⟨(apart_symm D_E_X1.out)⟩, ⟨(apart_symm D_E_X2.out)⟩, ⟨(apart_symm D_E_X3.out)⟩, ⟨D_Q_E.out⟩, ⟨(apart_symm D_E_O.out)⟩, ⟨(apart_symm D_E_XO.out)⟩, ⟨(apart_symm D_E_XN.out)⟩, HK, HM1, HM2⟩) : p := h
section
open Go.Proofs.Ytlpabbcgichaoaa.Lawful
section
variable {P : Program} {ops : Array Oper} {Q : Exit → Act → World → Prop} {rest : List Oper} {oi : Oper} {a : Act} {w : World} {Kc : Act → World → Prop}
theorem imV_ (N : Option Tmp) (hd : oi.dst = N) (hg : oi.guard = none) {f : FuncId} {fn : Func} {p : Operand} {cap : Array Value} {ags : Array Operand} {ts : Array TypeId} (hf : P.funcs[f]? = some fn) (hname : (fn.name == "runtime.NumGoroutine") = false) (hb : fn.body.isSome = true) (args : Array Value)
  (hop : oi.op = .call { callee := .value p, args := ags, argTypes := ts }) (hp : a.eval p = .func (.func f) #[] cap) (hargs : ags.toList.map a.eval ++ cap.toList = args.toList)
  (h : Calls P f args w fun e w' => ∃ v, e = .returned v ∧ wpList P ops Q rest (a.put N v) w') : wpList P ops Q (oi :: rest) a w := by
 refine wpList_plain hg fun K hK => ?_
 have he := enters_ hf hname hb args w
 have hargs : ags.map a.eval ++ cap = args := Array.toList_inj.mp (by simpa using hargs)
 have hrun : (execOp a.eval oi).run P w = .ok (.enter f args) w := by
  unfold execOp
  simp [hop, resolve, Deferred.ofValue, invoke, hp, hargs, he]
 unfold Oper.wp
 rw [hrun, Oper.upon_enter]
 refine h.mono fun e w'' hh => ?_
 obtain ⟨v, rfl, hk⟩ := hh
 subst hd
 exact hK _ _ hk
theorem imVr_ {N : Option Tmp} {f : FuncId} {fn : Func} {p : Operand} {cap : Array Value} {ags : Array Operand} {ts : Array TypeId} (hf : P.funcs[f]? = some fn) (hname : (fn.name == "runtime.NumGoroutine") = false) (hb : fn.body.isSome = true) (args : Array Value)
  (hw : Region.wanted oi (yielded ops a.tmps) = true) (hN : oi.dst = N) (hop : oi.op = .call { callee := .value p, args := ags, argTypes := ts }) (hp : a.eval p = .func (.func f) #[] cap) (hargs : ags.toList.map a.eval ++ cap.toList = args.toList)
  (h : Calls P f args w fun e w' => ∃ v, e = .returned v ∧ Kc (a.put N v) w') : if Region.wanted oi (yielded ops a.tmps) = true then Oper.wp P oi a w Kc Q else Kc (a.put N undef) w := by
 refine call_ f args hw hN ?_ h
 have he := enters_ hf hname hb args w
 have hargs : ags.map a.eval ++ cap = args := Array.toList_inj.mp (by simpa using hargs)
 unfold execOp
 simp [hop, resolve, Deferred.ofValue, invoke, hp, hargs, he]
theorem ip_apn {P1 P2 : Nat → Prop} {n : Nat} (h : ∀ k, P1 k → k < n) (h2 : ∀ k, P2 k → n ≤ k) : ∀ k, P1 k → ¬ P2 k := fun k a b => absurd (h k a) (by have := h2 k b; omega)
theorem cellK {W W' : World} {ad : Addr} {v : Value} (hk : Kept W W' (fun _ => False)) (h : W.cell? ad = some v) : W'.cell? ad = some v := by
 have hlt := World.block_lt_of_cell? W _ h
 have := hk.2 ad.block hlt (fun h => h)
 unfold World.cell? at h ⊢
 rw [this]
 exact h
theorem cellN {W W' : World} {S : Nat → Prop} {ad : Addr} {v : Value} (hk : Kept W W' S) (hS : ¬ S ad.block) (h : W.cell? ad = some v) : W'.cell? ad = some v := by
 have hlt := World.block_lt_of_cell? W _ h
 have := hk.2 ad.block hlt hS
 unfold World.cell? at h ⊢
 rw [this]
 exact h
theorem im_cellI {base : Nat} {P : Nat → Prop} {ad : Addr} {n c : Nat} {l : List Int} (H : LN (Kd.int .i64) 3 w base P (.slice (some ad) n c) l) (j : Nat) (hj : j < n) {v : Int} (hv : l[j]? = some v) : w.cell? (ad.add j) = some (.int .i64 v) := by
 obtain ⟨ad', e, h⟩ := im_atI H j hj hv
 cases e
 exact h
theorem im_NB {base : Nat} {P : Nat → Prop} {A : Option Addr} {n c : Nat} {xs : List (S31 × List Int)} (H : LN kNA 76 w base P (.slice A n c) xs) (i : Nat) (hp : i < xs.length) : ∃ ad, A = some ad ∧ P ad.block := by
 have hn := (Kd.V_at H.1).1
 obtain ⟨ad, c, e, _, _, _, hb⟩ := Kd.F_get (Kd.V_F H.1) ((z31, []) : S31 × List Int) (i : Int) (by omega) (by omega)
 exact ⟨ad, e, hb (by decide)⟩
end
def impl_from.T2 : Bool × List (List Nat × List Nat) := (true, [([], []), ([0], [0]), ([1], [1]), ([2], [2]), ([], []), ([3, 4], [3, 4]), ([5], [5]), ([6], [6]), ([6], [6]), ([7, 0, 1, 2, 3, 4, 5, 6, 7], [7]), ([8, 9, 0, 1, 2, 3, 4, 5, 6, 7, 8, 9], [8])])
def impl_from.B2 : List Nat := [0, 1, 3, 7, 0, 31, 63, 127, 127, 255, 1023]
theorem impl_from.tab2 : rtab .any (opsOf Try.f38 2) = impl_from.T2 := by kernel_rfl
theorem impl_from.bits2 : waitsOk impl_from.T2.2 impl_from.B2 = true := by kernel_rfl
def impl_from.T5 : Bool × List (List Nat × List Nat) := (true, [([], []), ([0], [0]), ([], []), ([2], [2]), ([3], [3]), ([4], [4]), ([], []), ([5, 6], [5, 6]), ([7], [7]), ([], []), ([], []), ([9, 1, 1, 0, 1, 9, 10], [1, 9]), ([10, 8, 11, 0, 1, 2, 3, 4, 5, 6, 7, 8, 9, 10, 11], [8, 10])])
def impl_from.B5 : List Nat := [0, 1, 0, 4, 12, 28, 0, 124, 252, 0, 0, 1539, 4095]
theorem impl_from.tab5 : rtab .any (opsOf Try.f38 5) = impl_from.T5 := by kernel_rfl
theorem impl_from.bits5 : waitsOk impl_from.T5.2 impl_from.B5 = true := by kernel_rfl
def impl_from.T9 : Bool × List (List Nat × List Nat) := (true, [([], []), ([], []), ([], []), ([2], [2]), ([3], [3]), ([4], [4]), ([5], [5]), ([1, 6], [1, 6]), ([7], [7]), ([8], [8]), ([9, 8], [8, 9]), ([10, 8], [8, 10]), ([11, 8], [8, 11]), ([8], [8]), ([12, 13, 8], [8, 12, 13]), ([14, 8], [8, 14]), ([8], [8]), ([16, 8], [8, 16]), ([17, 8], [8, 17]), ([15, 18, 8], [8, 15, 18]), ([8, 19], [8, 19]), ([0, 20, 8], [0, 20])])
def impl_from.B9 : List Nat := [0, 0, 0, 4, 12, 28, 60, 126, 254, 510, 1022, 2046, 4094, 510, 16382, 32766, 510, 66046, 197118, 524286, 1048574, 2097151]
theorem impl_from.tab9 : rtab .any (opsOf Try.f38 9) = impl_from.T9 := by kernel_rfl
theorem impl_from.bits9 : waitsOk impl_from.T9.2 impl_from.B9 = true := by kernel_rfl
def impl_from.T13 : Bool × List (List Nat × List Nat) := (true, [([], []), ([], []), ([], []), ([2], [2]), ([3], [3]), ([4], [4]), ([5], [5]), ([1, 6], [1, 6]), ([7], [7]), ([8], [8]), ([9, 8], [8, 9]), ([10, 8], [8, 10]), ([8], [8]), ([12, 8], [8, 12]), ([13, 8], [8, 13]), ([14, 8], [8, 14]), ([8], [8]), ([15, 16, 8], [8, 15, 16]), ([11, 17, 8, 8], [8, 11, 17]), ([8, 18], [8, 18]), ([0, 19, 18], [0, 19])])
def impl_from.B13 : List Nat := [0, 0, 0, 4, 12, 28, 60, 126, 254, 510, 1022, 2046, 510, 4606, 12798, 29182, 510, 127486, 262142, 524286, 1048575]
theorem impl_from.tab13 : rtab .any (opsOf Try.f38 13) = impl_from.T13 := by kernel_rfl
theorem impl_from.bits13 : waitsOk impl_from.T13.2 impl_from.B13 = true := by kernel_rfl
def impl_from.T17 : Bool × List (List Nat × List Nat) := (true, [([], []), ([], []), ([], []), ([], []), ([3], [3]), ([4], [4]), ([5], [5]), ([6], [6]), ([2, 7], [2, 7]), ([0, 1, 0, 1, 2, 3, 4, 5, 6, 7, 8], [0, 1]), ([9, 8, 0, 1, 2, 3, 4, 5, 6, 7, 8], [8, 9])])
def impl_from.B17 : List Nat := [0, 0, 0, 0, 8, 24, 56, 120, 252, 511, 1023]
theorem impl_from.tab17 : rtab .any (opsOf Try.f38 17) = impl_from.T17 := by kernel_rfl
theorem impl_from.bits17 : waitsOk impl_from.T17.2 impl_from.B17 = true := by kernel_rfl
def impl_from.T19 : Bool × List (List Nat × List Nat) := (true, [([], []), ([], []), ([], []), ([2], [2]), ([3], [3]), ([4], [4]), ([], []), ([1, 5, 6], [1, 5, 6]), ([0, 7, 7], [0, 7])])
def impl_from.B19 : List Nat := [0, 0, 0, 4, 12, 28, 0, 126, 255]
theorem impl_from.tab19 : rtab .any (opsOf Try.f38 19) = impl_from.T19 := by kernel_rfl
theorem impl_from.bits19 : waitsOk impl_from.T19.2 impl_from.B19 = true := by kernel_rfl
def impl_from.T24 : Bool × List (List Nat × List Nat) := (true, [([], []), ([], []), ([], []), ([], []), ([1, 2, 3], [1, 2, 3]), ([0, 4, 4], [0, 4])])
def impl_from.B24 : List Nat := [0, 0, 0, 0, 14, 31]
theorem impl_from.tab24 : rtab .any (opsOf Try.f38 24) = impl_from.T24 := by kernel_rfl
theorem impl_from.bits24 : waitsOk impl_from.T24.2 impl_from.B24 = true := by kernel_rfl
def impl_from.T28 : Bool × List (List Nat × List Nat) := (true, [([], []), ([], []), ([], []), ([], []), ([1, 2, 3], [1, 2, 3]), ([0, 4, 4], [0, 4])])
def impl_from.B28 : List Nat := [0, 0, 0, 0, 14, 31]
theorem impl_from.tab28 : rtab .any (opsOf Try.f38 28) = impl_from.T28 := by kernel_rfl
theorem impl_from.bits28 : waitsOk impl_from.T28.2 impl_from.B28 = true := by kernel_rfl
def impl_from.T29 : Bool × List (List Nat × List Nat) := (true, [([], []), ([0], [0]), ([1], [1]), ([2], [2]), ([], []), ([], []), ([3, 4, 5, 0, 1, 2, 3, 4, 5], [3, 4, 5])])
def impl_from.B29 : List Nat := [0, 1, 3, 7, 0, 0, 63]
theorem impl_from.tab29 : rtab .any (opsOf Try.f38 29) = impl_from.T29 := by kernel_rfl
theorem impl_from.bits29 : waitsOk impl_from.T29.2 impl_from.B29 = true := by kernel_rfl
theorem impl_contains.go (s : ByteArray) (c : Int) (hs : s.size < 4611686018427387904) : ∀ (d i : Nat), i + d = s.size → impl_contains.l0 (d + 1) s c (s.size : Int) (i : Int) = some ((s.data.toList.drop i).any fun b => ((b.toNat : Nat) : Int) == c) := by
 intro d
 induction d with
 | zero =>
  intro i hi
  rw [impl_contains.l0, if_neg (by omega), List.drop_eq_nil_of_le (by rw [Array.length_toList]; exact Nat.le_of_eq hi.symm)]
  rfl
 | succ d ih =>
  intro i hi
  have hlt : i < s.size := by omega
  have hl2 : i < s.data.toList.length := by rw [Array.length_toList]; exact hlt
  rw [impl_contains.l0, if_pos (by omega), if_pos (by omega), if_pos (by omega), List.drop_eq_getElem_cons hl2, List.any_cons]
  have hb : bt s (i : Int) = ((s.data.toList[i].toNat : Nat) : Int) := by
   rw [← bt_at s (i : Int) (by rw [Int.toNat_natCast]; exact hlt)]
   rfl
  rw [hb]
  by_cases hc : ((s.data.toList[i].toNat : Nat) : Int) = c
  ·
   rw [if_pos hc, beq_iff_eq.mpr hc, Bool.true_or]
  rw [if_neg hc, beq_eq_false_iff_ne.mpr hc, Bool.false_or, show wrap64 ((i : Int) + 1) = ((i + 1 : Nat) : Int) by unfold wrap64; omega]
  exact ih (i + 1) (by omega)
theorem impl_contains.ev (s : ByteArray) (c : Int) (hs : s.size < 4611686018427387904) : impl_contains.f (s.size + 1) s c = some (inS s c) := by
 have := impl_contains.go s c hs s.size 0 (by omega)
 rw [List.drop_zero] at this
 exact this
theorem impl_from (E : imE) (w : World) (VG : Value) (hok : E.Ok w) : ∀ (n : Nat) (x : S31), SizeOf.sizeOf x ≤ n → E.From w VG x := by
 intro n
 induction n with
 | zero => intro x hx; cases x; simp at hx
 | succ n ihn =>
 intro x hx node ks i ws PE hnode hi hAt
 have hkids : ∀ y ∈ x.f4, E.From w VG y := fun y hy => ihn y (by cases x; have := List.sizeOf_lt_of_mem hy; simp at hx this; omega)
 have hon := fun hkind m' h' => impl_onward E w VG hok x hkind hkids m' node 0 i ks h'
 clear ihn hx
 obtain ⟨PG, PN, gG, gE, gR, BN, DN, T, L, ns⟩ := E
 obtain ⟨hne, hL, hT, hgE, hgR, hns, hnaa, htree⟩ := hok
 dsimp only at hne hL hT hgE hgR hns hnaa htree hkids hon hnode hi ⊢
 have hu := Try.underlying74
 have hu2 := Try.underlying76
 have hu3 := Try.underlying31
 have HNE := am hne
 have HL := am hL
 have HT := am hT
 have HGE := am (show w.heap.size ≤ gE ∧ w.heap.size ≤ gR from ⟨hgE, hgR⟩)
 have HFF := am hkids
 have HON := am hon
 have HND := am hnode
 obtain ⟨hrw, hrt, hcn⟩ := htree node x ks hnode
 obtain ⟨hkl, hkid⟩ := hnaa node x ks hnode
 have hnl : node < ns.length := (List.getElem?_eq_some_iff.1 hnode).1
 clear hkids hon htree hnaa hne hL hgE hgR
 obtain ⟨hb_, hg_, hn_, he_, hge_, hne_⟩ := hAt
 dsimp only at hb_ hg_ hn_ he_ hge_ hne_
 have HB := am hb_
 have HG := am hg_
 have HN := am hn_
 have HE := am he_
 have D_G_E := am hge_
 have D_N_E := am hne_
 have HK := am (Kept.refl ws (fun k_ => k_ = gE ∨ k_ = gR))
 have HM1 := am (show ∀ k, PE k → PE k from fun _ h => h)
 have HM2 := am (show ∀ k, PE k → PE k ∨ ws.heap.size ≤ k from fun _ h => .inl h)
 clear hb_ hg_ hn_ he_ hge_ hne_
 obtain ⟨f0, f1, f2, f3, l⟩ := x
 dsimp only at hrw hrt hkl hkid
 rw [rxW] at hrw
 obtain ⟨hk1, hk9, hw1, _, _, _, _⟩ := hrw
 rw [cnt] at hcn
 rw [rxT] at hrt
 have HLN := am (show l.length < 1099511627776 from by have := cntL_ge l; omega)
 have HSZ := am hrt.1
 have HKL := am hkl
 have HKID := am hkid
 have HI := am hi
 have HNL := am (show node < 1099511627776 from by omega)
 have HKEY := am (show node < 9223372036854775808 ∧ i < 9223372036854775808 from ⟨by omega, by omega⟩)
 have q1_ := zn node
 have q2_ := il hnl
 have q3_ := eq_true hnl
 have hLI : i < L := by have := HL.out; omega
 have HLI := am hLI
 clear hkl hkid hnode hnl hcn hrt hi hLI
 replace jG := HG.out.c5
 go_enter Try.func38, Try.ntmps38
 go_upto_region 2 with (first | ((with_reducible refine gd 3 rfl ?_); refine bx_ (N := 3) (cs := #[.pointer (some ⟨gG, 0, none⟩)]) (t := 54) rfl rfl ?hr_1 ?_; (case hr_1 => first | (go_simp; done) | (go_simp; rfl)); intro gX1 hg w2 hb hk PX1 hPX1 HX1; have GEX1 := ge_ hg HB; have D_G_X1 := na hPX1 HG; have D_N_X1 := nl hPX1 HN.out.lt; have D_E_X1 := nl hPX1 HE.out.lt; have RRX1 := ra HK hPX1; replace HG := sn hk HG; replace HN := nn hk HN; replace HE := am (HE.out.step hk no_S); replace HK := kt HK hk; replace HB := bs HB hb; clear hb hk hg hPX1; replace jG := HG.out.c5; replace jX1 := HX1.out.c1) | ((with_reducible refine gd 5 rfl ?_); refine bx_ (N := 5) (cs := #[.int .i64 (i : Int)]) (t := 3) rfl rfl ?hr_2 ?_; (case hr_2 => first | (go_simp; done) | (go_simp; rfl)); intro gX2 hg w2 hb hk PX2 hPX2 HX2; have GEX2 := ge_ hg HB; have D_G_X2 := na hPX2 HG; have D_N_X2 := nl hPX2 HN.out.lt; have D_E_X2 := nl hPX2 HE.out.lt; have D_X1_X2 := na hPX2 HX1; have RRX2 := ra HK hPX2; replace HG := sn hk HG; replace HN := nn hk HN; replace HE := am (HE.out.step hk no_S); replace HX1 := sn hk HX1; replace HK := kt HK hk; replace HB := bs HB hb; clear hb hk hg hPX2; replace jG := HG.out.c5; replace jX1 := HX1.out.c1; replace jX2 := HX2.out.c1) | ((with_reducible refine gd 7 rfl ?_); refine bx_ (N := 7) (cs := #[.int .i64 0, .int .i64 0]) (t := 86) rfl rfl ?hr_3 ?_; (case hr_3 => first | (go_simp; done) | (go_simp; rfl)); intro gX3 hg w2 hb hk PX3 hPX3 HX3; have GEX3 := ge_ hg HB; have D_G_X3 := na hPX3 HG; have D_N_X3 := nl hPX3 HN.out.lt; have D_E_X3 := nl hPX3 HE.out.lt; have D_X1_X3 := na hPX3 HX1; have D_X2_X3 := na hPX3 HX2; have RRX3 := ra HK hPX3; replace HG := sn hk HG; replace HN := nn hk HN; replace HE := am (HE.out.step hk no_S); replace HX1 := sn hk HX1; replace HX2 := sn hk HX2; replace HK := kt HK hk; replace HB := bs HB hb; clear hb hk hg hPX3; replace jG := HG.out.c5; replace jX1 := HX1.out.c1; replace jX2 := HX2.out.c1; replace jX3 := HX3.out.c2) | ((with_reducible refine gate_store (t := 86) (p := 7) rfl ?_); refine LB.storedW HX3.out HB.out GEX3.out [.int .i64 (node : Int), .int .i64 (i : Int)] rfl rfl (t := 86) (p := 7) rfl rfl ?hr_4 ?_; (case hr_4 => first | (go_simp; done) | (go_simp; simp only [World.setCells, Nat.reduceAdd, Nat.zero_add]; done)); intro w2 hx hk hb; replace HG := ss hk HG D_G_X3.out; replace HN := ns_ hk HN D_N_X3.out; replace HE := am (HE.out.step hk D_E_X3.out); replace HX1 := ss hk HX1 D_X1_X3.out; replace HX2 := ss hk HX2 D_X2_X3.out; replace HK := kr HK hk RRX3; replace HB := am hb; replace HX3 := am (show LB w2 PX3 gX3 86 #[.int .i64 (node : Int), .int .i64 (i : Int)] from hx); clear hk hx hb; replace jG := HG.out.c5; replace jX1 := HX1.out.c1; replace jX2 := HX2.out.c1; replace jX3 := HX3.out.c2))
 refine sr (n := 11) (S := fun w' => w'.cell? ⟨gX1, 0, none⟩ = some (.pointer (some ⟨gG, 0, none⟩)) ∧ w'.cell? ⟨gG, 2, none⟩ = some (.map (some gE)) ∧ w'.cell? ⟨gX3, 0, none⟩ = some (.int .i64 (node : Int)) ∧ w'.cell? ⟨gX3, 1, none⟩ = some (.int .i64 (i : Int))) (ds := []) ⟨jX1.1, jG.2.2.2.2.1, jX3.1, jX3.2.2.1⟩ (fun hHeld => ?_)
 refine with_tabW impl_from.tab2 impl_from.bits2 (fun HT_ HW_ => ?_)
 generalize hwd_ : World.drew w2 = wd_ at hHeld ⊢
 have hk := kept_drew hwd_
 replace HG := sn hk HG
 replace HN := nn hk HN
 replace HE := am (HE.out.step hk no_S)
 replace HX1 := sn hk HX1
 replace HX2 := sn hk HX2
 replace HX3 := sn hk HX3
 replace HK := kt HK hk
 replace HB := bd HB hwd_
 clear hk hwd_
 replace jG := HG.out.c5
 replace jX1 := HX1.out.c1
 replace jX2 := HX2.out.c1
 replace jX3 := HX3.out.c2
 refine tk 0 19 HT_.out HW_.out hHeld rfl rfl rfl ?_
 refine pu 1 20 HT_.out rfl rfl rfl ?_
 refine pu 2 21 HT_.out rfl rfl rfl ?_
 refine tk 3 22 HT_.out HW_.out hHeld rfl rfl rfl ?_
 refine tk 4 23 HT_.out HW_.out hHeld rfl rfl rfl ?_
 rcases (HE.out).look2 node i HKEY.out HND.out with hl_ | ⟨v_, hl_, hv_⟩
 rotate_left
 ·
  refine on_ 5 (some 24) HT_.out rfl rfl fun K hK => ?_
  refine event_step (w1 := wd_) (v := .tuple #[v_, .bool true]) (by rfl) ?hr_5 ?_
  (case hr_5 => go_simp; first | done | (erw [hl_]; rfl))
  skip
  refine hK.out _ _ ⟨jX1.1, jG.2.2.2.2.1, jX3.1, jX3.2.2.1⟩ (fun hHeld => ?_)
  clear hK K
  refine nm ?_
  refine pu 6 18 HT_.out rfl rfl rfl ?_
  refine pu 7 25 HT_.out rfl rfl rfl ?_
  refine pu 8 26 HT_.out rfl rfl rfl ?_
  refine pu 9 8 HT_.out rfl rfl rfl ?_
  refine pu 10 9 HT_.out rfl rfl rfl ?_
  refine dn HT_ ?_
  obtain ⟨A_, c_, rfl, hlc_, hF_⟩ := hv_
  dsimp only at hlc_ hF_
  go_wp2
  go_ret
  exact ⟨PE, A_, c_, rfl, ⟨HB.out, HG.out, HN.out, HE.out, D_G_E.out, D_N_E.out⟩, hlc_, hF_, HM1.out, HM2.out, HK.out⟩
 refine on_ 5 (some 24) HT_.out rfl rfl fun K hK => ?_
 refine event_step (w1 := wd_) (v := .tuple #[.slice none 0 0, .bool false]) (by rfl) ?hr_6 ?_
 (case hr_6 => go_simp; first | done | (erw [hl_]; rfl))
 skip
 refine hK.out _ _ ⟨jX1.1, jG.2.2.2.2.1, jX3.1, jX3.2.2.1⟩ (fun hHeld => ?_)
 clear hK K
 refine nm ?_
 refine pu 6 18 HT_.out rfl rfl rfl ?_
 refine pu 7 25 HT_.out rfl rfl rfl ?_
 refine pu 8 26 HT_.out rfl rfl rfl ?_
 refine pu 9 8 HT_.out rfl rfl rfl ?_
 refine pu 10 9 HT_.out rfl rfl rfl ?_
 refine dn HT_ ?_
 go_upto_region 5 with (fail)
 obtain ⟨adN, A4, c4, A5, c5, eBN, ha0, ha1, ha2, ha3, ha4, ha5, hq_, _⟩ := at_NAF HN.out node _ HND.out
 subst eBN
 dsimp only at ha0 ha1 ha2 ha3 ha4 ha5 hq_
 obtain ⟨_, eNB_, hNB_⟩ := im_NB HN.out node (List.getElem?_eq_some_iff.1 HND.out).1
 cases eNB_
 have HNB := am hNB_
 clear hNB_
 have HQ := am hq_
 have D_Q_E := D_N_E
 have D_Q_X1 := D_N_X1
 have D_Q_X2 := D_N_X2
 have D_Q_X3 := D_N_X3
 clear hq_
 replace jG := HG.out.c5
 replace jX1 := HX1.out.c1
 replace jX2 := HX2.out.c1
 replace jX3 := HX3.out.c2
 refine sr (n := 13) (S := fun w' => w'.cell? ⟨gX1, 0, none⟩ = some (.pointer (some ⟨gG, 0, none⟩)) ∧ w'.cell? ⟨gG, 1, none⟩ = some (.slice (some adN) ns.length DN) ∧ w'.cell? (adN.add (node * 6)) = some (.int .i64 f0) ∧ w'.cell? (⟨(adN.add (node * 6)).block, (adN.add (node * 6)).off + 1, none⟩) = some (.int .i64 f1) ∧ w'.cell? (⟨(adN.add (node * 6)).block, (adN.add (node * 6)).off + 2, none⟩) = some (.int .i64 f2) ∧ w'.cell? (⟨(adN.add (node * 6)).block, (adN.add (node * 6)).off + 3, none⟩) = some (.string f3) ∧ w'.cell? (⟨(adN.add (node * 6)).block, (adN.add (node * 6)).off + 4, none⟩) = some (.slice A4 l.length c4) ∧ w'.cell? (⟨(adN.add (node * 6)).block, (adN.add (node * 6)).off + 5, none⟩) = some (.slice A5 ks.length c5)) (ds := [12]) ⟨jX1.1, jG.2.2.1, ha0, ha1, ha2, ha3, ha4, ha5⟩ (fun hHeld => ?_)
 refine with_tabW impl_from.tab5 impl_from.bits5 (fun HT_ HW_ => ?_)
 generalize hwd_ : World.drew wd_ = wd_ at hHeld ⊢
 have hk := kept_drew hwd_
 replace HG := sn hk HG
 replace HN := nn hk HN
 replace HE := am (HE.out.step hk no_S)
 replace HX1 := sn hk HX1
 replace HX2 := sn hk HX2
 replace HX3 := sn hk HX3
 replace HQ := nn hk HQ
 replace HK := kt HK hk
 replace HB := bd HB hwd_
 clear hk hwd_
 replace jG := HG.out.c5
 replace jX1 := HX1.out.c1
 replace jX2 := HX2.out.c1
 replace jX3 := HX3.out.c2
 obtain ⟨_, _, t0_, t1_, t2_, t3_, t4_, t5_⟩ := id hHeld
 have HC0 := am t0_
 have HC1 := am t1_
 have HC2 := am t2_
 have HC3 := am t3_
 have HC4 := am t4_
 have HC5 := am t5_
 clear t0_ t1_ t2_ t3_ t4_ t5_ ha0 ha1 ha2 ha3 ha4 ha5
 refine tk 0 29 HT_.out HW_.out hHeld rfl rfl rfl ?_
 refine tk 2 31 HT_.out HW_.out hHeld rfl rfl rfl ?_
 refine pu 3 32 HT_.out rfl rfl rfl ?_
 refine pu 4 33 HT_.out rfl rfl rfl ?_
 refine tk 5 34 HT_.out HW_.out hHeld rfl rfl rfl ?_
 refine pu 6 35 HT_.out rfl rfl rfl ?_
 refine pu 7 36 HT_.out rfl rfl rfl ?_
 refine tk 8 37 HT_.out HW_.out hHeld rfl rfl rfl ?_
 obtain ⟨n0, hn0⟩ : ∃ n_, n_ = wd_.heap.size := ⟨_, rfl⟩
 obtain ⟨FB, hFB⟩ : ∃ F_ : World → Prop, ∀ W_, F_ W_ ↔ (Below w.heap.size w W_ ∧ n0 ≤ W_.heap.size ∧ (LB W_ PG gG 74 #[.string T, .slice (some adN) ns.length DN, .map (some gE), .map (some gR), VG]) ∧ (LN kNA 76 W_ w.heap.size PN (.slice (some adN) ns.length DN) ns) ∧ (imK ⟨PG, PN, gG, gE, gR, some adN, DN, T, L, ns⟩ W_ PE) ∧ (LB W_ PX1 gX1 54 #[.pointer (some ⟨gG, 0, none⟩)]) ∧ (LB W_ PX2 gX2 3 #[.int .i64 (i : Int)]) ∧ (LB W_ PX3 gX3 86 #[.int .i64 (node : Int), .int .i64 (i : Int)]) ∧ (LN (Kd.int .i64) 3 W_ w.heap.size PN (.slice A5 ks.length c5) ks) ∧ W_.cell? (adN.add (node * 6)) = some (.int .i64 f0) ∧ W_.cell? (⟨(adN.add (node * 6)).block, (adN.add (node * 6)).off + 1, none⟩) = some (.int .i64 f1) ∧ W_.cell? (⟨(adN.add (node * 6)).block, (adN.add (node * 6)).off + 2, none⟩) = some (.int .i64 f2) ∧ W_.cell? (⟨(adN.add (node * 6)).block, (adN.add (node * 6)).off + 3, none⟩) = some (.string f3) ∧ W_.cell? (⟨(adN.add (node * 6)).block, (adN.add (node * 6)).off + 4, none⟩) = some (.slice A4 l.length c4) ∧ W_.cell? (⟨(adN.add (node * 6)).block, (adN.add (node * 6)).off + 5, none⟩) = some (.slice A5 ks.length c5) ∧ Kept ws W_ (fun k_ => k_ = gE ∨ k_ = gR)) := ⟨_, fun _ => Iff.rfl⟩
 have HFS := am (show ∀ W_ W2_ : World, Kept W_ W2_ (fun _ => False) → Below w.heap.size w W2_ → FB W_ → FB W2_ from fun W_ W2_ hk_ hb_ hf_ => by
  obtain ⟨_, n_, fG_, fN_, fE_, fX1_, fX2_, fX3_, fQ_, c0_, c1_, c2_, c3_, c4_, c5_, k_⟩ := (hFB W_).1 hf_
  exact (hFB W2_).2 ⟨hb_, Nat.le_trans n_ hk_.1, fG_.step hk_ no_S, fN_.step hk_ no_S, fE_.step hk_ no_S, fX1_.step hk_ no_S, fX2_.step hk_ no_S, fX3_.step hk_ no_S, fQ_.step hk_ no_S, cellK hk_ c0_, cellK hk_ c1_, cellK hk_ c2_, cellK hk_ c3_, cellK hk_ c4_, cellK hk_ c5_, k_.then_ hk_ (fun _ h_ => h_.elim)⟩)
 have HF := am ((hFB wd_).2 ⟨HB.out, Nat.le_of_eq hn0, HG.out, HN.out, HE.out, HX1.out, HX2.out, HX3.out, HQ.out, HC0.out, HC1.out, HC2.out, HC3.out, HC4.out, HC5.out, HK.out⟩)
 have LTG := am (show ∀ k, PG k → k < n0 from fun k h => hn0 ▸ HG.out.lt k h)
 have LTN := am (show ∀ k, PN k → k < n0 from fun k h => hn0 ▸ HN.out.lt k h)
 have LTE := am (show ∀ k, PE k → k < n0 from fun k h => hn0 ▸ HE.out.lt k h)
 have LTX1 := am (show ∀ k, PX1 k → k < n0 from fun k h => hn0 ▸ HX1.out.lt k h)
 have LTX2 := am (show ∀ k, PX2 k → k < n0 from fun k h => hn0 ▸ HX2.out.lt k h)
 have LTX3 := am (show ∀ k, PX3 k → k < n0 from fun k h => hn0 ▸ HX3.out.lt k h)
 have LTQ := am (show ∀ k, PN k → k < n0 from fun k h => hn0 ▸ HQ.out.lt k h)
 have HW0 := am (show ws.heap.size ≤ n0 ∧ w.heap.size ≤ n0 from ⟨hn0 ▸ HK.out.1, hn0 ▸ HB.out.size⟩)
 have HFB := am hFB
 clear hFB hn0 HB HK HG HN HE HX1 HX2 HX3 HQ
 clear HC0 HC1 HC2 HC3 HC4 HC5
 try clear jG
 try clear jX1
 try clear jX2
 try clear jX3
 refine join_ (σ := Nat × Nat × Nat × Nat) 2 #[true, true, true, true, true, true, true, true, true, true, true, false, false] (fun s => [(30, .slice (some ⟨s.1, 0, none⟩) L s.2.1), (10, .pointer (some ⟨s.2.2.1, 0, none⟩)), (11, .pointer (some ⟨s.2.2.2, 0, none⟩))]) (fun s w' => ∃ (gO cO gXO gXN : Nat) (PO PXO PXN : Nat → Prop), s = (gO, cO, gXO, gXN) ∧ Aside0 (FB w') ∧ Aside0 (LR Kd.bool 4 w' w.heap.size PO (.slice (some ⟨gO, 0, none⟩) L cO) (rowOf T.size (fun _ => false))) ∧ Aside0 (LB w' PXO gXO 64 #[.slice none 0 0]) ∧ Aside0 (LB w' PXN gXN 76 #[.int .i64 0, .int .i64 0, .int .i64 0, .string ByteArray.empty, .slice none 0 0, .slice none 0 0]) ∧ Aside0 (∀ k, PXO k → ¬ PO k) ∧ Aside0 (∀ k, PXN k → ¬ PO k) ∧ Aside0 (∀ k, PXN k → ¬ PXO k) ∧ Aside0 (∀ k, PO k → n0 ≤ k) ∧ Aside0 (∀ k, PXO k → n0 ≤ k) ∧ Aside0 (∀ k, PXN k → n0 ≤ k)) ?_ ?_
 rotate_left
 ·
  intro hJ
  refine three_ (i := 1) (j := 9) (k := 10) (Ni := some 30) (Nj := some 10) (Nk := some 11) #[true, true, true, true, true, true, true, true, true, false, false, false, false] #[true, false, true, true, true, true, true, true, true, true, false, false, false] #[true, false, true, true, true, true, true, true, true, false, true, false, false] rfl rfl rfl rfl rfl rfl (three_of HT_.out (by kernel_rfl)) (by decide) (by decide) (by decide) (fun K hK => ?_) (fun K hK => ?_) (fun K hK => ?_)
  ·
   skip
   refine gs_ Try.func50 #[.pointer (some ⟨gG, 0, none⟩)] rfl rfl rfl rfl ?_
   (with_reducible refine (impl_none w _ PG gG T _ _ _ _ L HL.out ((HFB.out _).1 HF.out).1 ((HFB.out _).1 HF.out).2.2.1 HT.out).mono ?_)
   rintro e w2 ⟨BO, cO, PO, rfl, ho_, hb_, hk_, hn_⟩
   refine ⟨_, rfl, ?_⟩
   obtain ⟨gO, cq, he_, _, _, _⟩ := Kd.R_form ho_.1 (by rw [rowOf_len]; omega)
   injection he_ with ea_ el_ ec_
   clear el_
   subst ea_ ec_
   have NO := am (show ∀ k, PO k → n0 ≤ k from fun k h => Nat.le_trans ((HFB.out _).1 HF.out).2.1 (hn_ k h))
   replace HF := am (HFS.out _ _ hk_ hb_ HF.out)
   have HO := am ho_
   clear ho_ hb_ hk_ hn_
   refine hK.out _ _ ⟨((((HFB.out _).1 HF.out).2.2.2.2.2.1.cell 0).trans rfl), ((((HFB.out _).1 HF.out).2.2.1.cell 1).trans rfl), ((HFB.out _).1 HF.out).2.2.2.2.2.2.2.2.2.1, ((HFB.out _).1 HF.out).2.2.2.2.2.2.2.2.2.2.1, ((HFB.out _).1 HF.out).2.2.2.2.2.2.2.2.2.2.2.1, ((HFB.out _).1 HF.out).2.2.2.2.2.2.2.2.2.2.2.2.1, ((HFB.out _).1 HF.out).2.2.2.2.2.2.2.2.2.2.2.2.2.1, ((HFB.out _).1 HF.out).2.2.2.2.2.2.2.2.2.2.2.2.2.2.1⟩ (fun hHeld => ?_)
   clear hK K
   refine nm ?_
   refine two_ (i := 9) (j := 10) (Ni := some 10) (Nj := some 11) #[true, true, true, true, true, true, true, true, true, true, false, false, false] #[true, true, true, true, true, true, true, true, true, false, true, false, false] rfl rfl rfl rfl (two_of HT_.out (by kernel_rfl)) (by decide) (by decide) (fun K hK => ?_) (fun K hK => ?_)
   ·
    skip
    refine box_step (N := 10) (cs := #[.slice none 0 0]) (t := 64) (by rfl) rfl ?hr_8 ?_
    (case hr_8 => first | (go_simp; done) | (go_simp; rfl))
    intro gXO hg w2 hbox hb
    have hk := kept_below hb
    obtain ⟨PXO, hPXO, HLXO⟩ := LB.fresh hg hbox
    have HXO := am HLXO
    have D_O_XO := nl hPXO HO.out.lt
    replace HO := rn hk HO
    have NXO := am (show ∀ k, PXO k → n0 ≤ k from fun k h => Nat.le_trans ((HFB.out _).1 HF.out).2.1 (hPXO k h).1)
    replace HF := am (HFS.out _ _ hk (below_step ((HFB.out _).1 HF.out).1 hb) HF.out)
    clear hb hk hbox hg HLXO hPXO
    refine hK.out _ _ ⟨((((HFB.out _).1 HF.out).2.2.2.2.2.1.cell 0).trans rfl), ((((HFB.out _).1 HF.out).2.2.1.cell 1).trans rfl), ((HFB.out _).1 HF.out).2.2.2.2.2.2.2.2.2.1, ((HFB.out _).1 HF.out).2.2.2.2.2.2.2.2.2.2.1, ((HFB.out _).1 HF.out).2.2.2.2.2.2.2.2.2.2.2.1, ((HFB.out _).1 HF.out).2.2.2.2.2.2.2.2.2.2.2.2.1, ((HFB.out _).1 HF.out).2.2.2.2.2.2.2.2.2.2.2.2.2.1, ((HFB.out _).1 HF.out).2.2.2.2.2.2.2.2.2.2.2.2.2.2.1⟩ (fun hHeld => ?_)
    clear hK K
    refine nm ?_
    refine on_ 10 (some 11) HT_.out rfl rfl fun K hK => ?_
    refine box_step (N := 11) (cs := #[.int .i64 0, .int .i64 0, .int .i64 0, .string ByteArray.empty, .slice none 0 0, .slice none 0 0]) (t := 76) (by rfl) rfl ?hr_9 ?_
    (case hr_9 => first | (go_simp; done) | (go_simp; rfl))
    intro gXN hg w2 hbox hb
    have hk := kept_below hb
    obtain ⟨PXN, hPXN, HLXN⟩ := LB.fresh hg hbox
    have HXN := am HLXN
    have D_O_XN := nl hPXN HO.out.lt
    replace HO := rn hk HO
    have D_XO_XN := na hPXN HXO
    replace HXO := sn hk HXO
    have NXN := am (show ∀ k, PXN k → n0 ≤ k from fun k h => Nat.le_trans ((HFB.out _).1 HF.out).2.1 (hPXN k h).1)
    replace HF := am (HFS.out _ _ hk (below_step ((HFB.out _).1 HF.out).1 hb) HF.out)
    clear hb hk hbox hg HLXN hPXN
    refine hK.out _ _ ⟨((((HFB.out _).1 HF.out).2.2.2.2.2.1.cell 0).trans rfl), ((((HFB.out _).1 HF.out).2.2.1.cell 1).trans rfl), ((HFB.out _).1 HF.out).2.2.2.2.2.2.2.2.2.1, ((HFB.out _).1 HF.out).2.2.2.2.2.2.2.2.2.2.1, ((HFB.out _).1 HF.out).2.2.2.2.2.2.2.2.2.2.2.1, ((HFB.out _).1 HF.out).2.2.2.2.2.2.2.2.2.2.2.2.1, ((HFB.out _).1 HF.out).2.2.2.2.2.2.2.2.2.2.2.2.2.1, ((HFB.out _).1 HF.out).2.2.2.2.2.2.2.2.2.2.2.2.2.2.1⟩ (fun hHeld => ?_)
    clear hK K
    refine nm ?_
    exact norm_ (by first | (simp only [putAll, Act.put, List.setIfInBounds_toArray, List.set_cons_zero, List.set_cons_succ]; done) | (simp only [putAll, Act.put, List.setIfInBounds_toArray, List.set_cons_zero, List.set_cons_succ]; rfl)) (hJ (gO, cO, gXO, gXN) _ ⟨gO, cO, gXO, gXN, PO, PXO, PXN, rfl, HF, HO, HXO, HXN, ⟨apart_symm D_O_XO.out⟩, ⟨apart_symm D_O_XN.out⟩, ⟨apart_symm D_XO_XN.out⟩, NO, NXO, NXN⟩)
   skip
   refine box_step (N := 11) (cs := #[.int .i64 0, .int .i64 0, .int .i64 0, .string ByteArray.empty, .slice none 0 0, .slice none 0 0]) (t := 76) (by rfl) rfl ?hr_10 ?_
   (case hr_10 => first | (go_simp; done) | (go_simp; rfl))
   intro gXN hg w2 hbox hb
   have hk := kept_below hb
   obtain ⟨PXN, hPXN, HLXN⟩ := LB.fresh hg hbox
   have HXN := am HLXN
   have D_O_XN := nl hPXN HO.out.lt
   replace HO := rn hk HO
   have NXN := am (show ∀ k, PXN k → n0 ≤ k from fun k h => Nat.le_trans ((HFB.out _).1 HF.out).2.1 (hPXN k h).1)
   replace HF := am (HFS.out _ _ hk (below_step ((HFB.out _).1 HF.out).1 hb) HF.out)
   clear hb hk hbox hg HLXN hPXN
   refine hK.out _ _ ⟨((((HFB.out _).1 HF.out).2.2.2.2.2.1.cell 0).trans rfl), ((((HFB.out _).1 HF.out).2.2.1.cell 1).trans rfl), ((HFB.out _).1 HF.out).2.2.2.2.2.2.2.2.2.1, ((HFB.out _).1 HF.out).2.2.2.2.2.2.2.2.2.2.1, ((HFB.out _).1 HF.out).2.2.2.2.2.2.2.2.2.2.2.1, ((HFB.out _).1 HF.out).2.2.2.2.2.2.2.2.2.2.2.2.1, ((HFB.out _).1 HF.out).2.2.2.2.2.2.2.2.2.2.2.2.2.1, ((HFB.out _).1 HF.out).2.2.2.2.2.2.2.2.2.2.2.2.2.2.1⟩ (fun hHeld => ?_)
   clear hK K
   refine nm ?_
   refine on_ 9 (some 10) HT_.out rfl rfl fun K hK => ?_
   refine box_step (N := 10) (cs := #[.slice none 0 0]) (t := 64) (by rfl) rfl ?hr_11 ?_
   (case hr_11 => first | (go_simp; done) | (go_simp; rfl))
   intro gXO hg w2 hbox hb
   have hk := kept_below hb
   obtain ⟨PXO, hPXO, HLXO⟩ := LB.fresh hg hbox
   have HXO := am HLXO
   have D_O_XO := nl hPXO HO.out.lt
   replace HO := rn hk HO
   have D_XN_XO := na hPXO HXN
   replace HXN := sn hk HXN
   have NXO := am (show ∀ k, PXO k → n0 ≤ k from fun k h => Nat.le_trans ((HFB.out _).1 HF.out).2.1 (hPXO k h).1)
   replace HF := am (HFS.out _ _ hk (below_step ((HFB.out _).1 HF.out).1 hb) HF.out)
   clear hb hk hbox hg HLXO hPXO
   refine hK.out _ _ ⟨((((HFB.out _).1 HF.out).2.2.2.2.2.1.cell 0).trans rfl), ((((HFB.out _).1 HF.out).2.2.1.cell 1).trans rfl), ((HFB.out _).1 HF.out).2.2.2.2.2.2.2.2.2.1, ((HFB.out _).1 HF.out).2.2.2.2.2.2.2.2.2.2.1, ((HFB.out _).1 HF.out).2.2.2.2.2.2.2.2.2.2.2.1, ((HFB.out _).1 HF.out).2.2.2.2.2.2.2.2.2.2.2.2.1, ((HFB.out _).1 HF.out).2.2.2.2.2.2.2.2.2.2.2.2.2.1, ((HFB.out _).1 HF.out).2.2.2.2.2.2.2.2.2.2.2.2.2.2.1⟩ (fun hHeld => ?_)
   clear hK K
   refine nm ?_
   exact norm_ (by first | (simp only [putAll, Act.put, List.setIfInBounds_toArray, List.set_cons_zero, List.set_cons_succ]; done) | (simp only [putAll, Act.put, List.setIfInBounds_toArray, List.set_cons_zero, List.set_cons_succ]; rfl)) (hJ (gO, cO, gXO, gXN) _ ⟨gO, cO, gXO, gXN, PO, PXO, PXN, rfl, HF, HO, HXO, HXN, ⟨apart_symm D_O_XO.out⟩, ⟨apart_symm D_O_XN.out⟩, D_XN_XO, NO, NXO, NXN⟩)
  ·
   skip
   refine box_step (N := 10) (cs := #[.slice none 0 0]) (t := 64) (by rfl) rfl ?hr_12 ?_
   (case hr_12 => first | (go_simp; done) | (go_simp; rfl))
   intro gXO hg w2 hbox hb
   have hk := kept_below hb
   obtain ⟨PXO, hPXO, HLXO⟩ := LB.fresh hg hbox
   have HXO := am HLXO
   have NXO := am (show ∀ k, PXO k → n0 ≤ k from fun k h => Nat.le_trans ((HFB.out _).1 HF.out).2.1 (hPXO k h).1)
   replace HF := am (HFS.out _ _ hk (below_step ((HFB.out _).1 HF.out).1 hb) HF.out)
   clear hb hk hbox hg HLXO hPXO
   refine hK.out _ _ ⟨((((HFB.out _).1 HF.out).2.2.2.2.2.1.cell 0).trans rfl), ((((HFB.out _).1 HF.out).2.2.1.cell 1).trans rfl), ((HFB.out _).1 HF.out).2.2.2.2.2.2.2.2.2.1, ((HFB.out _).1 HF.out).2.2.2.2.2.2.2.2.2.2.1, ((HFB.out _).1 HF.out).2.2.2.2.2.2.2.2.2.2.2.1, ((HFB.out _).1 HF.out).2.2.2.2.2.2.2.2.2.2.2.2.1, ((HFB.out _).1 HF.out).2.2.2.2.2.2.2.2.2.2.2.2.2.1, ((HFB.out _).1 HF.out).2.2.2.2.2.2.2.2.2.2.2.2.2.2.1⟩ (fun hHeld => ?_)
   clear hK K
   refine nm ?_
   refine two_ (i := 1) (j := 10) (Ni := some 30) (Nj := some 11) #[true, true, true, true, true, true, true, true, true, true, false, false, false] #[true, false, true, true, true, true, true, true, true, true, true, false, false] rfl rfl rfl rfl (two_of HT_.out (by kernel_rfl)) (by decide) (by decide) (fun K hK => ?_) (fun K hK => ?_)
   ·
    skip
    refine gs_ Try.func50 #[.pointer (some ⟨gG, 0, none⟩)] rfl rfl rfl rfl ?_
    (with_reducible refine (impl_none w _ PG gG T _ _ _ _ L HL.out ((HFB.out _).1 HF.out).1 ((HFB.out _).1 HF.out).2.2.1 HT.out).mono ?_)
    rintro e w2 ⟨BO, cO, PO, rfl, ho_, hb_, hk_, hn_⟩
    refine ⟨_, rfl, ?_⟩
    obtain ⟨gO, cq, he_, _, _, _⟩ := Kd.R_form ho_.1 (by rw [rowOf_len]; omega)
    injection he_ with ea_ el_ ec_
    clear el_
    subst ea_ ec_
    have D_XO_O := ap_ hn_ HXO
    replace HXO := sn hk_ HXO
    have NO := am (show ∀ k, PO k → n0 ≤ k from fun k h => Nat.le_trans ((HFB.out _).1 HF.out).2.1 (hn_ k h))
    replace HF := am (HFS.out _ _ hk_ hb_ HF.out)
    have HO := am ho_
    clear ho_ hb_ hk_ hn_
    refine hK.out _ _ ⟨((((HFB.out _).1 HF.out).2.2.2.2.2.1.cell 0).trans rfl), ((((HFB.out _).1 HF.out).2.2.1.cell 1).trans rfl), ((HFB.out _).1 HF.out).2.2.2.2.2.2.2.2.2.1, ((HFB.out _).1 HF.out).2.2.2.2.2.2.2.2.2.2.1, ((HFB.out _).1 HF.out).2.2.2.2.2.2.2.2.2.2.2.1, ((HFB.out _).1 HF.out).2.2.2.2.2.2.2.2.2.2.2.2.1, ((HFB.out _).1 HF.out).2.2.2.2.2.2.2.2.2.2.2.2.2.1, ((HFB.out _).1 HF.out).2.2.2.2.2.2.2.2.2.2.2.2.2.2.1⟩ (fun hHeld => ?_)
    clear hK K
    refine nm ?_
    refine on_ 10 (some 11) HT_.out rfl rfl fun K hK => ?_
    refine box_step (N := 11) (cs := #[.int .i64 0, .int .i64 0, .int .i64 0, .string ByteArray.empty, .slice none 0 0, .slice none 0 0]) (t := 76) (by rfl) rfl ?hr_14 ?_
    (case hr_14 => first | (go_simp; done) | (go_simp; rfl))
    intro gXN hg w2 hbox hb
    have hk := kept_below hb
    obtain ⟨PXN, hPXN, HLXN⟩ := LB.fresh hg hbox
    have HXN := am HLXN
    have D_XO_XN := na hPXN HXO
    replace HXO := sn hk HXO
    have D_O_XN := nl hPXN HO.out.lt
    replace HO := rn hk HO
    have NXN := am (show ∀ k, PXN k → n0 ≤ k from fun k h => Nat.le_trans ((HFB.out _).1 HF.out).2.1 (hPXN k h).1)
    replace HF := am (HFS.out _ _ hk (below_step ((HFB.out _).1 HF.out).1 hb) HF.out)
    clear hb hk hbox hg HLXN hPXN
    refine hK.out _ _ ⟨((((HFB.out _).1 HF.out).2.2.2.2.2.1.cell 0).trans rfl), ((((HFB.out _).1 HF.out).2.2.1.cell 1).trans rfl), ((HFB.out _).1 HF.out).2.2.2.2.2.2.2.2.2.1, ((HFB.out _).1 HF.out).2.2.2.2.2.2.2.2.2.2.1, ((HFB.out _).1 HF.out).2.2.2.2.2.2.2.2.2.2.2.1, ((HFB.out _).1 HF.out).2.2.2.2.2.2.2.2.2.2.2.2.1, ((HFB.out _).1 HF.out).2.2.2.2.2.2.2.2.2.2.2.2.2.1, ((HFB.out _).1 HF.out).2.2.2.2.2.2.2.2.2.2.2.2.2.2.1⟩ (fun hHeld => ?_)
    clear hK K
    refine nm ?_
    exact norm_ (by first | (simp only [putAll, Act.put, List.setIfInBounds_toArray, List.set_cons_zero, List.set_cons_succ]; done) | (simp only [putAll, Act.put, List.setIfInBounds_toArray, List.set_cons_zero, List.set_cons_succ]; rfl)) (hJ (gO, cO, gXO, gXN) _ ⟨gO, cO, gXO, gXN, PO, PXO, PXN, rfl, HF, HO, HXO, HXN, D_XO_O, ⟨apart_symm D_O_XN.out⟩, ⟨apart_symm D_XO_XN.out⟩, NO, NXO, NXN⟩)
   skip
   refine box_step (N := 11) (cs := #[.int .i64 0, .int .i64 0, .int .i64 0, .string ByteArray.empty, .slice none 0 0, .slice none 0 0]) (t := 76) (by rfl) rfl ?hr_15 ?_
   (case hr_15 => first | (go_simp; done) | (go_simp; rfl))
   intro gXN hg w2 hbox hb
   have hk := kept_below hb
   obtain ⟨PXN, hPXN, HLXN⟩ := LB.fresh hg hbox
   have HXN := am HLXN
   have D_XO_XN := na hPXN HXO
   replace HXO := sn hk HXO
   have NXN := am (show ∀ k, PXN k → n0 ≤ k from fun k h => Nat.le_trans ((HFB.out _).1 HF.out).2.1 (hPXN k h).1)
   replace HF := am (HFS.out _ _ hk (below_step ((HFB.out _).1 HF.out).1 hb) HF.out)
   clear hb hk hbox hg HLXN hPXN
   refine hK.out _ _ ⟨((((HFB.out _).1 HF.out).2.2.2.2.2.1.cell 0).trans rfl), ((((HFB.out _).1 HF.out).2.2.1.cell 1).trans rfl), ((HFB.out _).1 HF.out).2.2.2.2.2.2.2.2.2.1, ((HFB.out _).1 HF.out).2.2.2.2.2.2.2.2.2.2.1, ((HFB.out _).1 HF.out).2.2.2.2.2.2.2.2.2.2.2.1, ((HFB.out _).1 HF.out).2.2.2.2.2.2.2.2.2.2.2.2.1, ((HFB.out _).1 HF.out).2.2.2.2.2.2.2.2.2.2.2.2.2.1, ((HFB.out _).1 HF.out).2.2.2.2.2.2.2.2.2.2.2.2.2.2.1⟩ (fun hHeld => ?_)
   clear hK K
   refine nm ?_
   refine on_ 1 (some 30) HT_.out rfl rfl fun K hK => ?_
   refine gs_ Try.func50 #[.pointer (some ⟨gG, 0, none⟩)] rfl rfl rfl rfl ?_
   (with_reducible refine (impl_none w _ PG gG T _ _ _ _ L HL.out ((HFB.out _).1 HF.out).1 ((HFB.out _).1 HF.out).2.2.1 HT.out).mono ?_)
   rintro e w2 ⟨BO, cO, PO, rfl, ho_, hb_, hk_, hn_⟩
   refine ⟨_, rfl, ?_⟩
   obtain ⟨gO, cq, he_, _, _, _⟩ := Kd.R_form ho_.1 (by rw [rowOf_len]; omega)
   injection he_ with ea_ el_ ec_
   clear el_
   subst ea_ ec_
   have D_XO_O := ap_ hn_ HXO
   replace HXO := sn hk_ HXO
   have D_XN_O := ap_ hn_ HXN
   replace HXN := sn hk_ HXN
   have NO := am (show ∀ k, PO k → n0 ≤ k from fun k h => Nat.le_trans ((HFB.out _).1 HF.out).2.1 (hn_ k h))
   replace HF := am (HFS.out _ _ hk_ hb_ HF.out)
   have HO := am ho_
   clear ho_ hb_ hk_ hn_
   refine hK.out _ _ ⟨((((HFB.out _).1 HF.out).2.2.2.2.2.1.cell 0).trans rfl), ((((HFB.out _).1 HF.out).2.2.1.cell 1).trans rfl), ((HFB.out _).1 HF.out).2.2.2.2.2.2.2.2.2.1, ((HFB.out _).1 HF.out).2.2.2.2.2.2.2.2.2.2.1, ((HFB.out _).1 HF.out).2.2.2.2.2.2.2.2.2.2.2.1, ((HFB.out _).1 HF.out).2.2.2.2.2.2.2.2.2.2.2.2.1, ((HFB.out _).1 HF.out).2.2.2.2.2.2.2.2.2.2.2.2.2.1, ((HFB.out _).1 HF.out).2.2.2.2.2.2.2.2.2.2.2.2.2.2.1⟩ (fun hHeld => ?_)
   clear hK K
   refine nm ?_
   exact norm_ (by first | (simp only [putAll, Act.put, List.setIfInBounds_toArray, List.set_cons_zero, List.set_cons_succ]; done) | (simp only [putAll, Act.put, List.setIfInBounds_toArray, List.set_cons_zero, List.set_cons_succ]; rfl)) (hJ (gO, cO, gXO, gXN) _ ⟨gO, cO, gXO, gXN, PO, PXO, PXN, rfl, HF, HO, HXO, HXN, D_XO_O, D_XN_O, ⟨apart_symm D_XO_XN.out⟩, NO, NXO, NXN⟩)
  skip
  refine box_step (N := 11) (cs := #[.int .i64 0, .int .i64 0, .int .i64 0, .string ByteArray.empty, .slice none 0 0, .slice none 0 0]) (t := 76) (by rfl) rfl ?hr_17 ?_
  (case hr_17 => first | (go_simp; done) | (go_simp; rfl))
  intro gXN hg w2 hbox hb
  have hk := kept_below hb
  obtain ⟨PXN, hPXN, HLXN⟩ := LB.fresh hg hbox
  have HXN := am HLXN
  have NXN := am (show ∀ k, PXN k → n0 ≤ k from fun k h => Nat.le_trans ((HFB.out _).1 HF.out).2.1 (hPXN k h).1)
  replace HF := am (HFS.out _ _ hk (below_step ((HFB.out _).1 HF.out).1 hb) HF.out)
  clear hb hk hbox hg HLXN hPXN
  refine hK.out _ _ ⟨((((HFB.out _).1 HF.out).2.2.2.2.2.1.cell 0).trans rfl), ((((HFB.out _).1 HF.out).2.2.1.cell 1).trans rfl), ((HFB.out _).1 HF.out).2.2.2.2.2.2.2.2.2.1, ((HFB.out _).1 HF.out).2.2.2.2.2.2.2.2.2.2.1, ((HFB.out _).1 HF.out).2.2.2.2.2.2.2.2.2.2.2.1, ((HFB.out _).1 HF.out).2.2.2.2.2.2.2.2.2.2.2.2.1, ((HFB.out _).1 HF.out).2.2.2.2.2.2.2.2.2.2.2.2.2.1, ((HFB.out _).1 HF.out).2.2.2.2.2.2.2.2.2.2.2.2.2.2.1⟩ (fun hHeld => ?_)
  clear hK K
  refine nm ?_
  refine two_ (i := 1) (j := 9) (Ni := some 30) (Nj := some 10) #[true, true, true, true, true, true, true, true, true, false, true, false, false] #[true, false, true, true, true, true, true, true, true, true, true, false, false] rfl rfl rfl rfl (two_of HT_.out (by kernel_rfl)) (by decide) (by decide) (fun K hK => ?_) (fun K hK => ?_)
  ·
   skip
   refine gs_ Try.func50 #[.pointer (some ⟨gG, 0, none⟩)] rfl rfl rfl rfl ?_
   (with_reducible refine (impl_none w _ PG gG T _ _ _ _ L HL.out ((HFB.out _).1 HF.out).1 ((HFB.out _).1 HF.out).2.2.1 HT.out).mono ?_)
   rintro e w2 ⟨BO, cO, PO, rfl, ho_, hb_, hk_, hn_⟩
   refine ⟨_, rfl, ?_⟩
   obtain ⟨gO, cq, he_, _, _, _⟩ := Kd.R_form ho_.1 (by rw [rowOf_len]; omega)
   injection he_ with ea_ el_ ec_
   clear el_
   subst ea_ ec_
   have D_XN_O := ap_ hn_ HXN
   replace HXN := sn hk_ HXN
   have NO := am (show ∀ k, PO k → n0 ≤ k from fun k h => Nat.le_trans ((HFB.out _).1 HF.out).2.1 (hn_ k h))
   replace HF := am (HFS.out _ _ hk_ hb_ HF.out)
   have HO := am ho_
   clear ho_ hb_ hk_ hn_
   refine hK.out _ _ ⟨((((HFB.out _).1 HF.out).2.2.2.2.2.1.cell 0).trans rfl), ((((HFB.out _).1 HF.out).2.2.1.cell 1).trans rfl), ((HFB.out _).1 HF.out).2.2.2.2.2.2.2.2.2.1, ((HFB.out _).1 HF.out).2.2.2.2.2.2.2.2.2.2.1, ((HFB.out _).1 HF.out).2.2.2.2.2.2.2.2.2.2.2.1, ((HFB.out _).1 HF.out).2.2.2.2.2.2.2.2.2.2.2.2.1, ((HFB.out _).1 HF.out).2.2.2.2.2.2.2.2.2.2.2.2.2.1, ((HFB.out _).1 HF.out).2.2.2.2.2.2.2.2.2.2.2.2.2.2.1⟩ (fun hHeld => ?_)
   clear hK K
   refine nm ?_
   refine on_ 9 (some 10) HT_.out rfl rfl fun K hK => ?_
   refine box_step (N := 10) (cs := #[.slice none 0 0]) (t := 64) (by rfl) rfl ?hr_19 ?_
   (case hr_19 => first | (go_simp; done) | (go_simp; rfl))
   intro gXO hg w2 hbox hb
   have hk := kept_below hb
   obtain ⟨PXO, hPXO, HLXO⟩ := LB.fresh hg hbox
   have HXO := am HLXO
   have D_XN_XO := na hPXO HXN
   replace HXN := sn hk HXN
   have D_O_XO := nl hPXO HO.out.lt
   replace HO := rn hk HO
   have NXO := am (show ∀ k, PXO k → n0 ≤ k from fun k h => Nat.le_trans ((HFB.out _).1 HF.out).2.1 (hPXO k h).1)
   replace HF := am (HFS.out _ _ hk (below_step ((HFB.out _).1 HF.out).1 hb) HF.out)
   clear hb hk hbox hg HLXO hPXO
   refine hK.out _ _ ⟨((((HFB.out _).1 HF.out).2.2.2.2.2.1.cell 0).trans rfl), ((((HFB.out _).1 HF.out).2.2.1.cell 1).trans rfl), ((HFB.out _).1 HF.out).2.2.2.2.2.2.2.2.2.1, ((HFB.out _).1 HF.out).2.2.2.2.2.2.2.2.2.2.1, ((HFB.out _).1 HF.out).2.2.2.2.2.2.2.2.2.2.2.1, ((HFB.out _).1 HF.out).2.2.2.2.2.2.2.2.2.2.2.2.1, ((HFB.out _).1 HF.out).2.2.2.2.2.2.2.2.2.2.2.2.2.1, ((HFB.out _).1 HF.out).2.2.2.2.2.2.2.2.2.2.2.2.2.2.1⟩ (fun hHeld => ?_)
   clear hK K
   refine nm ?_
   exact norm_ (by first | (simp only [putAll, Act.put, List.setIfInBounds_toArray, List.set_cons_zero, List.set_cons_succ]; done) | (simp only [putAll, Act.put, List.setIfInBounds_toArray, List.set_cons_zero, List.set_cons_succ]; rfl)) (hJ (gO, cO, gXO, gXN) _ ⟨gO, cO, gXO, gXN, PO, PXO, PXN, rfl, HF, HO, HXO, HXN, ⟨apart_symm D_O_XO.out⟩, D_XN_O, D_XN_XO, NO, NXO, NXN⟩)
  skip
  refine box_step (N := 10) (cs := #[.slice none 0 0]) (t := 64) (by rfl) rfl ?hr_20 ?_
  (case hr_20 => first | (go_simp; done) | (go_simp; rfl))
  intro gXO hg w2 hbox hb
  have hk := kept_below hb
  obtain ⟨PXO, hPXO, HLXO⟩ := LB.fresh hg hbox
  have HXO := am HLXO
  have D_XN_XO := na hPXO HXN
  replace HXN := sn hk HXN
  have NXO := am (show ∀ k, PXO k → n0 ≤ k from fun k h => Nat.le_trans ((HFB.out _).1 HF.out).2.1 (hPXO k h).1)
  replace HF := am (HFS.out _ _ hk (below_step ((HFB.out _).1 HF.out).1 hb) HF.out)
  clear hb hk hbox hg HLXO hPXO
  refine hK.out _ _ ⟨((((HFB.out _).1 HF.out).2.2.2.2.2.1.cell 0).trans rfl), ((((HFB.out _).1 HF.out).2.2.1.cell 1).trans rfl), ((HFB.out _).1 HF.out).2.2.2.2.2.2.2.2.2.1, ((HFB.out _).1 HF.out).2.2.2.2.2.2.2.2.2.2.1, ((HFB.out _).1 HF.out).2.2.2.2.2.2.2.2.2.2.2.1, ((HFB.out _).1 HF.out).2.2.2.2.2.2.2.2.2.2.2.2.1, ((HFB.out _).1 HF.out).2.2.2.2.2.2.2.2.2.2.2.2.2.1, ((HFB.out _).1 HF.out).2.2.2.2.2.2.2.2.2.2.2.2.2.2.1⟩ (fun hHeld => ?_)
  clear hK K
  refine nm ?_
  refine on_ 1 (some 30) HT_.out rfl rfl fun K hK => ?_
  refine gs_ Try.func50 #[.pointer (some ⟨gG, 0, none⟩)] rfl rfl rfl rfl ?_
  (with_reducible refine (impl_none w _ PG gG T _ _ _ _ L HL.out ((HFB.out _).1 HF.out).1 ((HFB.out _).1 HF.out).2.2.1 HT.out).mono ?_)
  rintro e w2 ⟨BO, cO, PO, rfl, ho_, hb_, hk_, hn_⟩
  refine ⟨_, rfl, ?_⟩
  obtain ⟨gO, cq, he_, _, _, _⟩ := Kd.R_form ho_.1 (by rw [rowOf_len]; omega)
  injection he_ with ea_ el_ ec_
  clear el_
  subst ea_ ec_
  have D_XN_O := ap_ hn_ HXN
  replace HXN := sn hk_ HXN
  have D_XO_O := ap_ hn_ HXO
  replace HXO := sn hk_ HXO
  have NO := am (show ∀ k, PO k → n0 ≤ k from fun k h => Nat.le_trans ((HFB.out _).1 HF.out).2.1 (hn_ k h))
  replace HF := am (HFS.out _ _ hk_ hb_ HF.out)
  have HO := am ho_
  clear ho_ hb_ hk_ hn_
  refine hK.out _ _ ⟨((((HFB.out _).1 HF.out).2.2.2.2.2.1.cell 0).trans rfl), ((((HFB.out _).1 HF.out).2.2.1.cell 1).trans rfl), ((HFB.out _).1 HF.out).2.2.2.2.2.2.2.2.2.1, ((HFB.out _).1 HF.out).2.2.2.2.2.2.2.2.2.2.1, ((HFB.out _).1 HF.out).2.2.2.2.2.2.2.2.2.2.2.1, ((HFB.out _).1 HF.out).2.2.2.2.2.2.2.2.2.2.2.2.1, ((HFB.out _).1 HF.out).2.2.2.2.2.2.2.2.2.2.2.2.2.1, ((HFB.out _).1 HF.out).2.2.2.2.2.2.2.2.2.2.2.2.2.2.1⟩ (fun hHeld => ?_)
  clear hK K
  refine nm ?_
  exact norm_ (by first | (simp only [putAll, Act.put, List.setIfInBounds_toArray, List.set_cons_zero, List.set_cons_succ]; done) | (simp only [putAll, Act.put, List.setIfInBounds_toArray, List.set_cons_zero, List.set_cons_succ]; rfl)) (hJ (gO, cO, gXO, gXN) _ ⟨gO, cO, gXO, gXN, PO, PXO, PXN, rfl, HF, HO, HXO, HXN, D_XO_O, D_XN_O, D_XN_XO, NO, NXO, NXN⟩)
 clear HF
 rintro _ w2 ⟨gO, cO, gXO, gXN, PO, PXO, PXN, rfl, HF, HO, HXO, HXN, D_XO_O, D_XN_O, D_XN_XO, NO, NXO, NXN⟩
 refine norm_ (a' := ?_) ?_ ?_
 rotate_left
 ·
  simp only [putAll, Act.put, List.setIfInBounds_toArray, List.set_cons_zero, List.set_cons_succ]
  rfl
 obtain ⟨HB, _, HG, HN, HE, HX1, HX2, HX3, HQ, HC0, HC1, HC2, HC3, HC4, HC5, HK⟩ := (HFB.out _).1 HF.out
 replace HB := am HB
 replace HK := am HK
 replace HG := am HG
 replace HN := am HN
 replace HE := am HE
 replace HX1 := am HX1
 replace HX2 := am HX2
 replace HX3 := am HX3
 replace HQ := am HQ
 replace HC0 := am HC0
 replace HC1 := am HC1
 replace HC2 := am HC2
 replace HC3 := am HC3
 replace HC4 := am HC4
 replace HC5 := am HC5
 clear HF HFB HFS
 have D_G_O := am (ip_apn LTG.out NO.out)
 have D_N_O := am (ip_apn LTN.out NO.out)
 have D_E_O := am (ip_apn LTE.out NO.out)
 have D_X1_O := am (ip_apn LTX1.out NO.out)
 have D_X2_O := am (ip_apn LTX2.out NO.out)
 have D_X3_O := am (ip_apn LTX3.out NO.out)
 have D_Q_O := am (ip_apn LTQ.out NO.out)
 have D_G_XO := am (ip_apn LTG.out NXO.out)
 have D_N_XO := am (ip_apn LTN.out NXO.out)
 have D_E_XO := am (ip_apn LTE.out NXO.out)
 have D_X1_XO := am (ip_apn LTX1.out NXO.out)
 have D_X2_XO := am (ip_apn LTX2.out NXO.out)
 have D_X3_XO := am (ip_apn LTX3.out NXO.out)
 have D_Q_XO := am (ip_apn LTQ.out NXO.out)
 have D_G_XN := am (ip_apn LTG.out NXN.out)
 have D_N_XN := am (ip_apn LTN.out NXN.out)
 have D_E_XN := am (ip_apn LTE.out NXN.out)
 have D_X1_XN := am (ip_apn LTX1.out NXN.out)
 have D_X2_XN := am (ip_apn LTX2.out NXN.out)
 have D_X3_XN := am (ip_apn LTX3.out NXN.out)
 have D_Q_XN := am (ip_apn LTQ.out NXN.out)
 have RRO := am (show ∀ k_, PO k_ → (fun k_ => k_ = gE ∨ k_ = gR) k_ ∨ ws.heap.size ≤ k_ from fun k_ h_ => .inr (Nat.le_trans HW0.out.1 (NO.out k_ h_)))
 have RRXO := am (show ∀ k_, PXO k_ → (fun k_ => k_ = gE ∨ k_ = gR) k_ ∨ ws.heap.size ≤ k_ from fun k_ h_ => .inr (Nat.le_trans HW0.out.1 (NXO.out k_ h_)))
 have RRXN := am (show ∀ k_, PXN k_ → (fun k_ => k_ = gE ∨ k_ = gR) k_ ∨ ws.heap.size ≤ k_ from fun k_ h_ => .inr (Nat.le_trans HW0.out.1 (NXN.out k_ h_)))
 have GEXO := am (show w.heap.size ≤ gXO from Nat.le_trans HW0.out.2 (NXO.out gXO ((HXO.out.1 gXO).2 rfl)))
 have GEXN := am (show w.heap.size ≤ gXN from Nat.le_trans HW0.out.2 (NXN.out gXN ((HXN.out.1 gXN).2 rfl)))
 clear NO NXO NXN LTG LTN LTE LTX1 LTX2 LTX3 LTQ
 replace jG := HG.out.c5
 replace jX1 := HX1.out.c1
 replace jX2 := HX2.out.c1
 replace jX3 := HX3.out.c2
 replace jXO := HXO.out.c1
 replace jXN := HXN.out.c6
 refine on_ 11 none HT_.out rfl rfl fun K hK => ?_
 refine LB.storedW_step HXO.out HB.out GEXO.out [.slice (some ⟨gO, 0, none⟩) L cO] rfl (by rfl) rfl ?hr_22 ?_
 (case hr_22 => first | (go_simp; done) | (go_simp; simp only [World.setCells, Nat.reduceAdd, Nat.zero_add]; done))
 intro w2 hx hk hb
 have hkc_ := hk
 replace HG := ss hk HG D_G_XO.out
 replace HN := ns_ hk HN D_N_XO.out
 replace HE := am (HE.out.step hk D_E_XO.out)
 replace HX1 := ss hk HX1 D_X1_XO.out
 replace HX2 := ss hk HX2 D_X2_XO.out
 replace HX3 := ss hk HX3 D_X3_XO.out
 replace HQ := ns_ hk HQ D_Q_XO.out
 replace HO := rs hk HO (apart_symm D_XO_O.out)
 replace HXN := ss hk HXN D_XN_XO.out
 replace HK := kr HK hk RRXO
 replace HB := am hb
 replace HXO := am (show LB w2 PXO gXO 64 #[.slice (some ⟨gO, 0, none⟩) L cO] from hx)
 clear hk hx hb
 replace jG := HG.out.c5
 replace jX1 := HX1.out.c1
 replace jX2 := HX2.out.c1
 replace jX3 := HX3.out.c2
 replace jXO := HXO.out.c1
 replace jXN := HXN.out.c6
 replace HC0 := am (cellN (ad := adN.add (node * 6)) hkc_ (fun h_ => D_N_XO.out _ HNB.out (by have h2_ : PXO (adN.add (node * 6)).block := h_; rwa [add_block] at h2_)) HC0.out)
 replace HC1 := am (cellN (ad := ⟨(adN.add (node * 6)).block, (adN.add (node * 6)).off + 1, none⟩) hkc_ (fun h_ => D_N_XO.out _ HNB.out (by have h2_ : PXO (adN.add (node * 6)).block := h_; rwa [add_block] at h2_)) HC1.out)
 replace HC2 := am (cellN (ad := ⟨(adN.add (node * 6)).block, (adN.add (node * 6)).off + 2, none⟩) hkc_ (fun h_ => D_N_XO.out _ HNB.out (by have h2_ : PXO (adN.add (node * 6)).block := h_; rwa [add_block] at h2_)) HC2.out)
 replace HC3 := am (cellN (ad := ⟨(adN.add (node * 6)).block, (adN.add (node * 6)).off + 3, none⟩) hkc_ (fun h_ => D_N_XO.out _ HNB.out (by have h2_ : PXO (adN.add (node * 6)).block := h_; rwa [add_block] at h2_)) HC3.out)
 replace HC4 := am (cellN (ad := ⟨(adN.add (node * 6)).block, (adN.add (node * 6)).off + 4, none⟩) hkc_ (fun h_ => D_N_XO.out _ HNB.out (by have h2_ : PXO (adN.add (node * 6)).block := h_; rwa [add_block] at h2_)) HC4.out)
 replace HC5 := am (cellN (ad := ⟨(adN.add (node * 6)).block, (adN.add (node * 6)).off + 5, none⟩) hkc_ (fun h_ => D_N_XO.out _ HNB.out (by have h2_ : PXO (adN.add (node * 6)).block := h_; rwa [add_block] at h2_)) HC5.out)
 clear hkc_
 refine hK.out _ _ ⟨jX1.1, jG.2.2.1, HC0.out, HC1.out, HC2.out, HC3.out, HC4.out, HC5.out⟩ (fun hHeld => ?_)
 clear hK K
 refine la_ 12 none HT_.out rfl rfl fun K hK => ?_
 refine LB.storedW_step HXN.out HB.out GEXN.out [.int .i64 f0, .int .i64 f1, .int .i64 f2, .string f3, .slice A4 l.length c4, .slice A5 ks.length c5] rfl (by rfl) rfl ?hr_23 ?_
 (case hr_23 => first | (go_simp; done) | (go_simp; simp only [World.setCells, Nat.reduceAdd, Nat.zero_add]; done))
 intro w2 hx hk hb
 replace HG := ss hk HG D_G_XN.out
 replace HN := ns_ hk HN D_N_XN.out
 replace HE := am (HE.out.step hk D_E_XN.out)
 replace HX1 := ss hk HX1 D_X1_XN.out
 replace HX2 := ss hk HX2 D_X2_XN.out
 replace HX3 := ss hk HX3 D_X3_XN.out
 replace HQ := ns_ hk HQ D_Q_XN.out
 replace HO := rs hk HO (apart_symm D_XN_O.out)
 replace HXO := ss hk HXO (apart_symm D_XN_XO.out)
 replace HK := kr HK hk RRXN
 replace HB := am hb
 replace HXN := am (show LB w2 PXN gXN 76 #[.int .i64 f0, .int .i64 f1, .int .i64 f2, .string f3, .slice A4 l.length c4, .slice A5 ks.length c5] from hx)
 clear hk hx hb
 replace jG := HG.out.c5
 replace jX1 := HX1.out.c1
 replace jX2 := HX2.out.c1
 replace jX3 := HX3.out.c2
 replace jXO := HXO.out.c1
 replace jXN := HXN.out.c6
 refine hK.out _ _ ?_
 clear hK K
 refine dn HT_ ?_
 clear HC0 HC1 HC2 HC3 HC4 HC5 HNB
 go_upto_block 0 with (fail)
 go_cut [] from 13 (fun w' => ∃ PE1 : Nat → Prop, Aside0 (Below w.heap.size w w') ∧ Aside0 (LB w' PG gG 74 #[.string T, .slice (some adN) ns.length DN, .map (some gE), .map (some gR), VG]) ∧ Aside0 (LN kNA 76 w' w.heap.size PN (.slice (some adN) ns.length DN) ns) ∧ Aside0 (imK ⟨PG, PN, gG, gE, gR, some adN, DN, T, L, ns⟩ w' PE1) ∧ Aside0 (LB w' PX1 gX1 54 #[.pointer (some ⟨gG, 0, none⟩)]) ∧ Aside0 (LB w' PX2 gX2 3 #[.int .i64 (i : Int)]) ∧ Aside0 (LB w' PX3 gX3 86 #[.int .i64 (node : Int), .int .i64 (i : Int)]) ∧ Aside0 (LN (Kd.int .i64) 3 w' w.heap.size PN (.slice A5 ks.length c5) ks) ∧ Aside0 (LR Kd.bool 4 w' w.heap.size PO (.slice (some ⟨gO, 0, none⟩) L cO) (imRow T (⟨f0, f1, f2, f3, l⟩ : S31) i)) ∧ Aside0 (LB w' PXO gXO 64 #[.slice (some ⟨gO, 0, none⟩) L cO]) ∧ Aside0 (LB w' PXN gXN 76 #[.int .i64 f0, .int .i64 f1, .int .i64 f2, .string f3, .slice A4 l.length c4, .slice A5 ks.length c5]) ∧ Aside0 (∀ k, PG k → ¬ PE1 k) ∧ Aside0 (∀ k, PN k → ¬ PE1 k) ∧ Aside0 (∀ k, PX1 k → ¬ PE1 k) ∧ Aside0 (∀ k, PX2 k → ¬ PE1 k) ∧ Aside0 (∀ k, PX3 k → ¬ PE1 k) ∧ Aside0 (∀ k, PN k → ¬ PE1 k) ∧ Aside0 (∀ k, PO k → ¬ PE1 k) ∧ Aside0 (∀ k, PXO k → ¬ PE1 k) ∧ Aside0 (∀ k, PXN k → ¬ PE1 k) ∧ Aside0 (Kept ws w' (fun k_ => k_ = gE ∨ k_ = gR)) ∧ Aside0 (∀ k, PE k → PE1 k) ∧ Aside0 (∀ k, PE1 k → PE k ∨ ws.heap.size ≤ k))
 case first =>
  by_cases hk_ : f0 = 1
  ·
   have k1 : (f0 == 1) = true := beq_iff_eq.mpr hk_
   have HKD := am hk_
   clear hk_
   try clear hn1
   try clear hn2
   try clear hn3
   try clear hn4
   try clear hn5
   try clear hn6
   try clear hn8
   try clear hn7
   try clear hn9
   by_cases hlt : i < T.size
   ·
    have clt : decide ((i : Int) < (T.size : Int)) = true := decide_eq_true (Int.ofNat_lt.2 hlt)
    have cltn := decide_eq_true hlt
    have HLT := am hlt
    clear hlt
    have pI := zn i
    have qI := il HLT.out
    have qIn := eq_true HLT.out
    have hx5 := bt_at T (i : Int)
    have hx6 : ∀ h : i < T.size, ((T[i]'h).toNat : Int) = bt T (i : Int) := hx5
    have bw : wrap64 (bt T (i : Int)) = bt T (i : Int) := by have := bt_range T (i : Int); unfold wrap64; omega
    have bwk : IntKind.i64.wrap (bt T (i : Int)) = bt T (i : Int) := (i64_w _).trans bw
    obtain ⟨vb, hvb⟩ : ∃ b_, b_ = decide (bt T (i : Int) = f1) := ⟨_, rfl⟩
    have kb : (bt T (i : Int) == f1) = vb := hvb.symm
    have HV := am hvb.symm
    clear hvb
    go_upto_region 9 with (fail)
    refine sr (n := 22) (S := fun w' => w'.cell? ⟨gX2, 0, none⟩ = some (.int .i64 (i : Int)) ∧ w'.cell? ⟨gX1, 0, none⟩ = some (.pointer (some ⟨gG, 0, none⟩)) ∧ w'.cell? ⟨gG, 0, none⟩ = some (.string T) ∧ w'.cell? ⟨gXN, 1, none⟩ = some (.int .i64 f1) ∧ w'.cell? ⟨gXN, 3, none⟩ = some (.string f3)) (ds := [21]) ⟨jX2.1, jX1.1, jG.1, jXN.2.2.1, jXN.2.2.2.2.2.2.1⟩ (fun hHeld => ?_)
    refine with_tabW impl_from.tab9 impl_from.bits9 (fun HT_ HW_ => ?_)
    generalize hwd_ : World.drew w2 = wd_ at hHeld ⊢
    have hk := kept_drew hwd_
    replace HG := sn hk HG
    replace HN := nn hk HN
    replace HE := am (HE.out.step hk no_S)
    replace HX1 := sn hk HX1
    replace HX2 := sn hk HX2
    replace HX3 := sn hk HX3
    replace HQ := nn hk HQ
    replace HO := rn hk HO
    replace HXO := sn hk HXO
    replace HXN := sn hk HXN
    replace HK := kt HK hk
    replace HB := bd HB hwd_
    clear hk hwd_
    replace jG := HG.out.c5
    replace jX1 := HX1.out.c1
    replace jX2 := HX2.out.c1
    replace jX3 := HX3.out.c2
    replace jXO := HXO.out.c1
    replace jXN := HXN.out.c6
    refine pu 0 44 HT_.out rfl rfl rfl ?_
    refine tk 1 45 HT_.out HW_.out hHeld rfl rfl rfl ?_
    refine tk 2 46 HT_.out HW_.out hHeld rfl rfl rfl ?_
    refine pu 3 47 HT_.out rfl rfl rfl ?_
    refine pu 4 48 HT_.out rfl rfl rfl ?_
    refine tk 5 49 HT_.out HW_.out hHeld rfl rfl rfl ?_
    refine pu 6 50 HT_.out rfl rfl rfl ?_
    refine pu 7 51 HT_.out rfl rfl rfl ?_
    refine pu 8 52 HT_.out rfl rfl rfl ?_
    refine tk 9 53 HT_.out HW_.out hHeld rfl rfl rfl ?_
    refine pu 10 54 HT_.out rfl rfl rfl ?_
    refine pu 11 55 HT_.out rfl rfl rfl ?_
    refine tk 12 56 HT_.out HW_.out hHeld rfl rfl rfl ?_
    refine tk 13 57 HT_.out HW_.out hHeld rfl rfl rfl ?_
    refine pu 14 58 HT_.out rfl rfl rfl ?_
    refine pu 15 59 HT_.out rfl rfl rfl ?_
    refine pu 16 60 HT_.out rfl rfl rfl ?_
    refine pu 17 61 HT_.out rfl rfl rfl ?_
    refine tk 18 62 HT_.out HW_.out hHeld rfl rfl rfl ?_
    refine pu 19 63 HT_.out rfl rfl rfl ?_
    refine pu 20 64 HT_.out rfl rfl rfl ?_
    refine la_ 21 (some 65) HT_.out rfl rfl fun K hK => ?_
    refine imVr_ Try.func51 (by kernel_rfl) rfl #[.bool vb, .pointer (some ⟨gX2, 0, none⟩), .pointer (some ⟨gX1, 0, none⟩), .pointer (some ⟨gXO, 0, none⟩)] (by rfl) rfl rfl (cap := #[.pointer (some ⟨gX2, 0, none⟩), .pointer (some ⟨gX1, 0, none⟩), .pointer (some ⟨gXO, 0, none⟩)]) (by rfl) rfl ?_
    (with_reducible refine (impl_step w _ PG PX2 PX1 PXO PO gG gX2 gX1 gXO gO L cO T _ _ _ _ i vb (fun _ => false) HL.out HT.out HI.out HB.out HG.out HX2.out HX1.out HXO.out HO.out D_G_O.out D_X2_O.out D_X1_O.out D_XO_O.out).mono ?_)
    rintro e w2 ⟨rfl, ho_, hb_, hk_⟩
    refine ⟨_, rfl, ?_⟩
    replace HG := ss hk_ HG D_G_O.out
    replace HN := ns_ hk_ HN D_N_O.out
    replace HE := am (HE.out.step hk_ D_E_O.out)
    replace HX1 := ss hk_ HX1 D_X1_O.out
    replace HX2 := ss hk_ HX2 D_X2_O.out
    replace HX3 := ss hk_ HX3 D_X3_O.out
    replace HQ := ns_ hk_ HQ D_Q_O.out
    replace HXO := ss hk_ HXO D_XO_O.out
    replace HXN := ss hk_ HXN D_XN_O.out
    replace HK := kr HK hk_ RRO
    replace HB := am hb_
    replace HO := am ho_
    clear ho_ hb_ hk_
    replace jG := HG.out.c5
    replace jX1 := HX1.out.c1
    replace jX2 := HX2.out.c1
    replace jX3 := HX3.out.c2
    replace jXO := HXO.out.c1
    replace jXN := HXN.out.c6
    refine hK.out _ _ ?_
    clear hK K
    refine nm ?_
    refine dn HT_ ?_
    have hrow_ := imRowStep (imTx T) T.size i (⟨f0, f1, f2, f3, l⟩ : S31) vb (decide (bt T (i : Int) = f1)) (fun j => by have h := HKD.out; subst h; exact imChar _ _ _ _ _ _ _ j) (fun _ => HV.out.symm)
    replace HO := am (show LR Kd.bool 4 _ w.heap.size PO (.slice (some ⟨gO, 0, none⟩) L cO) (imRow T (⟨f0, f1, f2, f3, l⟩ : S31) i) from by have h_ := HO.out; rw [hrow_] at h_; exact h_)
    clear hrow_
    go_wp2
    go_meet
    case rel => exact rmF0
   have clt : decide ((i : Int) < (T.size : Int)) = false := decide_eq_false (by omega)
   have cltn : decide (i < T.size) = false := decide_eq_false hlt
   have HLT := am hlt
   clear hlt
   go_upto_region 9 with (fail)
   refine sr (n := 22) (S := fun w' => w'.cell? ⟨gX2, 0, none⟩ = some (.int .i64 (i : Int)) ∧ w'.cell? ⟨gX1, 0, none⟩ = some (.pointer (some ⟨gG, 0, none⟩)) ∧ w'.cell? ⟨gG, 0, none⟩ = some (.string T) ∧ w'.cell? ⟨gXN, 1, none⟩ = some (.int .i64 f1) ∧ w'.cell? ⟨gXN, 3, none⟩ = some (.string f3)) (ds := [21]) ⟨jX2.1, jX1.1, jG.1, jXN.2.2.1, jXN.2.2.2.2.2.2.1⟩ (fun hHeld => ?_)
   refine with_tabW impl_from.tab9 impl_from.bits9 (fun HT_ HW_ => ?_)
   generalize hwd_ : World.drew w2 = wd_ at hHeld ⊢
   have hk := kept_drew hwd_
   replace HG := sn hk HG
   replace HN := nn hk HN
   replace HE := am (HE.out.step hk no_S)
   replace HX1 := sn hk HX1
   replace HX2 := sn hk HX2
   replace HX3 := sn hk HX3
   replace HQ := nn hk HQ
   replace HO := rn hk HO
   replace HXO := sn hk HXO
   replace HXN := sn hk HXN
   replace HK := kt HK hk
   replace HB := bd HB hwd_
   clear hk hwd_
   replace jG := HG.out.c5
   replace jX1 := HX1.out.c1
   replace jX2 := HX2.out.c1
   replace jX3 := HX3.out.c2
   replace jXO := HXO.out.c1
   replace jXN := HXN.out.c6
   refine pu 0 44 HT_.out rfl rfl rfl ?_
   refine tk 1 45 HT_.out HW_.out hHeld rfl rfl rfl ?_
   refine tk 2 46 HT_.out HW_.out hHeld rfl rfl rfl ?_
   refine pu 3 47 HT_.out rfl rfl rfl ?_
   refine pu 4 48 HT_.out rfl rfl rfl ?_
   refine tk 5 49 HT_.out HW_.out hHeld rfl rfl rfl ?_
   refine pu 6 50 HT_.out rfl rfl rfl ?_
   refine pu 7 51 HT_.out rfl rfl rfl ?_
   refine pu 8 52 HT_.out rfl rfl rfl ?_
   refine un 9 53 HT_.out rfl rfl rfl ?_
   refine un 10 54 HT_.out rfl rfl rfl ?_
   refine un 11 55 HT_.out rfl rfl rfl ?_
   refine un 12 56 HT_.out rfl rfl rfl ?_
   refine un 13 57 HT_.out rfl rfl rfl ?_
   refine un 14 58 HT_.out rfl rfl rfl ?_
   refine un 15 59 HT_.out rfl rfl rfl ?_
   refine un 16 60 HT_.out rfl rfl rfl ?_
   refine un 17 61 HT_.out rfl rfl rfl ?_
   refine un 18 62 HT_.out rfl rfl rfl ?_
   refine un 19 63 HT_.out rfl rfl rfl ?_
   refine pu 20 64 HT_.out rfl rfl rfl ?_
   refine la_ 21 (some 65) HT_.out rfl rfl fun K hK => ?_
   refine imVr_ Try.func51 (by kernel_rfl) rfl #[.bool false, .pointer (some ⟨gX2, 0, none⟩), .pointer (some ⟨gX1, 0, none⟩), .pointer (some ⟨gXO, 0, none⟩)] (by rfl) rfl rfl (cap := #[.pointer (some ⟨gX2, 0, none⟩), .pointer (some ⟨gX1, 0, none⟩), .pointer (some ⟨gXO, 0, none⟩)]) (by rfl) rfl ?_
   (with_reducible refine (impl_step w _ PG PX2 PX1 PXO PO gG gX2 gX1 gXO gO L cO T _ _ _ _ i false (fun _ => false) HL.out HT.out HI.out HB.out HG.out HX2.out HX1.out HXO.out HO.out D_G_O.out D_X2_O.out D_X1_O.out D_XO_O.out).mono ?_)
   rintro e w2 ⟨rfl, ho_, hb_, hk_⟩
   refine ⟨_, rfl, ?_⟩
   replace HG := ss hk_ HG D_G_O.out
   replace HN := ns_ hk_ HN D_N_O.out
   replace HE := am (HE.out.step hk_ D_E_O.out)
   replace HX1 := ss hk_ HX1 D_X1_O.out
   replace HX2 := ss hk_ HX2 D_X2_O.out
   replace HX3 := ss hk_ HX3 D_X3_O.out
   replace HQ := ns_ hk_ HQ D_Q_O.out
   replace HXO := ss hk_ HXO D_XO_O.out
   replace HXN := ss hk_ HXN D_XN_O.out
   replace HK := kr HK hk_ RRO
   replace HB := am hb_
   replace HO := am ho_
   clear ho_ hb_ hk_
   replace jG := HG.out.c5
   replace jX1 := HX1.out.c1
   replace jX2 := HX2.out.c1
   replace jX3 := HX3.out.c2
   replace jXO := HXO.out.c1
   replace jXN := HXN.out.c6
   refine hK.out _ _ ?_
   clear hK K
   refine nm ?_
   refine dn HT_ ?_
   have hrow_ := imRowStep (imTx T) T.size i (⟨f0, f1, f2, f3, l⟩ : S31) false (decide (bt T (i : Int) = f1)) (fun j => by have h := HKD.out; subst h; exact imChar _ _ _ _ _ _ _ j) (fun h => absurd h HLT.out)
   replace HO := am (show LR Kd.bool 4 _ w.heap.size PO (.slice (some ⟨gO, 0, none⟩) L cO) (imRow T (⟨f0, f1, f2, f3, l⟩ : S31) i) from by have h_ := HO.out; rw [hrow_] at h_; exact h_)
   clear hrow_
   go_wp2
   go_meet
   case rel => exact rmF0
  by_cases hk_ : f0 = 2
  ·
   have k1 : (f0 == 1) = false := bnf (by omega)
   have k2 : (f0 == 2) = true := beq_iff_eq.mpr hk_
   have HKD := am hk_
   clear hk_
   try clear hn1
   try clear hn2
   try clear hn3
   try clear hn4
   try clear hn5
   try clear hn6
   try clear hn8
   try clear hn7
   try clear hn9
   go_wp2_with (first | ((with_reducible refine gd 69 rfl ?_); refine imV_ (some 69) rfl rfl Try.func51 (by kernel_rfl) rfl #[.bool true, .pointer (some ⟨gX2, 0, none⟩), .pointer (some ⟨gX1, 0, none⟩), .pointer (some ⟨gXO, 0, none⟩)] rfl (cap := #[.pointer (some ⟨gX2, 0, none⟩), .pointer (some ⟨gX1, 0, none⟩), .pointer (some ⟨gXO, 0, none⟩)]) (by rfl) rfl ?_; (with_reducible refine (impl_step w _ PG PX2 PX1 PXO PO gG gX2 gX1 gXO gO L cO T _ _ _ _ i true (fun _ => false) HL.out HT.out HI.out HB.out HG.out HX2.out HX1.out HXO.out HO.out D_G_O.out D_X2_O.out D_X1_O.out D_XO_O.out).mono ?_); rintro e w2 ⟨rfl, ho_, hb_, hk_⟩; refine ⟨_, rfl, ?_⟩; replace HG := ss hk_ HG D_G_O.out; replace HN := ns_ hk_ HN D_N_O.out; replace HE := am (HE.out.step hk_ D_E_O.out); replace HX1 := ss hk_ HX1 D_X1_O.out; replace HX2 := ss hk_ HX2 D_X2_O.out; replace HX3 := ss hk_ HX3 D_X3_O.out; replace HQ := ns_ hk_ HQ D_Q_O.out; replace HXO := ss hk_ HXO D_XO_O.out; replace HXN := ss hk_ HXN D_XN_O.out; replace HK := kr HK hk_ RRO; replace HB := am hb_; replace HO := am ho_; clear ho_ hb_ hk_; replace jG := HG.out.c5; replace jX1 := HX1.out.c1; replace jX2 := HX2.out.c1; replace jX3 := HX3.out.c2; replace jXO := HXO.out.c1; replace jXN := HXN.out.c6))
   have hrow_ := imRowStep (imTx T) T.size i (⟨f0, f1, f2, f3, l⟩ : S31) true true (fun j => by have h := HKD.out; subst h; exact imAny _ _ _ _ _ _ _ j) (fun _ => rfl)
   replace HO := am (show LR Kd.bool 4 _ w.heap.size PO (.slice (some ⟨gO, 0, none⟩) L cO) (imRow T (⟨f0, f1, f2, f3, l⟩ : S31) i) from by have h_ := HO.out; rw [hrow_] at h_; exact h_)
   clear hrow_
   skip
   go_meet
   case rel => exact rmF0
  by_cases hk_ : f0 = 3
  ·
   have k1 : (f0 == 1) = false := bnf (by omega)
   have k2 : (f0 == 2) = false := bnf (by omega)
   have k3 : (f0 == 3) = true := beq_iff_eq.mpr hk_
   have HKD := am hk_
   clear hk_
   try clear hn1
   try clear hn2
   try clear hn3
   try clear hn4
   try clear hn5
   try clear hn6
   try clear hn8
   try clear hn7
   try clear hn9
   by_cases hlt : i < T.size
   ·
    have clt : decide ((i : Int) < (T.size : Int)) = true := decide_eq_true (Int.ofNat_lt.2 hlt)
    have cltn := decide_eq_true hlt
    have HLT := am hlt
    clear hlt
    have pI := zn i
    have qI := il HLT.out
    have qIn := eq_true HLT.out
    have hx5 := bt_at T (i : Int)
    have hx6 : ∀ h : i < T.size, ((T[i]'h).toNat : Int) = bt T (i : Int) := hx5
    have bw : wrap64 (bt T (i : Int)) = bt T (i : Int) := by have := bt_range T (i : Int); unfold wrap64; omega
    have bwk : IntKind.i64.wrap (bt T (i : Int)) = bt T (i : Int) := (i64_w _).trans bw
    obtain ⟨vb, hv⟩ : ∃ b_, inS f3 (bt T (i : Int)) = b_ := ⟨_, rfl⟩
    have HV := am hv
    have EC := am ((impl_contains.ev f3 (bt T (i : Int)) HSZ.out).trans (congrArg some hv))
    clear hv
    go_upto_region 13 with (fail)
    refine sr (n := 21) (S := fun w' => w'.cell? ⟨gX2, 0, none⟩ = some (.int .i64 (i : Int)) ∧ w'.cell? ⟨gX1, 0, none⟩ = some (.pointer (some ⟨gG, 0, none⟩)) ∧ w'.cell? ⟨gG, 0, none⟩ = some (.string T) ∧ w'.cell? ⟨gXN, 1, none⟩ = some (.int .i64 f1) ∧ w'.cell? ⟨gXN, 3, none⟩ = some (.string f3)) (ds := [20]) ⟨jX2.1, jX1.1, jG.1, jXN.2.2.1, jXN.2.2.2.2.2.2.1⟩ (fun hHeld => ?_)
    refine with_tabW impl_from.tab13 impl_from.bits13 (fun HT_ HW_ => ?_)
    generalize hwd_ : World.drew w2 = wd_ at hHeld ⊢
    have hk := kept_drew hwd_
    replace HG := sn hk HG
    replace HN := nn hk HN
    replace HE := am (HE.out.step hk no_S)
    replace HX1 := sn hk HX1
    replace HX2 := sn hk HX2
    replace HX3 := sn hk HX3
    replace HQ := nn hk HQ
    replace HO := rn hk HO
    replace HXO := sn hk HXO
    replace HXN := sn hk HXN
    replace HK := kt HK hk
    replace HB := bd HB hwd_
    clear hk hwd_
    replace jG := HG.out.c5
    replace jX1 := HX1.out.c1
    replace jX2 := HX2.out.c1
    replace jX3 := HX3.out.c2
    replace jXO := HXO.out.c1
    replace jXN := HXN.out.c6
    refine pu 0 72 HT_.out rfl rfl rfl ?_
    refine tk 1 73 HT_.out HW_.out hHeld rfl rfl rfl ?_
    refine tk 2 74 HT_.out HW_.out hHeld rfl rfl rfl ?_
    refine pu 3 75 HT_.out rfl rfl rfl ?_
    refine pu 4 76 HT_.out rfl rfl rfl ?_
    refine tk 5 77 HT_.out HW_.out hHeld rfl rfl rfl ?_
    refine pu 6 78 HT_.out rfl rfl rfl ?_
    refine pu 7 79 HT_.out rfl rfl rfl ?_
    refine pu 8 80 HT_.out rfl rfl rfl ?_
    refine pu 9 81 HT_.out rfl rfl rfl ?_
    refine pu 10 82 HT_.out rfl rfl rfl ?_
    refine tk 11 83 HT_.out HW_.out hHeld rfl rfl rfl ?_
    refine tk 12 84 HT_.out HW_.out hHeld rfl rfl rfl ?_
    refine pu 13 85 HT_.out rfl rfl rfl ?_
    refine pu 14 86 HT_.out rfl rfl rfl ?_
    refine tk 15 87 HT_.out HW_.out hHeld rfl rfl rfl ?_
    refine tk 16 88 HT_.out HW_.out hHeld rfl rfl rfl ?_
    refine pu 17 89 HT_.out rfl rfl rfl ?_
    refine on_ 18 (some 90) HT_.out rfl rfl fun K hK => ?_
    refine goes_ Try.func52 (by kernel_rfl) rfl #[.string f3, .int .u8 (bt T (i : Int))] (by rfl) rfl rfl tA ?_
    (with_reducible refine (impl_contains.calls (f3.size + 1) f3 (bt T (i : Int)) vb _ EC.out).mono ?_)
    rintro e w2 ⟨rfl, hq⟩
    refine ⟨_, rfl, ?_⟩
    have hk := kept_drawn hq
    replace HG := sn hk HG
    replace HN := nn hk HN
    replace HE := am (HE.out.step hk no_S)
    replace HX1 := sn hk HX1
    replace HX2 := sn hk HX2
    replace HX3 := sn hk HX3
    replace HQ := nn hk HQ
    replace HO := rn hk HO
    replace HXO := sn hk HXO
    replace HXN := sn hk HXN
    replace HK := kt HK hk
    replace HB := am (below_drawn HB.out hq)
    clear hk hq
    replace jG := HG.out.c5
    replace jX1 := HX1.out.c1
    replace jX2 := HX2.out.c1
    replace jX3 := HX3.out.c2
    replace jXO := HXO.out.c1
    replace jXN := HXN.out.c6
    refine hK.out _ _ ⟨jX2.1, jX1.1, jG.1, jXN.2.2.1, jXN.2.2.2.2.2.2.1⟩ (fun hHeld => ?_)
    clear hK K
    refine nm ?_
    refine pu 19 91 HT_.out rfl rfl rfl ?_
    refine la_ 20 (some 92) HT_.out rfl rfl fun K hK => ?_
    refine imVr_ Try.func51 (by kernel_rfl) rfl #[.bool vb, .pointer (some ⟨gX2, 0, none⟩), .pointer (some ⟨gX1, 0, none⟩), .pointer (some ⟨gXO, 0, none⟩)] (by rfl) rfl rfl (cap := #[.pointer (some ⟨gX2, 0, none⟩), .pointer (some ⟨gX1, 0, none⟩), .pointer (some ⟨gXO, 0, none⟩)]) (by rfl) rfl ?_
    (with_reducible refine (impl_step w _ PG PX2 PX1 PXO PO gG gX2 gX1 gXO gO L cO T _ _ _ _ i vb (fun _ => false) HL.out HT.out HI.out HB.out HG.out HX2.out HX1.out HXO.out HO.out D_G_O.out D_X2_O.out D_X1_O.out D_XO_O.out).mono ?_)
    rintro e w2 ⟨rfl, ho_, hb_, hk_⟩
    refine ⟨_, rfl, ?_⟩
    replace HG := ss hk_ HG D_G_O.out
    replace HN := ns_ hk_ HN D_N_O.out
    replace HE := am (HE.out.step hk_ D_E_O.out)
    replace HX1 := ss hk_ HX1 D_X1_O.out
    replace HX2 := ss hk_ HX2 D_X2_O.out
    replace HX3 := ss hk_ HX3 D_X3_O.out
    replace HQ := ns_ hk_ HQ D_Q_O.out
    replace HXO := ss hk_ HXO D_XO_O.out
    replace HXN := ss hk_ HXN D_XN_O.out
    replace HK := kr HK hk_ RRO
    replace HB := am hb_
    replace HO := am ho_
    clear ho_ hb_ hk_
    replace jG := HG.out.c5
    replace jX1 := HX1.out.c1
    replace jX2 := HX2.out.c1
    replace jX3 := HX3.out.c2
    replace jXO := HXO.out.c1
    replace jXN := HXN.out.c6
    refine hK.out _ _ ?_
    clear hK K
    refine nm ?_
    refine dn HT_ ?_
    have hrow_ := imRowStep (imTx T) T.size i (⟨f0, f1, f2, f3, l⟩ : S31) vb (inS f3 (bt T (i : Int))) (fun j => by have h := HKD.out; subst h; exact imSet _ _ _ _ _ _ _ j) (fun _ => HV.out.symm)
    replace HO := am (show LR Kd.bool 4 _ w.heap.size PO (.slice (some ⟨gO, 0, none⟩) L cO) (imRow T (⟨f0, f1, f2, f3, l⟩ : S31) i) from by have h_ := HO.out; rw [hrow_] at h_; exact h_)
    clear hrow_
    go_wp2
    go_meet
    case rel => exact rmF0
   have clt : decide ((i : Int) < (T.size : Int)) = false := decide_eq_false (by omega)
   have cltn : decide (i < T.size) = false := decide_eq_false hlt
   have HLT := am hlt
   clear hlt
   go_upto_region 13 with (fail)
   refine sr (n := 21) (S := fun w' => w'.cell? ⟨gX2, 0, none⟩ = some (.int .i64 (i : Int)) ∧ w'.cell? ⟨gX1, 0, none⟩ = some (.pointer (some ⟨gG, 0, none⟩)) ∧ w'.cell? ⟨gG, 0, none⟩ = some (.string T) ∧ w'.cell? ⟨gXN, 1, none⟩ = some (.int .i64 f1) ∧ w'.cell? ⟨gXN, 3, none⟩ = some (.string f3)) (ds := [20]) ⟨jX2.1, jX1.1, jG.1, jXN.2.2.1, jXN.2.2.2.2.2.2.1⟩ (fun hHeld => ?_)
   refine with_tabW impl_from.tab13 impl_from.bits13 (fun HT_ HW_ => ?_)
   generalize hwd_ : World.drew w2 = wd_ at hHeld ⊢
   have hk := kept_drew hwd_
   replace HG := sn hk HG
   replace HN := nn hk HN
   replace HE := am (HE.out.step hk no_S)
   replace HX1 := sn hk HX1
   replace HX2 := sn hk HX2
   replace HX3 := sn hk HX3
   replace HQ := nn hk HQ
   replace HO := rn hk HO
   replace HXO := sn hk HXO
   replace HXN := sn hk HXN
   replace HK := kt HK hk
   replace HB := bd HB hwd_
   clear hk hwd_
   replace jG := HG.out.c5
   replace jX1 := HX1.out.c1
   replace jX2 := HX2.out.c1
   replace jX3 := HX3.out.c2
   replace jXO := HXO.out.c1
   replace jXN := HXN.out.c6
   refine pu 0 72 HT_.out rfl rfl rfl ?_
   refine tk 1 73 HT_.out HW_.out hHeld rfl rfl rfl ?_
   refine tk 2 74 HT_.out HW_.out hHeld rfl rfl rfl ?_
   refine pu 3 75 HT_.out rfl rfl rfl ?_
   refine pu 4 76 HT_.out rfl rfl rfl ?_
   refine tk 5 77 HT_.out HW_.out hHeld rfl rfl rfl ?_
   refine pu 6 78 HT_.out rfl rfl rfl ?_
   refine pu 7 79 HT_.out rfl rfl rfl ?_
   refine pu 8 80 HT_.out rfl rfl rfl ?_
   refine un 9 81 HT_.out rfl rfl rfl ?_
   refine un 10 82 HT_.out rfl rfl rfl ?_
   refine un 11 83 HT_.out rfl rfl rfl ?_
   refine un 12 84 HT_.out rfl rfl rfl ?_
   refine un 13 85 HT_.out rfl rfl rfl ?_
   refine un 14 86 HT_.out rfl rfl rfl ?_
   refine un 15 87 HT_.out rfl rfl rfl ?_
   refine un 16 88 HT_.out rfl rfl rfl ?_
   refine un 17 89 HT_.out rfl rfl rfl ?_
   refine un 18 90 HT_.out rfl rfl rfl ?_
   refine pu 19 91 HT_.out rfl rfl rfl ?_
   refine la_ 20 (some 92) HT_.out rfl rfl fun K hK => ?_
   refine imVr_ Try.func51 (by kernel_rfl) rfl #[.bool false, .pointer (some ⟨gX2, 0, none⟩), .pointer (some ⟨gX1, 0, none⟩), .pointer (some ⟨gXO, 0, none⟩)] (by rfl) rfl rfl (cap := #[.pointer (some ⟨gX2, 0, none⟩), .pointer (some ⟨gX1, 0, none⟩), .pointer (some ⟨gXO, 0, none⟩)]) (by rfl) rfl ?_
   (with_reducible refine (impl_step w _ PG PX2 PX1 PXO PO gG gX2 gX1 gXO gO L cO T _ _ _ _ i false (fun _ => false) HL.out HT.out HI.out HB.out HG.out HX2.out HX1.out HXO.out HO.out D_G_O.out D_X2_O.out D_X1_O.out D_XO_O.out).mono ?_)
   rintro e w2 ⟨rfl, ho_, hb_, hk_⟩
   refine ⟨_, rfl, ?_⟩
   replace HG := ss hk_ HG D_G_O.out
   replace HN := ns_ hk_ HN D_N_O.out
   replace HE := am (HE.out.step hk_ D_E_O.out)
   replace HX1 := ss hk_ HX1 D_X1_O.out
   replace HX2 := ss hk_ HX2 D_X2_O.out
   replace HX3 := ss hk_ HX3 D_X3_O.out
   replace HQ := ns_ hk_ HQ D_Q_O.out
   replace HXO := ss hk_ HXO D_XO_O.out
   replace HXN := ss hk_ HXN D_XN_O.out
   replace HK := kr HK hk_ RRO
   replace HB := am hb_
   replace HO := am ho_
   clear ho_ hb_ hk_
   replace jG := HG.out.c5
   replace jX1 := HX1.out.c1
   replace jX2 := HX2.out.c1
   replace jX3 := HX3.out.c2
   replace jXO := HXO.out.c1
   replace jXN := HXN.out.c6
   refine hK.out _ _ ?_
   clear hK K
   refine nm ?_
   refine dn HT_ ?_
   have hrow_ := imRowStep (imTx T) T.size i (⟨f0, f1, f2, f3, l⟩ : S31) false (inS f3 (bt T (i : Int))) (fun j => by have h := HKD.out; subst h; exact imSet _ _ _ _ _ _ _ j) (fun h => absurd h HLT.out)
   replace HO := am (show LR Kd.bool 4 _ w.heap.size PO (.slice (some ⟨gO, 0, none⟩) L cO) (imRow T (⟨f0, f1, f2, f3, l⟩ : S31) i) from by have h_ := HO.out; rw [hrow_] at h_; exact h_)
   clear hrow_
   go_wp2
   go_meet
   case rel => exact rmF0
  by_cases hk_ : f0 = 4
  ·
   have k1 : (f0 == 1) = false := bnf (by omega)
   have k2 : (f0 == 2) = false := bnf (by omega)
   have k3 : (f0 == 3) = false := bnf (by omega)
   have k4 : (f0 == 4) = true := beq_iff_eq.mpr hk_
   have HKD := am hk_
   clear hk_
   try clear hn1
   try clear hn2
   try clear hn3
   try clear hn4
   try clear hn5
   try clear hn6
   try clear hn8
   try clear hn7
   try clear hn9
   obtain ⟨vb, hvb⟩ : ∃ b_, (i == 0) = b_ := ⟨_, rfl⟩
   have ea : ((i : Int) == (0 : Int)) = vb := by rw [← hvb, Bool.eq_iff_iff, beq_iff_eq, beq_iff_eq]; omega
   have eb := hvb
   clear hvb
   have HEB := am eb
   have z1 := zn i
   have z2 := il HLI.out
   have z3 := eq_true HLI.out
   obtain ⟨hy0, hy1⟩ := im_at HO.out i HLI.out
   go_wp2_with (first | ((with_reducible refine gate_store (t := 4) (p := 99) rfl ?_); refine im_put1 HO.out HB.out i (HLI.out) vb rfl (t := 4) (p := 99) rfl rfl ?hr_29 ?_; (case hr_29 => first | (go_simp; done) | (go_simp; simp only [World.setCells, Nat.reduceAdd, Nat.zero_add]; done)); intro w2 hx hk hb; replace HG := ss hk HG D_G_O.out; replace HN := ns_ hk HN D_N_O.out; replace HE := am (HE.out.step hk D_E_O.out); replace HX1 := ss hk HX1 D_X1_O.out; replace HX2 := ss hk HX2 D_X2_O.out; replace HX3 := ss hk HX3 D_X3_O.out; replace HQ := ns_ hk HQ D_Q_O.out; replace HXO := ss hk HXO D_XO_O.out; replace HXN := ss hk HXN D_XN_O.out; replace HK := kr HK hk RRO; replace HB := am hb; rw [rowOf_set] at hx; replace HO := am hx; clear hk hx hb; (try clear hy0 hy1); replace jG := HG.out.c5; replace jX1 := HX1.out.c1; replace jX2 := HX2.out.c1; replace jX3 := HX3.out.c2; replace jXO := HXO.out.c1; replace jXN := HXN.out.c6))
   try clear z1 z2 z3
   have hrow_ := (show rowOf T.size (fun j => if j = i then vb else (fun _ => false) j) = imRow T (⟨f0, f1, f2, f3, l⟩ : S31) i from by have h_ := HKD.out; subst h_; have h2_ := imBegin (imTx T) T.size i f1 f2 f3 l; rw [HEB.out] at h2_; exact h2_)
   replace HO := am (show LR Kd.bool 4 _ w.heap.size PO (.slice (some ⟨gO, 0, none⟩) L cO) (imRow T (⟨f0, f1, f2, f3, l⟩ : S31) i) from by have h_ := HO.out; rw [hrow_] at h_; exact h_)
   clear hrow_
   skip
   go_meet
   case rel => exact rmF0
  by_cases hk_ : f0 = 5
  ·
   have k1 : (f0 == 1) = false := bnf (by omega)
   have k2 : (f0 == 2) = false := bnf (by omega)
   have k3 : (f0 == 3) = false := bnf (by omega)
   have k4 : (f0 == 4) = false := bnf (by omega)
   have k5 : (f0 == 5) = true := beq_iff_eq.mpr hk_
   have HKD := am hk_
   clear hk_
   try clear hn1
   try clear hn2
   try clear hn3
   try clear hn4
   try clear hn5
   try clear hn6
   try clear hn8
   try clear hn7
   try clear hn9
   obtain ⟨vb, hvb⟩ : ∃ b_, (i == T.size) = b_ := ⟨_, rfl⟩
   have ea : ((i : Int) == (T.size : Int)) = vb := by rw [← hvb, Bool.eq_iff_iff, beq_iff_eq, beq_iff_eq]; omega
   have eb := hvb
   clear hvb
   have HEB := am eb
   have z1 := zn i
   have z2 := il HLI.out
   have z3 := eq_true HLI.out
   obtain ⟨hy0, hy1⟩ := im_at HO.out i HLI.out
   go_upto_region 17 with (fail)
   refine sr (n := 11) (S := fun w' => w'.cell? ⟨gXO, 0, none⟩ = some (.slice (some ⟨gO, 0, none⟩) L cO) ∧ w'.cell? ⟨gX2, 0, none⟩ = some (.int .i64 (i : Int)) ∧ w'.cell? ⟨gX1, 0, none⟩ = some (.pointer (some ⟨gG, 0, none⟩)) ∧ w'.cell? ⟨gG, 0, none⟩ = some (.string T)) (ds := [10]) ⟨jXO.1, jX2.1, jX1.1, jG.1⟩ (fun hHeld => ?_)
   refine with_tabW impl_from.tab17 impl_from.bits17 (fun HT_ HW_ => ?_)
   generalize hwd_ : World.drew w2 = wd_ at hHeld ⊢
   have hk := kept_drew hwd_
   replace HG := sn hk HG
   replace HN := nn hk HN
   replace HE := am (HE.out.step hk no_S)
   replace HX1 := sn hk HX1
   replace HX2 := sn hk HX2
   replace HX3 := sn hk HX3
   replace HQ := nn hk HQ
   replace HO := rn hk HO
   replace HXO := sn hk HXO
   replace HXN := sn hk HXN
   replace HK := kt HK hk
   replace HB := bd HB hwd_
   clear hk hwd_
   replace jG := HG.out.c5
   replace jX1 := HX1.out.c1
   replace jX2 := HX2.out.c1
   replace jX3 := HX3.out.c2
   replace jXO := HXO.out.c1
   replace jXN := HXN.out.c6
   (try clear hy0 hy1)
   obtain ⟨hy0, hy1⟩ := im_at HO.out i HLI.out
   refine tk 0 102 HT_.out HW_.out hHeld rfl rfl rfl ?_
   refine tk 1 103 HT_.out HW_.out hHeld rfl rfl rfl ?_
   refine tk 2 104 HT_.out HW_.out hHeld rfl rfl rfl ?_
   refine tk 3 105 HT_.out HW_.out hHeld rfl rfl rfl ?_
   refine pu 4 106 HT_.out rfl rfl rfl ?_
   refine pu 5 107 HT_.out rfl rfl rfl ?_
   refine tk 6 108 HT_.out HW_.out hHeld rfl rfl rfl ?_
   refine pu 7 109 HT_.out rfl rfl rfl ?_
   refine pu 8 110 HT_.out rfl rfl rfl ?_
   refine pu 9 111 HT_.out rfl rfl rfl ?_
   refine la_ 10 none HT_.out rfl rfl fun K hK => ?_
   refine im_put1_step HO.out HB.out i (HLI.out) vb (by rfl) rfl ?hr_30 ?_
   (case hr_30 => first | (go_simp; done) | (go_simp; simp only [World.setCells, Nat.reduceAdd, Nat.zero_add]; done))
   intro w2 hx hk hb
   replace HG := ss hk HG D_G_O.out
   replace HN := ns_ hk HN D_N_O.out
   replace HE := am (HE.out.step hk D_E_O.out)
   replace HX1 := ss hk HX1 D_X1_O.out
   replace HX2 := ss hk HX2 D_X2_O.out
   replace HX3 := ss hk HX3 D_X3_O.out
   replace HQ := ns_ hk HQ D_Q_O.out
   replace HXO := ss hk HXO D_XO_O.out
   replace HXN := ss hk HXN D_XN_O.out
   replace HK := kr HK hk RRO
   replace HB := am hb
   rw [rowOf_set] at hx
   replace HO := am hx
   clear hk hx hb
   (try clear hy0 hy1)
   replace jG := HG.out.c5
   replace jX1 := HX1.out.c1
   replace jX2 := HX2.out.c1
   replace jX3 := HX3.out.c2
   replace jXO := HXO.out.c1
   replace jXN := HXN.out.c6
   refine hK.out _ _ ?_
   clear hK K
   refine dn HT_ ?_
   try clear z1 z2 z3
   have hrow_ := (show rowOf T.size (fun j => if j = i then vb else (fun _ => false) j) = imRow T (⟨f0, f1, f2, f3, l⟩ : S31) i from by have h_ := HKD.out; subst h_; have h2_ := imEnd (imTx T) T.size i f1 f2 f3 l; rw [HEB.out] at h2_; exact h2_)
   replace HO := am (show LR Kd.bool 4 _ w.heap.size PO (.slice (some ⟨gO, 0, none⟩) L cO) (imRow T (⟨f0, f1, f2, f3, l⟩ : S31) i) from by have h_ := HO.out; rw [hrow_] at h_; exact h_)
   clear hrow_
   go_wp2
   go_meet
   case rel => exact rmF0
  by_cases hk_ : f0 = 6
  ·
   have k1 : (f0 == 1) = false := bnf (by omega)
   have k2 : (f0 == 2) = false := bnf (by omega)
   have k3 : (f0 == 3) = false := bnf (by omega)
   have k4 : (f0 == 4) = false := bnf (by omega)
   have k5 : (f0 == 5) = false := bnf (by omega)
   have k6 : (f0 == 6) = true := beq_iff_eq.mpr hk_
   have HKD := am hk_
   clear hk_
   try clear hn1
   try clear hn2
   try clear hn3
   try clear hn4
   try clear hn5
   try clear hn6
   try clear hn8
   try clear hn7
   try clear hn9
   have HL1 := am (hw1 (.inl HKD.out))
   obtain ⟨y, hy⟩ : ∃ y, l[0]? = some y := ⟨_, List.getElem?_eq_getElem (by have := HL1.out; omega)⟩
   obtain ⟨pk, ks2, hpk, hpn⟩ := HKID.out 0 y hy
   try dsimp only at hpk
   have HFY := am (HFF.out y (List.mem_of_getElem? hy) pk ks2 i)
   have HPN := am hpn
   have HPK := am hpk
   have hkq : 0 < ks.length := (List.getElem?_eq_some_iff.1 hpk).1
   have HKQ := am hkq
   have v1_ := il hkq
   have v2_ := eq_true hkq
   have v0_ := zn 0
   have HY := am hy
   clear hpk hpn hkq hy
   go_upto_region 19 with (fail)
   obtain ⟨ad5, eA5, _⟩ := im_atI HQ.out 0 HKQ.out HPK.out
   subst eA5
   have hq5_ := im_cellI HQ.out 0 HKQ.out HPK.out
   refine sr (n := 9) (S := fun w' => w'.cell? ⟨gXO, 0, none⟩ = some (.slice (some ⟨gO, 0, none⟩) L cO) ∧ w'.cell? ⟨gX1, 0, none⟩ = some (.pointer (some ⟨gG, 0, none⟩)) ∧ w'.cell? ⟨gXN, 5, none⟩ = some (.slice (some ad5) ks.length c5) ∧ w'.cell? ⟨gX2, 0, none⟩ = some (.int .i64 (i : Int)) ∧ w'.cell? ad5 = some (.int .i64 (pk : Int))) (ds := [8]) ⟨jXO.1, jX1.1, jXN.2.2.2.2.2.2.2.2.2.2.1, jX2.1, (im_cellI HQ.out 0 HKQ.out HPK.out)⟩ (fun hHeld => ?_)
   refine with_tabW impl_from.tab19 impl_from.bits19 (fun HT_ HW_ => ?_)
   generalize hwd_ : World.drew w2 = wd_ at hHeld ⊢
   have hk := kept_drew hwd_
   replace HG := sn hk HG
   replace HN := nn hk HN
   replace HE := am (HE.out.step hk no_S)
   replace HX1 := sn hk HX1
   replace HX2 := sn hk HX2
   replace HX3 := sn hk HX3
   replace HQ := nn hk HQ
   replace HO := rn hk HO
   replace HXO := sn hk HXO
   replace HXN := sn hk HXN
   replace HK := kt HK hk
   replace HB := bd HB hwd_
   clear hk hwd_
   replace jG := HG.out.c5
   replace jX1 := HX1.out.c1
   replace jX2 := HX2.out.c1
   replace jX3 := HX3.out.c2
   replace jXO := HXO.out.c1
   replace jXN := HXN.out.c6
   refine tk 0 114 HT_.out HW_.out hHeld rfl rfl rfl ?_
   refine tk 1 115 HT_.out HW_.out hHeld rfl rfl rfl ?_
   refine pu 2 116 HT_.out rfl rfl rfl ?_
   refine tk 3 117 HT_.out HW_.out hHeld rfl rfl rfl ?_
   refine pu 4 118 HT_.out rfl rfl rfl ?_
   refine tk 5 119 HT_.out HW_.out hHeld rfl rfl rfl ?_
   refine tk 6 120 HT_.out HW_.out hHeld rfl rfl rfl ?_
   refine on_ 7 (some 121) HT_.out rfl rfl fun K hK => ?_
   refine gs_ Try.func38 #[.pointer (some ⟨gG, 0, none⟩), .int .i64 (pk : Int), .int .i64 (i : Int)] rfl rfl rfl rfl ?_
   (with_reducible refine (HFY.out _ _ HPN.out HI.out ⟨HB.out, HG.out, HN.out, HE.out, D_G_E.out, D_N_E.out⟩).mono ?_)
   rintro e w2 ⟨PE4, AR, cR, rfl, ⟨hb_, hg_, hn_, he_, hge_, hne_⟩, hcl_, hF_, hm1_, hm2_, hkk_⟩
   refine ⟨_, rfl, ?_⟩
   dsimp only at hb_ hg_ hn_ he_ hge_ hne_ hcl_ hF_ hkk_
   have D_X1_E4 := ay hm2_ HX1.out.lt D_E_X1
   have D_X2_E4 := ay hm2_ HX2.out.lt D_E_X2
   have D_X3_E4 := ay hm2_ HX3.out.lt D_E_X3
   have D_Q_E4 := ax hm2_ HQ.out.lt D_Q_E
   have D_O_E4 := ay hm2_ HO.out.lt D_E_O
   have D_XO_E4 := ay hm2_ HXO.out.lt D_E_XO
   have D_XN_E4 := ay hm2_ HXN.out.lt D_E_XN
   replace HX1 := am (HX1.out.step hkk_ (imNotK (apart_symm D_E_X1.out) HE.out.1))
   replace HX2 := am (HX2.out.step hkk_ (imNotK (apart_symm D_E_X2.out) HE.out.1))
   replace HX3 := am (HX3.out.step hkk_ (imNotK (apart_symm D_E_X3.out) HE.out.1))
   replace HQ := am (HQ.out.step hkk_ (imNotK D_Q_E.out HE.out.1))
   replace HO := am (HO.out.step hkk_ (imNotK (apart_symm D_E_O.out) HE.out.1))
   replace HXO := am (HXO.out.step hkk_ (imNotK (apart_symm D_E_XO.out) HE.out.1))
   replace HXN := am (HXN.out.step hkk_ (imNotK (apart_symm D_E_XN.out) HE.out.1))
   replace HM1 := hm1w HM1 hm1_
   replace HM2 := hm2w HM2 hm2_ HK
   have HR := am (imLN (base := w.heap.size) (rowOf_len' HL.out _) hcl_ hF_ (fun k h => he_.lt k h.1))
   have D_R_K := drk PE4 gE gR
   have D_R_O := dro gE gR D_O_E4
   replace HK := kl HK hkk_
   replace HB := am hb_
   replace HG := am hg_
   replace HN := am hn_
   have HE4 := am he_
   have D_G_E4 := am hge_
   have D_N_E4 := am hne_
   clear hb_ hg_ hn_ he_ hge_ hne_ hcl_ hF_ hm1_ hm2_ hkk_ HE
   replace jG := HG.out.c5
   replace jX1 := HX1.out.c1
   replace jX2 := HX2.out.c1
   replace jX3 := HX3.out.c2
   replace jXO := HXO.out.c1
   replace jXN := HXN.out.c6
   refine hK.out _ _ ⟨jXO.1, jX1.1, jXN.2.2.2.2.2.2.2.2.2.2.1, jX2.1, (im_cellI HQ.out 0 HKQ.out HPK.out)⟩ (fun hHeld => ?_)
   clear hK K
   refine nm ?_
   refine la_ 8 (some 122) HT_.out rfl rfl fun K hK => ?_
   refine gs_ Try.func53 #[.slice (some ⟨gO, 0, none⟩) L cO, .slice AR L cR] rfl rfl rfl rfl ?_
   (with_reducible refine (im_join w _ PO _ gO L cO T.size _ _ _ _ HL.out HT.out HB.out HO.out HR.out D_R_O.out).mono ?_)
   rintro e w2 ⟨rfl, ho_, hb_, hk_⟩
   refine ⟨_, rfl, ?_⟩
   replace HG := ss hk_ HG D_G_O.out
   replace HN := ns_ hk_ HN D_N_O.out
   replace HX1 := ss hk_ HX1 D_X1_O.out
   replace HX2 := ss hk_ HX2 D_X2_O.out
   replace HX3 := ss hk_ HX3 D_X3_O.out
   replace HQ := ns_ hk_ HQ D_Q_O.out
   replace HXO := ss hk_ HXO D_XO_O.out
   replace HXN := ss hk_ HXN D_XN_O.out
   replace HE4 := am (HE4.out.step hk_ (apart_symm D_O_E4.out))
   replace HR := ns_ hk_ HR D_R_O.out
   replace HK := kr HK hk_ RRO
   replace HB := am hb_
   replace HO := am ho_
   clear ho_ hb_ hk_
   replace jG := HG.out.c5
   replace jX1 := HX1.out.c1
   replace jX2 := HX2.out.c1
   replace jX3 := HX3.out.c2
   replace jXO := HXO.out.c1
   replace jXN := HXN.out.c6
   refine hK.out _ _ ?_
   clear hK K
   refine nm ?_
   refine dn HT_ ?_
   clear HR D_R_K D_R_O
   have hrow_ := (show rowOf T.size (fun j => (fun _ => false) j || mat (imTx T) T.size y i j) = imRow T (⟨f0, f1, f2, f3, l⟩ : S31) i from by have h_ := HKD.out; subst h_; exact imGroup (imTx T) T.size i f1 f2 f3 l y HY.out)
   replace HO := am (show LR Kd.bool 4 _ w.heap.size PO (.slice (some ⟨gO, 0, none⟩) L cO) (imRow T (⟨f0, f1, f2, f3, l⟩ : S31) i) from by have h_ := HO.out; rw [hrow_] at h_; exact h_)
   clear hrow_
   go_wp2
   go_meet
   case rel => exact ⟨_, HB, HG, HN, HE4, HX1, HX2, HX3, HQ, HO, HXO, HXN, ⟨D_G_E4.out⟩, ⟨D_N_E4.out⟩, ⟨D_X1_E4.out⟩, ⟨D_X2_E4.out⟩, ⟨D_X3_E4.out⟩, ⟨D_Q_E4.out⟩, ⟨D_O_E4.out⟩, ⟨D_XO_E4.out⟩, ⟨D_XN_E4.out⟩, HK, HM1, HM2⟩
  by_cases hk_ : f0 = 8
  ·
   have k1 : (f0 == 1) = false := bnf (by omega)
   have k2 : (f0 == 2) = false := bnf (by omega)
   have k3 : (f0 == 3) = false := bnf (by omega)
   have k4 : (f0 == 4) = false := bnf (by omega)
   have k5 : (f0 == 5) = false := bnf (by omega)
   have k6 : (f0 == 6) = false := bnf (by omega)
   have k8 : (f0 == 8) = true := beq_iff_eq.mpr hk_
   have HKD := am hk_
   clear hk_
   try clear hn1
   try clear hn2
   try clear hn3
   try clear hn4
   try clear hn5
   try clear hn6
   try clear hn8
   try clear hn7
   try clear hn9
   obtain ⟨adK, hadK⟩ : ∃ a_ : Option Addr, a_ = A5 := ⟨_, rfl⟩
   clear hadK adK
   go_wp2
   go_loopg [128] (l.length + 1) (fun kq v128 w' => ∃ (q : Nat) (PE1 : Nat → Prop), v128 = .int .i64 (q : Int) ∧ Aside0 (q + kq = l.length + 1 ∧ 0 < kq) ∧ Aside0 (Below w.heap.size w w') ∧ Aside0 (LB w' PG gG 74 #[.string T, .slice (some adN) ns.length DN, .map (some gE), .map (some gR), VG]) ∧ Aside0 (LN kNA 76 w' w.heap.size PN (.slice (some adN) ns.length DN) ns) ∧ Aside0 (imK ⟨PG, PN, gG, gE, gR, some adN, DN, T, L, ns⟩ w' PE1) ∧ Aside0 (LB w' PX1 gX1 54 #[.pointer (some ⟨gG, 0, none⟩)]) ∧ Aside0 (LB w' PX2 gX2 3 #[.int .i64 (i : Int)]) ∧ Aside0 (LB w' PX3 gX3 86 #[.int .i64 (node : Int), .int .i64 (i : Int)]) ∧ Aside0 (LN (Kd.int .i64) 3 w' w.heap.size PN (.slice A5 ks.length c5) ks) ∧ Aside0 (LR Kd.bool 4 w' w.heap.size PO (.slice (some ⟨gO, 0, none⟩) L cO) (rowOf T.size (fun j => (l.take q).any fun y => mat (imTx T) T.size y i j))) ∧ Aside0 (LB w' PXO gXO 64 #[.slice (some ⟨gO, 0, none⟩) L cO]) ∧ Aside0 (LB w' PXN gXN 76 #[.int .i64 f0, .int .i64 f1, .int .i64 f2, .string f3, .slice A4 l.length c4, .slice A5 ks.length c5]) ∧ Aside0 (∀ k, PG k → ¬ PE1 k) ∧ Aside0 (∀ k, PN k → ¬ PE1 k) ∧ Aside0 (∀ k, PX1 k → ¬ PE1 k) ∧ Aside0 (∀ k, PX2 k → ¬ PE1 k) ∧ Aside0 (∀ k, PX3 k → ¬ PE1 k) ∧ Aside0 (∀ k, PN k → ¬ PE1 k) ∧ Aside0 (∀ k, PO k → ¬ PE1 k) ∧ Aside0 (∀ k, PXO k → ¬ PE1 k) ∧ Aside0 (∀ k, PXN k → ¬ PE1 k) ∧ Aside0 (Kept ws w' (fun k_ => k_ = gE ∨ k_ = gR)) ∧ Aside0 (∀ k, PE k → PE1 k) ∧ Aside0 (∀ k, PE1 k → PE k ∨ ws.heap.size ≤ k))
   case atStart => exact ⟨0, _, rfl, ⟨by omega, by omega⟩, HB, HG, HN, HE, HX1, HX2, HX3, HQ, ⟨by rw [List.take_zero]; exact HO.out⟩, HXO, HXN, ⟨D_G_E.out⟩, ⟨D_N_E.out⟩, ⟨(apart_symm D_E_X1.out)⟩, ⟨(apart_symm D_E_X2.out)⟩, ⟨(apart_symm D_E_X3.out)⟩, ⟨D_Q_E.out⟩, ⟨(apart_symm D_E_O.out)⟩, ⟨(apart_symm D_E_XO.out)⟩, ⟨(apart_symm D_E_XN.out)⟩, HK, HM1, HM2⟩
   case round =>
    clear HB HK HM1 HM2 HG HN HE HX1 HX2 HX3 HQ HO HXO HXN
    clear D_G_E D_N_E D_Q_E
    try clear D_E_X1 D_E_X2 D_E_X3 D_E_O D_E_XO D_E_XN
    try clear jG
    try clear jX1
    try clear jX2
    try clear jX3
    try clear jXO
    try clear jXN
    obtain ⟨q, PZ, rfl, HXQ, HB, HG, HN, HZ, HX1, HX2, HX3, HQ, HO, HXO, HXN, D_G_Z, D_N_Z, D_X1_Z, D_X2_Z, D_X3_Z, D_Q_Z, D_O_Z, D_XO_Z, D_XN_Z, HK, HM1, HM2⟩ := hrel
    replace jG := HG.out.c5
    replace jX1 := HX1.out.c1
    replace jX2 := HX2.out.c1
    replace jX3 := HX3.out.c2
    replace jXO := HXO.out.c1
    replace jXN := HXN.out.c6
    by_cases hlt : q < l.length
    ·
     obtain ⟨g1, rfl⟩ : ∃ k_, gk = k_ + 1 := ⟨gk - 1, by have := HXQ.out; omega⟩
     have HQL := am (show q + 1 + g1 = l.length + 1 ∧ 0 < g1 from by have := HXQ.out; exact ⟨by omega, by omega⟩)
     have hwq : wrap64 ((q : Int) + 1) = ((q + 1 : Nat) : Int) := by have := HLN.out; unfold wrap64; omega
     have u1 := decide_eq_true (show (q : Int) < (ks.length : Int) by have := HKL.out; omega)
     have u2 := decide_eq_true (show q < ks.length by have := HKL.out; omega)
     obtain ⟨y, hy⟩ : ∃ y, l[q]? = some y := ⟨_, List.getElem?_eq_getElem (hlt)⟩
     obtain ⟨pk, ks2, hpk, hpn⟩ := HKID.out q y hy
     try dsimp only at hpk
     have HFY := am (HFF.out y (List.mem_of_getElem? hy) pk ks2 i)
     have HPN := am hpn
     have HPK := am hpk
     have hkq : q < ks.length := (List.getElem?_eq_some_iff.1 hpk).1
     have HKQ := am hkq
     have v1_ := il hkq
     have v2_ := eq_true hkq
     have v0_ := zn q
     have HY := am hy
     clear hpk hpn hkq hy
     clear hlt
     obtain ⟨ad5, eA5, hk5⟩ := im_atI HQ.out q HKQ.out HPK.out
     subst eA5
     replace jG := HG.out.c5
     replace jX1 := HX1.out.c1
     replace jX2 := HX2.out.c1
     replace jX3 := HX3.out.c2
     replace jXO := HXO.out.c1
     replace jXN := HXN.out.c6
     go_upto_region 24 with (fail)
     refine sr (n := 6) (S := fun w' => w'.cell? ⟨gXO, 0, none⟩ = some (.slice (some ⟨gO, 0, none⟩) L cO) ∧ w'.cell? ⟨gX1, 0, none⟩ = some (.pointer (some ⟨gG, 0, none⟩)) ∧ w'.cell? ⟨gX2, 0, none⟩ = some (.int .i64 (i : Int))) (ds := [5]) ⟨jXO.1, jX1.1, jX2.1⟩ (fun hHeld => ?_)
     refine with_tabW impl_from.tab24 impl_from.bits24 (fun HT_ HW_ => ?_)
     generalize hwd_ : World.drew wr = wd_ at hHeld ⊢
     have hk := kept_drew hwd_
     replace HG := sn hk HG
     replace HN := nn hk HN
     replace HZ := am (HZ.out.step hk no_S)
     replace HX1 := sn hk HX1
     replace HX2 := sn hk HX2
     replace HX3 := sn hk HX3
     replace HQ := nn hk HQ
     replace HO := rn hk HO
     replace HXO := sn hk HXO
     replace HXN := sn hk HXN
     replace HK := kt HK hk
     replace HB := bd HB hwd_
     clear hk hwd_
     replace jG := HG.out.c5
     replace jX1 := HX1.out.c1
     replace jX2 := HX2.out.c1
     replace jX3 := HX3.out.c2
     replace jXO := HXO.out.c1
     replace jXN := HXN.out.c6
     refine tk 0 132 HT_.out HW_.out hHeld rfl rfl rfl ?_
     refine tk 1 133 HT_.out HW_.out hHeld rfl rfl rfl ?_
     refine pu 2 134 HT_.out rfl rfl rfl ?_
     refine tk 3 135 HT_.out HW_.out hHeld rfl rfl rfl ?_
     refine on_ 4 (some 136) HT_.out rfl rfl fun K hK => ?_
     refine gs_ Try.func38 #[.pointer (some ⟨gG, 0, none⟩), .int .i64 (pk : Int), .int .i64 (i : Int)] rfl rfl rfl rfl ?_
     (with_reducible refine (HFY.out _ _ HPN.out HI.out ⟨HB.out, HG.out, HN.out, HZ.out, D_G_Z.out, D_N_Z.out⟩).mono ?_)
     rintro e w2 ⟨PE5, AR, cR, rfl, ⟨hb_, hg_, hn_, he_, hge_, hne_⟩, hcl_, hF_, hm1_, hm2_, hkk_⟩
     refine ⟨_, rfl, ?_⟩
     dsimp only at hb_ hg_ hn_ he_ hge_ hne_ hcl_ hF_ hkk_
     have D_X1_E5 := ax hm2_ HX1.out.lt D_X1_Z
     have D_X2_E5 := ax hm2_ HX2.out.lt D_X2_Z
     have D_X3_E5 := ax hm2_ HX3.out.lt D_X3_Z
     have D_Q_E5 := ax hm2_ HQ.out.lt D_Q_Z
     have D_O_E5 := ax hm2_ HO.out.lt D_O_Z
     have D_XO_E5 := ax hm2_ HXO.out.lt D_XO_Z
     have D_XN_E5 := ax hm2_ HXN.out.lt D_XN_Z
     replace HX1 := am (HX1.out.step hkk_ (imNotK D_X1_Z.out HZ.out.1))
     replace HX2 := am (HX2.out.step hkk_ (imNotK D_X2_Z.out HZ.out.1))
     replace HX3 := am (HX3.out.step hkk_ (imNotK D_X3_Z.out HZ.out.1))
     replace HQ := am (HQ.out.step hkk_ (imNotK D_Q_Z.out HZ.out.1))
     replace HO := am (HO.out.step hkk_ (imNotK D_O_Z.out HZ.out.1))
     replace HXO := am (HXO.out.step hkk_ (imNotK D_XO_Z.out HZ.out.1))
     replace HXN := am (HXN.out.step hkk_ (imNotK D_XN_Z.out HZ.out.1))
     replace HM1 := hm1w HM1 hm1_
     replace HM2 := hm2w HM2 hm2_ HK
     have HR := am (imLN (base := w.heap.size) (rowOf_len' HL.out _) hcl_ hF_ (fun k h => he_.lt k h.1))
     have D_R_K := drk PE5 gE gR
     have D_R_O := dro gE gR D_O_E5
     replace HK := kl HK hkk_
     replace HB := am hb_
     replace HG := am hg_
     replace HN := am hn_
     have HE5 := am he_
     have D_G_E5 := am hge_
     have D_N_E5 := am hne_
     clear hb_ hg_ hn_ he_ hge_ hne_ hcl_ hF_ hm1_ hm2_ hkk_ HZ
     replace jG := HG.out.c5
     replace jX1 := HX1.out.c1
     replace jX2 := HX2.out.c1
     replace jX3 := HX3.out.c2
     replace jXO := HXO.out.c1
     replace jXN := HXN.out.c6
     refine hK.out _ _ ⟨jXO.1, jX1.1, jX2.1⟩ (fun hHeld => ?_)
     clear hK K
     refine nm ?_
     refine la_ 5 (some 137) HT_.out rfl rfl fun K hK => ?_
     refine gs_ Try.func53 #[.slice (some ⟨gO, 0, none⟩) L cO, .slice AR L cR] rfl rfl rfl rfl ?_
     (with_reducible refine (im_join w _ PO _ gO L cO T.size _ _ _ _ HL.out HT.out HB.out HO.out HR.out D_R_O.out).mono ?_)
     rintro e w2 ⟨rfl, ho_, hb_, hk_⟩
     refine ⟨_, rfl, ?_⟩
     replace HG := ss hk_ HG D_G_O.out
     replace HN := ns_ hk_ HN D_N_O.out
     replace HX1 := ss hk_ HX1 D_X1_O.out
     replace HX2 := ss hk_ HX2 D_X2_O.out
     replace HX3 := ss hk_ HX3 D_X3_O.out
     replace HQ := ns_ hk_ HQ D_Q_O.out
     replace HXO := ss hk_ HXO D_XO_O.out
     replace HXN := ss hk_ HXN D_XN_O.out
     replace HE5 := am (HE5.out.step hk_ (apart_symm D_O_E5.out))
     replace HR := ns_ hk_ HR D_R_O.out
     replace HK := kr HK hk_ RRO
     replace HB := am hb_
     replace HO := am ho_
     clear ho_ hb_ hk_
     replace jG := HG.out.c5
     replace jX1 := HX1.out.c1
     replace jX2 := HX2.out.c1
     replace jX3 := HX3.out.c2
     replace jXO := HXO.out.c1
     replace jXN := HXN.out.c6
     refine hK.out _ _ ?_
     clear hK K
     refine nm ?_
     refine dn HT_ ?_
     clear HR D_R_K D_R_O hk5
     have hst_ := imAltStep (imTx T) T.size i q l y HY.out
     go_wp2
     go_roundg g1
     case measure => omega
     case rel => exact ⟨q + 1, _, by first | rfl | exact congrArg (Value.int .i64) hwq, HQL, HB, HG, HN, HE5, HX1, HX2, HX3, HQ, ⟨by rw [← hst_]; exact HO.out⟩, HXO, HXN, ⟨D_G_E5.out⟩, ⟨D_N_E5.out⟩, ⟨D_X1_E5.out⟩, ⟨D_X2_E5.out⟩, ⟨D_X3_E5.out⟩, ⟨D_Q_E5.out⟩, ⟨D_O_E5.out⟩, ⟨D_XO_E5.out⟩, ⟨D_XN_E5.out⟩, HK, HM1, HM2⟩
    have hql : q = l.length := by have := HXQ.out; omega
    have u1 : decide ((q : Int) < (ks.length : Int)) = false := decide_eq_false (by have := HKL.out; omega)
    have u2 : decide (q < ks.length) = false := decide_eq_false (by have := HKL.out; omega)
    have HQE := am hql
    clear hql hlt
    have hrow_ := (show rowOf T.size (fun j => (l.take q).any fun y => mat (imTx T) T.size y i j) = imRow T (⟨f0, f1, f2, f3, l⟩ : S31) i from by rw [HQE.out]; have h_ := HKD.out; subst h_; exact imAlt (imTx T) T.size i f1 f2 f3 l)
    replace HO := am (show LR Kd.bool 4 _ w.heap.size PO (.slice (some ⟨gO, 0, none⟩) L cO) (imRow T (⟨f0, f1, f2, f3, l⟩ : S31) i) from by have h_ := HO.out; rw [hrow_] at h_; exact h_)
    clear hrow_
    go_wp2
    go_meet
    case rel => exact ⟨_, HB, HG, HN, HZ, HX1, HX2, HX3, HQ, HO, HXO, HXN, ⟨D_G_Z.out⟩, ⟨D_N_Z.out⟩, ⟨D_X1_Z.out⟩, ⟨D_X2_Z.out⟩, ⟨D_X3_Z.out⟩, ⟨D_Q_Z.out⟩, ⟨D_O_Z.out⟩, ⟨D_XO_Z.out⟩, ⟨D_XN_Z.out⟩, HK, HM1, HM2⟩
  by_cases hk_ : f0 = 7 ∨ f0 = 9
  ·
   have HKD := am hk_
   have k1 : (f0 == 1) = false := bnf (by omega)
   have k2 : (f0 == 2) = false := bnf (by omega)
   have k3 : (f0 == 3) = false := bnf (by omega)
   have k4 : (f0 == 4) = false := bnf (by omega)
   have k5 : (f0 == 5) = false := bnf (by omega)
   have k6 : (f0 == 6) = false := bnf (by omega)
   have k8 : (f0 == 8) = false := bnf (by omega)
   clear hk_
   have IO := (fun (ws' : World) (PE' : Nat → Prop) h => HON.out HKD.out _ ws' PE' (Nat.lt_succ_self _) ⟨fun _ => Nat.zero_le _, fun _ => .inl (Nat.zero_le _)⟩ HI.out HND.out h)
   try dsimp only at IO
   rw [show ((0 : Nat) : Int) = 0 from rfl] at IO
   replace IO := am IO
   go_upto_if 139 with (fail)
   go_cut [139] from 139 to 142 (fun v139 w' => v139 = .bool true ∧ w' = w2)
   case first =>
    rcases HKD.out with h7_ | h7_
    ·
     have k7 : (f0 == 7) = true := beq_iff_eq.mpr h7_
     clear h7_
     go_wp2
     go_meet
     case rel => exact ⟨rfl, rfl⟩
    have k7 : (f0 == 7) = false := bnf (by omega)
    have k9 : (f0 == 9) = true := beq_iff_eq.mpr h7_
    clear h7_
    go_wp2
    go_meet
    case rel => exact ⟨rfl, rfl⟩
   case rest =>
    obtain ⟨rfl, h_⟩ := hcut
    subst h_
    go_upto_region 28 with (fail)
    refine sr (n := 6) (S := fun w' => w'.cell? ⟨gXO, 0, none⟩ = some (.slice (some ⟨gO, 0, none⟩) L cO) ∧ w'.cell? ⟨gX1, 0, none⟩ = some (.pointer (some ⟨gG, 0, none⟩)) ∧ w'.cell? ⟨gX2, 0, none⟩ = some (.int .i64 (i : Int))) (ds := [5]) ⟨jXO.1, jX1.1, jX2.1⟩ (fun hHeld => ?_)
    refine with_tabW impl_from.tab28 impl_from.bits28 (fun HT_ HW_ => ?_)
    generalize hwd_ : World.drew wc = wd_ at hHeld ⊢
    have hk := kept_drew hwd_
    replace HG := sn hk HG
    replace HN := nn hk HN
    replace HE := am (HE.out.step hk no_S)
    replace HX1 := sn hk HX1
    replace HX2 := sn hk HX2
    replace HX3 := sn hk HX3
    replace HQ := nn hk HQ
    replace HO := rn hk HO
    replace HXO := sn hk HXO
    replace HXN := sn hk HXN
    replace HK := kt HK hk
    replace HB := bd HB hwd_
    clear hk hwd_
    replace jG := HG.out.c5
    replace jX1 := HX1.out.c1
    replace jX2 := HX2.out.c1
    replace jX3 := HX3.out.c2
    replace jXO := HXO.out.c1
    replace jXN := HXN.out.c6
    refine tk 0 142 HT_.out HW_.out hHeld rfl rfl rfl ?_
    refine tk 1 143 HT_.out HW_.out hHeld rfl rfl rfl ?_
    refine pu 2 144 HT_.out rfl rfl rfl ?_
    refine tk 3 145 HT_.out HW_.out hHeld rfl rfl rfl ?_
    refine on_ 4 (some 146) HT_.out rfl rfl fun K hK => ?_
    refine gs_ Try.func54 #[.pointer (some ⟨gG, 0, none⟩), .int .i64 (node : Int), .int .i64 0, .int .i64 (i : Int)] rfl rfl rfl rfl ?_
    (with_reducible refine (IO.out _ _ ⟨HB.out, HG.out, HN.out, HE.out, D_G_E.out, D_N_E.out⟩).mono ?_)
    rintro e w2 ⟨PE6, AR, cR, rfl, ⟨hb_, hg_, hn_, he_, hge_, hne_⟩, hcl_, hF_, hm1_, hm2_, hkk_⟩
    refine ⟨_, rfl, ?_⟩
    dsimp only at hb_ hg_ hn_ he_ hge_ hne_ hcl_ hF_ hkk_
    have D_X1_E6 := ay hm2_ HX1.out.lt D_E_X1
    have D_X2_E6 := ay hm2_ HX2.out.lt D_E_X2
    have D_X3_E6 := ay hm2_ HX3.out.lt D_E_X3
    have D_Q_E6 := ax hm2_ HQ.out.lt D_Q_E
    have D_O_E6 := ay hm2_ HO.out.lt D_E_O
    have D_XO_E6 := ay hm2_ HXO.out.lt D_E_XO
    have D_XN_E6 := ay hm2_ HXN.out.lt D_E_XN
    replace HX1 := am (HX1.out.step hkk_ (imNotK (apart_symm D_E_X1.out) HE.out.1))
    replace HX2 := am (HX2.out.step hkk_ (imNotK (apart_symm D_E_X2.out) HE.out.1))
    replace HX3 := am (HX3.out.step hkk_ (imNotK (apart_symm D_E_X3.out) HE.out.1))
    replace HQ := am (HQ.out.step hkk_ (imNotK D_Q_E.out HE.out.1))
    replace HO := am (HO.out.step hkk_ (imNotK (apart_symm D_E_O.out) HE.out.1))
    replace HXO := am (HXO.out.step hkk_ (imNotK (apart_symm D_E_XO.out) HE.out.1))
    replace HXN := am (HXN.out.step hkk_ (imNotK (apart_symm D_E_XN.out) HE.out.1))
    replace HM1 := hm1w HM1 hm1_
    replace HM2 := hm2w HM2 hm2_ HK
    have HR := am (imLN (base := w.heap.size) (rowOf_len' HL.out _) hcl_ hF_ (fun k h => he_.lt k h.1))
    have D_R_K := drk PE6 gE gR
    have D_R_O := dro gE gR D_O_E6
    replace HK := kl HK hkk_
    replace HB := am hb_
    replace HG := am hg_
    replace HN := am hn_
    have HE6 := am he_
    have D_G_E6 := am hge_
    have D_N_E6 := am hne_
    clear hb_ hg_ hn_ he_ hge_ hne_ hcl_ hF_ hm1_ hm2_ hkk_ HE
    replace jG := HG.out.c5
    replace jX1 := HX1.out.c1
    replace jX2 := HX2.out.c1
    replace jX3 := HX3.out.c2
    replace jXO := HXO.out.c1
    replace jXN := HXN.out.c6
    refine hK.out _ _ ⟨jXO.1, jX1.1, jX2.1⟩ (fun hHeld => ?_)
    clear hK K
    refine nm ?_
    refine la_ 5 (some 147) HT_.out rfl rfl fun K hK => ?_
    refine gs_ Try.func53 #[.slice (some ⟨gO, 0, none⟩) L cO, .slice AR L cR] rfl rfl rfl rfl ?_
    (with_reducible refine (im_join w _ PO _ gO L cO T.size _ _ _ _ HL.out HT.out HB.out HO.out HR.out D_R_O.out).mono ?_)
    rintro e w2 ⟨rfl, ho_, hb_, hk_⟩
    refine ⟨_, rfl, ?_⟩
    replace HG := ss hk_ HG D_G_O.out
    replace HN := ns_ hk_ HN D_N_O.out
    replace HX1 := ss hk_ HX1 D_X1_O.out
    replace HX2 := ss hk_ HX2 D_X2_O.out
    replace HX3 := ss hk_ HX3 D_X3_O.out
    replace HQ := ns_ hk_ HQ D_Q_O.out
    replace HXO := ss hk_ HXO D_XO_O.out
    replace HXN := ss hk_ HXN D_XN_O.out
    replace HE6 := am (HE6.out.step hk_ (apart_symm D_O_E6.out))
    replace HR := ns_ hk_ HR D_R_O.out
    replace HK := kr HK hk_ RRO
    replace HB := am hb_
    replace HO := am ho_
    clear ho_ hb_ hk_
    replace jG := HG.out.c5
    replace jX1 := HX1.out.c1
    replace jX2 := HX2.out.c1
    replace jX3 := HX3.out.c2
    replace jXO := HXO.out.c1
    replace jXN := HXN.out.c6
    refine hK.out _ _ ?_
    clear hK K
    refine nm ?_
    refine dn HT_ ?_
    clear HR D_R_K D_R_O
    have hrow_ := (show rowOf T.size (fun j => (fun _ => false) j || onw (imTx T) T.size (⟨f0, f1, f2, f3, l⟩ : S31) 0 i j) = imRow T (⟨f0, f1, f2, f3, l⟩ : S31) i from imSeq (imTx T) T.size i f0 f1 f2 f3 l HKD.out)
    replace HO := am (show LR Kd.bool 4 _ w.heap.size PO (.slice (some ⟨gO, 0, none⟩) L cO) (imRow T (⟨f0, f1, f2, f3, l⟩ : S31) i) from by have h_ := HO.out; rw [hrow_] at h_; exact h_)
    clear hrow_
    go_wp2
    go_meet
    case rel => exact ⟨_, HB, HG, HN, HE6, HX1, HX2, HX3, HQ, HO, HXO, HXN, ⟨D_G_E6.out⟩, ⟨D_N_E6.out⟩, ⟨D_X1_E6.out⟩, ⟨D_X2_E6.out⟩, ⟨D_X3_E6.out⟩, ⟨D_Q_E6.out⟩, ⟨D_O_E6.out⟩, ⟨D_XO_E6.out⟩, ⟨D_XN_E6.out⟩, HK, HM1, HM2⟩
  exact absurd hk1 (by omega)
 case rest =>
  clear HB HK HM1 HM2 HG HN HE HX1 HX2 HX3 HQ HO HXO HXN
  clear D_E_O D_E_X1 D_E_X2 D_E_X3 D_E_XN D_E_XO D_G_E D_N_E D_Q_E
  try clear jG
  try clear jX1
  try clear jX2
  try clear jX3
  try clear jXO
  try clear jXN
  obtain ⟨PZ, HB, HG, HN, HZ, HX1, HX2, HX3, HQ, HO, HXO, HXN, D_G_Z, D_N_Z, D_X1_Z, D_X2_Z, D_X3_Z, D_Q_Z, D_O_Z, D_XO_Z, D_XN_Z, HK, HM1, HM2⟩ := hcut
  replace jG := HG.out.c5
  replace jX1 := HX1.out.c1
  replace jX2 := HX2.out.c1
  replace jX3 := HX3.out.c2
  replace jXO := HXO.out.c1
  replace jXN := HXN.out.c6
  go_upto_region 29 with (fail)
  refine sr (n := 7) (S := fun w' => w'.cell? ⟨gX1, 0, none⟩ = some (.pointer (some ⟨gG, 0, none⟩)) ∧ w'.cell? ⟨gG, 2, none⟩ = some (.map (some gE)) ∧ w'.cell? ⟨gX3, 0, none⟩ = some (.int .i64 (node : Int)) ∧ w'.cell? ⟨gX3, 1, none⟩ = some (.int .i64 (i : Int)) ∧ w'.cell? ⟨gXO, 0, none⟩ = some (.slice (some ⟨gO, 0, none⟩) L cO)) (ds := [6]) ⟨jX1.1, jG.2.2.2.2.1, jX3.1, jX3.2.2.1, jXO.1⟩ (fun hHeld => ?_)
  refine with_tabW impl_from.tab29 impl_from.bits29 (fun HT_ HW_ => ?_)
  generalize hwd_ : World.drew wc = wd_ at hHeld ⊢
  have hk := kept_drew hwd_
  replace HG := sn hk HG
  replace HN := nn hk HN
  replace HZ := am (HZ.out.step hk no_S)
  replace HX1 := sn hk HX1
  replace HX2 := sn hk HX2
  replace HX3 := sn hk HX3
  replace HQ := nn hk HQ
  replace HO := rn hk HO
  replace HXO := sn hk HXO
  replace HXN := sn hk HXN
  replace HK := kt HK hk
  replace HB := bd HB hwd_
  clear hk hwd_
  replace jG := HG.out.c5
  replace jX1 := HX1.out.c1
  replace jX2 := HX2.out.c1
  replace jX3 := HX3.out.c2
  replace jXO := HXO.out.c1
  replace jXN := HXN.out.c6
  refine tk 0 148 HT_.out HW_.out hHeld rfl rfl rfl ?_
  refine pu 1 149 HT_.out rfl rfl rfl ?_
  refine pu 2 150 HT_.out rfl rfl rfl ?_
  refine tk 3 151 HT_.out HW_.out hHeld rfl rfl rfl ?_
  refine tk 4 152 HT_.out HW_.out hHeld rfl rfl rfl ?_
  refine tk 5 153 HT_.out HW_.out hHeld rfl rfl rfl ?_
  obtain ⟨w9, hput_, ⟨hst_, hkk_, hbb_⟩⟩ := (HZ.out).put2 HNE.out HL.out node i HKEY.out HND.out HO.out D_O_Z.out
  dsimp only at hst_ hkk_ hbb_ hput_
  refine la_ 6 none HT_.out rfl rfl fun K hK => ?_
  refine skip_step (w1 := w9) (by rfl) rfl ?hr_37 ?_
  (case hr_37 => go_simp; first | done | (erw [hput_]; rfl))
  replace HG := am (HG.out.step hkk_ (fun k h1_ h2_ => D_G_Z.out k h1_ (h2_ ▸ HZ.out.1.1)))
  replace HN := am (HN.out.step hkk_ (fun k h1_ h2_ => D_N_Z.out k h1_ (h2_ ▸ HZ.out.1.1)))
  replace HXO := am (HXO.out.step hkk_ (fun k h1_ h2_ => D_XO_Z.out k h1_ (h2_ ▸ HZ.out.1.1)))
  have hoF_ := Kd.F_kept (Kd.R_F HO.out.1) hkk_ (fun k h1_ h2_ => D_O_Z.out k h1_ (h2_ ▸ HZ.out.1.1))
  have hOE_ := am (fun k h1_ => D_O_Z.out k h1_)
  replace HK := am (HK.out.then_ hkk_ (fun _ h_ => .inl (.inl h_)))
  replace HB := am (hbb_ w HB.out HGE.out.1)
  skip
  refine hK.out _ _ ?_
  clear hK K
  refine dn HT_ ?_
  have jXO := HXO.out.c1
  go_wp2
  go_ret
  refine ⟨_, _, _, rfl, ⟨HB.out, HG.out, HN.out, hst_, fun k h1_ h2_ => h2_.elim (D_G_Z.out k h1_) (D_G_O.out k h1_), fun k h1_ h2_ => h2_.elim (D_N_Z.out k h1_) (D_N_O.out k h1_)⟩, ?_, Kd.F_mono hoF_ (fun k h_ => ⟨.inr h_, fun e_ => hOE_.out k h_ (e_ ▸ HZ.out.1.1), fun e_ => hOE_.out k h_ (e_ ▸ HZ.out.1.2)⟩), fun k h_ => .inl (HM1.out k h_), fun k h_ => h_.elim (HM2.out k) (fun h2_ => (RRO.out k h2_).elim (fun h3_ => h3_.elim (fun e_ => absurd (e_ ▸ HZ.out.1.1) (hOE_.out k h2_)) (fun e_ => absurd (e_ ▸ HZ.out.1.2) (hOE_.out k h2_))) .inr), HK.out⟩
  have := HO.out.room; rw [rowOf_len' HL.out] at this; exact this
end
end Go.Proofs.Ytlpabbcgichaoaa.PFnExactFind
