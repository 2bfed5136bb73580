/- Functions of blobs told by hand: slices.DeleteFunc, the program's and the reference's acts and runs, the laws' marks of rows of structs. No conditions. -/
import Derived.Test.YtcgkfijigjcmpaaPFnExactBlobRunx0
import Derived.Test.YtcgkfijigjcmpaaPFnExactBlobRunx1
import Derived.Test.YtcgkfijigjcmpaaPFnExactBlobRunx2
import Derived.Test.YtcgkfijigjcmpaaPFnExactBlobRunx3
import Derived.Test.YtcgkfijigjcmpaaPFnExactBlobRunx4
import Derived.Test.YtcgkfijigjcmpaaHw
import Derived.Deep.RegionHeld3
import Derived.Deep.Cut
namespace Go.Proofs.Ytcgkfijigjcmpaa.PFnExactBlobRun
open Go.RowKit Go.Proofs.Ytcgkfijigjcmpaa.Lawful Go.Proofs.YtcgkfijigjcmpaaW.PrintWords Go.Proofs.YtcgkfijigjcmpaaW.PrintLast Go.Proofs.YtcgkfijigjcmpaaW.PrintMore
attribute [local go_sem] max2_int min2_int max_two min_two max_three min_three max_four min_four   -- for this text's walks alone
set_option linter.unusedVariables false
set_option linter.unusedSimpArgs false
/-! ### markIntS, its row's blocks as they were -/
theorem laws_markIntS.own (k : Nat) (P0_ : Nat → Prop) (u9000_ : Value) (l0 : List Int) (a1 : Int) (r1 : Int) (r2 : List Int) (w0 w : World) (hB : Below w0.heap.size w0 w) (ho0 : Kd.R (Kd.int .i64) 3 w w0.heap.size P0_ u9000_ l0) (h : laws_markIntS.f k l0 a1 = some (r1, r2)) :
    Calls Try.prog 21 #[u9000_, .int .i64 a1] w fun e w' => e = .returned (.int .i64 r1) ∧ Kd.R (Kd.int .i64) 3 w' w0.heap.size P0_ u9000_ r2 ∧ Below w0.heap.size w0 w' ∧ Kept w w' P0_ :=
  (laws_markIntS.calls k P0_ u9000_ l0 a1 r1 r2 w0 w hB ho0 h).mono fun e w' ⟨he, ho, hb, hk⟩ => ⟨he, Kd.R_mono (Kd.R_tight rfl ho) (fun k hk => ho0.1 k hk.symm), hb, hk⟩

/-! ### slices.IndexFunc, slices.DeleteFunc at blobAct's literal, by hand -/
section
open Go.Proofs.YtcgkfijigjcmpaaW.PrintWords.Kd
variable {α : Type} {d : Kd α} {e g n m cap : Nat} {w W : World} {base : Nat} {ok : Nat → Prop} {xs : List α}
/-- The first elements of a row of one's own. -/
theorem R_pre (h : d.R e w base ok (.slice (some ⟨g, 0, none⟩) n cap) xs) (hm : m ≤ n) : d.R e w base ok (.slice (some ⟨g, 0, none⟩) m cap) (xs.take m) := by
  obtain ⟨hn, hnc, _⟩ := Kd.R_reads' h
  obtain ⟨hok, inner, ho, hr⟩ := h
  obtain ⟨ho1, ho2⟩ := ho
  rcases ho2 with ⟨hv, _⟩ | ⟨g', cap', cur, hv, hb, hh, hnc', hcm, hcs, ht⟩
  · cases hv
  injection hv with ha hl hc
  injection ha with ha
  injection ha with hg
  subst hg; subst hc
  have hml : (xs.take m).length = m := by rw [List.length_take]; omega
  have hle : m * d.sz ≤ xs.length * d.sz := Nat.mul_le_mul_right _ (by omega)
  refine ⟨fun k hk => hok k (by simpa [Value.ownBlock] using hk), inner.take (m * d.sz), ⟨?_, .inr ⟨g, cap, cur, by rw [hml], hb, hh, by omega, hcm, hcs, ?_⟩⟩, ?_⟩
  · rw [hml, List.length_take, hr.1]
    omega
  · rw [hml, ← ht, List.take_take, Nat.min_eq_left hle]
  · refine ⟨by rw [hml, List.length_take, hr.1]; omega, fun j p hj => ?_⟩
    have hj2 : j < m := by
      have := (List.getElem?_eq_some_iff.1 hj).1
      omega
    rw [List.getElem?_take, if_pos hj2] at hj
    have hM := hr.2 j p hj
    have hjs : j * d.sz + d.sz ≤ m * d.sz := by rw [← Nat.succ_mul]; exact Nat.mul_le_mul_right _ hj2
    have hcells : ((inner.take (m * d.sz)).drop (j * d.sz)).take d.sz = (inner.drop (j * d.sz)).take d.sz := by
      rw [List.drop_take, List.take_take, Nat.min_eq_left (by omega)]
    rw [hcells]
    exact d.M_mono (fun k hk => ⟨hk.1, fun he => hk.2 (by simpa [Value.ownBlock] using he)⟩) hM
/-- What lies behind a row's elements in its block is written. -/
theorem R_spare (h : d.R e w base ok (.slice (some ⟨g, 0, none⟩) n cap) xs) (o : Nat) (us : List Value) (ho : n * d.sz ≤ o) (hi : o + us.length ≤ cap * d.sz) :
    d.R e (w.setCells g o us) base ok (.slice (some ⟨g, 0, none⟩) n cap) xs ∧ w.grownBy (w.setCells g o us) (some g) := by
  obtain ⟨hn, hnc, _⟩ := Kd.R_reads' h
  obtain ⟨hok, inner, hown, hr⟩ := h
  obtain ⟨ho1, ho2⟩ := hown
  rcases ho2 with ⟨hv, _⟩ | ⟨g', cap', cur, hv, hb, hh, hnc', hcm, hcs, ht⟩
  · cases hv
  injection hv with ha hl hc
  injection ha with ha
  injection ha with hg
  subst hg; subst hc
  obtain ⟨cur', h3, h4, h5⟩ := setCells_row us o w cur hh (by rw [hcs]; exact hi)
  obtain ⟨s1, s2, s3, s4⟩ := setCells_same g us o w
  have hfar : ∀ k, k ≠ g → (w.setCells g o us).heap[k]? = w.heap[k]? := fun k hk => setCells_far us _ k hk
  refine ⟨⟨hok, inner, ⟨ho1, .inr ⟨g, cap, cur', by rw [hl], hb, h3, hnc', hcm, by rw [h4, hcs], ?_⟩⟩, hr.1, fun j p hj => ?_⟩, ⟨s1, s2, s3, by rw [s4]; exact Nat.le_refl _, fun k _ hk => hfar k (fun he => hk (by rw [he]))⟩⟩
  · have hcl : cur.toList.length = cap * d.sz := by rw [Array.length_toList, hcs]
    have hol : xs.length * d.sz ≤ o := by rw [← hn]; exact ho
    rw [h5, List.append_assoc, List.take_append_of_le_length (by rw [List.length_take, hcl]; omega), List.take_take, Nat.min_eq_left hol]
    exact ht
  · exact d.M_move (fun k hk => hfar k (fun he => hk.2 (by rw [he]; simp [Value.ownBlock]))) (hr.2 j p hj)
/-- Elements whose marks differ lie apart. -/
theorem S_of_marks {f : Nat → Nat} {v : Value} {zs : List (α × Nat)} (h : (tag f d).R e w base ok v zs) (hd : (zs.map Prod.snd).Nodup) : S d e w base ok v (zs.map Prod.fst) := by
  refine ⟨fun k => (zs.map Prod.snd).idxOf (f k), ?_⟩
  obtain ⟨hok, inner, ho, hr⟩ := h
  have hl : (zs.map Prod.fst).zipIdx.length = zs.length := by simp
  refine ⟨hok, inner, by rw [hl]; exact ho, by rw [hl]; exact hr.1, fun j p hj => ?_⟩
  rw [List.getElem?_zipIdx, List.getElem?_map] at hj
  rcases hz : zs[j]? with _ | z
  · rw [hz] at hj; simp at hj
  · rw [hz] at hj
    simp only [Option.map_some, Option.some.injEq, Nat.zero_add] at hj
    subst hj
    have hM := hr.2 j z hz
    refine d.M_mono (fun k hk => ⟨hk.1, ?_⟩) hM
    obtain ⟨hjl, hzj⟩ := List.getElem?_eq_some_iff.1 hz
    have hk2 : f k = z.2 := hk.2
    show (zs.map Prod.snd).idxOf (f k) = j
    have hjl2 : j < (zs.map Prod.snd).length := by simpa using hjl
    have he : f k = (zs.map Prod.snd)[j] := by rw [List.getElem_map, hzj, hk2]
    rw [he]
    exact List.Nodup.idxOf_getElem hd j hjl2
end

section
open Go.Proofs.Ytcgkfijigjcmpaa.Lawful
/-- A call of a function value, as an arm of go_wp2_with. -/
theorem goesV_ {P : Program} {ops : Array Oper} {Q : Exit → Act → World → Prop} {rest : List Oper} {oi : Oper} {a : Act} {w : World} (N : Option Tmp) (hd : oi.dst = N) (hg : oi.guard = none) {f : FuncId} {fn : Func} {p : Operand} {cap : Array Value} {ags : Array Operand} {ts : Array TypeId} (hf : P.funcs[f]? = some fn) (hname : (fn.name == "runtime.NumGoroutine") = false) (hb : fn.body.isSome = true) (args : Array Value)
    (hop : oi.op = .call { callee := .value p, args := ags, argTypes := ts }) (hp : a.eval p = .func (.func f) #[] cap) (hargs : ags.toList.map a.eval ++ cap.toList = args.toList)
    (h : Calls P f args w fun e w' => ∃ v, e = .returned v ∧ wpList P ops Q rest (a.put N v) w') : wpList P ops Q (oi :: rest) a w := by
  refine wpList_plain hg fun K hK => ?_
  have he := enters_ hf hname hb args w
  have hargs : ags.map a.eval ++ cap = args := Array.toList_inj.mp (by simpa using hargs)
  have hrun : (execOp a.eval oi).run P w = .ok (.enter f args) w := by
    unfold execOp
    simp [hop, resolve, Deferred.ofValue, invoke, hp, hargs, he]
  unfold Oper.wp
  rw [hrun, Oper.upon_enter]
  refine h.mono fun e w'' hh => ?_
  obtain ⟨v, rfl, hk⟩ := hh
  subst hd
  exact hK _ _ hk
/-- Where the first blob without a reference stands, -1 if nowhere. -/
def blobIdx : List S35 → Int → Int
  | [], _ => -1
  | x :: l, i => if (x.f1 == 0) = true then i else blobIdx l (i + 1)
theorem blobIdx_step (l : List S35) (i : Nat) (h : i < l.length) : blobIdx (l.drop i) i = if ((rd_T35 l (i : Int)).f1 == 0) = true then (i : Int) else blobIdx (l.drop (i + 1)) ((i + 1 : Nat) : Int) := by
  rw [List.drop_eq_getElem_cons h, blobIdx]
  have : rd_T35 l (i : Int) = l[i] := by
    unfold rd_T35
    simp [List.getD_eq_getElem?_getD, List.getElem?_eq_getElem h]
  rw [this]
  rfl
set_option maxHeartbeats 8000000 in
set_option maxRecDepth 100000 in
theorem blobLit (x : S35) (v : Value) (w : World) : Calls Try.prog 56 #[.agg #[.string x.f0, .int .i64 x.f1, v]] w fun e w' => e = .returned (.bool (x.f1 == 0)) ∧ Below w.heap.size w w' := by
  have hu := Try.underlying35
  have HB := Aside0.mk (Below.refl w.heap.size w)
  go_enter Try.func56, Try.ntmps56
  go_wp2_with (first | ((with_reducible refine gate_dst (N := 1) rfl ?_); refine box_event ?hg_1 (N := 1) ?hd_1 (cs := #[.string x.f0, .int .i64 x.f1, v]) (t := 35) ?hr_1 ?_; (case hd_1 => rfl); (case hg_1 => rfl); (case hr_1 => first | (go_simp; done) | (go_simp; rfl)); intro gX1 hg w2 hbox hb; have hk := kept_below hb; obtain ⟨PX1, hPX1, HLX1⟩ := LB.fresh hg hbox; have HX1 := Aside0.mk HLX1; clear HLX1; have GEX1 := Aside0.mk (show w.heap.size ≤ gX1 from (by rw [hg]; exact HB.out.size)); replace HB := Aside0.mk (below_step HB.out hb); clear hb hk hbox hg hPX1; (try clear hxX1_0 hfX1_0 hxX1_1 hfX1_1 hxX1_2 hfX1_2); have hxX1_0 := (HX1.out.cell 0).trans (show _ = some (.string x.f0) from rfl); have hfX1_0 := HX1.out.frozen 0; have hxX1_1 := (HX1.out.cell 1).trans (show _ = some (.int .i64 x.f1) from rfl); have hfX1_1 := HX1.out.frozen 1; have hxX1_2 := (HX1.out.cell 2).trans (show _ = some (v) from rfl); have hfX1_2 := HX1.out.frozen 2))
  go_ret
  exact ⟨rfl, HB.out⟩
set_option maxHeartbeats 8000000 in
set_option maxRecDepth 100000 in
theorem blobIndex (A0 : Option Addr) (c0 : Nat) (l : List S35) (w : World) (hr : Kd.C k35 w A0 l.length l) (hl : l.length ≤ 9223372036854775806) :
    Calls Try.prog 38 #[.slice A0 l.length c0, .func (.func 56) #[] #[]] w fun e w' => e = .returned (.int .i64 (blobIdx l 0)) ∧ Below w.heap.size w w' := by
  have HB := Aside0.mk (Below.refl w.heap.size w)
  have HR := Aside0.mk hr
  have HL := Aside0.mk hl
  clear hr hl
  go_enter Try.func38, Try.ntmps38
  go_wp2
  go_loopg [8] (l.length + 1) (fun kq v8 w' => ∃ i : Nat, v8 = .int .i64 (i : Int) ∧ Aside0 (i + kq = l.length + 1) ∧ Aside0 (blobIdx l 0 = blobIdx (l.drop i) i) ∧ Aside0 (Below w.heap.size w w'))
  case atStart => exact ⟨0, rfl, ⟨by omega⟩, ⟨rfl⟩, HB⟩
  case round =>
    clear HB
    obtain ⟨i, rfl, HK, HI, HB⟩ := hrel
    by_cases hi : i < l.length
    · obtain ⟨k1, rfl⟩ : ∃ k_, gk = k_ + 1 := ⟨gk - 1, by have := HK.out; omega⟩
      have hlt : decide ((i : Int) < (l.length : Int)) = true := decide_eq_true (by omega)
      have hltn : decide (i < l.length) = true := decide_eq_true (by omega)
      have hw : wrap64 ((i : Int) + 1) = ((i + 1 : Nat) : Int) := by have := HL.out; unfold wrap64; omega
      have hww : IntKind.i64.wrap ((i : Int) + 1) = ((i + 1 : Nat) : Int) := (i64_w _).trans hw
      obtain ⟨ad, A2, c2, ea, hx0, hx1, hx2, _, _⟩ := at_T35 (Kd.C_below HR.out HB.out) (i : Int) (by omega) (by omega)
      cases ea
      simp only [Int.toNat_natCast] at hx0 hx1 hx2
      have HS := Aside0.mk (blobIdx_step l i hi)
      have p1 := eq_true (show (0 : Int) ≤ (i : Int) by omega)
      have q1 := eq_true (show (i : Int) < (l.length : Int) by omega)
      have p2 := hi
      cases hc : ((rd_T35 l (i : Int)).f1 == 0) with
      | true =>
        have HE := Aside0.mk (show blobIdx l 0 = (i : Int) by rw [HI.out, HS.out, hc]; rfl)
        go_wp2_with (first | ((with_reducible refine gate_dst (N := 16) rfl ?_); refine goesV_ (f := 56) (some 16) rfl rfl Try.func56 (by kernel_rfl) rfl #[.agg #[.string (rd_T35 l (i : Int)).f0, .int .i64 (rd_T35 l (i : Int)).f1, .slice A2 (rd_T35 l (i : Int)).f2.length c2]] rfl rfl rfl ?_; (with_reducible refine (blobLit (rd_T35 l (i : Int)) _ _).mono ?_); rintro e w2 ⟨he, hb⟩; rw [hc] at he; subst he; refine ⟨_, rfl, ?_⟩; replace HB := Aside0.mk (below_step HB.out hb); clear hb))
        go_ret
        exact ⟨by rw [HE.out]; rfl, HB.out⟩
      | false =>
        have HE := Aside0.mk (show blobIdx l 0 = blobIdx (l.drop (i + 1)) ((i + 1 : Nat) : Int) by rw [HI.out, HS.out, hc]; rfl)
        go_wp2_with (first | ((with_reducible refine gate_dst (N := 16) rfl ?_); refine goesV_ (f := 56) (some 16) rfl rfl Try.func56 (by kernel_rfl) rfl #[.agg #[.string (rd_T35 l (i : Int)).f0, .int .i64 (rd_T35 l (i : Int)).f1, .slice A2 (rd_T35 l (i : Int)).f2.length c2]] rfl rfl rfl ?_; (with_reducible refine (blobLit (rd_T35 l (i : Int)) _ _).mono ?_); rintro e w2 ⟨he, hb⟩; rw [hc] at he; subst he; refine ⟨_, rfl, ?_⟩; replace HB := Aside0.mk (below_step HB.out hb); clear hb))
        go_roundg k1
        case measure => have := HK.out; omega
        case rel => exact ⟨i + 1, by first | rfl | (simp only [hw]) | simp, ⟨by have := HK.out; omega⟩, HE, HB⟩
    · have hd : l.drop i = [] := List.drop_eq_nil_of_le (by omega)
      have hlt : decide ((i : Int) < (l.length : Int)) = false := decide_eq_false (by omega)
      have hltn : decide (i < l.length) = false := decide_eq_false (by omega)
      have HE := Aside0.mk (show blobIdx l 0 = -1 by rw [HI.out, hd]; rfl)
      clear hd
      go_wp2
      go_ret
      exact ⟨by rw [HE.out]; rfl, HB.out⟩
theorem kept_cell {w w' : World} {Sx : Nat → Prop} {g o : Nat} {u : Value} (hk : Kept w w' Sx) (h : w.cell? ⟨g, o, none⟩ = some u) (hS : ¬ Sx g) : w'.cell? ⟨g, o, none⟩ = some u := by
  have hlt := World.block_lt_of_cell? w _ h
  have := hk.2 g hlt hS
  unfold World.cell? at h ⊢
  rw [this]
  exact h
theorem clear_any {P : Program} {t e : TypeId} {z : Value} (ht : P.underlying t = some (.slice e)) (hz : ∀ W, (zeroValue e).run P W = .ok z W) (h1 : ∀ u ∈ z.cells.toList, u.oneCell' = true) (hzs : 0 < z.cells.size) {g e2 : Nat} {cur : Array Value} {w : World} (hg : w.heap[g]? = some (.cells cur e2 (0, 0))) (o n c : Nat) (hn : 0 < n)
    (hfit : o + n * z.cells.size ≤ cur.size) : ∀ ty, (Builtin.clear_ #[t] ty #[.slice (some ⟨g, o, none⟩) n c]).run P w = .ok (.tuple #[]) (w.setCells g o (Builtin.zeroCells z.cells n).toList) := by
  intro ty
  have hl : (Builtin.zeroCells z.cells n).toList.length = n * z.cells.size := by rw [Array.length_toList, size_zeroCells]
  have hst := run_storeCells_cells (P := P) g o (Builtin.zeroCells z.cells n).toList 0 w (fun j hj => by
      rw [hl] at hj
      unfold World.cell?
      rw [hg]
      simp
      omega) (fun j _ => by unfold World.frozen?; rw [hg]; simp) (fun v hv => by
      simp [Builtin.zeroCells] at hv
      obtain ⟨a, _, rfl⟩ := hv
      have hm : a % z.cells.size < z.cells.size := Nat.mod_lt _ hzs
      rw [getElem!_pos z.cells (a % z.cells.size) hm]
      exact h1 _ (by simp))
  simp only [Nat.add_zero] at hst
  obtain ⟨m, rfl⟩ : ∃ m, n = m + 1 := ⟨n - 1, by omega⟩
  simp [Builtin.clear_, run_underlying ht, hz, hst]
def blobKeep (z : S35 × Nat) : Bool := !(z.1.f1 == 0)
theorem blobIdx_no : ∀ (l : List S35) (i : Int), 0 ≤ i → blobIdx l i = -1 → l.filter (fun x => !(x.f1 == 0)) = l
  | [], _, _, _ => rfl
  | x :: l, i, h0, h => by
    rw [blobIdx] at h
    cases hc : (x.f1 == 0) with
    | true => rw [hc, if_pos rfl] at h; omega
    | false =>
      rw [hc, if_neg (by simp)] at h
      rw [List.filter_cons_of_pos (by rw [hc]; rfl), blobIdx_no l (i + 1) (by omega) h]
theorem blobIdx_yes : ∀ (l : List S35) (i : Nat), blobIdx l (i : Int) ≠ -1 → ∃ m : Nat, blobIdx l (i : Int) = ((i + m : Nat) : Int) ∧ m < l.length ∧ (l.take m).filter (fun x => !(x.f1 == 0)) = l.take m ∧ ∀ x, l[m]? = some x → (x.f1 == 0) = true
  | [], _, h => absurd rfl h
  | x :: l, i, h => by
    rw [blobIdx] at h ⊢
    cases hc : (x.f1 == 0) with
    | true => exact ⟨0, by rw [if_pos rfl]; rfl, by simp, rfl, fun y hy => by simp at hy; rw [← hy]; exact hc⟩
    | false =>
      rw [hc, if_neg (by simp)] at h
      rw [if_neg (by simp)]
      have he : ((i : Int) + 1) = ((i + 1 : Nat) : Int) := by push_cast; rfl
      rw [he] at h ⊢
      obtain ⟨m, h1, h2, h3, h4⟩ := blobIdx_yes l (i + 1) h
      refine ⟨m + 1, by rw [h1]; congr 1; omega, by simp; omega, ?_, fun y hy => h4 y (by simpa using hy)⟩
      rw [List.take_succ_cons, List.filter_cons_of_pos (by rw [hc]; rfl), h3]
theorem zip_keep (l : List S35) (m : Nat) : ((l.zipIdx.take m).filter blobKeep).map Prod.fst = (l.take m).filter (fun x => !(x.f1 == 0)) := by
  have gen : ∀ (l : List S35) (k : Nat), ((l.zipIdx k).filter blobKeep).map Prod.fst = l.filter (fun x => !(x.f1 == 0)) := by
    intro l
    induction l with
    | nil => intro k; rfl
    | cons x l ih =>
      intro k
      rw [List.zipIdx_cons]
      cases hc : (x.f1 == 0) with
      | true => rw [List.filter_cons_of_neg (by simp [blobKeep, hc]), List.filter_cons_of_neg (by simp [hc]), ih]
      | false => rw [List.filter_cons_of_pos (by simp [blobKeep, hc]), List.filter_cons_of_pos (by simp [hc]), List.map_cons, ih]
  rw [← gen (l.take m) 0]
  congr 2
  apply List.ext_getElem?
  intro i
  rw [List.getElem?_take, List.getElem?_zipIdx, List.getElem?_zipIdx, List.getElem?_take]
  split <;> simp
theorem zip_nodup (l : List S35) : ((l.zipIdx.filter blobKeep).map Prod.snd).Nodup := by
  refine List.Nodup.sublist (List.Sublist.map _ List.filter_sublist) ?_
  rw [List.zipIdx_map_snd]
  exact List.nodup_range'
theorem blob3 {cs : List Value} {n : Nat} (h : cs.length = n) (hn : n = 3 := by rfl) : ∃ a b c, cs = [a, b, c] := by
  subst hn
  match cs, h with
  | [a, b, c], _ => exact ⟨a, b, c, rfl⟩
theorem blobBelow {w w1 w2 : World} {g : Nat} (hB : Below w.heap.size w w1) (h : w1.grownBy w2 (some g)) (hg : w.heap.size ≤ g) : Below w.heap.size w w2 :=
  ⟨h.os.trans hB.os, h.tape.trans hB.tape, h.output.trans hB.output, Nat.le_trans hB.size h.size, fun k hk => (h.block k (Nat.lt_of_lt_of_le hk hB.size) (fun he => by injection he with he; omega)).trans (hB.block k hk)⟩
theorem blobRd (l : List S35) (j : Nat) (hj : j < l.length) : rd_T35 l (j : Int) = l[j] := by
  unfold rd_T35
  simp [List.getD_eq_getElem?_getD, List.getElem?_eq_getElem hj]
theorem blobStart (l : List S35) (m : Nat) (hm : m < l.length) (h1 : (l.take m).filter (fun x => !(x.f1 == 0)) = l.take m) (h2 : ∀ x, l[m]? = some x → (x.f1 == 0) = true) :
    l.zipIdx.take m = (l.zipIdx.take (m + 1)).filter blobKeep ∧ ((l.zipIdx.take (m + 1)).filter blobKeep).length = m := by
  have hz : m < l.zipIdx.length := by simp; exact hm
  have hk : blobKeep l.zipIdx[m] = false := by
    rw [List.getElem_zipIdx]
    unfold blobKeep
    rw [h2 _ (by simp [List.getElem?_eq_getElem hm])]
    rfl
  have hall : (l.zipIdx.take m).filter blobKeep = l.zipIdx.take m := by
    rw [List.filter_eq_self]
    intro z hz
    have hz1 : z.1 ∈ l.take m := by
      have hmem := List.mem_map_of_mem (f := Prod.fst) hz
      rw [List.map_take, List.zipIdx_map_fst] at hmem
      exact hmem
    rw [← h1] at hz1
    have := (List.mem_filter.1 hz1).2
    exact this
  rw [List.take_succ_eq_append_getElem hz, List.filter_append, hall]
  simp only [List.filter_cons, hk, Bool.false_eq_true, if_false, List.filter_nil, List.append_nil]
  refine ⟨by simp, by simp; omega⟩
theorem blobAt (l : List S35) (zs : List (S35 × Nat)) (j : Nat) (hj : j < l.length) (hl : zs.length = l.length) (hd : zs.drop j = l.zipIdx.drop j) : zs.getD j ((z35, 0) : S35 × Nat) = (rd_T35 l (j : Int), j) := by
  have h1 := congrArg (fun x => x[0]?) hd
  simp only [List.getElem?_drop, Nat.add_zero] at h1
  rw [List.getElem?_zipIdx, List.getElem?_eq_getElem hj] at h1
  rw [List.getD_eq_getElem?_getD, h1, blobRd l j hj]
  simp
theorem blobStep1 (l : List S35) (zs : List (S35 × Nat)) (i j : Nat) (x : S35) (hj : j < l.length) (hc : (x.f1 == 0) = false) (hx : x = rd_T35 l (j : Int)) (h : zs.take i = (l.zipIdx.take j).filter blobKeep ∧ ((l.zipIdx.take j).filter blobKeep).length = i) (hij : i + 1 ≤ j) (hl : zs.length = l.length) :
    (zs.set i (x, j)).take (i + 1) = (l.zipIdx.take (j + 1)).filter blobKeep ∧ ((l.zipIdx.take (j + 1)).filter blobKeep).length = i + 1 := by
  have hz : j < l.zipIdx.length := by simp; exact hj
  have hk : l.zipIdx[j] = (x, j) := by rw [List.getElem_zipIdx, hx, blobRd l j hj]; simp
  have hkk : blobKeep l.zipIdx[j] = true := by rw [hk]; unfold blobKeep; simp [hc]
  have e : (l.zipIdx.take (j + 1)).filter blobKeep = (l.zipIdx.take j).filter blobKeep ++ [(x, j)] := by
    rw [List.take_succ_eq_append_getElem hz, List.filter_append, List.filter_cons_of_pos hkk, hk]
    rfl
  rw [e, ← h.1]
  have hil : i < (zs.set i (x, j)).length := by rw [List.length_set]; omega
  refine ⟨?_, by simp; omega⟩
  rw [List.take_succ_eq_append_getElem hil, List.getElem_set_self, List.take_set_of_le (Nat.le_refl i)]
theorem blobStep2 (l : List S35) (zs : List (S35 × Nat)) (i j : Nat) (x : S35) (hd : zs.drop j = l.zipIdx.drop j) (hij : i + 1 ≤ j) : (zs.set i (x, j)).drop (j + 1) = l.zipIdx.drop (j + 1) := by
  rw [List.drop_set_of_lt (by omega), ← List.drop_drop, ← List.drop_drop, hd]
theorem blobStep3 (l : List S35) (zs : List (S35 × Nat)) (i j : Nat) (x : S35) (hj : j < l.length) (hc : (x.f1 == 0) = true) (hx : x = rd_T35 l (j : Int)) (h : zs.take i = (l.zipIdx.take j).filter blobKeep ∧ ((l.zipIdx.take j).filter blobKeep).length = i) :
    zs.take i = (l.zipIdx.take (j + 1)).filter blobKeep ∧ ((l.zipIdx.take (j + 1)).filter blobKeep).length = i := by
  have hz : j < l.zipIdx.length := by simp; exact hj
  have hk : l.zipIdx[j] = (x, j) := by rw [List.getElem_zipIdx, hx, blobRd l j hj]; simp
  have hkk : ¬ blobKeep l.zipIdx[j] = true := by rw [hk]; unfold blobKeep; simp [hc]
  have e : (l.zipIdx.take (j + 1)).filter blobKeep = (l.zipIdx.take j).filter blobKeep := by
    rw [List.take_succ_eq_append_getElem hz, List.filter_append, List.filter_cons_of_neg hkk]
    simp
  rw [e]
  exact h
theorem blobStep4 (l : List S35) (zs : List (S35 × Nat)) (j : Nat) (hd : zs.drop j = l.zipIdx.drop j) : zs.drop (j + 1) = l.zipIdx.drop (j + 1) := by
  rw [← List.drop_drop, ← List.drop_drop, hd]
theorem blobRow {f : Nat → Nat} {w : World} {base g n cap : Nat} {ok : Nat → Prop} {xs : List (S35 × Nat)} (h : (Kd.tag f k35).R 35 w base ok (.slice (some ⟨g, 0, none⟩) n cap) xs) : ∃ cur, w.heap[g]? = some (.cells cur 35 (0, 0)) ∧ cur.size = cap * 3 := by
  obtain ⟨hok, inner, ho, hr⟩ := h
  obtain ⟨ho1, ho2⟩ := ho
  rcases ho2 with ⟨hv, _⟩ | ⟨g', cap', cur, hv, hb, hh, hnc', hcm, hcs, ht⟩
  · cases hv
  injection hv with ha hl hc
  injection ha with ha
  injection ha with hg
  subst hg; subst hc
  exact ⟨cur, hh, hcs⟩
theorem blobEnd {f : Nat → Nat} {P1 : Nat → Prop} {w ws wr : World} {g c0 i : Nat} {l : List S35} {zs : List (S35 × Nat)} (hR : LR (Kd.tag f k35) 35 wr w.heap.size P1 (.slice (some ⟨g, 0, none⟩) l.length c0) zs) (hi : i ≤ l.length)
    (ht : zs.take i = (l.zipIdx.take l.length).filter blobKeep) (us : List Value) (hu : us.length = (l.length - i) * 3) (hB : Below w.heap.size w wr) (hg : w.heap.size ≤ g) (hK : Kept ws wr P1) :
    LS k35 35 (wr.setCells g (i * 3) us) w.heap.size P1 (.slice (some ⟨g, 0, none⟩) i c0) (l.filter (fun x => !(x.f1 == 0))) ∧ Below w.heap.size w (wr.setCells g (i * 3) us) ∧ Kept ws (wr.setCells g (i * 3) us) P1 := by
  have hc := (Kd.R_reads' hR.1).2.1
  have h1 := R_pre hR.1 hi
  obtain ⟨h2, h3⟩ := R_spare h1 (i * 3) us (Nat.le_refl _) (by rw [hu, show (Kd.tag f k35).sz = 3 from rfl, ← Nat.add_mul]; exact Nat.mul_le_mul_right _ (by omega))
  have hP : P1 g := hR.1.1 g (by simp [Value.ownBlock])
  have hk : Kept wr (wr.setCells g (i * 3) us) P1 := Kept.of_grown h3 (Kept.refl _ P1) (fun k_ h_ => .inl (by injection h_ with h_; rw [← h_]; exact hP))
  refine ⟨⟨?_, fun k hk' => Nat.lt_of_lt_of_le (hR.2 k hk') h3.size⟩, blobBelow hB h3 hg, hK.then_ hk (fun _ h_ => .inl h_)⟩
  have hn : ((zs.take i).map Prod.snd).Nodup := by
    rw [ht, List.take_of_length_le (by simp)]
    exact zip_nodup l
  have hm : (zs.take i).map Prod.fst = l.filter (fun x => !(x.f1 == 0)) := by
    rw [ht, zip_keep, List.take_of_length_le (Nat.le_refl _)]
  rw [← hm]
  exact S_of_marks h2 hn
theorem blobInfo : (Try.prog.info? 35).map (fun i => (i.zero, i.size, i.bytes)) = some (some (.agg #[.string ByteArray.empty, .int .i64 0, .slice none 0 0]), 3, 48) := by kernel_rfl
set_option maxHeartbeats 8000000 in
set_option maxRecDepth 100000 in
theorem blobDel (P1 : Nat → Prop) (A0 : Option Addr) (c0 : Nat) (l : List S35) (w ws : World) (hB : Below w.heap.size w ws) (h : LS k35 35 ws w.heap.size P1 (.slice A0 l.length c0) l) (hlen : l.length ≤ 1000000) :
    Calls Try.prog 55 #[.slice A0 l.length c0, .func (.func 56) #[] #[]] ws fun e w' => ∃ v' : Value, e = .returned v' ∧ LS k35 35 w' w.heap.size P1 v' (l.filter (fun x => !(x.f1 == 0))) ∧ Below w.heap.size w w' ∧ Kept ws w' P1 := by
  have hu := Try.underlying35
  have HB := Aside0.mk hB
  have H1 := Aside0.mk h
  have HK := Aside0.mk (Kept.refl ws P1)
  have HLN := Aside0.mk hlen
  clear hB h hlen
  obtain ⟨q, hq⟩ : ∃ q_, q_ = blobIdx l 0 := ⟨_, rfl⟩
  have NQ := Aside0.mk hq.symm
  clear hq
  by_cases c : q = -1
  · have HE := Aside0.mk (blobIdx_no l 0 (by omega) (NQ.out.trans c))
    have cb : (q == -1) = true := beq_iff_eq.mpr c
    clear c
    go_enter Try.func55, Try.ntmps55
    go_wp2_with (first | ((with_reducible refine gate_callee (f := 38) rfl ?_); refine goesL_ (some 10) rfl rfl Try.func38 (by kernel_rfl) rfl #[.slice A0 l.length c0, .func (.func 56) #[] #[]] rfl (by (try simp only [List.map_toArray, List.map_cons, List.map_nil]); first | done | rfl) ?_; (with_reducible refine (blobIndex A0 c0 l _ H1.out.reads (by have := HLN.out; omega)).mono ?_); rintro e w2 ⟨he, hb⟩; rw [NQ.out] at he; subst he; refine ⟨_, rfl, ?_⟩; have hk := kept_below hb; replace H1 := Aside0.mk (H1.out.step hk no_S); replace HK := Aside0.mk (HK.out.then_ hk (fun _ h_ => h_.elim)); replace HB := Aside0.mk (below_step HB.out hb); clear hb hk))
    go_ret
    exact ⟨_, rfl, by rw [HE.out]; exact H1.out, HB.out, HK.out⟩
  · have cb : (q == -1) = false := beq_eq_false_iff_ne.mpr c
    obtain ⟨m, hm, hml, hm1, hm2⟩ := blobIdx_yes l 0 (by rw [show ((0 : Nat) : Int) = 0 from rfl, NQ.out]; exact c)
    obtain rfl : q = (m : Int) := by rw [← NQ.out, show (0 : Int) = ((0 : Nat) : Int) from rfl, hm]; congr 1; omega
    have HM1 := Aside0.mk hm1
    have HM2 := Aside0.mk hm2
    have HML := Aside0.mk hml
    have hw1 : wrap64 ((m : Int) + 1) = ((m + 1 : Nat) : Int) := by have := HLN.out; unfold wrap64; omega
    clear c hm hm1 hm2
    obtain ⟨g, co, eo, gb, gl, cl, HG⟩ := Kd.S_form H1.out.1 (by omega)
    injection eo with ea_ en_ ec_
    subst ea_
    subst ec_
    have GB := Aside0.mk gb
    clear en_ gb gl hml HG cl
    go_enter Try.func55, Try.ntmps55
    go_wp2_with (first | ((with_reducible refine gate_callee (f := 38) rfl ?_); refine goesL_ (some 10) rfl rfl Try.func38 (by kernel_rfl) rfl #[.slice (some ⟨g, 0, none⟩) l.length c0, .func (.func 56) #[] #[]] rfl (by (try simp only [List.map_toArray, List.map_cons, List.map_nil]); first | done | rfl) ?_; (with_reducible refine (blobIndex (some ⟨g, 0, none⟩) c0 l _ H1.out.reads (by have := HLN.out; omega)).mono ?_); rintro e w2 ⟨he, hb⟩; rw [NQ.out] at he; subst he; refine ⟨_, rfl, ?_⟩; have hk := kept_below hb; replace H1 := Aside0.mk (H1.out.step hk no_S); replace HK := Aside0.mk (HK.out.then_ hk (fun _ h_ => h_.elim)); replace HB := Aside0.mk (below_step HB.out hb); clear hb hk))
    obtain ⟨⟨f, hf⟩, hlt⟩ := H1.out
    have HZ := Aside0.mk (show LR (Kd.tag f k35) 35 _ w.heap.size P1 (.slice (some ⟨g, 0, none⟩) l.length c0) l.zipIdx from ⟨hf, hlt⟩)
    clear hf hlt H1
    go_loopg [5, 6] (l.length - (m + 1)) (fun kq v5 v6 w' => ∃ (i j : Nat) (zs : List (S35 × Nat)), v5 = .int .i64 (i : Int) ∧ v6 = .int .i64 (j : Int) ∧ Aside0 (j + kq = l.length ∧ i + 1 ≤ j ∧ zs.length = l.length) ∧ Aside0 (zs.take i = (l.zipIdx.take j).filter blobKeep ∧ ((l.zipIdx.take j).filter blobKeep).length = i) ∧ Aside0 (zs.drop j = l.zipIdx.drop j) ∧ Aside0 (LR (Kd.tag f k35) 35 w' w.heap.size P1 (.slice (some ⟨g, 0, none⟩) l.length c0) zs) ∧ Aside0 (Below w.heap.size w w') ∧ Aside0 (Kept ws w' P1))
    case atStart => exact ⟨m, m + 1, l.zipIdx, rfl, by first | rfl | (simp only [hw1]) | simp, ⟨by have := HML.out; omega, Nat.le_refl _, by simp⟩, ⟨blobStart l m HML.out HM1.out HM2.out⟩, ⟨rfl⟩, HZ, HB, HK⟩
    case round =>
      clear HZ HB HK HM1 HM2 hw1
      obtain ⟨i, j, zs, rfl, rfl, HJ, HT, HD, HZ, HB, HK⟩ := hrel
      by_cases hj : j < l.length
      · obtain ⟨k1, rfl⟩ : ∃ k_, gk = k_ + 1 := ⟨gk - 1, by have := HJ.out.1; omega⟩
        have hlt : decide ((j : Int) < (l.length : Int)) = true := decide_eq_true (by omega)
        have hltn : decide (j < l.length) = true := decide_eq_true (by omega)
        have hwj : wrap64 ((j : Int) + 1) = ((j + 1 : Nat) : Int) := by have := HLN.out; unfold wrap64; omega
        have hwi : wrap64 ((i : Int) + 1) = ((i + 1 : Nat) : Int) := by have := HLN.out; have := HJ.out.2.1; unfold wrap64; omega
        have p1 := eq_true (show (0 : Int) ≤ (j : Int) by omega)
        have q1 := eq_true (show (j : Int) < (l.length : Int) by omega)
        have p2 := eq_true (show (0 : Int) ≤ (i : Int) by omega)
        have q2 := eq_true (show (i : Int) < (l.length : Int) by have := HJ.out.2.1; omega)
        have NZ := Aside0.mk (blobAt l zs j hj HJ.out.2.2 HD.out)
        obtain ⟨c, _, hM, hcc, _⟩ := Kd.R_elem HZ.out.1 ((z35, 0) : S35 × Nat) (j : Int) (by omega) (by omega)
        rw [Int.toNat_natCast] at hcc
        rw [Int.toNat_natCast, NZ.out] at hM
        obtain ⟨x, hx⟩ : ∃ x_, x_ = rd_T35 l (j : Int) := ⟨_, rfl⟩
        rw [← hx] at hM NZ
        obtain ⟨v2, rfl, hg2⟩ := k35_openM hM
        obtain ⟨A2, c2, rfl⟩ := Kd.R_slice hg2
        have hx0 := hcc 0 _ rfl
        have hx1 := hcc 1 _ rfl
        have hx2 := hcc 2 _ rfl
        simp only [show (Kd.tag f k35).sz = 3 from rfl, Nat.add_zero] at hx0 hx1 hx2
        have HCC := Aside0.mk hx2
        have PG := Aside0.mk (HZ.out.1.1 g (by simp [Value.ownBlock]))
        have NX := Aside0.mk hx
        have esz : (Kd.tag f k35).sz = 3 := rfl
        clear hM hg2 hcc hx
        cases hc : (x.f1 == 0) with
        | false =>
          go_wp2_with (first | ((with_reducible refine gate_dst (N := 7) rfl ?_); refine box_event ?hg_2 (N := 7) ?hd_2 (cs := #[.string ByteArray.empty, .int .i64 0, .slice none 0 0]) (t := 35) ?hr_2 ?_; (case hd_2 => rfl); (case hg_2 => rfl); (case hr_2 => first | (go_simp; done) | (go_simp; rfl)); intro gX2 hg w2 hbox hb; have hk := kept_below hb; obtain ⟨PX2, hPX2, HLX2⟩ := LB.fresh hg hbox; have HX2 := Aside0.mk HLX2; clear HLX2; have GEX2 := Aside0.mk (show w.heap.size ≤ gX2 from (by rw [hg]; exact HB.out.size)); have D_Z_X2 := Aside0.mk (new_apart HZ.out.lt hPX2); have RRX2 := Aside0.mk (show ∀ k_, PX2 k_ → (P1) k_ ∨ ws.heap.size ≤ k_ from fun k_ h_ => .inr (Nat.le_trans HK.out.1 (hPX2 k_ h_).1)); replace HZ := Aside0.mk (HZ.out.step hk no_S); replace HK := Aside0.mk (HK.out.then_ hk (fun _ h_ => h_.elim)); replace HB := Aside0.mk (below_step HB.out hb); replace HCC := Aside0.mk ((hb.cell (World.block_lt_of_cell? _ _ HCC.out)).trans HCC.out); clear hb hk hbox hg hPX2; (try clear hxX2_0 hfX2_0 hxX2_1 hfX2_1 hxX2_2 hfX2_2); have hxX2_0 := (HX2.out.cell 0).trans (show _ = some (.string ByteArray.empty) from rfl); have hfX2_0 := HX2.out.frozen 0; have hxX2_1 := (HX2.out.cell 1).trans (show _ = some (.int .i64 0) from rfl); have hfX2_1 := HX2.out.frozen 1; have hxX2_2 := (HX2.out.cell 2).trans (show _ = some (.slice none 0 0) from rfl); have hfX2_2 := HX2.out.frozen 2) | ((with_reducible refine gate_store (t := 35) (p := 7) rfl ?_); refine LB.storedW HX2.out HB.out GEX2.out [.string x.f0, .int .i64 x.f1, .slice A2 x.f2.length c2] rfl rfl (t := 35) (p := 7) rfl rfl ?hr_3 ?_; (case hr_3 => first | (go_simp; done) | (go_simp; simp only [World.setCells, Nat.reduceAdd, Nat.zero_add]; done)); intro w2 hx hk hb; replace HZ := Aside0.mk (HZ.out.step hk D_Z_X2.out); replace HK := Aside0.mk (HK.out.then_ hk RRX2.out); replace HB := Aside0.mk hb; replace HX2 := Aside0.mk (show LB w2 PX2 gX2 35 #[.string x.f0, .int .i64 x.f1, .slice A2 x.f2.length c2] from hx); replace HCC := Aside0.mk (kept_cell hk HCC.out (D_Z_X2.out g PG.out)); clear hk hx hb; (try clear hxX2_0 hfX2_0 hxX2_1 hfX2_1 hxX2_2 hfX2_2); have hxX2_0 := (HX2.out.cell 0).trans (show _ = some (.string x.f0) from rfl); have hfX2_0 := HX2.out.frozen 0; have hxX2_1 := (HX2.out.cell 1).trans (show _ = some (.int .i64 x.f1) from rfl); have hfX2_1 := HX2.out.frozen 1; have hxX2_2 := (HX2.out.cell 2).trans (show _ = some (.slice A2 x.f2.length c2) from rfl); have hfX2_2 := HX2.out.frozen 2) | ((with_reducible refine gate_dst (N := 28) rfl ?_); refine goesV_ (f := 56) (some 28) rfl rfl Try.func56 (by kernel_rfl) rfl #[.agg #[.string x.f0, .int .i64 x.f1, .slice A2 x.f2.length c2]] rfl rfl rfl ?_; (with_reducible refine (blobLit x _ _).mono ?_); rintro e w2 ⟨he, hb⟩; rw [hc] at he; subst he; refine ⟨_, rfl, ?_⟩; have hk := kept_below hb; replace HZ := Aside0.mk (HZ.out.step hk no_S); replace HX2 := Aside0.mk (HX2.out.step hk no_S); replace HK := Aside0.mk (HK.out.then_ hk (fun _ h_ => h_.elim)); replace HCC := Aside0.mk ((hb.cell (World.block_lt_of_cell? _ _ HCC.out)).trans HCC.out); replace HB := Aside0.mk (below_step HB.out hb); clear hb hk; (try clear hxX2_0 hfX2_0 hxX2_1 hfX2_1 hxX2_2 hfX2_2); have hxX2_0 := (HX2.out.cell 0).trans (show _ = some (.string x.f0) from rfl); have hfX2_0 := HX2.out.frozen 0; have hxX2_1 := (HX2.out.cell 1).trans (show _ = some (.int .i64 x.f1) from rfl); have hfX2_1 := HX2.out.frozen 1; have hxX2_2 := (HX2.out.cell 2).trans (show _ = some (.slice A2 x.f2.length c2) from rfl); have hfX2_2 := HX2.out.frozen 2) | ((with_reducible refine gate_store (t := 35) (p := 33) rfl ?_); obtain ⟨ci_, hcl_, _, hci_, hfi_⟩ := Kd.R_elem HZ.out.1 ((z35, 0) : S35 × Nat) (i : Int) (by omega) (by have := HJ.out.2.1; omega); obtain ⟨cj_, _, hMj_, hcj_, _⟩ := Kd.R_elem HZ.out.1 ((z35, 0) : S35 × Nat) (j : Int) (by omega) (by omega); rw [Int.toNat_natCast] at hcj_; rw [Int.toNat_natCast, NZ.out] at hMj_; obtain ⟨vj_, rfl, hgj_⟩ := k35_openM hMj_; have ev_ := Option.some.inj ((hcj_ 2 _ rfl).symm.trans HCC.out); subst ev_; have HP_ := Aside0.mk (Kd.R_seg HZ.out.1 (i : Int) (by omega) (by have := HJ.out.2.1; omega) (c := ci_) (seg := [(.string x.f0), (.int .i64 x.f1), (.slice A2 x.f2.length c2)]) (j := 0) hcl_ hci_ (show 0 + 3 ≤ 3 from by decide) (x' := ((x, j) : S35 × Nat)) (okp := fun k_ => P1 k_ ∧ k_ ≠ g) (by rw [List.take_zero, List.nil_append, List.drop_of_length_le (by rw [hcl_]; exact Nat.le_refl 3), List.append_nil]; exact hMj_) (fun _ h_ => h_)); obtain ⟨u0_, u1_, u2_, eu_⟩ : ∃ a_ b_ c_, ci_ = [a_, b_, c_] := blob3 hcl_; subst eu_; have hi0_ := hci_ 0 _ rfl; have hi1_ := hci_ 1 _ rfl; have hi2_ := hci_ 2 _ rfl; have hg0_ := hfi_ 0; have hg1_ := hfi_ 1; have hg2_ := hfi_ 2; simp only [show (Kd.tag f k35).sz = 3 from rfl, Nat.add_zero, Int.toNat_natCast] at hi0_ hi1_ hi2_ hg0_ hg1_ hg2_ HP_; refine store_event (t := 35) (p := 33) (v := ?vo_s) (w1 := World.setCells w2 g (i * 3) [(.string x.f0), (.int .i64 x.f1), (.slice A2 x.f2.length c2)]) ?hg_s ?ho_s ?hn_s ?hr_s ?_; (case ho_s => rfl); (case hg_s => rfl); (case hn_s => rfl); (case hr_s => first | (go_simp; done) | (go_simp; rfl) | (simp only [World.setCells]; go_simp; done)); intro w13 hw; have hk := Kept.of_grown HP_.out.2 (Kept.refl _ P1) (fun k_ h_ => .inl (by injection h_ with h_; rw [← h_]; exact PG.out)); rw [← hw] at hk; have n0_ := Aside0.mk (LR.wrote HZ.out (show Kd.R (Kd.tag f k35) 35 w13 w.heap.size P1 (.slice (some ⟨g, 0, none⟩) l.length c0) (zs.set i (x, j)) from by rw [hw]; exact HP_.out.1) hk); have n1_ := Aside0.mk (show Below w.heap.size w w13 from by rw [hw]; exact blobBelow HB.out HP_.out.2 GB.out); replace HK := Aside0.mk (HK.out.then_ hk (fun _ h_ => .inl h_)); clear HZ HB HP_ hw hk HCC hci_ hfi_ hcj_ hMj_ hgj_ hi0_ hi1_ hi2_ hg0_ hg1_ hg2_; have HZ := n0_; have HB := n1_; clear n0_ n1_))
          go_roundg k1
          case measure => omega
          case rel => exact ⟨i + 1, j + 1, zs.set i (x, j), by first | rfl | (simp only [hwi]) | simp, by first | rfl | (simp only [hwj]) | simp, ⟨by have := HJ.out; simp; omega⟩, ⟨blobStep1 l zs i j x hj hc NX.out HT.out HJ.out.2.1 HJ.out.2.2⟩, ⟨blobStep2 l zs i j x HD.out HJ.out.2.1⟩, HZ, HB, HK⟩
        | true =>
          go_wp2_with (first | ((with_reducible refine gate_dst (N := 7) rfl ?_); refine box_event ?hg_4 (N := 7) ?hd_4 (cs := #[.string ByteArray.empty, .int .i64 0, .slice none 0 0]) (t := 35) ?hr_4 ?_; (case hd_4 => rfl); (case hg_4 => rfl); (case hr_4 => first | (go_simp; done) | (go_simp; rfl)); intro gX3 hg w2 hbox hb; have hk := kept_below hb; obtain ⟨PX3, hPX3, HLX3⟩ := LB.fresh hg hbox; have HX3 := Aside0.mk HLX3; clear HLX3; have GEX3 := Aside0.mk (show w.heap.size ≤ gX3 from (by rw [hg]; exact HB.out.size)); have D_Z_X3 := Aside0.mk (new_apart HZ.out.lt hPX3); have RRX3 := Aside0.mk (show ∀ k_, PX3 k_ → (P1) k_ ∨ ws.heap.size ≤ k_ from fun k_ h_ => .inr (Nat.le_trans HK.out.1 (hPX3 k_ h_).1)); replace HZ := Aside0.mk (HZ.out.step hk no_S); replace HK := Aside0.mk (HK.out.then_ hk (fun _ h_ => h_.elim)); replace HB := Aside0.mk (below_step HB.out hb); replace HCC := Aside0.mk ((hb.cell (World.block_lt_of_cell? _ _ HCC.out)).trans HCC.out); clear hb hk hbox hg hPX3; (try clear hxX3_0 hfX3_0 hxX3_1 hfX3_1 hxX3_2 hfX3_2); have hxX3_0 := (HX3.out.cell 0).trans (show _ = some (.string ByteArray.empty) from rfl); have hfX3_0 := HX3.out.frozen 0; have hxX3_1 := (HX3.out.cell 1).trans (show _ = some (.int .i64 0) from rfl); have hfX3_1 := HX3.out.frozen 1; have hxX3_2 := (HX3.out.cell 2).trans (show _ = some (.slice none 0 0) from rfl); have hfX3_2 := HX3.out.frozen 2) | ((with_reducible refine gate_store (t := 35) (p := 7) rfl ?_); refine LB.storedW HX3.out HB.out GEX3.out [.string x.f0, .int .i64 x.f1, .slice A2 x.f2.length c2] rfl rfl (t := 35) (p := 7) rfl rfl ?hr_5 ?_; (case hr_5 => first | (go_simp; done) | (go_simp; simp only [World.setCells, Nat.reduceAdd, Nat.zero_add]; done)); intro w2 hx hk hb; replace HZ := Aside0.mk (HZ.out.step hk D_Z_X3.out); replace HK := Aside0.mk (HK.out.then_ hk RRX3.out); replace HB := Aside0.mk hb; replace HX3 := Aside0.mk (show LB w2 PX3 gX3 35 #[.string x.f0, .int .i64 x.f1, .slice A2 x.f2.length c2] from hx); replace HCC := Aside0.mk (kept_cell hk HCC.out (D_Z_X3.out g PG.out)); clear hk hx hb; (try clear hxX3_0 hfX3_0 hxX3_1 hfX3_1 hxX3_2 hfX3_2); have hxX3_0 := (HX3.out.cell 0).trans (show _ = some (.string x.f0) from rfl); have hfX3_0 := HX3.out.frozen 0; have hxX3_1 := (HX3.out.cell 1).trans (show _ = some (.int .i64 x.f1) from rfl); have hfX3_1 := HX3.out.frozen 1; have hxX3_2 := (HX3.out.cell 2).trans (show _ = some (.slice A2 x.f2.length c2) from rfl); have hfX3_2 := HX3.out.frozen 2) | ((with_reducible refine gate_dst (N := 28) rfl ?_); refine goesV_ (f := 56) (some 28) rfl rfl Try.func56 (by kernel_rfl) rfl #[.agg #[.string x.f0, .int .i64 x.f1, .slice A2 x.f2.length c2]] rfl rfl rfl ?_; (with_reducible refine (blobLit x _ _).mono ?_); rintro e w2 ⟨he, hb⟩; rw [hc] at he; subst he; refine ⟨_, rfl, ?_⟩; have hk := kept_below hb; replace HZ := Aside0.mk (HZ.out.step hk no_S); replace HX3 := Aside0.mk (HX3.out.step hk no_S); replace HK := Aside0.mk (HK.out.then_ hk (fun _ h_ => h_.elim)); replace HCC := Aside0.mk ((hb.cell (World.block_lt_of_cell? _ _ HCC.out)).trans HCC.out); replace HB := Aside0.mk (below_step HB.out hb); clear hb hk; (try clear hxX3_0 hfX3_0 hxX3_1 hfX3_1 hxX3_2 hfX3_2); have hxX3_0 := (HX3.out.cell 0).trans (show _ = some (.string x.f0) from rfl); have hfX3_0 := HX3.out.frozen 0; have hxX3_1 := (HX3.out.cell 1).trans (show _ = some (.int .i64 x.f1) from rfl); have hfX3_1 := HX3.out.frozen 1; have hxX3_2 := (HX3.out.cell 2).trans (show _ = some (.slice A2 x.f2.length c2) from rfl); have hfX3_2 := HX3.out.frozen 2))
          go_roundg k1
          case measure => omega
          case rel => exact ⟨i, j + 1, zs, rfl, by first | rfl | (simp only [hwj]) | simp, ⟨by have := HJ.out; omega⟩, ⟨blobStep3 l zs i j x hj hc NX.out HT.out⟩, ⟨blobStep4 l zs j HD.out⟩, HZ, HB, HK⟩
      · have hlt : decide ((j : Int) < (l.length : Int)) = false := decide_eq_false (by omega)
        have hltn : decide (j < l.length) = false := decide_eq_false (by omega)
        obtain rfl : j = l.length := by have := HJ.out.1; omega
        obtain ⟨i05, hi05, hz05, hsz5, _⟩ := info_parts blobInfo
        have hij : i < l.length := by have := HJ.out.2.1; omega
        have hroom := (Kd.R_reads' HZ.out.1).2.1
        have hcf := cut_from (P := Try.prog) 30 35 .i64 Try.underlying30 hi05 3 hsz5 (some ⟨g, 0, none⟩) l.length c0 (i : Int) (by omega) (by omega)
        have hct := cut_to (P := Try.prog) 30 35 .i64 Try.underlying30 hi05 (some ⟨g, 0, none⟩) l.length c0 (i : Int) (by omega) (by omega) hroom
        rw [Int.toNat_natCast, if_neg (by omega)] at hcf
        rw [Int.toNat_natCast] at hct
        simp only [Option.map_some, Addr.add, Nat.zero_add, Option.map_none] at hcf
        obtain ⟨cur, hcur, hcs⟩ := blobRow HZ.out.1
        have hcl := clear_any (P := Try.prog) Try.underlying30 (z := .agg #[.string ByteArray.empty, .int .i64 0, .slice none 0 0]) (fun W => by simp [zeroValue, typeInfo, hi05, hz05]) (by decide) (by decide) hcur (i * 3) (l.length - i) (c0 - i) (by omega) (by rw [hcs]; have : (Value.agg #[.string ByteArray.empty, .int .i64 0, .slice none 0 0]).cells.size = 3 := rfl; rw [this, ← Nat.add_mul]; exact Nat.mul_le_mul_right _ (by omega))
        obtain ⟨us, hus⟩ : ∃ us_, us_ = (Builtin.zeroCells (Value.agg #[.string ByteArray.empty, .int .i64 0, .slice none 0 0]).cells (l.length - i)).toList := ⟨_, rfl⟩
        rw [← hus] at hcl
        have HU := Aside0.mk (show us.length = (l.length - i) * 3 by rw [hus, Array.length_toList, size_zeroCells]; rfl)
        obtain ⟨E1, E2, E3⟩ := blobEnd HZ.out (Nat.le_of_lt hij) HT.out.1 us HU.out HB.out GB.out HK.out
        replace E1 := Aside0.mk E1
        replace E2 := Aside0.mk E2
        replace E3 := Aside0.mk E3
        clear hus hi05 hz05 hsz5 hcur hcs HZ HB HK HT HD
        by_cases hi0 : i = 0
        · subst hi0
          simp only [Nat.zero_mul, Nat.sub_zero] at hcl hcf E1 E2 E3
          go_wp2
          go_ret
          exact ⟨_, rfl, E1.out, E2.out, E3.out⟩
        · have hi3 : (i * 3 = 0) = False := eq_false (by omega)
          go_wp2
          go_ret
          exact ⟨_, rfl, E1.out, E2.out, E3.out⟩
end
section
open Go.Proofs.Ytcgkfijigjcmpaa.Lawful
/-- The first place where p holds. -/
def blobAtP (q : S35 → Bool) : List S35 → Nat → Option Nat
  | [], _ => none
  | x :: l, i => if q x = true then some i else blobAtP q l (i + 1)
theorem blobAtP_step (q : S35 → Bool) (l : List S35) (i : Nat) (h : i < l.length) : blobAtP q (l.drop i) i = if q (rd_T35 l (i : Int)) = true then some i else blobAtP q (l.drop (i + 1)) (i + 1) := by
  rw [List.drop_eq_getElem_cons h, blobAtP, blobRd l i h]
/-- Another count in one place. -/
def blobPut (l : List S35) (i : Nat) (r : Int) : List S35 := l.set i ⟨(rd_T35 l (i : Int)).f0, r, (rd_T35 l (i : Int)).f2⟩
theorem blobPut_len (l : List S35) (i : Nat) (r : Int) : (blobPut l i r).length = l.length := by unfold blobPut; simp
/-- One act of the program. -/
def impl_blobAct.f (l0 : List S35) (a0 : Int) (l1 : List Int) (a2 : ByteArray) : Option (List S35 × Int) :=
  if a0 = 1 then
    if (2000 : Int) < (l1.length : Int) then some (l0, 14)
    else (impl_Sha.f l1).bind fun key =>
      match blobAtP (fun x => x.f0.toList == key.toList) l0 0 with
      | some i => some (blobPut l0 i (wrap64 ((rd_T35 l0 (i : Int)).f1 + 1)), 0)
      | none => if (l0.length : Int) = 60 then some (l0, 7) else some (l0 ++ [⟨key, 1, l1⟩], 0)
  else if a0 = 2 then
    match blobAtP (fun x => x.f0.toList == a2.toList && decide (0 < x.f1)) l0 0 with
    | some i => some (blobPut l0 i (wrap64 ((rd_T35 l0 (i : Int)).f1 - 1)), 0)
    | none => some (l0, 6)
  else if a0 = 3 then some (l0.filter (fun x => !(x.f1 == 0)), 0)
  else some (l0, 3)
theorem blobZip (l : List S35) (i : Nat) (x : S35) : l.zipIdx.set i (x, i) = (l.set i x).zipIdx := by
  apply List.ext_getElem?
  intro j
  rw [List.getElem?_set, List.getElem?_zipIdx, List.getElem?_zipIdx, List.getElem?_set, List.length_zipIdx]
  by_cases h : i = j
  · subst h
    by_cases hi : i < l.length
    · simp [hi]
    · simp [hi]
  · simp [h]
/-- A store of a count into a row of one's own. -/
theorem blobSet {W : World} {base : Nat} {P1 : Nat → Prop} {g n c : Nat} {xs : List S35} (h : LS k35 35 W base P1 (.slice (some ⟨g, 0, none⟩) n c) xs) (i : Nat) (hi : i < xs.length) (r : Int) :
    LS k35 35 (W.setCell ⟨g, i * 3 + 1, none⟩ (.int .i64 r)) base P1 (.slice (some ⟨g, 0, none⟩) n c) (blobPut xs i r) ∧ W.grownBy (W.setCell ⟨g, i * 3 + 1, none⟩ (.int .i64 r)) (some g) ∧ P1 g := by
  obtain ⟨⟨f, hf⟩, hlt⟩ := h
  have hn : n = xs.length := by have := (Kd.R_reads' hf).1; simpa using this
  subst hn
  obtain ⟨cs, hcl, hM, hcc, hcf⟩ := Kd.R_elem hf ((z35, 0) : S35 × Nat) (i : Int) (by omega) (by omega)
  have hx : xs.zipIdx.getD (Int.toNat (i : Int)) ((z35, 0) : S35 × Nat) = (rd_T35 xs (i : Int), i) := by
    rw [Int.toNat_natCast, List.getD_eq_getElem?_getD, List.getElem?_zipIdx, List.getElem?_eq_getElem hi, blobRd xs i hi]
    simp
  rw [hx] at hM
  have hP : P1 g := hf.1 g (by simp [Value.ownBlock])
  obtain ⟨v2, rfl, hg2⟩ := k35_openM hM
  have hnew : (Kd.tag f k35).M W base (fun k => P1 k ∧ k ≠ g) ((⟨(rd_T35 xs (i : Int)).f0, r, (rd_T35 xs (i : Int)).f2⟩, i) : S35 × Nat) [.string (rd_T35 xs (i : Int)).f0, .int .i64 r, v2] :=
    k35_mkM W base _ ⟨(rd_T35 xs (i : Int)).f0, r, (rd_T35 xs (i : Int)).f2⟩ hg2
  have hs := Kd.R_seg hf (i : Int) (by omega) (by omega) (c := [.string (rd_T35 xs (i : Int)).f0, .int .i64 (rd_T35 xs (i : Int)).f1, v2]) (seg := [.int .i64 r]) (j := 1) rfl hcc (show 1 + 1 ≤ 3 from by decide) (x' := ((⟨(rd_T35 xs (i : Int)).f0, r, (rd_T35 xs (i : Int)).f2⟩, i) : S35 × Nat)) (okp := fun k => P1 k ∧ k ≠ g) hnew (fun _ h_ => h_)
  rw [Int.toNat_natCast, blobZip] at hs
  obtain ⟨h1, h2⟩ := hs
  refine ⟨⟨⟨f, h1⟩, fun k hk => Nat.lt_of_lt_of_le (hlt k hk) h2.size⟩, h2, hP⟩
theorem blobCells {W : World} {base : Nat} {P1 : Nat → Prop} {g n c : Nat} {xs : List S35} (h : LS k35 35 W base P1 (.slice (some ⟨g, 0, none⟩) n c) xs) (i : Nat) (hi : i < xs.length) :
    W.cell? ⟨g, i * 3, none⟩ = some (.string (rd_T35 xs (i : Int)).f0) ∧ W.cell? ⟨g, i * 3 + 1, none⟩ = some (.int .i64 (rd_T35 xs (i : Int)).f1) ∧ W.frozen? ⟨g, i * 3 + 1, none⟩ = false := by
  obtain ⟨⟨f, hf⟩, hlt⟩ := h
  have hn : n = xs.length := by have := (Kd.R_reads' hf).1; simpa using this
  subst hn
  obtain ⟨cs, hcl, hM, hcc, hcf⟩ := Kd.R_elem hf ((z35, 0) : S35 × Nat) (i : Int) (by omega) (by omega)
  have hx : xs.zipIdx.getD (Int.toNat (i : Int)) ((z35, 0) : S35 × Nat) = (rd_T35 xs (i : Int), i) := by
    rw [Int.toNat_natCast, List.getD_eq_getElem?_getD, List.getElem?_zipIdx, List.getElem?_eq_getElem hi, blobRd xs i hi]
    simp
  rw [hx] at hM
  obtain ⟨v2, rfl, hg2⟩ := k35_openM hM
  have h0 := hcc 0 _ rfl
  have h1 := hcc 1 _ rfl
  have f1 := hcf 1
  simp only [show (Kd.tag f k35).sz = 3 from rfl, Nat.add_zero, Int.toNat_natCast] at h0 h1 f1
  exact ⟨h0, h1, f1⟩
/-- What one act of the program leaves. -/
def impl_blobAct.Post (P1 : Nat → Prop) (r1 : List S35) (r2 : Int) (w ws : World) (e : Ending) (w' : World) : Prop := ∃ (v' : Value) (P1' : Nat → Prop), e = .returned (.tuple #[v', .int .i64 r2]) ∧ LS k35 35 w' w.heap.size P1' v' r1 ∧ (∀ k_, P1' k_ → P1 k_ ∨ ws.heap.size ≤ k_) ∧ Below w.heap.size w w' ∧ Kept ws w' P1
set_option maxHeartbeats 16000000 in
set_option maxRecDepth 100000 in
theorem impl_blobAct.own (P1 : Nat → Prop) (B1 : Option Addr) (D1 : Nat) (l0 : List S35) (a0 : Int) (A2 : Option Addr) (c2 : Nat) (l1 : List Int) (a2 : ByteArray) (r1 : List S35) (r2 : Int) (w ws : World) (hB : Below w.heap.size w ws) (h1 : LS k35 35 ws w.heap.size P1 (.slice B1 l0.length D1) l0) (hlen : l0.length ≤ 1000000) (hr2 : Kd.C (Kd.int .u8) w A2 l1.length l1) (hc2 : l1.length ≤ c2) (h : impl_blobAct.f l0 a0 l1 a2 = some (r1, r2)) :
    Calls Try.prog 35 #[.slice B1 l0.length D1, .agg #[.int .i64 a0, .slice A2 l1.length c2, .string a2]] ws fun e w' => impl_blobAct.Post P1 r1 r2 w ws e w' := by
  have hu := Try.underlying35
  have hu2 := Try.underlying61
  have HB := Aside0.mk hB
  have H1 := Aside0.mk h1
  have HR2 := Aside0.mk hr2
  have HC2 := Aside0.mk hc2
  have HLN := Aside0.mk hlen
  have HK := Aside0.mk (Kept.refl ws P1)
  have RR1 := Aside0.mk (show ∀ k_, P1 k_ → P1 k_ ∨ ws.heap.size ≤ k_ from fun _ hk => .inl hk)
  clear hB h1 hr2 hc2 hlen
  unfold impl_blobAct.f at h
  by_cases k1 : a0 = 1
  · rw [if_pos k1] at h
    have k1b : (a0 == 1) = true := beq_iff_eq.mpr k1
    clear k1
    by_cases c1 : (2000 : Int) < (l1.length : Int)
    · rw [if_pos c1] at h
      have cb1 : decide ((2000 : Int) < (l1.length : Int)) = true := decide_eq_true c1
      have cb2 : decide (2000 < l1.length) = true := decide_eq_true (by omega)
      clear c1
      simp only [Option.some.injEq, Prod.mk.injEq] at h
      obtain ⟨rfl, rfl⟩ := h
      go_enter Try.func35, Try.ntmps35
      go_wp2_with (first | ((with_reducible refine gate_dst (N := 3) rfl ?_); refine box_event ?hg_1 (N := 3) ?hd_1 (cs := #[.int .i64 a0, .slice A2 l1.length c2, .string a2]) (t := 61) ?hr_1 ?_; (case hd_1 => rfl); (case hg_1 => rfl); (case hr_1 => first | (go_simp; done) | (go_simp; rfl)); intro gX1 hg w2 hbox hb; have hk := kept_below hb; obtain ⟨PX1, hPX1, HLX1⟩ := LB.fresh hg hbox; have HX1 := Aside0.mk HLX1; clear HLX1; have GEX1 := Aside0.mk (show w.heap.size ≤ gX1 from (by rw [hg]; exact HB.out.size)); have D_1_X1 := Aside0.mk (new_apart H1.out.lt hPX1); have RRX1 := Aside0.mk (show ∀ k_, PX1 k_ → (P1) k_ ∨ ws.heap.size ≤ k_ from fun k_ h_ => .inr (Nat.le_trans HK.out.1 (hPX1 k_ h_).1)); replace H1 := Aside0.mk (H1.out.step hk no_S); replace HK := Aside0.mk (HK.out.then_ hk (fun _ h_ => h_.elim)); replace HB := Aside0.mk (below_step HB.out hb); clear hb hk hbox hg hPX1; (try clear hxX1_0 hfX1_0 hxX1_1 hfX1_1 hxX1_2 hfX1_2); have hxX1_0 := (HX1.out.cell 0).trans (show _ = some (.int .i64 a0) from rfl); have hfX1_0 := HX1.out.frozen 0; have hxX1_1 := (HX1.out.cell 1).trans (show _ = some (.slice A2 l1.length c2) from rfl); have hfX1_1 := HX1.out.frozen 1; have hxX1_2 := (HX1.out.cell 2).trans (show _ = some (.string a2) from rfl); have hfX1_2 := HX1.out.frozen 2))
      go_ret2
      exact ⟨_, _, rfl, H1.out, RR1.out, HB.out, HK.out⟩
    · rw [if_neg c1] at h
      have cb1 : decide ((2000 : Int) < (l1.length : Int)) = false := decide_eq_false c1
      have cb2 : decide (2000 < l1.length) = false := decide_eq_false (by omega)
      have E2 := Aside0.mk (show slices_Clone_byte_byte.f l1 = some l1 by unfold slices_Clone_byte_byte.f; exact if_pos (by omega))
      clear c1
      obtain ⟨key, e1, h⟩ := Option.bind_eq_some_iff.1 h
      have E1 := Aside0.mk e1
      have HH := Aside0.mk h
      clear e1 h
      go_enter Try.func35, Try.ntmps35
      go_wp2_with (first | ((with_reducible refine gate_dst (N := 3) rfl ?_); refine box_event ?hg_1 (N := 3) ?hd_1 (cs := #[.int .i64 a0, .slice A2 l1.length c2, .string a2]) (t := 61) ?hr_1 ?_; (case hd_1 => rfl); (case hg_1 => rfl); (case hr_1 => first | (go_simp; done) | (go_simp; rfl)); intro gX1 hg w2 hbox hb; have hk := kept_below hb; obtain ⟨PX1, hPX1, HLX1⟩ := LB.fresh hg hbox; have HX1 := Aside0.mk HLX1; clear HLX1; have GEX1 := Aside0.mk (show w.heap.size ≤ gX1 from (by rw [hg]; exact HB.out.size)); have D_1_X1 := Aside0.mk (new_apart H1.out.lt hPX1); have RRX1 := Aside0.mk (show ∀ k_, PX1 k_ → (P1) k_ ∨ ws.heap.size ≤ k_ from fun k_ h_ => .inr (Nat.le_trans HK.out.1 (hPX1 k_ h_).1)); replace H1 := Aside0.mk (H1.out.step hk no_S); replace HK := Aside0.mk (HK.out.then_ hk (fun _ h_ => h_.elim)); replace HB := Aside0.mk (below_step HB.out hb); clear hb hk hbox hg hPX1; (try clear hxX1_0 hfX1_0 hxX1_1 hfX1_1 hxX1_2 hfX1_2); have hxX1_0 := (HX1.out.cell 0).trans (show _ = some (.int .i64 a0) from rfl); have hfX1_0 := HX1.out.frozen 0; have hxX1_1 := (HX1.out.cell 1).trans (show _ = some (.slice A2 l1.length c2) from rfl); have hfX1_1 := HX1.out.frozen 1; have hxX1_2 := (HX1.out.cell 2).trans (show _ = some (.string a2) from rfl); have hfX1_2 := HX1.out.frozen 2) | ((with_reducible refine gate_callee (f := 8) rfl ?_); refine goesL_ (some 20) rfl rfl Try.func8 (by kernel_rfl) rfl #[.slice A2 l1.length c2] rfl (by (try simp only [List.map_toArray, List.map_cons, List.map_nil]); first | done | rfl | (simp only [List.length_drop, List.length_take]; rfl)) ?_; (with_reducible refine (impl_Sha.calls _ _ l1 key _ (Kd.C_below HR2.out HB.out) HC2.out E1.out).mono ?_); rintro e w2 ⟨rfl, hb⟩; refine ⟨_, rfl, ?_⟩; have hk := kept_below hb; replace H1 := Aside0.mk (H1.out.step hk no_S); replace HX1 := Aside0.mk (HX1.out.step hk no_S); replace HK := Aside0.mk (HK.out.then_ hk (fun _ h_ => h_.elim)); replace HB := Aside0.mk (below_step HB.out hb); clear hb hk; (try clear hxX1_0 hfX1_0 hxX1_1 hfX1_1 hxX1_2 hfX1_2); have hxX1_0 := (HX1.out.cell 0).trans (show _ = some (.int .i64 a0) from rfl); have hfX1_0 := HX1.out.frozen 0; have hxX1_1 := (HX1.out.cell 1).trans (show _ = some (.slice A2 l1.length c2) from rfl); have hfX1_1 := HX1.out.frozen 1; have hxX1_2 := (HX1.out.cell 2).trans (show _ = some (.string a2) from rfl); have hfX1_2 := HX1.out.frozen 2))
      go_loopg [23] (l0.length + 1) (fun kq v23 w' => ∃ i : Nat, v23 = .int .i64 (i : Int) ∧ Aside0 (i + kq = l0.length + 1) ∧ Aside0 (blobAtP (fun x => x.f0.toList == key.toList) l0 0 = blobAtP (fun x => x.f0.toList == key.toList) (l0.drop i) i) ∧ Aside0 (LS k35 35 w' w.heap.size P1 (.slice B1 l0.length D1) l0) ∧ Aside0 (LB w' PX1 gX1 61 #[.int .i64 a0, .slice A2 l1.length c2, .string a2]) ∧ Aside0 (Below w.heap.size w w') ∧ Aside0 (Kept ws w' P1))
      case atStart => exact ⟨0, rfl, ⟨by omega⟩, ⟨rfl⟩, H1, HX1, HB, HK⟩
      case round =>
        clear H1 HX1 HB HK
        try clear hxX1_0 hfX1_0 hxX1_1 hfX1_1 hxX1_2 hfX1_2
        obtain ⟨i, rfl, HI, HE, H1, HX1, HB, HK⟩ := hrel
        (try clear hxX1_0 hfX1_0 hxX1_1 hfX1_1 hxX1_2 hfX1_2)
        have hxX1_0 := (HX1.out.cell 0).trans (show _ = some (.int .i64 a0) from rfl)
        have hfX1_0 := HX1.out.frozen 0
        have hxX1_1 := (HX1.out.cell 1).trans (show _ = some (.slice A2 l1.length c2) from rfl)
        have hfX1_1 := HX1.out.frozen 1
        have hxX1_2 := (HX1.out.cell 2).trans (show _ = some (.string a2) from rfl)
        have hfX1_2 := HX1.out.frozen 2
        by_cases hi : i < l0.length
        · obtain ⟨k1, rfl⟩ : ∃ k_, gk = k_ + 1 := ⟨gk - 1, by have := HI.out; omega⟩
          have hlt : decide ((i : Int) < (l0.length : Int)) = true := decide_eq_true (by omega)
          have hltn : decide (i < l0.length) = true := decide_eq_true hi
          have hwi : wrap64 ((i : Int) + 1) = ((i + 1 : Nat) : Int) := by have := HLN.out; unfold wrap64; omega
          have HI2 := Aside0.mk hi
          obtain ⟨g, co, eo, gb, gl, cl, HG⟩ := Kd.S_form H1.out.1 (by omega)
          injection eo with ea_ en_ ec_
          subst ea_
          subst ec_
          have GB := Aside0.mk gb
          clear en_ gb gl HG cl
          obtain ⟨hx0, hx1, hf1⟩ := blobCells H1.out i hi
          have HS := Aside0.mk (blobAtP_step (fun x => x.f0.toList == key.toList) l0 i hi)
          have p1 := eq_true (show (0 : Int) ≤ (i : Int) by omega)
          have q1 := eq_true (show (i : Int) < (l0.length : Int) by omega)
          have p2 := hi
          cases hc : ((rd_T35 l0 (i : Int)).f0.toList == key.toList) with
          | true =>
            have hE : blobAtP (fun x => x.f0.toList == key.toList) l0 0 = some i := by rw [HE.out, HS.out]; exact if_pos (by exact hc)
            replace h := HH.out
            clear HH
            rw [hE] at h
            dsimp only at h
            clear hE
            simp only [Option.some.injEq, Prod.mk.injEq] at h
            obtain ⟨rfl, rfl⟩ := h
            go_wp2_with (first | ((with_reducible refine gate_store (t := 3) (p := 40) rfl ?_); obtain ⟨hs1_, hg2_, hp_⟩ := blobSet H1.out i HI2.out (wrap64 ((rd_T35 l0 (i : Int)).f1 + 1)); refine store_event (t := 3) (p := 40) (v := ?vo_s2) (w1 := World.setCell wr ⟨g, i * 3 + 1, none⟩ (.int .i64 (wrap64 ((rd_T35 l0 (i : Int)).f1 + 1)))) ?hg_s2 ?ho_s2 ?hn_s2 ?hr_s2 ?_; (case ho_s2 => rfl); (case hg_s2 => rfl); (case hn_s2 => rfl); (case hr_s2 => first | (go_simp; done) | (go_simp; rfl)); intro w13 hw; rw [← hw] at hs1_ hg2_; have hk := Kept.of_grown hg2_ (Kept.refl _ P1) (fun k_ h_ => .inl (by injection h_ with h_; rw [← h_]; exact hp_)); have n1_ := Aside0.mk (blobBelow HB.out hg2_ GB.out); replace HK := Aside0.mk (HK.out.then_ hk (fun _ h_ => .inl h_)); clear H1 HB hw hk hg2_; have H1 := Aside0.mk hs1_; have HB := n1_; clear n1_ hs1_))
            go_ret2
            exact ⟨_, _, rfl, H1.out, RR1.out, HB.out, HK.out⟩
          | false =>
            go_wp2
            go_roundg k1
            case measure => omega
            case rel => exact ⟨i + 1, by first | rfl | (simp only [hwi]) | simp, ⟨by have := HI.out; omega⟩, ⟨by rw [HE.out, HS.out]; exact if_neg (by rw [show ((rd_T35 l0 (i : Int)).f0.toList == key.toList) = false from hc]; simp)⟩, H1, HX1, HB, HK⟩
        · have hd : l0.drop i = [] := List.drop_eq_nil_of_le (by omega)
          have hlt : decide ((i : Int) < (l0.length : Int)) = false := decide_eq_false (by omega)
          have hltn : decide (i < l0.length) = false := decide_eq_false hi
          have hE : blobAtP (fun x => x.f0.toList == key.toList) l0 0 = none := by rw [HE.out, hd]; rfl
          replace h := HH.out
          clear HH
          rw [hE] at h
          dsimp only at h
          clear hd hE
          by_cases c6 : (l0.length : Int) = 60
          · rw [if_pos c6] at h
            have c6b : ((l0.length : Int) == 60) = true := beq_iff_eq.mpr c6
            have c6n : (l0.length == 60) = true := by first | simpa using c6 | (simp at c6 ⊢; omega)
            clear c6
            simp only [Option.some.injEq, Prod.mk.injEq] at h
            obtain ⟨rfl, rfl⟩ := h
            go_wp2
            go_ret2
            exact ⟨_, _, rfl, H1.out, RR1.out, HB.out, HK.out⟩
          · rw [if_neg c6] at h
            have c6b : ((l0.length : Int) == 60) = false := beq_eq_false_iff_ne.mpr c6
            have c6n : (l0.length == 60) = false := by first | simpa using c6 | (simp at c6 ⊢; omega)
            clear c6
            obtain ⟨y1, hy1⟩ : ∃ y_, y_ = l0 ++ [(⟨key, 1, l1⟩ : S35)] := ⟨_, rfl⟩
            rw [← hy1] at h
            have Ny1 := Aside0.mk hy1
            clear hy1
            simp only [Option.some.injEq, Prod.mk.injEq] at h
            obtain ⟨rfl, rfl⟩ := h
            go_wp2_with (first | ((with_reducible refine gate_callee (f := 27) rfl ?_); refine goesL_ (some 51) rfl rfl Try.func27 (by kernel_rfl) rfl #[.slice A2 l1.length c2] rfl (by (try simp only [List.map_toArray, List.map_cons, List.map_nil]); first | done | rfl | (simp only [List.length_drop, List.length_take]; rfl)) ?_; (with_reducible refine (slices_Clone_byte_byte.calls _ _ l1 l1 _ (Kd.C_below HR2.out HB.out) HC2.out E2.out).mono ?_); rintro e w2 ⟨vF2, rfl, hrF2, hb⟩; refine ⟨_, rfl, ?_⟩; have hk := kept_below hb; obtain ⟨PF2, hPF2, HLF2⟩ := LR.fresh rfl HB.out hrF2; have HF2 := Aside0.mk HLF2; clear HLF2 hrF2; have D_1_F2 := Aside0.mk (new_apart H1.out.lt hPF2); have D_X1_F2 := Aside0.mk (new_apart HX1.out.lt hPF2); have RRF2 := Aside0.mk (show ∀ k_, PF2 k_ → (P1) k_ ∨ ws.heap.size ≤ k_ from fun k_ h_ => .inr (Nat.le_trans HK.out.1 (hPF2 k_ h_).1)); replace H1 := Aside0.mk (H1.out.step hk no_S); replace HX1 := Aside0.mk (HX1.out.step hk no_S); replace HK := Aside0.mk (HK.out.then_ hk (fun _ h_ => h_.elim)); clear hPF2; obtain ⟨BF2, DF2, e_F2⟩ := HF2.out.val; subst e_F2; replace HB := Aside0.mk (below_step HB.out hb); clear hb hk; (try clear hxX1_0 hfX1_0 hxX1_1 hfX1_1 hxX1_2 hfX1_2); have hxX1_0 := (HX1.out.cell 0).trans (show _ = some (.int .i64 a0) from rfl); have hfX1_0 := HX1.out.frozen 0; have hxX1_1 := (HX1.out.cell 1).trans (show _ = some (.slice A2 l1.length c2) from rfl); have hfX1_1 := HX1.out.frozen 1; have hxX1_2 := (HX1.out.cell 2).trans (show _ = some (.string a2) from rfl); have hfX1_2 := HX1.out.frozen 2) | ((with_reducible refine gate_builtin (b := .append) (xs := #[.tmp 47, .tmp 53]) rfl ?_); at_builtin; refine LS.append1 k35 (w0 := w) rfl (.tmp 47) (.tmp 53) 30 35 (.agg #[.string ByteArray.empty, .int .i64 0, .slice none 0 0]) 48 rfl Try.underlying30 blobInfo rfl (by decide) (by omega) (.slice B1 l0.length D1) l0 (⟨key, 1, l1⟩ : S35) [.string key, .int .i64 1, .slice BF2 l1.length DF2] rfl rfl (by simp) H1.out (k35_mkM _ _ _ (⟨key, 1, l1⟩ : S35) HF2.out.1) D_1_F2.out HB.out ?aL_3 ?_; (case aL_3 => have := HLN.out; omega); intro PF3 v_ w2 HL hb hk hR; have D_X1_F3 := Aside0.mk (apart_app hR HX1.out.lt (apart_or (apart_symm D_1_X1.out) D_X1_F2.out)); have RRF3 := Aside0.mk (show ∀ k_, PF3 k_ → (P1) k_ ∨ ws.heap.size ≤ k_ from rr_app hR HK.out.1 (rr_or RR1.out RRF2.out)); replace HX1 := Aside0.mk (HX1.out.step hk (apart_symm D_1_X1.out)); replace HK := Aside0.mk (HK.out.then_ hk RR1.out); rw [← Ny1.out] at HL; have HF3 := Aside0.mk HL; replace HB := Aside0.mk hb; clear hR HL hb hk; clear H1; clear HF2; obtain ⟨BF3, DF3, e_F3⟩ := HF3.out.val; subst e_F3; (try clear hxX1_0 hfX1_0 hxX1_1 hfX1_1 hxX1_2 hfX1_2); have hxX1_0 := (HX1.out.cell 0).trans (show _ = some (.int .i64 a0) from rfl); have hfX1_0 := HX1.out.frozen 0; have hxX1_1 := (HX1.out.cell 1).trans (show _ = some (.slice A2 l1.length c2) from rfl); have hfX1_1 := HX1.out.frozen 1; have hxX1_2 := (HX1.out.cell 2).trans (show _ = some (.string a2) from rfl); have hfX1_2 := HX1.out.frozen 2))
            go_ret2
            exact ⟨_, _, rfl, HF3.out, RRF3.out, HB.out, HK.out⟩
  rw [if_neg k1] at h
  have k1b : (a0 == 1) = false := beq_eq_false_iff_ne.mpr k1
  by_cases k2 : a0 = 2
  · rw [if_pos k2] at h
    have k2b : (a0 == 2) = true := beq_iff_eq.mpr k2
    clear k1 k2
    have HH := Aside0.mk h
    clear h
    go_enter Try.func35, Try.ntmps35
    go_wp2_with (first | ((with_reducible refine gate_dst (N := 3) rfl ?_); refine box_event ?hg_1 (N := 3) ?hd_1 (cs := #[.int .i64 a0, .slice A2 l1.length c2, .string a2]) (t := 61) ?hr_1 ?_; (case hd_1 => rfl); (case hg_1 => rfl); (case hr_1 => first | (go_simp; done) | (go_simp; rfl)); intro gX1 hg w2 hbox hb; have hk := kept_below hb; obtain ⟨PX1, hPX1, HLX1⟩ := LB.fresh hg hbox; have HX1 := Aside0.mk HLX1; clear HLX1; have GEX1 := Aside0.mk (show w.heap.size ≤ gX1 from (by rw [hg]; exact HB.out.size)); have D_1_X1 := Aside0.mk (new_apart H1.out.lt hPX1); have RRX1 := Aside0.mk (show ∀ k_, PX1 k_ → (P1) k_ ∨ ws.heap.size ≤ k_ from fun k_ h_ => .inr (Nat.le_trans HK.out.1 (hPX1 k_ h_).1)); replace H1 := Aside0.mk (H1.out.step hk no_S); replace HK := Aside0.mk (HK.out.then_ hk (fun _ h_ => h_.elim)); replace HB := Aside0.mk (below_step HB.out hb); clear hb hk hbox hg hPX1; (try clear hxX1_0 hfX1_0 hxX1_1 hfX1_1 hxX1_2 hfX1_2); have hxX1_0 := (HX1.out.cell 0).trans (show _ = some (.int .i64 a0) from rfl); have hfX1_0 := HX1.out.frozen 0; have hxX1_1 := (HX1.out.cell 1).trans (show _ = some (.slice A2 l1.length c2) from rfl); have hfX1_1 := HX1.out.frozen 1; have hxX1_2 := (HX1.out.cell 2).trans (show _ = some (.string a2) from rfl); have hfX1_2 := HX1.out.frozen 2))
    go_loopg [59] (l0.length + 1) (fun kq v59 w' => ∃ i : Nat, v59 = .int .i64 (i : Int) ∧ Aside0 (i + kq = l0.length + 1) ∧ Aside0 (blobAtP (fun x => x.f0.toList == a2.toList && decide (0 < x.f1)) l0 0 = blobAtP (fun x => x.f0.toList == a2.toList && decide (0 < x.f1)) (l0.drop i) i) ∧ Aside0 (LS k35 35 w' w.heap.size P1 (.slice B1 l0.length D1) l0) ∧ Aside0 (LB w' PX1 gX1 61 #[.int .i64 a0, .slice A2 l1.length c2, .string a2]) ∧ Aside0 (Below w.heap.size w w') ∧ Aside0 (Kept ws w' P1))
    case atStart => exact ⟨0, rfl, ⟨by omega⟩, ⟨rfl⟩, H1, HX1, HB, HK⟩
    case round =>
      clear H1 HX1 HB HK
      try clear hxX1_0 hfX1_0 hxX1_1 hfX1_1 hxX1_2 hfX1_2
      obtain ⟨i, rfl, HI, HE, H1, HX1, HB, HK⟩ := hrel
      (try clear hxX1_0 hfX1_0 hxX1_1 hfX1_1 hxX1_2 hfX1_2)
      have hxX1_0 := (HX1.out.cell 0).trans (show _ = some (.int .i64 a0) from rfl)
      have hfX1_0 := HX1.out.frozen 0
      have hxX1_1 := (HX1.out.cell 1).trans (show _ = some (.slice A2 l1.length c2) from rfl)
      have hfX1_1 := HX1.out.frozen 1
      have hxX1_2 := (HX1.out.cell 2).trans (show _ = some (.string a2) from rfl)
      have hfX1_2 := HX1.out.frozen 2
      by_cases hi : i < l0.length
      · obtain ⟨k1, rfl⟩ : ∃ k_, gk = k_ + 1 := ⟨gk - 1, by have := HI.out; omega⟩
        have hlt : decide ((i : Int) < (l0.length : Int)) = true := decide_eq_true (by omega)
        have hltn : decide (i < l0.length) = true := decide_eq_true hi
        have hwi : wrap64 ((i : Int) + 1) = ((i + 1 : Nat) : Int) := by have := HLN.out; unfold wrap64; omega
        have HI2 := Aside0.mk hi
        obtain ⟨g, co, eo, gb, gl, cl, HG⟩ := Kd.S_form H1.out.1 (by omega)
        injection eo with ea_ en_ ec_
        subst ea_
        subst ec_
        have GB := Aside0.mk gb
        clear en_ gb gl HG cl
        obtain ⟨hx0, hx1, hf1⟩ := blobCells H1.out i hi
        have HS := Aside0.mk (blobAtP_step (fun x => x.f0.toList == a2.toList && decide (0 < x.f1)) l0 i hi)
        have p1 := eq_true (show (0 : Int) ≤ (i : Int) by omega)
        have q1 := eq_true (show (i : Int) < (l0.length : Int) by omega)
        have p2 := hi
        cases hc : ((rd_T35 l0 (i : Int)).f0.toList == a2.toList) with
        | false =>
          go_wp2
          go_quiet (fail)
          generalize hwd_ : World.drewN _ _ = wd_
          have hk := Kept.of_below (below_at hwd_ (Below.refl _ _)) (fun _ => False)
          replace H1 := Aside0.mk (H1.out.step hk no_S)
          replace HX1 := Aside0.mk (HX1.out.step hk no_S)
          replace HK := Aside0.mk (HK.out.then_ hk (fun _ h_ => h_.elim))
          replace HB := Aside0.mk (below_at hwd_ HB.out)
          clear hk hwd_
          go_wp2
          go_roundg k1
          case measure => omega
          case rel => exact ⟨i + 1, by first | rfl | (simp only [hwi]) | simp, ⟨by have := HI.out; omega⟩, ⟨by rw [HE.out, HS.out]; exact if_neg (by rw [show ((rd_T35 l0 (i : Int)).f0.toList == a2.toList) = false from hc]; simp)⟩, H1, HX1, HB, HK⟩
        | true =>
          cases hd2 : decide (0 < (rd_T35 l0 (i : Int)).f1) with
          | false =>
            go_wp2
            go_quiet (fail)
            generalize hwd_ : World.drewN _ _ = wd_
            have hk := Kept.of_below (below_at hwd_ (Below.refl _ _)) (fun _ => False)
            replace H1 := Aside0.mk (H1.out.step hk no_S)
            replace HX1 := Aside0.mk (HX1.out.step hk no_S)
            replace HK := Aside0.mk (HK.out.then_ hk (fun _ h_ => h_.elim))
            replace HB := Aside0.mk (below_at hwd_ HB.out)
            clear hk hwd_
            go_wp2
            go_roundg k1
            case measure => omega
            case rel => exact ⟨i + 1, by first | rfl | (simp only [hwi]) | simp, ⟨by have := HI.out; omega⟩, ⟨by rw [HE.out, HS.out]; exact if_neg (by rw [show ((rd_T35 l0 (i : Int)).f0.toList == a2.toList) = true from hc, show decide (0 < (rd_T35 l0 (i : Int)).f1) = false from hd2]; simp)⟩, H1, HX1, HB, HK⟩
          | true =>
            go_wp2
            go_quiet (fail)
            generalize hwd_ : World.drewN _ _ = wd_
            have hk := Kept.of_below (below_at hwd_ (Below.refl _ _)) (fun _ => False)
            replace H1 := Aside0.mk (H1.out.step hk no_S)
            replace HX1 := Aside0.mk (HX1.out.step hk no_S)
            replace HK := Aside0.mk (HK.out.then_ hk (fun _ h_ => h_.elim))
            replace HB := Aside0.mk (below_at hwd_ HB.out)
            clear hk hwd_
            obtain ⟨hx0, hx1, hf1⟩ := blobCells H1.out i hi
            have hE : blobAtP (fun x => x.f0.toList == a2.toList && decide (0 < x.f1)) l0 0 = some i := by rw [HE.out, HS.out]; exact if_pos (by rw [show ((rd_T35 l0 (i : Int)).f0.toList == a2.toList) = true from hc, show decide (0 < (rd_T35 l0 (i : Int)).f1) = true from hd2]; rfl)
            replace h := HH.out
            clear HH
            rw [hE] at h
            dsimp only at h
            clear hE
            simp only [Option.some.injEq, Prod.mk.injEq] at h
            obtain ⟨rfl, rfl⟩ := h
            go_wp2_with (first | ((with_reducible refine gate_store (t := 3) (p := 85) rfl ?_); obtain ⟨hs1_, hg2_, hp_⟩ := blobSet H1.out i HI2.out (wrap64 ((rd_T35 l0 (i : Int)).f1 - 1)); refine store_event (t := 3) (p := 85) (v := ?vo_s4) (w1 := World.setCell wd_ ⟨g, i * 3 + 1, none⟩ (.int .i64 (wrap64 ((rd_T35 l0 (i : Int)).f1 - 1)))) ?hg_s4 ?ho_s4 ?hn_s4 ?hr_s4 ?_; (case ho_s4 => rfl); (case hg_s4 => rfl); (case hn_s4 => rfl); (case hr_s4 => first | (go_simp; done) | (go_simp; rfl)); intro w13 hw; rw [← hw] at hs1_ hg2_; have hk := Kept.of_grown hg2_ (Kept.refl _ P1) (fun k_ h_ => .inl (by injection h_ with h_; rw [← h_]; exact hp_)); have n1_ := Aside0.mk (blobBelow HB.out hg2_ GB.out); replace HK := Aside0.mk (HK.out.then_ hk (fun _ h_ => .inl h_)); clear H1 HB hw hk hg2_; have H1 := Aside0.mk hs1_; have HB := n1_; clear n1_ hs1_))
            go_ret2
            exact ⟨_, _, rfl, H1.out, RR1.out, HB.out, HK.out⟩
      · have hd : l0.drop i = [] := List.drop_eq_nil_of_le (by omega)
        have hlt : decide ((i : Int) < (l0.length : Int)) = false := decide_eq_false (by omega)
        have hltn : decide (i < l0.length) = false := decide_eq_false hi
        have hE : blobAtP (fun x => x.f0.toList == a2.toList && decide (0 < x.f1)) l0 0 = none := by rw [HE.out, hd]; rfl
        replace h := HH.out
        clear HH
        rw [hE] at h
        dsimp only at h
        clear hd hE
        simp only [Option.some.injEq, Prod.mk.injEq] at h
        obtain ⟨rfl, rfl⟩ := h
        go_wp2
        go_ret2
        exact ⟨_, _, rfl, H1.out, RR1.out, HB.out, HK.out⟩
  rw [if_neg k2] at h
  have k2b : (a0 == 2) = false := beq_eq_false_iff_ne.mpr k2
  by_cases k3 : a0 = 3
  · rw [if_pos k3] at h
    have k3b : (a0 == 3) = true := beq_iff_eq.mpr k3
    clear k1 k2 k3
    simp only [Option.some.injEq, Prod.mk.injEq] at h
    obtain ⟨rfl, rfl⟩ := h
    go_enter Try.func35, Try.ntmps35
    go_wp2_with (first | ((with_reducible refine gate_dst (N := 3) rfl ?_); refine box_event ?hg_1 (N := 3) ?hd_1 (cs := #[.int .i64 a0, .slice A2 l1.length c2, .string a2]) (t := 61) ?hr_1 ?_; (case hd_1 => rfl); (case hg_1 => rfl); (case hr_1 => first | (go_simp; done) | (go_simp; rfl)); intro gX1 hg w2 hbox hb; have hk := kept_below hb; obtain ⟨PX1, hPX1, HLX1⟩ := LB.fresh hg hbox; have HX1 := Aside0.mk HLX1; clear HLX1; have GEX1 := Aside0.mk (show w.heap.size ≤ gX1 from (by rw [hg]; exact HB.out.size)); have D_1_X1 := Aside0.mk (new_apart H1.out.lt hPX1); have RRX1 := Aside0.mk (show ∀ k_, PX1 k_ → (P1) k_ ∨ ws.heap.size ≤ k_ from fun k_ h_ => .inr (Nat.le_trans HK.out.1 (hPX1 k_ h_).1)); replace H1 := Aside0.mk (H1.out.step hk no_S); replace HK := Aside0.mk (HK.out.then_ hk (fun _ h_ => h_.elim)); replace HB := Aside0.mk (below_step HB.out hb); clear hb hk hbox hg hPX1; (try clear hxX1_0 hfX1_0 hxX1_1 hfX1_1 hxX1_2 hfX1_2); have hxX1_0 := (HX1.out.cell 0).trans (show _ = some (.int .i64 a0) from rfl); have hfX1_0 := HX1.out.frozen 0; have hxX1_1 := (HX1.out.cell 1).trans (show _ = some (.slice A2 l1.length c2) from rfl); have hfX1_1 := HX1.out.frozen 1; have hxX1_2 := (HX1.out.cell 2).trans (show _ = some (.string a2) from rfl); have hfX1_2 := HX1.out.frozen 2) | ((with_reducible refine gate_callee (f := 55) rfl ?_); refine goesL_ (some 92) rfl rfl Try.func55 (by kernel_rfl) rfl #[.slice B1 l0.length D1, .func (.func 56) #[] #[]] rfl (by (try simp only [List.map_toArray, List.map_cons, List.map_nil]); first | done | rfl) ?_; (with_reducible refine (blobDel P1 _ _ l0 _ _ HB.out H1.out HLN.out).mono ?_); rintro e w2 ⟨v9, rfl, h1_, hb_, hk_⟩; refine ⟨_, rfl, ?_⟩; replace HB := Aside0.mk hb_; replace HK := Aside0.mk (HK.out.then_ hk_ (fun _ h_ => .inl h_)); clear H1 hb_ hk_; have H1 := Aside0.mk h1_; clear h1_))
    go_ret2
    exact ⟨_, _, rfl, H1.out, RR1.out, HB.out, HK.out⟩
  rw [if_neg k3] at h
  have k3b : (a0 == 3) = false := beq_eq_false_iff_ne.mpr k3
  clear k1 k2 k3
  simp only [Option.some.injEq, Prod.mk.injEq] at h
  obtain ⟨rfl, rfl⟩ := h
  go_enter Try.func35, Try.ntmps35
  go_wp2_with (first | ((with_reducible refine gate_dst (N := 3) rfl ?_); refine box_event ?hg_1 (N := 3) ?hd_1 (cs := #[.int .i64 a0, .slice A2 l1.length c2, .string a2]) (t := 61) ?hr_1 ?_; (case hd_1 => rfl); (case hg_1 => rfl); (case hr_1 => first | (go_simp; done) | (go_simp; rfl)); intro gX1 hg w2 hbox hb; have hk := kept_below hb; obtain ⟨PX1, hPX1, HLX1⟩ := LB.fresh hg hbox; have HX1 := Aside0.mk HLX1; clear HLX1; have GEX1 := Aside0.mk (show w.heap.size ≤ gX1 from (by rw [hg]; exact HB.out.size)); have D_1_X1 := Aside0.mk (new_apart H1.out.lt hPX1); have RRX1 := Aside0.mk (show ∀ k_, PX1 k_ → (P1) k_ ∨ ws.heap.size ≤ k_ from fun k_ h_ => .inr (Nat.le_trans HK.out.1 (hPX1 k_ h_).1)); replace H1 := Aside0.mk (H1.out.step hk no_S); replace HK := Aside0.mk (HK.out.then_ hk (fun _ h_ => h_.elim)); replace HB := Aside0.mk (below_step HB.out hb); clear hb hk hbox hg hPX1; (try clear hxX1_0 hfX1_0 hxX1_1 hfX1_1 hxX1_2 hfX1_2); have hxX1_0 := (HX1.out.cell 0).trans (show _ = some (.int .i64 a0) from rfl); have hfX1_0 := HX1.out.frozen 0; have hxX1_1 := (HX1.out.cell 1).trans (show _ = some (.slice A2 l1.length c2) from rfl); have hfX1_1 := HX1.out.frozen 1; have hxX1_2 := (HX1.out.cell 2).trans (show _ = some (.string a2) from rfl); have hfX1_2 := HX1.out.frozen 2))
  go_ret2
  exact ⟨_, _, rfl, H1.out, RR1.out, HB.out, HK.out⟩
end
section
open Go.Proofs.Ytcgkfijigjcmpaa.Lawful
/-! ### impl_BlobRun: function 11, by hand -/
def impl_BlobRun.l0 : Nat → List S61 → Int → List Int → List S35 → Option (List Int × List S35 × Int)
  | 0, _, _, _, _ => none
  | k + 1, x0, i, c, s => if i < (x0.length : Int) then (if 0 ≤ i then ((if s.length ≤ 1000000 then impl_blobAct.f s (rd_T61 x0 i).f0 (rd_T61 x0 i).f1 (rd_T61 x0 i).f2 else none).bind fun t => (if c.length < 17592186044416 then (impl_BlobRun.l0 k x0 (wrap64 (i + 1)) (c ++ [t.2]) t.1) else none)) else none) else some (c, s, 0)
def impl_BlobRun.f (k : Nat) (l0 : List S61) : Option (List Int × List S35 × Int) := (impl_longList.f (l0.length : Int)).bind fun t1 => (impl_unless.f (decide ((l0.length : Int) ≤ 200)) 7).bind fun t2 => (impl_first.f k [t1, t2]).bind fun t3 => (if t3 = 0 then impl_BlobRun.l0 k l0 0 [] [] else some ([], [], t3))
set_option maxHeartbeats 16000000 in
set_option maxRecDepth 100000 in
theorem impl_BlobRun.own (k : Nat) (A0 : Option Addr) (c0 : Nat) (l0 : List S61) (r1 : List Int) (r2 : List S35) (r3 : Int) (w : World) (hr0 : Kd.C k61 w A0 l0.length l0) (hc0 : l0.length ≤ c0) (h : impl_BlobRun.f k l0 = some (r1, r2, r3)) :
    Calls Try.prog 11 #[.slice A0 l0.length c0] w fun e w' => ∃ v0_ v1_ : Value, e = .returned (.tuple #[v0_, v1_, .int .i64 r3]) ∧ Kd.R (Kd.int .i64) 3 w' w.heap.size (fun k_ => (w.heap.size ≤ k_)) v0_ r1 ∧ Kd.S k35 35 w' w.heap.size (fun k_ => (w.heap.size ≤ k_) ∧ some k_ ≠ (v0_ : Value).ownBlock) v1_ r2 ∧ Below w.heap.size w w' := by
  have hu := Try.underlying61
  have HB := Aside0.mk (Below.refl w.heap.size w)
  have HR0 := Aside0.mk hr0
  have HC0 := Aside0.mk hc0
  unfold impl_BlobRun.f at h
  obtain ⟨t1, e1, h⟩ := Option.bind_eq_some_iff.1 h
  obtain ⟨t2, e2, h⟩ := Option.bind_eq_some_iff.1 h
  obtain ⟨y1, hy1⟩ : ∃ y_ : List Int, y_ = [t1, t2] := ⟨_, rfl⟩
  rw [← hy1] at h
  obtain ⟨t3, e3, h⟩ := Option.bind_eq_some_iff.1 h
  have E1 := Aside0.mk e1
  have E2 := Aside0.mk e2
  have E3 := Aside0.mk e3
  have Ny1 := Aside0.mk hy1
  clear e1 e2 e3 hy1 hr0 hc0
  by_cases c : t3 = 0
  · rw [if_pos c] at h
    have cb : (t3 == 0) = true := beq_iff_eq.mpr c
    have cb2 : (t3 != 0) = false := bne_eq_false_iff_eq.mpr c
    clear c
    obtain ⟨y2, hy2⟩ : ∃ y_ : List Int, y_ = [] := ⟨_, rfl⟩
    obtain ⟨y0, hy0⟩ : ∃ y_ : List S35, y_ = [] := ⟨_, rfl⟩
    have Ny2 := Aside0.mk hy2
    have Ny0 := Aside0.mk hy0
    have H' := Aside0.mk (show impl_BlobRun.l0 k l0 0 y2 y0 = some (r1, r2, r3) from by rw [hy2, hy0]; exact h)
    clear h hy2 hy0
    go_enter Try.func11, Try.ntmps11
    go_wp2_with (first | ((with_reducible refine gate_callee (f := 33) rfl ?_); refine goesL_ (some 14) rfl rfl Try.func33 (by kernel_rfl) rfl #[.int .i64 (l0.length : Int)] rfl (by (try simp only [List.map_toArray, List.map_cons, List.map_nil]); first | done | rfl | (simp only [List.length_drop, List.length_take]; rfl)) ?_; (with_reducible refine (impl_longList.calls (l0.length : Int) t1 _ E1.out).mono ?_); rintro e w2 ⟨rfl, hq⟩; refine ⟨_, rfl, ?_⟩; have hk := kept_drawn hq; replace HB := Aside0.mk (below_drawn HB.out hq); clear hk hq) | ((with_reducible refine gate_callee (f := 34) rfl ?_); refine goesL_ (some 18) rfl rfl Try.func34 (by kernel_rfl) rfl #[.bool (decide ((l0.length : Int) ≤ 200)), .int .i64 7] rfl (by (try simp only [List.map_toArray, List.map_cons, List.map_nil]); first | done | rfl | (simp only [List.length_drop, List.length_take]; rfl)) ?_; (with_reducible refine (impl_unless.calls (decide ((l0.length : Int) ≤ 200)) 7 t2 _ E2.out).mono ?_); rintro e w2 ⟨rfl, hq⟩; refine ⟨_, rfl, ?_⟩; have hk := kept_drawn hq; replace HB := Aside0.mk (below_drawn HB.out hq); clear hk hq) | ((with_reducible refine gate_dst (N := 19) rfl ?_); refine Kd.R_lit (Kd.int .i64) _ 3 ?hg_1 (N := 19) ?hd_1 (xs := ([t1, t2] : List Int)) (inner := [.int .i64 t1, .int .i64 t2]) (ok := fun _ => True) (okp := fun _ => True) ?hr_1 ?hp_1 (fun _ hk => hk) trivial (Below.refl _ _) (Nat.le_refl _) (by simp) ?_; (case hd_1 => rfl); (case hg_1 => rfl); (case hr_1 => first | (go_simp; done) | (go_simp; rfl)); (case hp_1 => exact ⟨rfl, fun j p hj => by match j with | 0 => (obtain rfl := Option.some.inj hj; rfl) | 1 => (obtain rfl := Option.some.inj hj; rfl) | _ + 2 => (simp at hj)⟩); intro vF1 w2 hrF1 hb hg_ hnew_; clear hg_ hnew_; rw [← Ny1.out] at hrF1; have hk := kept_below hb; obtain ⟨PF1, hPF1, HLF1⟩ := LR.fresh rfl HB.out hrF1; have HF1 := Aside0.mk HLF1; clear HLF1 hrF1; clear hPF1; obtain ⟨BF1, DF1, e_F1⟩ := HF1.out.val; subst e_F1; replace HB := Aside0.mk (below_step HB.out hb); clear hb hk) | ((with_reducible refine gate_callee (f := 32) rfl ?_); refine goesL_ (some 20) rfl rfl Try.func32 (by kernel_rfl) rfl #[.slice BF1 y1.length DF1] rfl (by (try simp only [List.map_toArray, List.map_cons, List.map_nil]); first | done | rfl | (simp only [List.length_drop, List.length_take]; rfl)) ?_; (with_reducible refine (impl_first.calls k _ _ y1 t3 _ HF1.out.reads HF1.out.room E3.out).mono ?_); rintro e w2 ⟨rfl, hq⟩; refine ⟨_, rfl, ?_⟩; have hk := kept_drawn hq; replace HF1 := Aside0.mk (HF1.out.step hk no_S); replace HB := Aside0.mk (below_drawn HB.out hq); clear hk hq) | ((with_reducible refine gate_dst (N := 24) rfl ?_); refine Kd.S_lit k35 _ 35 ?hg_2 (N := 24) ?hd_2 (xs := ([] : List S35)) (inner := []) (ok := fun _ => True) (okp := fun _ => True) ?hr_2 ?hp_2 (fun _ hk => hk) trivial (Below.refl _ _) (Nat.le_refl _) (by simp) ?_; (case hd_2 => rfl); (case hg_2 => rfl); (case hr_2 => first | (go_simp; done) | (go_simp; rfl)); (case hp_2 => exact (Reps.none _ _)); intro vF2 w2 hrF2 hb hg_ hnew_; clear hg_ hnew_; rw [← Ny0.out] at hrF2; have hk := kept_below hb; obtain ⟨PF2, hPF2, HLF2⟩ := LS.fresh HB.out hrF2; have HF2 := Aside0.mk HLF2; clear HLF2 hrF2; have D_F1_F2 := Aside0.mk (new_apart HF1.out.lt hPF2); replace HF1 := Aside0.mk (HF1.out.step hk no_S); clear hPF2; obtain ⟨BF2, DF2, e_F2⟩ := HF2.out.val; subst e_F2; replace HB := Aside0.mk (below_step HB.out hb); clear hb hk) | ((with_reducible refine gate_dst (N := 25) rfl ?_); refine Kd.R_lit (Kd.int .i64) _ 3 ?hg_3 (N := 25) ?hd_3 (xs := ([] : List Int)) (inner := []) (ok := fun _ => True) (okp := fun _ => True) ?hr_3 ?hp_3 (fun _ hk => hk) trivial (Below.refl _ _) (Nat.le_refl _) (by simp) ?_; (case hd_3 => rfl); (case hg_3 => rfl); (case hr_3 => first | (go_simp; done) | (go_simp; rfl)); (case hp_3 => exact (Reps.none _ _)); intro vF3 w2 hrF3 hb hg_ hnew_; clear hg_ hnew_; rw [← Ny2.out] at hrF3; have hk := kept_below hb; obtain ⟨PF3, hPF3, HLF3⟩ := LR.fresh rfl HB.out hrF3; have HF3 := Aside0.mk HLF3; clear HLF3 hrF3; have D_F1_F3 := Aside0.mk (new_apart HF1.out.lt hPF3); have D_F2_F3 := Aside0.mk (new_apart HF2.out.lt hPF3); replace HF1 := Aside0.mk (HF1.out.step hk no_S); replace HF2 := Aside0.mk (HF2.out.step hk no_S); clear hPF3; obtain ⟨BF3, DF3, e_F3⟩ := HF3.out.val; subst e_F3; replace HB := Aside0.mk (below_step HB.out hb); clear hb hk))
    go_loopg [6, 7, 28] k (fun kq v6 v7 v28 w' => ∃ (x7 : List Int) (i : Int) (s : List S35) (P7 Pq : Nat → Prop), v28 = .int .i64 i ∧ Aside0 (impl_BlobRun.l0 kq l0 i x7 s = some (r1, r2, r3)) ∧ Aside0 (kq ≤ k) ∧ Aside0 (LR (Kd.int .i64) 3 w' w.heap.size P7 v7 x7) ∧ Aside0 (LS k35 35 w' w.heap.size Pq v6 s) ∧ Aside0 (∀ k_, P7 k_ → ¬ Pq k_) ∧ Aside0 (Below w.heap.size w w'))
    case atStart => exact ⟨y2, 0, y0, PF3, PF2, rfl, H', ⟨Nat.le_refl _⟩, HF3, HF2, ⟨(apart_symm D_F2_F3.out)⟩, HB⟩
    case round =>
      clear H' HB HF1 HF2 HF3
      obtain ⟨x7, i, s, P7, Pq, rfl, HA, HK1, H7, Hq, D_7_q, HB⟩ := hrel
      cases gk with
      | zero => exact absurd HA.out (by simp [impl_BlobRun.l0])
      | succ k1 =>
        have H := HA.out
        clear HA
        simp only [impl_BlobRun.l0] at H
        obtain ⟨B7, D7, e_7⟩ := H7.out.val
        subst e_7
        obtain ⟨Bq, Dq, e_q⟩ := Hq.out.val
        subst e_q
        by_cases c1 : i < (l0.length : Int)
        · rw [if_pos c1] at H
          have cb1 : decide (i < (l0.length : Int)) = true := decide_eq_true c1
          by_cases c2 : 0 ≤ i
          · rw [if_pos c2] at H
            have cb2 : decide (0 ≤ i) = true := decide_eq_true c2
            obtain ⟨adx, A2, c3, ex, hx0, hx1, hx2, hl3, hi3⟩ := at_T61 HR0.out i c2 c1
            cases ex
            obtain ⟨z, hz⟩ : ∃ z, z = rd_T61 l0 i := ⟨_, rfl⟩
            rw [← hz] at H hx0 hx1 hx2 hl3 hi3
            replace hx0 := (HB.out.cell (World.block_lt_of_cell? w _ hx0)).trans hx0
            replace hx1 := (HB.out.cell (World.block_lt_of_cell? w _ hx1)).trans hx1
            replace hx2 := (HB.out.cell (World.block_lt_of_cell? w _ hx2)).trans hx2
            have HIX := Aside0.mk hi3
            have HLX := Aside0.mk hl3
            clear hi3 hl3 hz
            replace c1 := eq_true c1
            replace c2 := eq_true c2
            obtain ⟨⟨t1, t2⟩, e1, H⟩ := Option.bind_eq_some_iff.1 H
            by_cases c5 : s.length ≤ 1000000
            · rw [if_pos c5] at e1
              have HLN := Aside0.mk c5
              have E1 := Aside0.mk e1
              clear e1 c5
              simp only at H
              by_cases c4 : x7.length < 17592186044416
              · rw [if_pos c4] at H
                have LM4 := Aside0.mk c4
                clear c4
                obtain ⟨y3, hy3⟩ : ∃ y_ : List Int, y_ = x7 ++ [t2] := ⟨_, rfl⟩
                rw [← hy3] at H
                have Ny3 := Aside0.mk hy3
                have H' := Aside0.mk H
                clear H hy3
                go_wp2_with (first | ((with_reducible refine gate_dst (N := 9) rfl ?_); refine box_event ?hg_4 (N := 9) ?hd_4 (cs := #[.int .i64 0, .slice none 0 0, .string ByteArray.empty]) (t := 61) ?hr_4 ?_; (case hd_4 => rfl); (case hg_4 => rfl); (case hr_4 => first | (go_simp; done) | (go_simp; rfl)); intro gX4 hg w2 hbox hb; have hk := kept_below hb; obtain ⟨PX4, hPX4, HLX4⟩ := LB.fresh hg hbox; have HX4 := Aside0.mk HLX4; clear HLX4; have GEX4 := Aside0.mk (show w.heap.size ≤ gX4 from (by rw [hg]; exact HB.out.size)); have D_7_X4 := Aside0.mk (new_apart H7.out.lt hPX4); have D_q_X4 := Aside0.mk (new_apart Hq.out.lt hPX4); replace H7 := Aside0.mk (H7.out.step hk no_S); replace Hq := Aside0.mk (Hq.out.step hk no_S); replace HB := Aside0.mk (below_step HB.out hb); clear hb hk hbox hg hPX4; (try clear hxX4_0 hfX4_0 hxX4_1 hfX4_1 hxX4_2 hfX4_2); have hxX4_0 := (HX4.out.cell 0).trans (show _ = some (.int .i64 0) from rfl); have hfX4_0 := HX4.out.frozen 0; have hxX4_1 := (HX4.out.cell 1).trans (show _ = some (.slice none 0 0) from rfl); have hfX4_1 := HX4.out.frozen 1; have hxX4_2 := (HX4.out.cell 2).trans (show _ = some (.string ByteArray.empty) from rfl); have hfX4_2 := HX4.out.frozen 2) | ((with_reducible refine gate_store (t := 61) (p := 9) rfl ?_); refine LB.storedW HX4.out HB.out GEX4.out [.int .i64 z.f0, .slice A2 z.f1.length c3, .string z.f2] rfl rfl (t := 61) (p := 9) rfl rfl ?hr_5 ?_; (case hr_5 => first | (go_simp; done) | (go_simp; simp only [World.setCells, Nat.reduceAdd, Nat.zero_add]; done)); intro w2 hx hk hb; replace H7 := Aside0.mk (H7.out.step hk D_7_X4.out); replace Hq := Aside0.mk (Hq.out.step hk D_q_X4.out); replace HB := Aside0.mk hb; replace HX4 := Aside0.mk (show LB w2 PX4 gX4 61 #[.int .i64 z.f0, .slice A2 z.f1.length c3, .string z.f2] from hx); clear hk hx hb; (try clear hxX4_0 hfX4_0 hxX4_1 hfX4_1 hxX4_2 hfX4_2); have hxX4_0 := (HX4.out.cell 0).trans (show _ = some (.int .i64 z.f0) from rfl); have hfX4_0 := HX4.out.frozen 0; have hxX4_1 := (HX4.out.cell 1).trans (show _ = some (.slice A2 z.f1.length c3) from rfl); have hfX4_1 := HX4.out.frozen 1; have hxX4_2 := (HX4.out.cell 2).trans (show _ = some (.string z.f2) from rfl); have hfX4_2 := HX4.out.frozen 2) | ((with_reducible refine gate_callee (f := 35) rfl ?_); refine goesL_ (some 35) rfl rfl Try.func35 (by kernel_rfl) rfl #[.slice Bq s.length Dq, .agg #[.int .i64 z.f0, .slice A2 z.f1.length c3, .string z.f2]] rfl (by (try simp only [List.map_toArray, List.map_cons, List.map_nil]); first | done | rfl) ?_; (with_reducible refine (impl_blobAct.own Pq Bq Dq s z.f0 A2 c3 z.f1 z.f2 t1 t2 w _ HB.out Hq.out HLN.out HIX.out HLX.out E1.out).mono ?_); rintro e w2 ⟨v5, Q5, rfl, h5, rr5, hb, hk⟩; refine ⟨_, rfl, ?_⟩; have D_7_5 := Aside0.mk (apart_app rr5 H7.out.lt D_7_q.out); have D_X4_5 := Aside0.mk (apart_app rr5 HX4.out.lt (apart_symm D_q_X4.out)); replace H7 := Aside0.mk (H7.out.step hk D_7_q.out); replace HX4 := Aside0.mk (HX4.out.step hk (apart_symm D_q_X4.out)); have H5 := Aside0.mk h5; replace HB := Aside0.mk hb; clear h5 rr5 hb hk Hq; obtain ⟨B5, D5, e_5⟩ := H5.out.val; subst e_5; (try clear hxX4_0 hfX4_0 hxX4_1 hfX4_1 hxX4_2 hfX4_2); have hxX4_0 := (HX4.out.cell 0).trans (show _ = some (.int .i64 z.f0) from rfl); have hfX4_0 := HX4.out.frozen 0; have hxX4_1 := (HX4.out.cell 1).trans (show _ = some (.slice A2 z.f1.length c3) from rfl); have hfX4_1 := HX4.out.frozen 1; have hxX4_2 := (HX4.out.cell 2).trans (show _ = some (.string z.f2) from rfl); have hfX4_2 := HX4.out.frozen 2) | ((with_reducible refine gate_builtin (b := .append) (xs := #[.tmp 39, .tmp 41]) rfl ?_); at_builtin; refine LR.append1 (Kd.int .i64) (w0 := w) rfl (.tmp 39) (.tmp 41) 29 3 (.int .i64 0) 8 rfl Try.underlying29 info3 rfl (by decide) (by omega) (.slice B7 x7.length D7) x7 t2 [.int .i64 t2] rfl rfl (by simp) H7.out rfl (fun _ _ h_ => h_) HB.out ?aL_6 ?_; (case aL_6 => have := LM4.out; omega); intro PF5 v_ w2 HL hb hk hR; have D_X4_F5 := Aside0.mk (apart_app hR HX4.out.lt (apart_symm D_7_X4.out)); have D_5_F5 := Aside0.mk (apart_app hR H5.out.lt (apart_symm D_7_5.out)); replace HX4 := Aside0.mk (HX4.out.step hk (apart_symm D_7_X4.out)); replace H5 := Aside0.mk (H5.out.step hk (apart_symm D_7_5.out)); rw [← Ny3.out] at HL; have HF5 := Aside0.mk HL; replace HB := Aside0.mk hb; clear hR HL hb hk; clear H7; obtain ⟨BF5, DF5, e_F5⟩ := HF5.out.val; subst e_F5; (try clear hxX4_0 hfX4_0 hxX4_1 hfX4_1 hxX4_2 hfX4_2); have hxX4_0 := (HX4.out.cell 0).trans (show _ = some (.int .i64 z.f0) from rfl); have hfX4_0 := HX4.out.frozen 0; have hxX4_1 := (HX4.out.cell 1).trans (show _ = some (.slice A2 z.f1.length c3) from rfl); have hfX4_1 := HX4.out.frozen 1; have hxX4_2 := (HX4.out.cell 2).trans (show _ = some (.string z.f2) from rfl); have hfX4_2 := HX4.out.frozen 2))
                go_roundg k1
                case measure => have := HK1.out; omega
                case rel => exact ⟨y3, wrap64 (i + 1), t1, PF5, Q5, by first | rfl | simp, H', ⟨by have := HK1.out; omega⟩, HF5, H5, ⟨(apart_symm D_5_F5.out)⟩, HB⟩
              · rw [if_neg c4] at H
                exact absurd H (by simp)
            · rw [if_neg c5] at e1
              exact absurd e1 (by simp)
          · rw [if_neg c2] at H
            exact absurd H (by simp)
        · rw [if_neg c1] at H
          have cb1 : decide (i < (l0.length : Int)) = false := decide_eq_false c1
          clear c1
          simp only [Option.some.injEq, Prod.mk.injEq] at H
          obtain ⟨rfl, rfl, rfl⟩ := H
          go_wp2
          go_ret3
          exact ⟨_, _, rfl, LR.out H7.out, LS.out Hq.out H7.out.1.1 D_7_q.out, HB.out⟩
  · rw [if_neg c] at h
    have cb : (t3 == 0) = false := beq_eq_false_iff_ne.mpr c
    have cb2 : (t3 != 0) = true := bne_iff_ne.mpr c
    clear c
    simp only [Option.some.injEq, Prod.mk.injEq] at h
    obtain ⟨rfl, rfl, rfl⟩ := h
    go_enter Try.func11, Try.ntmps11
    go_wp2_with (first | ((with_reducible refine gate_callee (f := 33) rfl ?_); refine goesL_ (some 14) rfl rfl Try.func33 (by kernel_rfl) rfl #[.int .i64 (l0.length : Int)] rfl (by (try simp only [List.map_toArray, List.map_cons, List.map_nil]); first | done | rfl | (simp only [List.length_drop, List.length_take]; rfl)) ?_; (with_reducible refine (impl_longList.calls (l0.length : Int) t1 _ E1.out).mono ?_); rintro e w2 ⟨rfl, hq⟩; refine ⟨_, rfl, ?_⟩; have hk := kept_drawn hq; replace HB := Aside0.mk (below_drawn HB.out hq); clear hk hq) | ((with_reducible refine gate_callee (f := 34) rfl ?_); refine goesL_ (some 18) rfl rfl Try.func34 (by kernel_rfl) rfl #[.bool (decide ((l0.length : Int) ≤ 200)), .int .i64 7] rfl (by (try simp only [List.map_toArray, List.map_cons, List.map_nil]); first | done | rfl | (simp only [List.length_drop, List.length_take]; rfl)) ?_; (with_reducible refine (impl_unless.calls (decide ((l0.length : Int) ≤ 200)) 7 t2 _ E2.out).mono ?_); rintro e w2 ⟨rfl, hq⟩; refine ⟨_, rfl, ?_⟩; have hk := kept_drawn hq; replace HB := Aside0.mk (below_drawn HB.out hq); clear hk hq) | ((with_reducible refine gate_dst (N := 19) rfl ?_); refine Kd.R_lit (Kd.int .i64) _ 3 ?hg_7 (N := 19) ?hd_7 (xs := ([t1, t2] : List Int)) (inner := [.int .i64 t1, .int .i64 t2]) (ok := fun _ => True) (okp := fun _ => True) ?hr_7 ?hp_7 (fun _ hk => hk) trivial (Below.refl _ _) (Nat.le_refl _) (by simp) ?_; (case hd_7 => rfl); (case hg_7 => rfl); (case hr_7 => first | (go_simp; done) | (go_simp; rfl)); (case hp_7 => exact ⟨rfl, fun j p hj => by match j with | 0 => (obtain rfl := Option.some.inj hj; rfl) | 1 => (obtain rfl := Option.some.inj hj; rfl) | _ + 2 => (simp at hj)⟩); intro vF6 w2 hrF6 hb hg_ hnew_; clear hg_ hnew_; rw [← Ny1.out] at hrF6; have hk := kept_below hb; obtain ⟨PF6, hPF6, HLF6⟩ := LR.fresh rfl HB.out hrF6; have HF6 := Aside0.mk HLF6; clear HLF6 hrF6; clear hPF6; obtain ⟨BF6, DF6, e_F6⟩ := HF6.out.val; subst e_F6; replace HB := Aside0.mk (below_step HB.out hb); clear hb hk) | ((with_reducible refine gate_callee (f := 32) rfl ?_); refine goesL_ (some 20) rfl rfl Try.func32 (by kernel_rfl) rfl #[.slice BF6 y1.length DF6] rfl (by (try simp only [List.map_toArray, List.map_cons, List.map_nil]); first | done | rfl | (simp only [List.length_drop, List.length_take]; rfl)) ?_; (with_reducible refine (impl_first.calls k _ _ y1 t3 _ HF6.out.reads HF6.out.room E3.out).mono ?_); rintro e w2 ⟨rfl, hq⟩; refine ⟨_, rfl, ?_⟩; have hk := kept_drawn hq; replace HF6 := Aside0.mk (HF6.out.step hk no_S); replace HB := Aside0.mk (below_drawn HB.out hq); clear hk hq))
    go_ret3
    exact ⟨_, _, rfl, Kd.R_nil _ _ _ _ _, Kd.S_nil _ _ _ _ _, HB.out⟩
end
section
open Go.Proofs.Ytcgkfijigjcmpaa.Lawful
/-- One act of the reference. -/
def spec_l04Act.f (k : Nat) (l0 : List S35) (a0 : Int) (l1 : List Int) (a2 : ByteArray) : Option (List S35 × Int) :=
  if a0 = 1 then
    if (2000 : Int) < (l1.length : Int) then some (l0, 14)
    else (spec_l04Sha.f k l1).bind fun key => (spec_l04Find.f k l0 key).bind fun t =>
      if 0 ≤ t then (if t < (l0.length : Int) then some (blobPut l0 t.toNat (wrap64 ((rd_T35 l0 t).f1 + 1)), 0) else none)
      else if (l0.length : Int) = 60 then some (l0, 7) else some (l0 ++ [⟨key, 1, l1⟩], 0)
  else if a0 = 2 then (spec_l04Find.f k l0 a2).bind fun t =>
    if t < 0 then some (l0, 6)
    else if t < (l0.length : Int) then (if (rd_T35 l0 t).f1 = 0 then some (l0, 6) else some (blobPut l0 t.toNat (wrap64 ((rd_T35 l0 t).f1 - 1)), 0)) else none
  else if a0 = 3 then some (l0.filter (fun x => decide (0 < x.f1)), 0)
  else some (l0, 3)
theorem blobTake (q : S35 × Nat → Bool) (l : List S35) (j : Nat) (hj : j < l.length) : (l.zipIdx.take (j + 1)).filter q = (l.zipIdx.take j).filter q ++ (if q (rd_T35 l (j : Int), j) = true then [(rd_T35 l (j : Int), j)] else []) := by
  have hz : j < l.zipIdx.length := by simp; exact hj
  have hk : l.zipIdx[j] = (rd_T35 l (j : Int), j) := by rw [List.getElem_zipIdx, blobRd l j hj]; simp
  rw [List.take_succ_eq_append_getElem hz, List.filter_append, hk]
  by_cases h : q (rd_T35 l (j : Int), j) = true
  · rw [if_pos h, List.filter_cons_of_pos h]; rfl
  · rw [if_neg h, List.filter_cons_of_neg h]; rfl
theorem blobFst (q : S35 → Bool) : ∀ (l : List S35) (k : Nat), ((l.zipIdx k).filter (fun z => q z.1)).map Prod.fst = l.filter q
  | [], _ => rfl
  | x :: l, k => by
    rw [List.zipIdx_cons]
    by_cases hc : q x = true
    · rw [List.filter_cons_of_pos (by exact hc), List.filter_cons_of_pos hc, List.map_cons, blobFst q l]
    · rw [List.filter_cons_of_neg (by exact hc), List.filter_cons_of_neg hc, blobFst q l]
theorem blobNd (q : S35 → Bool) (l : List S35) : ((l.zipIdx.filter (fun z => q z.1)).map Prod.snd).Nodup := by
  refine List.Nodup.sublist (List.Sublist.map _ List.filter_sublist) ?_
  rw [List.zipIdx_map_snd]
  exact List.nodup_range'
theorem blobOwn {w w1 w2 : World} {r : Option Nat} (hB : Below w.heap.size w w1) (h : w1.grownBy w2 r) (hr : ∀ k, r = some k → w.heap.size ≤ k) : Below w.heap.size w w2 :=
  ⟨h.os.trans hB.os, h.tape.trans hB.tape, h.output.trans hB.output, Nat.le_trans hB.size h.size, fun k hk => (h.block k (Nat.lt_of_lt_of_le hk hB.size) (fun he => by have := hr k he.symm; omega)).trans (hB.block k hk)⟩
def blobLive (x : S35) : Bool := decide (0 < x.f1)
set_option maxHeartbeats 16000000 in
set_option maxRecDepth 100000 in
theorem spec_l04Act.own (k : Nat) (P1 : Nat → Prop) (B1 : Option Addr) (D1 : Nat) (l0 : List S35) (a0 : Int) (A2 : Option Addr) (c2 : Nat) (l1 : List Int) (a2 : ByteArray) (r1 : List S35) (r2 : Int) (w ws : World) (hB : Below w.heap.size w ws) (h1 : LS k35 35 ws w.heap.size P1 (.slice B1 l0.length D1) l0) (hlen : l0.length ≤ 1000000) (hr2 : Kd.C (Kd.int .u8) w A2 l1.length l1) (hc2 : l1.length ≤ c2) (h : spec_l04Act.f k l0 a0 l1 a2 = some (r1, r2)) :
    Calls Try.prog 36 #[.slice B1 l0.length D1, .agg #[.int .i64 a0, .slice A2 l1.length c2, .string a2]] ws fun e w' => impl_blobAct.Post P1 r1 r2 w ws e w' := by
  have hu := Try.underlying35
  have hu2 := Try.underlying61
  have HB := Aside0.mk hB
  have H1 := Aside0.mk h1
  have HR2 := Aside0.mk hr2
  have HC2 := Aside0.mk hc2
  have HLN := Aside0.mk hlen
  have HK := Aside0.mk (Kept.refl ws P1)
  have RR1 := Aside0.mk (show ∀ k_, P1 k_ → P1 k_ ∨ ws.heap.size ≤ k_ from fun _ hk => .inl hk)
  clear hB h1 hr2 hc2 hlen
  unfold spec_l04Act.f at h
  by_cases k1 : a0 = 1
  · rw [if_pos k1] at h
    have k1b : (a0 == 1) = true := beq_iff_eq.mpr k1
    clear k1
    by_cases c1 : (2000 : Int) < (l1.length : Int)
    · rw [if_pos c1] at h
      have cb1 : decide ((2000 : Int) < (l1.length : Int)) = true := decide_eq_true c1
      have cb2 : decide (2000 < l1.length) = true := decide_eq_true (by omega)
      clear c1
      simp only [Option.some.injEq, Prod.mk.injEq] at h
      obtain ⟨rfl, rfl⟩ := h
      go_enter Try.func36, Try.ntmps36
      go_wp2_with (first | ((with_reducible refine gate_dst (N := 3) rfl ?_); refine box_event ?hg_1 (N := 3) ?hd_1 (cs := #[.int .i64 a0, .slice A2 l1.length c2, .string a2]) (t := 61) ?hr_1 ?_; (case hd_1 => rfl); (case hg_1 => rfl); (case hr_1 => first | (go_simp; done) | (go_simp; rfl)); intro gX1 hg w2 hbox hb; have hk := kept_below hb; obtain ⟨PX1, hPX1, HLX1⟩ := LB.fresh hg hbox; have HX1 := Aside0.mk HLX1; clear HLX1; have GEX1 := Aside0.mk (show w.heap.size ≤ gX1 from (by rw [hg]; exact HB.out.size)); have D_1_X1 := Aside0.mk (new_apart H1.out.lt hPX1); have RRX1 := Aside0.mk (show ∀ k_, PX1 k_ → (P1) k_ ∨ ws.heap.size ≤ k_ from fun k_ h_ => .inr (Nat.le_trans HK.out.1 (hPX1 k_ h_).1)); replace H1 := Aside0.mk (H1.out.step hk no_S); replace HK := Aside0.mk (HK.out.then_ hk (fun _ h_ => h_.elim)); replace HB := Aside0.mk (below_step HB.out hb); clear hb hk hbox hg hPX1; (try clear hxX1_0 hfX1_0 hxX1_1 hfX1_1 hxX1_2 hfX1_2); have hxX1_0 := (HX1.out.cell 0).trans (show _ = some (.int .i64 a0) from rfl); have hfX1_0 := HX1.out.frozen 0; have hxX1_1 := (HX1.out.cell 1).trans (show _ = some (.slice A2 l1.length c2) from rfl); have hfX1_1 := HX1.out.frozen 1; have hxX1_2 := (HX1.out.cell 2).trans (show _ = some (.string a2) from rfl); have hfX1_2 := HX1.out.frozen 2))
      go_ret2
      exact ⟨_, _, rfl, H1.out, RR1.out, HB.out, HK.out⟩
    · rw [if_neg c1] at h
      have cb1 : decide ((2000 : Int) < (l1.length : Int)) = false := decide_eq_false c1
      have cb2 : decide (2000 < l1.length) = false := decide_eq_false (by omega)
      have LM1 := Aside0.mk (show l1.length ≤ 2000 by omega)
      clear c1
      obtain ⟨key, e1, h⟩ := Option.bind_eq_some_iff.1 h
      obtain ⟨t, e2, h⟩ := Option.bind_eq_some_iff.1 h
      have E1 := Aside0.mk e1
      have E2 := Aside0.mk e2
      clear e1 e2
      by_cases c3 : 0 ≤ t
      · rw [if_pos c3] at h
        have cb3 : decide (0 ≤ t) = true := decide_eq_true c3
        by_cases c4 : t < (l0.length : Int)
        · rw [if_pos c4] at h
          obtain ⟨i, rfl⟩ : ∃ i : Nat, t = (i : Int) := ⟨t.toNat, by omega⟩
          rw [Int.toNat_natCast] at h
          have hi : i < l0.length := by omega
          have HI2 := Aside0.mk hi
          have p1 := eq_true c3
          have q1 := eq_true c4
          clear c3 c4
          obtain ⟨g, co, eo, gb, gl, cl, HG⟩ := Kd.S_form H1.out.1 (by omega)
          injection eo with ea_ en_ ec_
          subst ea_
          subst ec_
          have GB := Aside0.mk gb
          clear en_ gb gl HG cl
          have hx0 := (blobCells H1.out i hi).1
          clear hx0
          simp only [Option.some.injEq, Prod.mk.injEq] at h
          obtain ⟨rfl, rfl⟩ := h
          go_enter Try.func36, Try.ntmps36
          go_wp2_with (first | ((with_reducible refine gate_dst (N := 3) rfl ?_); refine box_event ?hg_1 (N := 3) ?hd_1 (cs := #[.int .i64 a0, .slice A2 l1.length c2, .string a2]) (t := 61) ?hr_1 ?_; (case hd_1 => rfl); (case hg_1 => rfl); (case hr_1 => first | (go_simp; done) | (go_simp; rfl)); intro gX1 hg w2 hbox hb; have hk := kept_below hb; obtain ⟨PX1, hPX1, HLX1⟩ := LB.fresh hg hbox; have HX1 := Aside0.mk HLX1; clear HLX1; have GEX1 := Aside0.mk (show w.heap.size ≤ gX1 from (by rw [hg]; exact HB.out.size)); have D_1_X1 := Aside0.mk (new_apart H1.out.lt hPX1); have RRX1 := Aside0.mk (show ∀ k_, PX1 k_ → (P1) k_ ∨ ws.heap.size ≤ k_ from fun k_ h_ => .inr (Nat.le_trans HK.out.1 (hPX1 k_ h_).1)); replace H1 := Aside0.mk (H1.out.step hk no_S); replace HK := Aside0.mk (HK.out.then_ hk (fun _ h_ => h_.elim)); replace HB := Aside0.mk (below_step HB.out hb); clear hb hk hbox hg hPX1; (try clear hxX1_0 hfX1_0 hxX1_1 hfX1_1 hxX1_2 hfX1_2); have hxX1_0 := (HX1.out.cell 0).trans (show _ = some (.int .i64 a0) from rfl); have hfX1_0 := HX1.out.frozen 0; have hxX1_1 := (HX1.out.cell 1).trans (show _ = some (.slice A2 l1.length c2) from rfl); have hfX1_1 := HX1.out.frozen 1; have hxX1_2 := (HX1.out.cell 2).trans (show _ = some (.string a2) from rfl); have hfX1_2 := HX1.out.frozen 2) | ((with_reducible refine gate_callee (f := 25) rfl ?_); refine goesL_ (some 22) rfl rfl Try.func25 (by kernel_rfl) rfl #[.slice A2 l1.length c2] rfl (by (try simp only [List.map_toArray, List.map_cons, List.map_nil]); first | done | rfl | (simp only [List.length_drop, List.length_take]; rfl)) ?_; (with_reducible refine (spec_l04Sha.calls k _ _ l1 key _ (Kd.C_below HR2.out HB.out) HC2.out E1.out).mono ?_); rintro e w2 ⟨rfl, hb⟩; refine ⟨_, rfl, ?_⟩; have hk := kept_below hb; replace H1 := Aside0.mk (H1.out.step hk no_S); replace HX1 := Aside0.mk (HX1.out.step hk no_S); replace HK := Aside0.mk (HK.out.then_ hk (fun _ h_ => h_.elim)); replace HB := Aside0.mk (below_step HB.out hb); clear hb hk; (try clear hxX1_0 hfX1_0 hxX1_1 hfX1_1 hxX1_2 hfX1_2); have hxX1_0 := (HX1.out.cell 0).trans (show _ = some (.int .i64 a0) from rfl); have hfX1_0 := HX1.out.frozen 0; have hxX1_1 := (HX1.out.cell 1).trans (show _ = some (.slice A2 l1.length c2) from rfl); have hfX1_1 := HX1.out.frozen 1; have hxX1_2 := (HX1.out.cell 2).trans (show _ = some (.string a2) from rfl); have hfX1_2 := HX1.out.frozen 2) | ((with_reducible refine gate_callee (f := 57) rfl ?_); refine goesL_ (some 25) rfl rfl Try.func57 (by kernel_rfl) rfl #[.slice (some ⟨g, 0, none⟩) l0.length D1, .string key] rfl (by (try simp only [List.map_toArray, List.map_cons, List.map_nil]); first | done | rfl | (simp only [List.length_drop, List.length_take]; rfl)) ?_; (with_reducible refine (spec_l04Find.calls k _ _ l0 key (i : Int) _ H1.out.reads H1.out.room E2.out).mono ?_); rintro e w2 ⟨rfl, hq⟩; refine ⟨_, rfl, ?_⟩; have hk := kept_drawn hq; replace H1 := Aside0.mk (H1.out.step hk no_S); replace HX1 := Aside0.mk (HX1.out.step hk no_S); replace HK := Aside0.mk (HK.out.then_ hk (fun _ h_ => h_.elim)); replace HB := Aside0.mk (below_drawn HB.out hq); clear hk hq; (try clear hxX1_0 hfX1_0 hxX1_1 hfX1_1 hxX1_2 hfX1_2); have hxX1_0 := (HX1.out.cell 0).trans (show _ = some (.int .i64 a0) from rfl); have hfX1_0 := HX1.out.frozen 0; have hxX1_1 := (HX1.out.cell 1).trans (show _ = some (.slice A2 l1.length c2) from rfl); have hfX1_1 := HX1.out.frozen 1; have hxX1_2 := (HX1.out.cell 2).trans (show _ = some (.string a2) from rfl); have hfX1_2 := HX1.out.frozen 2; obtain ⟨hx0, hx1, hf1⟩ := blobCells H1.out i HI2.out) | ((with_reducible refine gate_store (t := 3) (p := 35) rfl ?_); obtain ⟨hs1_, hg2_, hp_⟩ := blobSet H1.out i HI2.out (wrap64 ((rd_T35 l0 (i : Int)).f1 + 1)); refine store_event (t := 3) (p := 35) (v := ?vo_s2) (w1 := World.setCell w2 ⟨g, i * 3 + 1, none⟩ (.int .i64 (wrap64 ((rd_T35 l0 (i : Int)).f1 + 1)))) ?hg_s2 ?ho_s2 ?hn_s2 ?hr_s2 ?_; (case ho_s2 => rfl); (case hg_s2 => rfl); (case hn_s2 => rfl); (case hr_s2 => first | (go_simp; done) | (go_simp; rfl)); intro w13 hw; rw [← hw] at hs1_ hg2_; have hk := Kept.of_grown hg2_ (Kept.refl _ P1) (fun k_ h_ => .inl (by injection h_ with h_; rw [← h_]; exact hp_)); have n1_ := Aside0.mk (blobBelow HB.out hg2_ GB.out); replace HK := Aside0.mk (HK.out.then_ hk (fun _ h_ => .inl h_)); clear H1 HB hw hk hg2_; have H1 := Aside0.mk hs1_; have HB := n1_; clear n1_ hs1_))
          go_ret2
          exact ⟨_, _, rfl, H1.out, RR1.out, HB.out, HK.out⟩
        · rw [if_neg c4] at h
          exact absurd h (by simp)
      · rw [if_neg c3] at h
        have cb3 : decide (0 ≤ t) = false := decide_eq_false c3
        clear c3
        by_cases c6 : (l0.length : Int) = 60
        · rw [if_pos c6] at h
          have c6b : ((l0.length : Int) == 60) = true := beq_iff_eq.mpr c6
          have c6n : (l0.length == 60) = true := by first | simpa using c6 | (simp at c6 ⊢; omega)
          clear c6
          simp only [Option.some.injEq, Prod.mk.injEq] at h
          obtain ⟨rfl, rfl⟩ := h
          go_enter Try.func36, Try.ntmps36
          go_wp2_with (first | ((with_reducible refine gate_dst (N := 3) rfl ?_); refine box_event ?hg_1 (N := 3) ?hd_1 (cs := #[.int .i64 a0, .slice A2 l1.length c2, .string a2]) (t := 61) ?hr_1 ?_; (case hd_1 => rfl); (case hg_1 => rfl); (case hr_1 => first | (go_simp; done) | (go_simp; rfl)); intro gX1 hg w2 hbox hb; have hk := kept_below hb; obtain ⟨PX1, hPX1, HLX1⟩ := LB.fresh hg hbox; have HX1 := Aside0.mk HLX1; clear HLX1; have GEX1 := Aside0.mk (show w.heap.size ≤ gX1 from (by rw [hg]; exact HB.out.size)); have D_1_X1 := Aside0.mk (new_apart H1.out.lt hPX1); have RRX1 := Aside0.mk (show ∀ k_, PX1 k_ → (P1) k_ ∨ ws.heap.size ≤ k_ from fun k_ h_ => .inr (Nat.le_trans HK.out.1 (hPX1 k_ h_).1)); replace H1 := Aside0.mk (H1.out.step hk no_S); replace HK := Aside0.mk (HK.out.then_ hk (fun _ h_ => h_.elim)); replace HB := Aside0.mk (below_step HB.out hb); clear hb hk hbox hg hPX1; (try clear hxX1_0 hfX1_0 hxX1_1 hfX1_1 hxX1_2 hfX1_2); have hxX1_0 := (HX1.out.cell 0).trans (show _ = some (.int .i64 a0) from rfl); have hfX1_0 := HX1.out.frozen 0; have hxX1_1 := (HX1.out.cell 1).trans (show _ = some (.slice A2 l1.length c2) from rfl); have hfX1_1 := HX1.out.frozen 1; have hxX1_2 := (HX1.out.cell 2).trans (show _ = some (.string a2) from rfl); have hfX1_2 := HX1.out.frozen 2) | ((with_reducible refine gate_callee (f := 25) rfl ?_); refine goesL_ (some 22) rfl rfl Try.func25 (by kernel_rfl) rfl #[.slice A2 l1.length c2] rfl (by (try simp only [List.map_toArray, List.map_cons, List.map_nil]); first | done | rfl | (simp only [List.length_drop, List.length_take]; rfl)) ?_; (with_reducible refine (spec_l04Sha.calls k _ _ l1 key _ (Kd.C_below HR2.out HB.out) HC2.out E1.out).mono ?_); rintro e w2 ⟨rfl, hb⟩; refine ⟨_, rfl, ?_⟩; have hk := kept_below hb; replace H1 := Aside0.mk (H1.out.step hk no_S); replace HX1 := Aside0.mk (HX1.out.step hk no_S); replace HK := Aside0.mk (HK.out.then_ hk (fun _ h_ => h_.elim)); replace HB := Aside0.mk (below_step HB.out hb); clear hb hk; (try clear hxX1_0 hfX1_0 hxX1_1 hfX1_1 hxX1_2 hfX1_2); have hxX1_0 := (HX1.out.cell 0).trans (show _ = some (.int .i64 a0) from rfl); have hfX1_0 := HX1.out.frozen 0; have hxX1_1 := (HX1.out.cell 1).trans (show _ = some (.slice A2 l1.length c2) from rfl); have hfX1_1 := HX1.out.frozen 1; have hxX1_2 := (HX1.out.cell 2).trans (show _ = some (.string a2) from rfl); have hfX1_2 := HX1.out.frozen 2) | ((with_reducible refine gate_callee (f := 57) rfl ?_); refine goesL_ (some 25) rfl rfl Try.func57 (by kernel_rfl) rfl #[.slice B1 l0.length D1, .string key] rfl (by (try simp only [List.map_toArray, List.map_cons, List.map_nil]); first | done | rfl | (simp only [List.length_drop, List.length_take]; rfl)) ?_; (with_reducible refine (spec_l04Find.calls k _ _ l0 key t _ H1.out.reads H1.out.room E2.out).mono ?_); rintro e w2 ⟨rfl, hq⟩; refine ⟨_, rfl, ?_⟩; have hk := kept_drawn hq; replace H1 := Aside0.mk (H1.out.step hk no_S); replace HX1 := Aside0.mk (HX1.out.step hk no_S); replace HK := Aside0.mk (HK.out.then_ hk (fun _ h_ => h_.elim)); replace HB := Aside0.mk (below_drawn HB.out hq); clear hk hq; (try clear hxX1_0 hfX1_0 hxX1_1 hfX1_1 hxX1_2 hfX1_2); have hxX1_0 := (HX1.out.cell 0).trans (show _ = some (.int .i64 a0) from rfl); have hfX1_0 := HX1.out.frozen 0; have hxX1_1 := (HX1.out.cell 1).trans (show _ = some (.slice A2 l1.length c2) from rfl); have hfX1_1 := HX1.out.frozen 1; have hxX1_2 := (HX1.out.cell 2).trans (show _ = some (.string a2) from rfl); have hfX1_2 := HX1.out.frozen 2))
          go_ret2
          exact ⟨_, _, rfl, H1.out, RR1.out, HB.out, HK.out⟩
        · rw [if_neg c6] at h
          have c6b : ((l0.length : Int) == 60) = false := beq_eq_false_iff_ne.mpr c6
          have c6n : (l0.length == 60) = false := by first | simpa using c6 | (simp at c6 ⊢; omega)
          clear c6
          obtain ⟨y1, hy1⟩ : ∃ y_, y_ = l0 ++ [(⟨key, 1, l1⟩ : S35)] := ⟨_, rfl⟩
          rw [← hy1] at h
          have Ny1 := Aside0.mk hy1
          clear hy1
          obtain ⟨yb, hyb⟩ : ∃ y_ : List Int, y_ = [] := ⟨_, rfl⟩
          have Nyb := Aside0.mk hyb
          obtain ⟨y2, hy2⟩ : ∃ y_ : List Int, y_ = yb ++ l1 := ⟨_, rfl⟩
          have Ny2 := Aside0.mk hy2
          have N3 := Aside0.mk (show y2 = l1 by rw [hy2, hyb]; rfl)
          have LB0 := Aside0.mk (show yb.length = 0 by rw [hyb]; rfl)
          clear hyb hy2
          simp only [Option.some.injEq, Prod.mk.injEq] at h
          obtain ⟨rfl, rfl⟩ := h
          go_enter Try.func36, Try.ntmps36
          go_wp2_with (first | ((with_reducible refine gate_dst (N := 3) rfl ?_); refine box_event ?hg_1 (N := 3) ?hd_1 (cs := #[.int .i64 a0, .slice A2 l1.length c2, .string a2]) (t := 61) ?hr_1 ?_; (case hd_1 => rfl); (case hg_1 => rfl); (case hr_1 => first | (go_simp; done) | (go_simp; rfl)); intro gX1 hg w2 hbox hb; have hk := kept_below hb; obtain ⟨PX1, hPX1, HLX1⟩ := LB.fresh hg hbox; have HX1 := Aside0.mk HLX1; clear HLX1; have GEX1 := Aside0.mk (show w.heap.size ≤ gX1 from (by rw [hg]; exact HB.out.size)); have D_1_X1 := Aside0.mk (new_apart H1.out.lt hPX1); have RRX1 := Aside0.mk (show ∀ k_, PX1 k_ → (P1) k_ ∨ ws.heap.size ≤ k_ from fun k_ h_ => .inr (Nat.le_trans HK.out.1 (hPX1 k_ h_).1)); replace H1 := Aside0.mk (H1.out.step hk no_S); replace HK := Aside0.mk (HK.out.then_ hk (fun _ h_ => h_.elim)); replace HB := Aside0.mk (below_step HB.out hb); clear hb hk hbox hg hPX1; (try clear hxX1_0 hfX1_0 hxX1_1 hfX1_1 hxX1_2 hfX1_2); have hxX1_0 := (HX1.out.cell 0).trans (show _ = some (.int .i64 a0) from rfl); have hfX1_0 := HX1.out.frozen 0; have hxX1_1 := (HX1.out.cell 1).trans (show _ = some (.slice A2 l1.length c2) from rfl); have hfX1_1 := HX1.out.frozen 1; have hxX1_2 := (HX1.out.cell 2).trans (show _ = some (.string a2) from rfl); have hfX1_2 := HX1.out.frozen 2) | ((with_reducible refine gate_callee (f := 25) rfl ?_); refine goesL_ (some 22) rfl rfl Try.func25 (by kernel_rfl) rfl #[.slice A2 l1.length c2] rfl (by (try simp only [List.map_toArray, List.map_cons, List.map_nil]); first | done | rfl | (simp only [List.length_drop, List.length_take]; rfl)) ?_; (with_reducible refine (spec_l04Sha.calls k _ _ l1 key _ (Kd.C_below HR2.out HB.out) HC2.out E1.out).mono ?_); rintro e w2 ⟨rfl, hb⟩; refine ⟨_, rfl, ?_⟩; have hk := kept_below hb; replace H1 := Aside0.mk (H1.out.step hk no_S); replace HX1 := Aside0.mk (HX1.out.step hk no_S); replace HK := Aside0.mk (HK.out.then_ hk (fun _ h_ => h_.elim)); replace HB := Aside0.mk (below_step HB.out hb); clear hb hk; (try clear hxX1_0 hfX1_0 hxX1_1 hfX1_1 hxX1_2 hfX1_2); have hxX1_0 := (HX1.out.cell 0).trans (show _ = some (.int .i64 a0) from rfl); have hfX1_0 := HX1.out.frozen 0; have hxX1_1 := (HX1.out.cell 1).trans (show _ = some (.slice A2 l1.length c2) from rfl); have hfX1_1 := HX1.out.frozen 1; have hxX1_2 := (HX1.out.cell 2).trans (show _ = some (.string a2) from rfl); have hfX1_2 := HX1.out.frozen 2) | ((with_reducible refine gate_callee (f := 57) rfl ?_); refine goesL_ (some 25) rfl rfl Try.func57 (by kernel_rfl) rfl #[.slice B1 l0.length D1, .string key] rfl (by (try simp only [List.map_toArray, List.map_cons, List.map_nil]); first | done | rfl | (simp only [List.length_drop, List.length_take]; rfl)) ?_; (with_reducible refine (spec_l04Find.calls k _ _ l0 key t _ H1.out.reads H1.out.room E2.out).mono ?_); rintro e w2 ⟨rfl, hq⟩; refine ⟨_, rfl, ?_⟩; have hk := kept_drawn hq; replace H1 := Aside0.mk (H1.out.step hk no_S); replace HX1 := Aside0.mk (HX1.out.step hk no_S); replace HK := Aside0.mk (HK.out.then_ hk (fun _ h_ => h_.elim)); replace HB := Aside0.mk (below_drawn HB.out hq); clear hk hq; (try clear hxX1_0 hfX1_0 hxX1_1 hfX1_1 hxX1_2 hfX1_2); have hxX1_0 := (HX1.out.cell 0).trans (show _ = some (.int .i64 a0) from rfl); have hfX1_0 := HX1.out.frozen 0; have hxX1_1 := (HX1.out.cell 1).trans (show _ = some (.slice A2 l1.length c2) from rfl); have hfX1_1 := HX1.out.frozen 1; have hxX1_2 := (HX1.out.cell 2).trans (show _ = some (.string a2) from rfl); have hfX1_2 := HX1.out.frozen 2) | ((with_reducible refine gate_dst (N := 43) rfl ?_); refine Kd.R_lit (Kd.int .u8) _ 5 ?hg_3 (N := 43) ?hd_3 (xs := ([] : List Int)) (inner := []) (ok := fun _ => True) (okp := fun _ => True) ?hr_3 ?hp_3 (fun _ hk => hk) trivial (Below.refl _ _) (Nat.le_refl _) (by simp) ?_; (case hd_3 => rfl); (case hg_3 => rfl); (case hr_3 => first | (go_simp; done) | (go_simp; rfl)); (case hp_3 => exact (Reps.none _ _)); intro vF2 w2 hrF2 hb hg_ hnew_; clear hg_ hnew_; rw [← Nyb.out] at hrF2; have hk := kept_below hb; obtain ⟨PF2, hPF2, HLF2⟩ := LR.fresh rfl HB.out hrF2; have HF2 := Aside0.mk HLF2; clear HLF2 hrF2; have D_1_F2 := Aside0.mk (new_apart H1.out.lt hPF2); have D_X1_F2 := Aside0.mk (new_apart HX1.out.lt hPF2); have RRF2 := Aside0.mk (show ∀ k_, PF2 k_ → (P1) k_ ∨ ws.heap.size ≤ k_ from fun k_ h_ => .inr (Nat.le_trans HK.out.1 (hPF2 k_ h_).1)); replace H1 := Aside0.mk (H1.out.step hk no_S); replace HX1 := Aside0.mk (HX1.out.step hk no_S); replace HK := Aside0.mk (HK.out.then_ hk (fun _ h_ => h_.elim)); clear hPF2; obtain ⟨BF2, DF2, e_F2⟩ := HF2.out.val; subst e_F2; replace HB := Aside0.mk (below_step HB.out hb); clear hb hk; (try clear hxX1_0 hfX1_0 hxX1_1 hfX1_1 hxX1_2 hfX1_2); have hxX1_0 := (HX1.out.cell 0).trans (show _ = some (.int .i64 a0) from rfl); have hfX1_0 := HX1.out.frozen 0; have hxX1_1 := (HX1.out.cell 1).trans (show _ = some (.slice A2 l1.length c2) from rfl); have hfX1_1 := HX1.out.frozen 1; have hxX1_2 := (HX1.out.cell 2).trans (show _ = some (.string a2) from rfl); have hfX1_2 := HX1.out.frozen 2) | ((with_reducible refine gate_builtin (b := .append) (xs := #[.tmp 43, .tmp 45]) rfl ?_); at_builtin; refine LR.append_read (Kd.int .u8) (w0 := w) rfl (.tmp 43) (.tmp 45) 22 5 (.int .u8 0) 1 rfl Try.underlying22 info5 rfl (by decide) (by omega) (.slice BF2 yb.length DF2) yb l1 _ _ _ rfl rfl (fun _ _ h_ => h_) HF2.out (Kd.C_below HR2.out HB.out) HB.out ?aL_4 ?_; (case aL_4 => have := LB0.out; have := LM1.out; omega); intro PF3 v_ w2 HL hb hk hR; have D_1_F3 := Aside0.mk (apart_app hR H1.out.lt D_1_F2.out); have D_X1_F3 := Aside0.mk (apart_app hR HX1.out.lt D_X1_F2.out); have RRF3 := Aside0.mk (show ∀ k_, PF3 k_ → (P1) k_ ∨ ws.heap.size ≤ k_ from rr_app hR HK.out.1 RRF2.out); replace H1 := Aside0.mk (H1.out.step hk D_1_F2.out); replace HX1 := Aside0.mk (HX1.out.step hk D_X1_F2.out); replace HK := Aside0.mk (HK.out.then_ hk RRF2.out); rw [← Ny2.out] at HL; have HF3 := Aside0.mk HL; replace HB := Aside0.mk hb; clear hR HL hb hk; clear HF2; obtain ⟨BF3, DF3, e_F3⟩ := HF3.out.val; subst e_F3; (try clear hxX1_0 hfX1_0 hxX1_1 hfX1_1 hxX1_2 hfX1_2); have hxX1_0 := (HX1.out.cell 0).trans (show _ = some (.int .i64 a0) from rfl); have hfX1_0 := HX1.out.frozen 0; have hxX1_1 := (HX1.out.cell 1).trans (show _ = some (.slice A2 l1.length c2) from rfl); have hfX1_1 := HX1.out.frozen 1; have hxX1_2 := (HX1.out.cell 2).trans (show _ = some (.string a2) from rfl); have hfX1_2 := HX1.out.frozen 2) | ((with_reducible refine gate_builtin (b := .append) (xs := #[.tmp 41, .tmp 48]) rfl ?_); at_builtin; refine LS.append1 k35 (w0 := w) rfl (.tmp 41) (.tmp 48) 30 35 (.agg #[.string ByteArray.empty, .int .i64 0, .slice none 0 0]) 48 rfl Try.underlying30 blobInfo rfl (by decide) (by omega) (.slice B1 l0.length D1) l0 (⟨key, 1, l1⟩ : S35) [.string key, .int .i64 1, .slice BF3 y2.length DF3] rfl rfl (by simp) H1.out (k35_mkM _ _ _ (⟨key, 1, l1⟩ : S35) (by rw [← N3.out]; exact HF3.out.1)) D_1_F3.out HB.out ?aL_5 ?_; (case aL_5 => have := HLN.out; omega); intro PF4 v_ w2 HL hb hk hR; have D_X1_F4 := Aside0.mk (apart_app hR HX1.out.lt (apart_or (apart_symm D_1_X1.out) D_X1_F3.out)); have RRF4 := Aside0.mk (show ∀ k_, PF4 k_ → (P1) k_ ∨ ws.heap.size ≤ k_ from rr_app hR HK.out.1 (rr_or RR1.out RRF3.out)); replace HX1 := Aside0.mk (HX1.out.step hk (apart_symm D_1_X1.out)); replace HK := Aside0.mk (HK.out.then_ hk RR1.out); rw [← Ny1.out] at HL; have HF4 := Aside0.mk HL; replace HB := Aside0.mk hb; clear hR HL hb hk; clear H1; clear HF3; obtain ⟨BF4, DF4, e_F4⟩ := HF4.out.val; subst e_F4; (try clear hxX1_0 hfX1_0 hxX1_1 hfX1_1 hxX1_2 hfX1_2); have hxX1_0 := (HX1.out.cell 0).trans (show _ = some (.int .i64 a0) from rfl); have hfX1_0 := HX1.out.frozen 0; have hxX1_1 := (HX1.out.cell 1).trans (show _ = some (.slice A2 l1.length c2) from rfl); have hfX1_1 := HX1.out.frozen 1; have hxX1_2 := (HX1.out.cell 2).trans (show _ = some (.string a2) from rfl); have hfX1_2 := HX1.out.frozen 2))
          go_ret2
          exact ⟨_, _, rfl, HF4.out, RRF4.out, HB.out, HK.out⟩
  rw [if_neg k1] at h
  have k1b : (a0 == 1) = false := beq_eq_false_iff_ne.mpr k1
  by_cases k2 : a0 = 2
  · rw [if_pos k2] at h
    have k2b : (a0 == 2) = true := beq_iff_eq.mpr k2
    clear k1 k2
    obtain ⟨t, e2, h⟩ := Option.bind_eq_some_iff.1 h
    have E2 := Aside0.mk e2
    clear e2
    by_cases c3 : t < 0
    · rw [if_pos c3] at h
      have cb3 : decide (t < 0) = true := decide_eq_true c3
      clear c3
      simp only [Option.some.injEq, Prod.mk.injEq] at h
      obtain ⟨rfl, rfl⟩ := h
      go_enter Try.func36, Try.ntmps36
      go_wp2_with (first | ((with_reducible refine gate_dst (N := 3) rfl ?_); refine box_event ?hg_1 (N := 3) ?hd_1 (cs := #[.int .i64 a0, .slice A2 l1.length c2, .string a2]) (t := 61) ?hr_1 ?_; (case hd_1 => rfl); (case hg_1 => rfl); (case hr_1 => first | (go_simp; done) | (go_simp; rfl)); intro gX1 hg w2 hbox hb; have hk := kept_below hb; obtain ⟨PX1, hPX1, HLX1⟩ := LB.fresh hg hbox; have HX1 := Aside0.mk HLX1; clear HLX1; have GEX1 := Aside0.mk (show w.heap.size ≤ gX1 from (by rw [hg]; exact HB.out.size)); have D_1_X1 := Aside0.mk (new_apart H1.out.lt hPX1); have RRX1 := Aside0.mk (show ∀ k_, PX1 k_ → (P1) k_ ∨ ws.heap.size ≤ k_ from fun k_ h_ => .inr (Nat.le_trans HK.out.1 (hPX1 k_ h_).1)); replace H1 := Aside0.mk (H1.out.step hk no_S); replace HK := Aside0.mk (HK.out.then_ hk (fun _ h_ => h_.elim)); replace HB := Aside0.mk (below_step HB.out hb); clear hb hk hbox hg hPX1; (try clear hxX1_0 hfX1_0 hxX1_1 hfX1_1 hxX1_2 hfX1_2); have hxX1_0 := (HX1.out.cell 0).trans (show _ = some (.int .i64 a0) from rfl); have hfX1_0 := HX1.out.frozen 0; have hxX1_1 := (HX1.out.cell 1).trans (show _ = some (.slice A2 l1.length c2) from rfl); have hfX1_1 := HX1.out.frozen 1; have hxX1_2 := (HX1.out.cell 2).trans (show _ = some (.string a2) from rfl); have hfX1_2 := HX1.out.frozen 2) | ((with_reducible refine gate_callee (f := 57) rfl ?_); refine goesL_ (some 55) rfl rfl Try.func57 (by kernel_rfl) rfl #[.slice B1 l0.length D1, .string a2] rfl (by (try simp only [List.map_toArray, List.map_cons, List.map_nil]); first | done | rfl | (simp only [List.length_drop, List.length_take]; rfl)) ?_; (with_reducible refine (spec_l04Find.calls k _ _ l0 a2 t _ H1.out.reads H1.out.room E2.out).mono ?_); rintro e w2 ⟨rfl, hq⟩; refine ⟨_, rfl, ?_⟩; have hk := kept_drawn hq; replace H1 := Aside0.mk (H1.out.step hk no_S); replace HX1 := Aside0.mk (HX1.out.step hk no_S); replace HK := Aside0.mk (HK.out.then_ hk (fun _ h_ => h_.elim)); replace HB := Aside0.mk (below_drawn HB.out hq); clear hk hq; (try clear hxX1_0 hfX1_0 hxX1_1 hfX1_1 hxX1_2 hfX1_2); have hxX1_0 := (HX1.out.cell 0).trans (show _ = some (.int .i64 a0) from rfl); have hfX1_0 := HX1.out.frozen 0; have hxX1_1 := (HX1.out.cell 1).trans (show _ = some (.slice A2 l1.length c2) from rfl); have hfX1_1 := HX1.out.frozen 1; have hxX1_2 := (HX1.out.cell 2).trans (show _ = some (.string a2) from rfl); have hfX1_2 := HX1.out.frozen 2))
      go_ret2
      exact ⟨_, _, rfl, H1.out, RR1.out, HB.out, HK.out⟩
    · rw [if_neg c3] at h
      have cb3 : decide (t < 0) = false := decide_eq_false c3
      by_cases c4 : t < (l0.length : Int)
      · rw [if_pos c4] at h
        obtain ⟨i, rfl⟩ : ∃ i : Nat, t = (i : Int) := ⟨t.toNat, by omega⟩
        rw [Int.toNat_natCast] at h
        have hi : i < l0.length := by omega
        have HI2 := Aside0.mk hi
        have p1 := eq_true (show (0 : Int) ≤ (i : Int) by omega)
        have q1 := eq_true c4
        clear c3 c4
        obtain ⟨g, co, eo, gb, gl, cl, HG⟩ := Kd.S_form H1.out.1 (by omega)
        injection eo with ea_ en_ ec_
        subst ea_
        subst ec_
        have GB := Aside0.mk gb
        clear en_ gb gl HG cl
        by_cases c5 : (rd_T35 l0 (i : Int)).f1 = 0
        · rw [if_pos c5] at h
          have c5b : ((rd_T35 l0 (i : Int)).f1 == 0) = true := beq_iff_eq.mpr c5
          clear c5
          simp only [Option.some.injEq, Prod.mk.injEq] at h
          obtain ⟨rfl, rfl⟩ := h
          go_enter Try.func36, Try.ntmps36
          go_wp2_with (first | ((with_reducible refine gate_dst (N := 3) rfl ?_); refine box_event ?hg_1 (N := 3) ?hd_1 (cs := #[.int .i64 a0, .slice A2 l1.length c2, .string a2]) (t := 61) ?hr_1 ?_; (case hd_1 => rfl); (case hg_1 => rfl); (case hr_1 => first | (go_simp; done) | (go_simp; rfl)); intro gX1 hg w2 hbox hb; have hk := kept_below hb; obtain ⟨PX1, hPX1, HLX1⟩ := LB.fresh hg hbox; have HX1 := Aside0.mk HLX1; clear HLX1; have GEX1 := Aside0.mk (show w.heap.size ≤ gX1 from (by rw [hg]; exact HB.out.size)); have D_1_X1 := Aside0.mk (new_apart H1.out.lt hPX1); have RRX1 := Aside0.mk (show ∀ k_, PX1 k_ → (P1) k_ ∨ ws.heap.size ≤ k_ from fun k_ h_ => .inr (Nat.le_trans HK.out.1 (hPX1 k_ h_).1)); replace H1 := Aside0.mk (H1.out.step hk no_S); replace HK := Aside0.mk (HK.out.then_ hk (fun _ h_ => h_.elim)); replace HB := Aside0.mk (below_step HB.out hb); clear hb hk hbox hg hPX1; (try clear hxX1_0 hfX1_0 hxX1_1 hfX1_1 hxX1_2 hfX1_2); have hxX1_0 := (HX1.out.cell 0).trans (show _ = some (.int .i64 a0) from rfl); have hfX1_0 := HX1.out.frozen 0; have hxX1_1 := (HX1.out.cell 1).trans (show _ = some (.slice A2 l1.length c2) from rfl); have hfX1_1 := HX1.out.frozen 1; have hxX1_2 := (HX1.out.cell 2).trans (show _ = some (.string a2) from rfl); have hfX1_2 := HX1.out.frozen 2) | ((with_reducible refine gate_callee (f := 57) rfl ?_); refine goesL_ (some 55) rfl rfl Try.func57 (by kernel_rfl) rfl #[.slice (some ⟨g, 0, none⟩) l0.length D1, .string a2] rfl (by (try simp only [List.map_toArray, List.map_cons, List.map_nil]); first | done | rfl | (simp only [List.length_drop, List.length_take]; rfl)) ?_; (with_reducible refine (spec_l04Find.calls k _ _ l0 a2 (i : Int) _ H1.out.reads H1.out.room E2.out).mono ?_); rintro e w2 ⟨rfl, hq⟩; refine ⟨_, rfl, ?_⟩; have hk := kept_drawn hq; replace H1 := Aside0.mk (H1.out.step hk no_S); replace HX1 := Aside0.mk (HX1.out.step hk no_S); replace HK := Aside0.mk (HK.out.then_ hk (fun _ h_ => h_.elim)); replace HB := Aside0.mk (below_drawn HB.out hq); clear hk hq; (try clear hxX1_0 hfX1_0 hxX1_1 hfX1_1 hxX1_2 hfX1_2); have hxX1_0 := (HX1.out.cell 0).trans (show _ = some (.int .i64 a0) from rfl); have hfX1_0 := HX1.out.frozen 0; have hxX1_1 := (HX1.out.cell 1).trans (show _ = some (.slice A2 l1.length c2) from rfl); have hfX1_1 := HX1.out.frozen 1; have hxX1_2 := (HX1.out.cell 2).trans (show _ = some (.string a2) from rfl); have hfX1_2 := HX1.out.frozen 2; obtain ⟨hx0, hx1, hf1⟩ := blobCells H1.out i HI2.out))
          go_ret2
          exact ⟨_, _, rfl, H1.out, RR1.out, HB.out, HK.out⟩
        · rw [if_neg c5] at h
          have c5b : ((rd_T35 l0 (i : Int)).f1 == 0) = false := beq_eq_false_iff_ne.mpr c5
          clear c5
          simp only [Option.some.injEq, Prod.mk.injEq] at h
          obtain ⟨rfl, rfl⟩ := h
          go_enter Try.func36, Try.ntmps36
          go_wp2_with (first | ((with_reducible refine gate_dst (N := 3) rfl ?_); refine box_event ?hg_1 (N := 3) ?hd_1 (cs := #[.int .i64 a0, .slice A2 l1.length c2, .string a2]) (t := 61) ?hr_1 ?_; (case hd_1 => rfl); (case hg_1 => rfl); (case hr_1 => first | (go_simp; done) | (go_simp; rfl)); intro gX1 hg w2 hbox hb; have hk := kept_below hb; obtain ⟨PX1, hPX1, HLX1⟩ := LB.fresh hg hbox; have HX1 := Aside0.mk HLX1; clear HLX1; have GEX1 := Aside0.mk (show w.heap.size ≤ gX1 from (by rw [hg]; exact HB.out.size)); have D_1_X1 := Aside0.mk (new_apart H1.out.lt hPX1); have RRX1 := Aside0.mk (show ∀ k_, PX1 k_ → (P1) k_ ∨ ws.heap.size ≤ k_ from fun k_ h_ => .inr (Nat.le_trans HK.out.1 (hPX1 k_ h_).1)); replace H1 := Aside0.mk (H1.out.step hk no_S); replace HK := Aside0.mk (HK.out.then_ hk (fun _ h_ => h_.elim)); replace HB := Aside0.mk (below_step HB.out hb); clear hb hk hbox hg hPX1; (try clear hxX1_0 hfX1_0 hxX1_1 hfX1_1 hxX1_2 hfX1_2); have hxX1_0 := (HX1.out.cell 0).trans (show _ = some (.int .i64 a0) from rfl); have hfX1_0 := HX1.out.frozen 0; have hxX1_1 := (HX1.out.cell 1).trans (show _ = some (.slice A2 l1.length c2) from rfl); have hfX1_1 := HX1.out.frozen 1; have hxX1_2 := (HX1.out.cell 2).trans (show _ = some (.string a2) from rfl); have hfX1_2 := HX1.out.frozen 2) | ((with_reducible refine gate_callee (f := 57) rfl ?_); refine goesL_ (some 55) rfl rfl Try.func57 (by kernel_rfl) rfl #[.slice (some ⟨g, 0, none⟩) l0.length D1, .string a2] rfl (by (try simp only [List.map_toArray, List.map_cons, List.map_nil]); first | done | rfl | (simp only [List.length_drop, List.length_take]; rfl)) ?_; (with_reducible refine (spec_l04Find.calls k _ _ l0 a2 (i : Int) _ H1.out.reads H1.out.room E2.out).mono ?_); rintro e w2 ⟨rfl, hq⟩; refine ⟨_, rfl, ?_⟩; have hk := kept_drawn hq; replace H1 := Aside0.mk (H1.out.step hk no_S); replace HX1 := Aside0.mk (HX1.out.step hk no_S); replace HK := Aside0.mk (HK.out.then_ hk (fun _ h_ => h_.elim)); replace HB := Aside0.mk (below_drawn HB.out hq); clear hk hq; (try clear hxX1_0 hfX1_0 hxX1_1 hfX1_1 hxX1_2 hfX1_2); have hxX1_0 := (HX1.out.cell 0).trans (show _ = some (.int .i64 a0) from rfl); have hfX1_0 := HX1.out.frozen 0; have hxX1_1 := (HX1.out.cell 1).trans (show _ = some (.slice A2 l1.length c2) from rfl); have hfX1_1 := HX1.out.frozen 1; have hxX1_2 := (HX1.out.cell 2).trans (show _ = some (.string a2) from rfl); have hfX1_2 := HX1.out.frozen 2; obtain ⟨hx0, hx1, hf1⟩ := blobCells H1.out i HI2.out) | ((with_reducible refine gate_store (t := 3) (p := 74) rfl ?_); obtain ⟨hs1_, hg2_, hp_⟩ := blobSet H1.out i HI2.out (wrap64 ((rd_T35 l0 (i : Int)).f1 - 1)); refine store_event (t := 3) (p := 74) (v := ?vo_s6) (w1 := World.setCell w2 ⟨g, i * 3 + 1, none⟩ (.int .i64 (wrap64 ((rd_T35 l0 (i : Int)).f1 - 1)))) ?hg_s6 ?ho_s6 ?hn_s6 ?hr_s6 ?_; (case ho_s6 => rfl); (case hg_s6 => rfl); (case hn_s6 => rfl); (case hr_s6 => first | (go_simp; done) | (go_simp; rfl)); intro w13 hw; rw [← hw] at hs1_ hg2_; have hk := Kept.of_grown hg2_ (Kept.refl _ P1) (fun k_ h_ => .inl (by injection h_ with h_; rw [← h_]; exact hp_)); have n1_ := Aside0.mk (blobBelow HB.out hg2_ GB.out); replace HK := Aside0.mk (HK.out.then_ hk (fun _ h_ => .inl h_)); clear H1 HB hw hk hg2_; have H1 := Aside0.mk hs1_; have HB := n1_; clear n1_ hs1_))
          go_ret2
          exact ⟨_, _, rfl, H1.out, RR1.out, HB.out, HK.out⟩
      · rw [if_neg c4] at h
        exact absurd h (by simp)
  rw [if_neg k2] at h
  have k2b : (a0 == 2) = false := beq_eq_false_iff_ne.mpr k2
  by_cases k3 : a0 = 3
  · rw [if_pos k3] at h
    have k3b : (a0 == 3) = true := beq_iff_eq.mpr k3
    clear k1 k2 k3
    simp only [Option.some.injEq, Prod.mk.injEq] at h
    obtain ⟨hr1, rfl⟩ := h
    have HR1 := Aside0.mk hr1
    clear hr1
    have HB0 := Aside0.mk HB.out
    have HLT := Aside0.mk H1.out.2
    have H1S := Aside0.mk H1.out
    obtain ⟨⟨f, hf⟩, hlt⟩ := H1.out
    have HZ0 := Aside0.mk (show LR (Kd.tag f k35) 35 ws w.heap.size P1 (.slice B1 l0.length D1) l0.zipIdx from ⟨hf, hlt⟩)
    clear hf hlt
    have HW := Aside0.mk (Below.refl ws.heap.size ws)
    obtain ⟨y0, hy0⟩ : ∃ y_ : List (S35 × Nat), y_ = [] := ⟨_, rfl⟩
    have Ny0 := Aside0.mk hy0
    clear hy0
    go_enter Try.func36, Try.ntmps36
    go_wp2_with (first | ((with_reducible refine gate_dst (N := 3) rfl ?_); refine box_event ?hg_1 (N := 3) ?hd_1 (cs := #[.int .i64 a0, .slice A2 l1.length c2, .string a2]) (t := 61) ?hr_1 ?_; (case hd_1 => rfl); (case hg_1 => rfl); (case hr_1 => first | (go_simp; done) | (go_simp; rfl)); intro gX1 hg w2 hbox hb; have hk := kept_below hb; obtain ⟨PX1, hPX1, HLX1⟩ := LB.fresh hg hbox; have HX1 := Aside0.mk HLX1; clear HLX1; have GEX1 := Aside0.mk (show w.heap.size ≤ gX1 from (by rw [hg]; exact HB.out.size)); have D_1_X1 := Aside0.mk (new_apart H1.out.lt hPX1); have RRX1 := Aside0.mk (show ∀ k_, PX1 k_ → (P1) k_ ∨ ws.heap.size ≤ k_ from fun k_ h_ => .inr (Nat.le_trans HK.out.1 (hPX1 k_ h_).1)); replace H1 := Aside0.mk (H1.out.step hk no_S); replace HK := Aside0.mk (HK.out.then_ hk (fun _ h_ => h_.elim)); replace HB := Aside0.mk (below_step HB.out hb); replace HW := Aside0.mk (below_step HW.out hb); clear hb hk hbox hg hPX1; (try clear hxX1_0 hfX1_0 hxX1_1 hfX1_1 hxX1_2 hfX1_2); have hxX1_0 := (HX1.out.cell 0).trans (show _ = some (.int .i64 a0) from rfl); have hfX1_0 := HX1.out.frozen 0; have hxX1_1 := (HX1.out.cell 1).trans (show _ = some (.slice A2 l1.length c2) from rfl); have hfX1_1 := HX1.out.frozen 1; have hxX1_2 := (HX1.out.cell 2).trans (show _ = some (.string a2) from rfl); have hfX1_2 := HX1.out.frozen 2) | ((with_reducible refine gate_dst (N := 78) rfl ?_); refine Kd.R_lit (Kd.tag f k35) _ 35 ?hg_7 (N := 78) ?hd_7 (xs := ([] : List (S35 × Nat))) (inner := []) (ok := fun _ => True) (okp := fun _ => True) ?hr_7 ?hp_7 (fun _ hk => hk) trivial (Below.refl _ _) (Nat.le_refl _) (by simp) ?_; (case hd_7 => rfl); (case hg_7 => rfl); (case hr_7 => first | (go_simp; done) | (go_simp; rfl)); (case hp_7 => exact (Reps.none _ _)); intro vF5 w2 hrF5 hb hg_ hnew_; clear hg_ hnew_; rw [← Ny0.out] at hrF5; have o1_ := Aside0.mk (Kd.R_base hrF5); have HSZ := Aside0.mk HW.out.size; have n1_ := Aside0.mk (Kd.R_lower (Kd.R_mono (Kd.R_bound hrF5) (ok' := (fun k_ => P1 k_ ∨ ws.heap.size ≤ k_)) (fun k_ h_ => .inr (Nat.le_trans HW.out.size h_.2.1))) HB.out.size); replace HW := Aside0.mk (below_step HW.out hb); have OB1 := Aside0.mk (show ∀ k_, (vF5).ownBlock = some k_ → ws.heap.size ≤ k_ from fun k_ h_ => Nat.le_trans HSZ.out (o1_.out k_ h_)); have HO1 := n1_; clear n1_ o1_ hrF5 hb))
    go_loopg [9, 10] (l0.length + 1) (fun kq v9 v10 w' => ∃ (i : Nat) (ys : List (S35 × Nat)), v10 = .int .i64 (i : Int) ∧ Aside0 (i + kq = l0.length + 1) ∧ Aside0 (ys = (l0.zipIdx.take i).filter (fun z => blobLive z.1)) ∧ Aside0 ((Kd.tag f k35).R 35 w' w.heap.size (fun k_ => P1 k_ ∨ ws.heap.size ≤ k_) v9 ys) ∧ Aside0 (∀ k_, v9.ownBlock = some k_ → ws.heap.size ≤ k_) ∧ Aside0 (Below ws.heap.size ws w'))
    case atStart => exact ⟨0, y0, rfl, ⟨by omega⟩, ⟨by rw [Ny0.out]; rfl⟩, HO1, OB1, HW⟩
    case round =>
      try clear H1
      clear HB HK HW HO1 OB1 HX1
      try clear hxX1_0 hfX1_0 hxX1_1 hfX1_1 hxX1_2 hfX1_2
      obtain ⟨i, ys, rfl, HI, HY, HO, HOB, HW⟩ := hrel
      have HZ := Aside0.mk (HZ0.out.step (Kept.of_below HW.out (fun _ => False)) no_S)
      have H1 := Aside0.mk (H1S.out.step (Kept.of_below HW.out (fun _ => False)) no_S)
      have HB := Aside0.mk (below_step HB0.out HW.out)
      by_cases hi : i < l0.length
      · obtain ⟨k1, rfl⟩ : ∃ k_, gk = k_ + 1 := ⟨gk - 1, by have := HI.out; omega⟩
        have hlt : decide ((i : Int) < (l0.length : Int)) = true := decide_eq_true (by omega)
        have hltn : decide (i < l0.length) = true := decide_eq_true hi
        have hwi : wrap64 ((i : Int) + 1) = ((i + 1 : Nat) : Int) := by have := HLN.out; unfold wrap64; omega
        have HI2 := Aside0.mk hi
        obtain ⟨g, co, eo, gb, gl, cl, HG⟩ := Kd.S_form H1.out.1 (by omega)
        injection eo with ea_ en_ ec_
        subst ea_
        subst ec_
        have GB := Aside0.mk gb
        clear en_ gb gl HG cl
        obtain ⟨cs_, hcl, hM, hcc, hcf⟩ := Kd.R_elem HZ.out.1 ((z35, 0) : S35 × Nat) (i : Int) (by omega) (by omega)
        have hxx : l0.zipIdx.getD (Int.toNat (i : Int)) ((z35, 0) : S35 × Nat) = (rd_T35 l0 (i : Int), i) := by rw [Int.toNat_natCast, List.getD_eq_getElem?_getD, List.getElem?_zipIdx, List.getElem?_eq_getElem hi, blobRd l0 i hi]; simp
        rw [hxx] at hM
        obtain ⟨x, hx⟩ : ∃ x_, x_ = rd_T35 l0 (i : Int) := ⟨_, rfl⟩
        rw [← hx] at hM
        obtain ⟨v2, rfl, hg2⟩ := k35_openM hM
        obtain ⟨A5, c5, rfl⟩ := Kd.R_slice hg2
        have hx0 := hcc 0 _ rfl
        have hx1 := hcc 1 _ rfl
        have hx2 := hcc 2 _ rfl
        simp only [show (Kd.tag f k35).sz = 3 from rfl, Nat.add_zero, Int.toNat_natCast] at hx0 hx1 hx2
        have esz : (Kd.tag f k35).sz = 3 := rfl
        have HM := Aside0.mk hM
        have NX := Aside0.mk hx
        have HS := Aside0.mk (blobTake (fun z => blobLive z.1) l0 i hi)
        clear hM hg2 hcc hcf hcl hxx hx
        have p1 := eq_true (show (0 : Int) ≤ (i : Int) by omega)
        have q1 := eq_true (show (i : Int) < (l0.length : Int) by omega)
        cases hc : decide (0 < x.f1) with
        | true =>
          go_wp2_with (first | ((with_reducible refine gate_builtin (b := .append) (xs := #[.tmp 91, .tmp 96]) rfl ?_); at_builtin; refine Kd.R_append (Kd.tag f k35) (w0 := w) w.heap.size rfl (.tmp 91) (.tmp 96) 30 35 (.agg #[.string ByteArray.empty, .int .i64 0, .slice none 0 0]) 48 rfl Try.underlying30 blobInfo rfl (show 0 < 3 from by decide) (by omega) u9 ys (x, i) [.string x.f0, .int .i64 x.f1, .slice A5 x.f2.length c5] (fun k_ => P1 k_ ∨ ws.heap.size ≤ k_) (fun k_ => P1 k_ ∧ k_ ≠ g) rfl rfl HM.out (fun k_ h_ => ⟨.inl h_.1, fun e_ => by have a_ := HOB.out k_ e_.symm; have b_ := HLT.out k_ h_.1; omega⟩) (fun k_ h_ => .inr (Nat.le_trans HW.out.size h_)) HO.out HB.out HB.out.size (by have h9_ : ys.length ≤ i := (by rw [HY.out]; exact Nat.le_trans (List.length_filter_le _ _) (by rw [List.length_take]; exact Nat.min_le_left _ _)); have := HLN.out; omega) ?_; intro v1_ w2 hr_ hb_ hg_ hat_; have n1_ := Aside0.mk (blobOwn HW.out hg_ HOB.out); have n2_ := Aside0.mk (show ∀ k_, v1_.ownBlock = some k_ → ws.heap.size ≤ k_ from fun k_ h_ => by rcases hat_ with e_ | ⟨b_, e_, l_⟩; exact HOB.out k_ (e_ ▸ h_); rw [e_] at h_; injection h_ with h_; rw [← h_]; exact Nat.le_trans HW.out.size l_); clear HO HOB HW HB HZ H1 HM hb_ hg_ hat_ hx0 hx1 hx2; have HO := Aside0.mk hr_; have HW := n1_; have HOB := n2_; clear n1_ n2_ hr_))
          go_roundg k1
          case measure => omega
          case rel => exact ⟨i + 1, ys ++ [(x, i)], by first | rfl | (simp only [hwi]) | simp, ⟨by have := HI.out; omega⟩, ⟨by rw [HS.out, ← NX.out, if_pos (by exact hc), HY.out]⟩, HO, HOB, HW⟩
        | false =>
          go_wp2
          go_roundg k1
          case measure => omega
          case rel => exact ⟨i + 1, ys, by first | rfl | (simp only [hwi]) | simp, ⟨by have := HI.out; omega⟩, ⟨by rw [HS.out, ← NX.out, if_neg (by show ¬ decide (0 < x.f1) = true; rw [hc]; simp), List.append_nil, HY.out]⟩, HO, HOB, HW⟩
      · have hlt : decide ((i : Int) < (l0.length : Int)) = false := decide_eq_false (by omega)
        have hltn : decide (i < l0.length) = false := decide_eq_false hi
        have hys : ys = l0.zipIdx.filter (fun z => blobLive z.1) := by rw [HY.out, List.take_of_length_le (by simp; omega)]
        have hS := S_of_marks HO.out (by rw [hys]; exact blobNd blobLive l0)
        rw [hys, blobFst blobLive l0] at hS
        obtain ⟨Q_, HL9, HQ9⟩ : ∃ Q_ : Nat → Prop, LS k35 35 wr w.heap.size Q_ u9 (l0.filter blobLive) ∧ ∀ k_, Q_ k_ → P1 k_ ∨ ws.heap.size ≤ k_ := ⟨_, ⟨Kd.S_bound hS, fun k_ h_ => h_.2.2.1⟩, fun k_ h_ => h_.1⟩
        replace HL9 := Aside0.mk HL9
        replace HQ9 := Aside0.mk HQ9
        have HKK := Aside0.mk (Kept.of_below HW.out P1)
        clear hS hys
        go_wp2
        go_ret2
        exact ⟨_, _, rfl, (show LS k35 35 wr w.heap.size Q_ u9 _ from by rw [← HR1.out]; exact HL9.out), HQ9.out, HB.out, HKK.out⟩
  rw [if_neg k3] at h
  have k3b : (a0 == 3) = false := beq_eq_false_iff_ne.mpr k3
  clear k1 k2 k3
  simp only [Option.some.injEq, Prod.mk.injEq] at h
  obtain ⟨rfl, rfl⟩ := h
  go_enter Try.func36, Try.ntmps36
  go_wp2_with (first | ((with_reducible refine gate_dst (N := 3) rfl ?_); refine box_event ?hg_1 (N := 3) ?hd_1 (cs := #[.int .i64 a0, .slice A2 l1.length c2, .string a2]) (t := 61) ?hr_1 ?_; (case hd_1 => rfl); (case hg_1 => rfl); (case hr_1 => first | (go_simp; done) | (go_simp; rfl)); intro gX1 hg w2 hbox hb; have hk := kept_below hb; obtain ⟨PX1, hPX1, HLX1⟩ := LB.fresh hg hbox; have HX1 := Aside0.mk HLX1; clear HLX1; have GEX1 := Aside0.mk (show w.heap.size ≤ gX1 from (by rw [hg]; exact HB.out.size)); have D_1_X1 := Aside0.mk (new_apart H1.out.lt hPX1); have RRX1 := Aside0.mk (show ∀ k_, PX1 k_ → (P1) k_ ∨ ws.heap.size ≤ k_ from fun k_ h_ => .inr (Nat.le_trans HK.out.1 (hPX1 k_ h_).1)); replace H1 := Aside0.mk (H1.out.step hk no_S); replace HK := Aside0.mk (HK.out.then_ hk (fun _ h_ => h_.elim)); replace HB := Aside0.mk (below_step HB.out hb); clear hb hk hbox hg hPX1; (try clear hxX1_0 hfX1_0 hxX1_1 hfX1_1 hxX1_2 hfX1_2); have hxX1_0 := (HX1.out.cell 0).trans (show _ = some (.int .i64 a0) from rfl); have hfX1_0 := HX1.out.frozen 0; have hxX1_1 := (HX1.out.cell 1).trans (show _ = some (.slice A2 l1.length c2) from rfl); have hfX1_1 := HX1.out.frozen 1; have hxX1_2 := (HX1.out.cell 2).trans (show _ = some (.string a2) from rfl); have hfX1_2 := HX1.out.frozen 2))
  go_ret2
  exact ⟨_, _, rfl, H1.out, RR1.out, HB.out, HK.out⟩
end
section
open Go.Proofs.Ytcgkfijigjcmpaa.Lawful
/-! ### spec_BlobRun: function 12, by hand -/
def spec_BlobRun.l0 : Nat → List S61 → Int → List Int → List S35 → Option (List Int × List S35 × Int)
  | 0, _, _, _, _ => none
  | k + 1, x0, i, c, s => if i < (x0.length : Int) then (if 0 ≤ i then ((if s.length ≤ 1000000 then spec_l04Act.f k s (rd_T61 x0 i).f0 (rd_T61 x0 i).f1 (rd_T61 x0 i).f2 else none).bind fun t => (if c.length < 17592186044416 then (spec_BlobRun.l0 k x0 (wrap64 (i + 1)) (c ++ [t.2]) t.1) else none)) else none) else some (c, s, 0)
def spec_BlobRun.f (k : Nat) (l0 : List S61) : Option (List Int × List S35 × Int) := if (4096 : Int) < (l0.length : Int) then some ([], [], 2) else if (200 : Int) < (l0.length : Int) then some ([], [], 7) else spec_BlobRun.l0 k l0 0 [] []
set_option maxHeartbeats 16000000 in
set_option maxRecDepth 100000 in
theorem spec_BlobRun.own (k : Nat) (A0 : Option Addr) (c0 : Nat) (l0 : List S61) (r1 : List Int) (r2 : List S35) (r3 : Int) (w : World) (hr0 : Kd.C k61 w A0 l0.length l0) (hc0 : l0.length ≤ c0) (h : spec_BlobRun.f k l0 = some (r1, r2, r3)) :
    Calls Try.prog 12 #[.slice A0 l0.length c0] w fun e w' => ∃ v0_ v1_ : Value, e = .returned (.tuple #[v0_, v1_, .int .i64 r3]) ∧ Kd.R (Kd.int .i64) 3 w' w.heap.size (fun k_ => (w.heap.size ≤ k_)) v0_ r1 ∧ Kd.S k35 35 w' w.heap.size (fun k_ => (w.heap.size ≤ k_) ∧ some k_ ≠ (v0_ : Value).ownBlock) v1_ r2 ∧ Below w.heap.size w w' := by
  have hu := Try.underlying61
  have HB := Aside0.mk (Below.refl w.heap.size w)
  have HR0 := Aside0.mk hr0
  have HC0 := Aside0.mk hc0
  unfold spec_BlobRun.f at h
  clear hr0 hc0
  obtain ⟨y2, hy2⟩ : ∃ y_ : List Int, y_ = [] := ⟨_, rfl⟩
  obtain ⟨y0, hy0⟩ : ∃ y_ : List S35, y_ = [] := ⟨_, rfl⟩
  rw [← hy2, ← hy0] at h
  have Ny2 := Aside0.mk hy2
  have Ny0 := Aside0.mk hy0
  clear hy2 hy0
  by_cases c : (4096 : Int) < (l0.length : Int)
  · rw [if_pos c] at h
    have cb4096 : decide ((4096 : Int) < (l0.length : Int)) = true := decide_eq_true c
    have cn : decide (4096 < l0.length) = true := decide_eq_true (by omega)
    clear c
    simp only [Option.some.injEq, Prod.mk.injEq] at h
    obtain ⟨rfl, rfl, rfl⟩ := h
    go_enter Try.func12, Try.ntmps12
    go_wp2_with (first | ((with_reducible refine gate_dst (N := 12) rfl ?_); refine Kd.R_lit (Kd.int .i64) _ 3 ?hg_1 (N := 12) ?hd_1 (xs := ([] : List Int)) (inner := []) (ok := fun _ => True) (okp := fun _ => True) ?hr_1 ?hp_1 (fun _ hk => hk) trivial (Below.refl _ _) (Nat.le_refl _) (by simp) ?_; (case hd_1 => rfl); (case hg_1 => rfl); (case hr_1 => first | (go_simp; done) | (go_simp; rfl)); (case hp_1 => exact (Reps.none _ _)); intro vF1 w2 hrF1 hb hg_ hnew_; clear hg_ hnew_; rw [← Ny2.out] at hrF1; have hk := kept_below hb; obtain ⟨PF1, hPF1, HLF1⟩ := LR.fresh rfl HB.out hrF1; have HF1 := Aside0.mk HLF1; clear HLF1 hrF1; clear hPF1; obtain ⟨BF1, DF1, e_F1⟩ := HF1.out.val; subst e_F1; replace HB := Aside0.mk (below_step HB.out hb); clear hb hk) | ((with_reducible refine gate_dst (N := 13) rfl ?_); refine Kd.S_lit k35 _ 35 ?hg_2 (N := 13) ?hd_2 (xs := ([] : List S35)) (inner := []) (ok := fun _ => True) (okp := fun _ => True) ?hr_2 ?hp_2 (fun _ hk => hk) trivial (Below.refl _ _) (Nat.le_refl _) (by simp) ?_; (case hd_2 => rfl); (case hg_2 => rfl); (case hr_2 => first | (go_simp; done) | (go_simp; rfl)); (case hp_2 => exact (Reps.none _ _)); intro vF2 w2 hrF2 hb hg_ hnew_; clear hg_ hnew_; rw [← Ny0.out] at hrF2; have hk := kept_below hb; obtain ⟨PF2, hPF2, HLF2⟩ := LS.fresh HB.out hrF2; have HF2 := Aside0.mk HLF2; clear HLF2 hrF2; have D_F1_F2 := Aside0.mk (new_apart HF1.out.lt hPF2); replace HF1 := Aside0.mk (HF1.out.step hk no_S); clear hPF2; obtain ⟨BF2, DF2, e_F2⟩ := HF2.out.val; subst e_F2; replace HB := Aside0.mk (below_step HB.out hb); clear hb hk))
    go_ret3
    exact ⟨_, _, rfl, LR.out HF1.out, LS.out HF2.out HF1.out.1.1 D_F1_F2.out, HB.out⟩
  · rw [if_neg c] at h
    have cb4096 : decide ((4096 : Int) < (l0.length : Int)) = false := decide_eq_false c
    have cn : decide (4096 < l0.length) = false := decide_eq_false (by omega)
    clear c
    by_cases c : (200 : Int) < (l0.length : Int)
    · rw [if_pos c] at h
      have cb200 : decide ((200 : Int) < (l0.length : Int)) = true := decide_eq_true c
      have cn2 : decide (200 < l0.length) = true := decide_eq_true (by omega)
      clear c
      simp only [Option.some.injEq, Prod.mk.injEq] at h
      obtain ⟨rfl, rfl, rfl⟩ := h
      go_enter Try.func12, Try.ntmps12
      go_wp2_with (first | ((with_reducible refine gate_dst (N := 17) rfl ?_); refine Kd.R_lit (Kd.int .i64) _ 3 ?hg_3 (N := 17) ?hd_3 (xs := ([] : List Int)) (inner := []) (ok := fun _ => True) (okp := fun _ => True) ?hr_3 ?hp_3 (fun _ hk => hk) trivial (Below.refl _ _) (Nat.le_refl _) (by simp) ?_; (case hd_3 => rfl); (case hg_3 => rfl); (case hr_3 => first | (go_simp; done) | (go_simp; rfl)); (case hp_3 => exact (Reps.none _ _)); intro vF3 w2 hrF3 hb hg_ hnew_; clear hg_ hnew_; rw [← Ny2.out] at hrF3; have hk := kept_below hb; obtain ⟨PF3, hPF3, HLF3⟩ := LR.fresh rfl HB.out hrF3; have HF3 := Aside0.mk HLF3; clear HLF3 hrF3; clear hPF3; obtain ⟨BF3, DF3, e_F3⟩ := HF3.out.val; subst e_F3; replace HB := Aside0.mk (below_step HB.out hb); clear hb hk) | ((with_reducible refine gate_dst (N := 18) rfl ?_); refine Kd.S_lit k35 _ 35 ?hg_4 (N := 18) ?hd_4 (xs := ([] : List S35)) (inner := []) (ok := fun _ => True) (okp := fun _ => True) ?hr_4 ?hp_4 (fun _ hk => hk) trivial (Below.refl _ _) (Nat.le_refl _) (by simp) ?_; (case hd_4 => rfl); (case hg_4 => rfl); (case hr_4 => first | (go_simp; done) | (go_simp; rfl)); (case hp_4 => exact (Reps.none _ _)); intro vF4 w2 hrF4 hb hg_ hnew_; clear hg_ hnew_; rw [← Ny0.out] at hrF4; have hk := kept_below hb; obtain ⟨PF4, hPF4, HLF4⟩ := LS.fresh HB.out hrF4; have HF4 := Aside0.mk HLF4; clear HLF4 hrF4; have D_F3_F4 := Aside0.mk (new_apart HF3.out.lt hPF4); replace HF3 := Aside0.mk (HF3.out.step hk no_S); clear hPF4; obtain ⟨BF4, DF4, e_F4⟩ := HF4.out.val; subst e_F4; replace HB := Aside0.mk (below_step HB.out hb); clear hb hk))
      go_ret3
      exact ⟨_, _, rfl, LR.out HF3.out, LS.out HF4.out HF3.out.1.1 D_F3_F4.out, HB.out⟩
    rw [if_neg c] at h
    have cb200 : decide ((200 : Int) < (l0.length : Int)) = false := decide_eq_false c
    have cn2 : decide (200 < l0.length) = false := decide_eq_false (by omega)
    clear c
    have H' := Aside0.mk h
    clear h
    go_enter Try.func12, Try.ntmps12
    go_wp2_with (first | ((with_reducible refine gate_dst (N := 19) rfl ?_); refine Kd.R_lit (Kd.int .i64) _ 3 ?hg_5 (N := 19) ?hd_5 (xs := ([] : List Int)) (inner := []) (ok := fun _ => True) (okp := fun _ => True) ?hr_5 ?hp_5 (fun _ hk => hk) trivial (Below.refl _ _) (Nat.le_refl _) (by simp) ?_; (case hd_5 => rfl); (case hg_5 => rfl); (case hr_5 => first | (go_simp; done) | (go_simp; rfl)); (case hp_5 => exact (Reps.none _ _)); intro vF5 w2 hrF5 hb hg_ hnew_; clear hg_ hnew_; rw [← Ny2.out] at hrF5; have hk := kept_below hb; obtain ⟨PF5, hPF5, HLF5⟩ := LR.fresh rfl HB.out hrF5; have HF5 := Aside0.mk HLF5; clear HLF5 hrF5; clear hPF5; obtain ⟨BF5, DF5, e_F5⟩ := HF5.out.val; subst e_F5; replace HB := Aside0.mk (below_step HB.out hb); clear hb hk) | ((with_reducible refine gate_dst (N := 20) rfl ?_); refine Kd.S_lit k35 _ 35 ?hg_6 (N := 20) ?hd_6 (xs := ([] : List S35)) (inner := []) (ok := fun _ => True) (okp := fun _ => True) ?hr_6 ?hp_6 (fun _ hk => hk) trivial (Below.refl _ _) (Nat.le_refl _) (by simp) ?_; (case hd_6 => rfl); (case hg_6 => rfl); (case hr_6 => first | (go_simp; done) | (go_simp; rfl)); (case hp_6 => exact (Reps.none _ _)); intro vF6 w2 hrF6 hb hg_ hnew_; clear hg_ hnew_; rw [← Ny0.out] at hrF6; have hk := kept_below hb; obtain ⟨PF6, hPF6, HLF6⟩ := LS.fresh HB.out hrF6; have HF6 := Aside0.mk HLF6; clear HLF6 hrF6; have D_F5_F6 := Aside0.mk (new_apart HF5.out.lt hPF6); replace HF5 := Aside0.mk (HF5.out.step hk no_S); clear hPF6; obtain ⟨BF6, DF6, e_F6⟩ := HF6.out.val; subst e_F6; replace HB := Aside0.mk (below_step HB.out hb); clear hb hk))
    go_loopg [5, 6, 7] k (fun kq v7 v6 v28 w' => ∃ (x7 : List Int) (i : Int) (s : List S35) (P7 Pq : Nat → Prop), v28 = .int .i64 i ∧ Aside0 (spec_BlobRun.l0 kq l0 i x7 s = some (r1, r2, r3)) ∧ Aside0 (kq ≤ k) ∧ Aside0 (LR (Kd.int .i64) 3 w' w.heap.size P7 v7 x7) ∧ Aside0 (LS k35 35 w' w.heap.size Pq v6 s) ∧ Aside0 (∀ k_, P7 k_ → ¬ Pq k_) ∧ Aside0 (Below w.heap.size w w'))
    case atStart => exact ⟨y2, 0, y0, PF5, PF6, rfl, H', ⟨Nat.le_refl _⟩, HF5, HF6, ⟨D_F5_F6.out⟩, HB⟩
    case round =>
      clear H' HB HF5 HF6
      obtain ⟨x7, i, s, P7, Pq, rfl, HA, HK1, H7, Hq, D_7_q, HB⟩ := hrel
      cases gk with
      | zero => exact absurd HA.out (by simp [spec_BlobRun.l0])
      | succ k1 =>
        have H := HA.out
        clear HA
        simp only [spec_BlobRun.l0] at H
        obtain ⟨B7, D7, e_7⟩ := H7.out.val
        subst e_7
        obtain ⟨Bq, Dq, e_q⟩ := Hq.out.val
        subst e_q
        by_cases c1 : i < (l0.length : Int)
        · rw [if_pos c1] at H
          have cb1 : decide (i < (l0.length : Int)) = true := decide_eq_true c1
          by_cases c2 : 0 ≤ i
          · rw [if_pos c2] at H
            have cb2 : decide (0 ≤ i) = true := decide_eq_true c2
            obtain ⟨adx, A2, c3, ex, hx0, hx1, hx2, hl3, hi3⟩ := at_T61 HR0.out i c2 c1
            cases ex
            obtain ⟨z, hz⟩ : ∃ z, z = rd_T61 l0 i := ⟨_, rfl⟩
            rw [← hz] at H hx0 hx1 hx2 hl3 hi3
            replace hx0 := (HB.out.cell (World.block_lt_of_cell? w _ hx0)).trans hx0
            replace hx1 := (HB.out.cell (World.block_lt_of_cell? w _ hx1)).trans hx1
            replace hx2 := (HB.out.cell (World.block_lt_of_cell? w _ hx2)).trans hx2
            have HIX := Aside0.mk hi3
            have HLX := Aside0.mk hl3
            clear hi3 hl3 hz
            replace c1 := eq_true c1
            replace c2 := eq_true c2
            obtain ⟨⟨t1, t2⟩, e1, H⟩ := Option.bind_eq_some_iff.1 H
            by_cases c5 : s.length ≤ 1000000
            · rw [if_pos c5] at e1
              have HLN := Aside0.mk c5
              have E1 := Aside0.mk e1
              clear e1 c5
              simp only at H
              by_cases c4 : x7.length < 17592186044416
              · rw [if_pos c4] at H
                have LM4 := Aside0.mk c4
                clear c4
                obtain ⟨y3, hy3⟩ : ∃ y_ : List Int, y_ = x7 ++ [t2] := ⟨_, rfl⟩
                rw [← hy3] at H
                have Ny3 := Aside0.mk hy3
                have H' := Aside0.mk H
                clear H hy3
                go_wp2_with (first | ((with_reducible refine gate_callee (f := 36) rfl ?_); refine goesL_ (some 33) rfl rfl Try.func36 (by kernel_rfl) rfl #[.slice Bq s.length Dq, .agg #[.int .i64 z.f0, .slice A2 z.f1.length c3, .string z.f2]] rfl (by (try simp only [List.map_toArray, List.map_cons, List.map_nil]); first | done | rfl) ?_; (with_reducible refine (spec_l04Act.own k1 Pq Bq Dq s z.f0 A2 c3 z.f1 z.f2 t1 t2 w _ HB.out Hq.out HLN.out HIX.out HLX.out E1.out).mono ?_); rintro e w2 ⟨v5, Q5, rfl, h5, rr5, hb, hk⟩; refine ⟨_, rfl, ?_⟩; have D_7_5 := Aside0.mk (apart_app rr5 H7.out.lt D_7_q.out); replace H7 := Aside0.mk (H7.out.step hk D_7_q.out); have H5 := Aside0.mk h5; replace HB := Aside0.mk hb; clear h5 rr5 hb hk Hq; obtain ⟨B5, D5, e_5⟩ := H5.out.val; subst e_5) | ((with_reducible refine gate_builtin (b := .append) (xs := #[.tmp 36, .tmp 38]) rfl ?_); at_builtin; refine LR.append1 (Kd.int .i64) (w0 := w) rfl (.tmp 36) (.tmp 38) 29 3 (.int .i64 0) 8 rfl Try.underlying29 info3 rfl (by decide) (by omega) (.slice B7 x7.length D7) x7 t2 [.int .i64 t2] rfl rfl (by simp) H7.out rfl (fun _ _ h_ => h_) HB.out ?aL_7 ?_; (case aL_7 => have := LM4.out; omega); intro PF7 v_ w2 HL hb hk hR; have D_5_F7 := Aside0.mk (apart_app hR H5.out.lt (apart_symm D_7_5.out)); replace H5 := Aside0.mk (H5.out.step hk (apart_symm D_7_5.out)); rw [← Ny3.out] at HL; have HF7 := Aside0.mk HL; replace HB := Aside0.mk hb; clear hR HL hb hk; clear H7; obtain ⟨BF7, DF7, e_F7⟩ := HF7.out.val; subst e_F7))
                go_roundg k1
                case measure => have := HK1.out; omega
                case rel => exact ⟨y3, wrap64 (i + 1), t1, PF7, Q5, by first | rfl | simp, H', ⟨by have := HK1.out; omega⟩, HF7, H5, ⟨(apart_symm D_5_F7.out)⟩, HB⟩
              · rw [if_neg c4] at H
                exact absurd H (by simp)
            · rw [if_neg c5] at e1
              exact absurd e1 (by simp)
          · rw [if_neg c2] at H
            exact absurd H (by simp)
        · rw [if_neg c1] at H
          have cb1 : decide (i < (l0.length : Int)) = false := decide_eq_false c1
          clear c1
          simp only [Option.some.injEq, Prod.mk.injEq] at H
          obtain ⟨rfl, rfl, rfl⟩ := H
          go_wp2
          go_ret3
          exact ⟨_, _, rfl, LR.out H7.out, LS.out Hq.out H7.out.1.1 D_7_q.out, HB.out⟩
end
/-! ### markByteS, its row's blocks as they were -/
theorem laws_markByteS.own (k : Nat) (P0_ : Nat → Prop) (u9000_ : Value) (l0 : List Int) (a1 : Int) (r1 : Int) (r2 : List Int) (w0 w : World) (hB : Below w0.heap.size w0 w) (ho0 : Kd.R (Kd.int .u8) 5 w w0.heap.size P0_ u9000_ l0) (h : laws_markByteS.f k l0 a1 = some (r1, r2)) :
    Calls Try.prog 44 #[u9000_, .int .i64 a1] w fun e w' => e = .returned (.int .i64 r1) ∧ Kd.R (Kd.int .u8) 5 w' w0.heap.size P0_ u9000_ r2 ∧ Below w0.heap.size w0 w' ∧ Kept w w' P0_ :=
  (laws_markByteS.calls k P0_ u9000_ l0 a1 r1 r2 w0 w hB ho0 h).mono fun e w' ⟨he, ho, hb, hk⟩ => ⟨he, Kd.R_mono (Kd.R_tight rfl ho) (fun k hk => ho0.1 k hk.symm), hb, hk⟩

section
open Go.Proofs.Ytcgkfijigjcmpaa.Lawful
/-! ### laws_markBlobActS: function 20, by hand -/
def laws_markBlobActS.l0 : Nat → List S61 → Int → Int → Option (Int × List S61)
  | 0, _, _, _ => none
  | k + 1, x0, x1, x5 => if x5 < (x0.length : Int) then (if 0 ≤ x5 then ((laws_markByteS.f k (x0.getD x5.toNat z61).f1 (wrap64 (x1 + 1))).bind fun t1 => ((laws_markText.f k t1.1).bind fun t2 => (laws_markBlobActS.l0 k (x0.set x5.toNat ⟨x1, t1.2, t2⟩) (wrap64 (t1.1 + 1)) (wrap64 (x5 + 1))))) else (none)) else (some (x1, x0))
def laws_markBlobActS.f (k : Nat) (l0 : List S61) (a1 : Int) : Option (Int × List S61) := laws_markBlobActS.l0 k l0 a1 0
set_option maxHeartbeats 8000000 in
set_option maxRecDepth 100000 in
theorem laws_markBlobActS.own (k : Nat) (P0_ : Nat → Prop) (u9000_ : Value) (l0 : List S61) (a1 : Int) (r1 : Int) (r2 : List S61) (w0 w : World) (hB : Below w0.heap.size w0 w) (ho0 : Kd.S k61 61 w w0.heap.size P0_ u9000_ l0) (h : laws_markBlobActS.f k l0 a1 = some (r1, r2)) :
    Calls Try.prog 20 #[u9000_, .int .i64 a1] w fun e w' => e = .returned (.int .i64 r1) ∧ Kd.S k61 61 w' w0.heap.size P0_ u9000_ r2 ∧ Below w0.heap.size w0 w' ∧ Kept w w' P0_ := by
  obtain ⟨A0, c0, rfl⟩ := Kd.S_slice ho0
  have HO0 := Aside0.mk ho0
  have HB0 := Aside0.mk hB
  clear ho0 hB
  have H' := Aside0.mk (show laws_markBlobActS.l0 k l0 a1 0 = some (r1, r2) from h)
  clear h
  go_enter Try.func20, Try.ntmps20
  go_wp2
  go_loopg [1, 5] k (fun kq v1 v5 w' => ∃ (x0_1 : List S61) (x1_1 : Int) (x5_1 : Int), v1 = .int .i64 x1_1 ∧ v5 = .int .i64 x5_1 ∧ Aside0 (laws_markBlobActS.l0 kq x0_1 x1_1 x5_1 = some (r1, r2)) ∧ Aside0 (kq ≤ k) ∧ Aside0 (x0_1.length = l0.length) ∧ Aside0 (Kd.S k61 61 w' w0.heap.size P0_ (.slice A0 l0.length c0) x0_1) ∧ Aside0 (Kept w w' P0_) ∧ Aside0 (Below w0.heap.size w0 w'))
  case atStart => exact ⟨l0, a1, 0, rfl, rfl, H', ⟨Nat.le_refl _⟩, ⟨rfl⟩, HO0, ⟨Kept.refl _ _⟩, HB0⟩
  case round =>
    clear H' HO0 HB0
    obtain ⟨x0_1, x1_1, x5_1, rfl, rfl, HA, HK1, HL, HS, HK, HB⟩ := hrel
    cases gk with
    | zero => exact absurd HA.out (by simp [laws_markBlobActS.l0])
    | succ k1 =>
      have H := HA.out
      clear HA
      simp only [laws_markBlobActS.l0] at H
      rw [HL.out] at H
      by_cases c3 : x5_1 < (l0.length : Int)
      · rw [if_pos c3] at H
        have c3b0 : decide (x5_1 < (l0.length : Int)) = true := decide_eq_true c3
        by_cases c4 : 0 ≤ x5_1
        · rw [if_pos c4] at H
          have c4b0 : decide (0 ≤ x5_1) = true := decide_eq_true c4
          replace H := Option.bind_eq_some_iff.mp H
          obtain ⟨⟨t1m, t1r⟩, At10, H⟩ := H
          replace H := Option.bind_eq_some_iff.mp H
          obtain ⟨t2, At20, H⟩ := H
          have At1 := Aside0.mk (show laws_markByteS.f k1 (x0_1.getD x5_1.toNat z61).f1 (wrap64 (x1_1 + 1)) = some (t1m, t1r) from At10)
          have At2 := Aside0.mk (show laws_markText.f k1 t1m = some t2 from At20)
          have H' := Aside0.mk (show laws_markBlobActS.l0 k1 (x0_1.set x5_1.toNat ⟨x1_1, t1r, t2⟩) (wrap64 (t1m + 1)) (wrap64 (x5_1 + 1)) = some (r1, r2) from H)
          clear At10 At20 H
          obtain ⟨ad, c_, rfl, _⟩ := Kd.C_get (Kd.S_reads' HS.out).2.2 z61 x5_1 c4 (by rw [HL.out]; exact c3)
          obtain ⟨g, rfl⟩ := Kd.R_head (Kd.S_R HS.out)
          obtain ⟨oki, c, hcl, hM, hcell, hfr, hoki, hH⟩ := Kd.S_elem HS.out z61 x5_1 c4 c3
          obtain ⟨v, rfl, hR⟩ := k61_openM hM
          have hge := Kd.R_base (Kd.S_R HS.out) g rfl
          have hPg := HS.out
          obtain ⟨_, hPf⟩ := hPg
          have HPg := Aside0.mk (hPf.1 g rfl)
          have HGE := Aside0.mk hge
          have HR := Aside0.mk hR
          have HH := Aside0.mk hH
          have HOK := Aside0.mk hoki
          have C3 := Aside0.mk c3
          have C4 := Aside0.mk c4
          have HNE := Aside0.mk (show ∀ k_, oki k_ → some k_ ≠ some g from fun k_ hk_ he_ => (hoki k_ hk_).2 (by injection he_))
          have HIN := Aside0.mk (show ∀ k_, some g = some k_ → P0_ k_ ∨ w.heap.size ≤ k_ from fun k_ hk_ => .inl (by injection hk_ with hk_; rw [← hk_]; exact HPg.out))
          clear hcell hcl hM hfr hge hPf hR hH hoki
          replace c3 := eq_true c3
          replace c4 := eq_true c4
          have hAt_ := Kd.H_at HH.out C4.out C3.out
          have hx0wr : wr.cell? ⟨g, x5_1.toNat * 3, none⟩ = some (.int .i64 (x0_1.getD x5_1.toNat z61).f0) := hAt_.1 0 _ rfl
          have hf0wr : wr.frozen? ⟨g, x5_1.toNat * 3, none⟩ = false := hAt_.2 0
          have hx1wr : wr.cell? ⟨g, x5_1.toNat * 3 + 1, none⟩ = some (v) := hAt_.1 1 _ rfl
          have hf1wr : wr.frozen? ⟨g, x5_1.toNat * 3 + 1, none⟩ = false := hAt_.2 1
          have hx2wr : wr.cell? ⟨g, x5_1.toNat * 3 + 2, none⟩ = some (.string (x0_1.getD x5_1.toNat z61).f2) := hAt_.1 2 _ rfl
          have hf2wr : wr.frozen? ⟨g, x5_1.toNat * 3 + 2, none⟩ = false := hAt_.2 2
          clear hAt_
          obtain ⟨hs0, hg0⟩ := Kd.H_seg HH.out C4.out C3.out (seg := [.int .i64 x1_1]) (j := 0) (show 0 + 1 ≤ 3 by decide) (by intro q hq; rw [List.mem_singleton.1 hq]; rfl)
          replace HH := Aside0.mk (show Kd.H k61 61 (wr.setCell ⟨g, x5_1.toNat * 3, none⟩ (.int .i64 x1_1)) w0.heap.size P0_ (.slice (some ⟨g, 0, none⟩) l0.length c0) x0_1 x5_1 oki [.int .i64 x1_1, v, .string (x0_1.getD x5_1.toNat z61).f2] from hs0)
          replace HR := Aside0.mk (show Kd.R (Kd.int .u8) 5 (wr.setCell ⟨g, x5_1.toNat * 3, none⟩ (.int .i64 x1_1)) w0.heap.size oki v (x0_1.getD x5_1.toNat z61).f1 from (Kd.R_grown HR.out hg0 HNE.out))
          replace HB := Aside0.mk (show Below w0.heap.size w0 (wr.setCell ⟨g, x5_1.toNat * 3, none⟩ (.int .i64 x1_1)) from (below_set HB.out HGE.out))
          replace HK := Aside0.mk (show Kept w (wr.setCell ⟨g, x5_1.toNat * 3, none⟩ (.int .i64 x1_1)) P0_ from (Kept.of_grown hg0 HK.out HIN.out))
          clear hs0 hg0
          go_wp2_with (first | ((with_reducible refine gate_callee (f := 44) rfl ?_); refine goesL_ (some 25) rfl rfl Try.func44 (by kernel_rfl) rfl #[v, .int .i64 (wrap64 (x1_1 + 1))] rfl (by (try simp only [List.map_toArray, List.map_cons, List.map_nil]); first | done | rfl) ?_; (with_reducible refine (laws_markByteS.own k1 oki v (x0_1.getD x5_1.toNat z61).f1 (wrap64 (x1_1 + 1)) t1m t1r w0 _ HB.out HR.out At1.out).mono ?_); rintro e wk1 ⟨rfl, hR2, hB2, hK2⟩; refine ⟨_, rfl, ?_⟩; replace HH := Aside0.mk (Kd.H_kept HH.out hK2 (fun _ _ hn => hn)); replace HK := Aside0.mk (HK.out.then_ hK2 (fun k_ h_ => .inl (HOK.out k_ h_).1)); replace HB := Aside0.mk hB2; replace HR := Aside0.mk hR2; clear hR2 hB2 hK2; have hAt_ := Kd.H_at HH.out C4.out C3.out; have hx0wk1 : wk1.cell? ⟨g, x5_1.toNat * 3, none⟩ = some (.int .i64 x1_1) := hAt_.1 0 _ rfl; have hf0wk1 : wk1.frozen? ⟨g, x5_1.toNat * 3, none⟩ = false := hAt_.2 0; have hx1wk1 : wk1.cell? ⟨g, x5_1.toNat * 3 + 1, none⟩ = some (v) := hAt_.1 1 _ rfl; have hf1wk1 : wk1.frozen? ⟨g, x5_1.toNat * 3 + 1, none⟩ = false := hAt_.2 1; have hx2wk1 : wk1.cell? ⟨g, x5_1.toNat * 3 + 2, none⟩ = some (.string (x0_1.getD x5_1.toNat z61).f2) := hAt_.1 2 _ rfl; have hf2wk1 : wk1.frozen? ⟨g, x5_1.toNat * 3 + 2, none⟩ = false := hAt_.2 2; clear hAt_) | ((with_reducible refine gate_callee (f := 45) rfl ?_); refine goesL_ (some 29) rfl rfl Try.func45 (by kernel_rfl) rfl #[.int .i64 t1m] rfl (by (try simp only [List.map_toArray, List.map_cons, List.map_nil]); first | done | rfl) ?_; (with_reducible refine (laws_markText.calls k1 t1m t2 _ At2.out).mono ?_); rintro e wk2 ⟨rfl, hb⟩; refine ⟨_, rfl, ?_⟩; have hk := kept_below hb; replace HH := Aside0.mk (Kd.H_kept HH.out hk (fun _ _ _ h_ => h_)); replace HR := Aside0.mk (Kd.R_kept HR.out hk no_S); replace HB := Aside0.mk (below_step HB.out hb); replace HK := Aside0.mk (HK.out.then_ hk (fun _ h_ => h_.elim)); clear hk hb; have hAt_ := Kd.H_at HH.out C4.out C3.out; have hx0wk2 : wk2.cell? ⟨g, x5_1.toNat * 3, none⟩ = some (.int .i64 x1_1) := hAt_.1 0 _ rfl; have hf0wk2 : wk2.frozen? ⟨g, x5_1.toNat * 3, none⟩ = false := hAt_.2 0; have hx1wk2 : wk2.cell? ⟨g, x5_1.toNat * 3 + 1, none⟩ = some (v) := hAt_.1 1 _ rfl; have hf1wk2 : wk2.frozen? ⟨g, x5_1.toNat * 3 + 1, none⟩ = false := hAt_.2 1; have hx2wk2 : wk2.cell? ⟨g, x5_1.toNat * 3 + 2, none⟩ = some (.string (x0_1.getD x5_1.toNat z61).f2) := hAt_.1 2 _ rfl; have hf2wk2 : wk2.frozen? ⟨g, x5_1.toNat * 3 + 2, none⟩ = false := hAt_.2 2; clear hAt_; obtain ⟨hs2, hg2⟩ := Kd.H_seg HH.out C4.out C3.out (seg := [.string t2]) (j := 2) (show 2 + 1 ≤ 3 by decide) (by intro q hq; rw [List.mem_singleton.1 hq]; rfl); replace HH := Aside0.mk (show Kd.H k61 61 (wk2.setCell ⟨g, x5_1.toNat * 3 + 2, none⟩ (.string t2)) w0.heap.size P0_ (.slice (some ⟨g, 0, none⟩) l0.length c0) x0_1 x5_1 oki [.int .i64 x1_1, v, .string t2] from hs2); replace HR := Aside0.mk (show Kd.R (Kd.int .u8) 5 (wk2.setCell ⟨g, x5_1.toNat * 3 + 2, none⟩ (.string t2)) w0.heap.size oki v t1r from (Kd.R_grown HR.out hg2 HNE.out)); replace HB := Aside0.mk (show Below w0.heap.size w0 (wk2.setCell ⟨g, x5_1.toNat * 3 + 2, none⟩ (.string t2)) from (below_set HB.out HGE.out)); replace HK := Aside0.mk (show Kept w (wk2.setCell ⟨g, x5_1.toNat * 3 + 2, none⟩ (.string t2)) P0_ from (Kept.of_grown hg2 HK.out HIN.out)); clear hs2 hg2))
          go_roundg k1
          case measure => have := HK1.out; omega
          case rel => exact ⟨x0_1.set x5_1.toNat ⟨x1_1, t1r, t2⟩, (wrap64 (t1m + 1)), wrap64 (x5_1 + 1), rfl, rfl, H', ⟨by have := HK1.out; omega⟩, ⟨by rw [List.length_set]; exact HL.out⟩, ⟨Kd.H_back HH.out (k61_mkM _ w0.heap.size oki ⟨x1_1, t1r, t2⟩ HR.out) (fun _ h_ => h_)⟩, HK, HB⟩
        · rw [if_neg c4] at H
          exact absurd H (by simp)
      · rw [if_neg c3] at H
        have c3b0 : decide (x5_1 < (l0.length : Int)) = false := decide_eq_false c3
        simp only [Option.some.injEq, Prod.mk.injEq] at H
        obtain ⟨rfl, rfl⟩ := H
        go_wp2
        go_ret
        exact ⟨rfl, HS.out, HB.out, HK.out⟩
/-! ### laws_markBlobS: function 22, by hand -/
def laws_markBlobS.l0 : Nat → List S35 → Int → Int → Option (Int × List S35)
  | 0, _, _, _ => none
  | k + 1, x0, x1, x5 => if x5 < (x0.length : Int) then (if 0 ≤ x5 then ((laws_markText.f k x1).bind fun t1 => ((laws_markByteS.f k (x0.getD x5.toNat z35).f2 (wrap64 ((wrap64 (x1 + 1)) + 1))).bind fun t2 => (laws_markBlobS.l0 k (x0.set x5.toNat ⟨t1, (wrap64 (x1 + 1)), t2.2⟩) t2.1 (wrap64 (x5 + 1))))) else (none)) else (some (x1, x0))
def laws_markBlobS.f (k : Nat) (l0 : List S35) (a1 : Int) : Option (Int × List S35) := laws_markBlobS.l0 k l0 a1 0
set_option maxHeartbeats 8000000 in
set_option maxRecDepth 100000 in
theorem laws_markBlobS.own (k : Nat) (P0_ : Nat → Prop) (u9000_ : Value) (l0 : List S35) (a1 : Int) (r1 : Int) (r2 : List S35) (w0 w : World) (hB : Below w0.heap.size w0 w) (ho0 : Kd.S k35 35 w w0.heap.size P0_ u9000_ l0) (h : laws_markBlobS.f k l0 a1 = some (r1, r2)) :
    Calls Try.prog 22 #[u9000_, .int .i64 a1] w fun e w' => e = .returned (.int .i64 r1) ∧ Kd.S k35 35 w' w0.heap.size P0_ u9000_ r2 ∧ Below w0.heap.size w0 w' ∧ Kept w w' P0_ := by
  obtain ⟨A0, c0, rfl⟩ := Kd.S_slice ho0
  have HO0 := Aside0.mk ho0
  have HB0 := Aside0.mk hB
  clear ho0 hB
  have H' := Aside0.mk (show laws_markBlobS.l0 k l0 a1 0 = some (r1, r2) from h)
  clear h
  go_enter Try.func22, Try.ntmps22
  go_wp2
  go_loopg [1, 5] k (fun kq v1 v5 w' => ∃ (x0_1 : List S35) (x1_1 : Int) (x5_1 : Int), v1 = .int .i64 x1_1 ∧ v5 = .int .i64 x5_1 ∧ Aside0 (laws_markBlobS.l0 kq x0_1 x1_1 x5_1 = some (r1, r2)) ∧ Aside0 (kq ≤ k) ∧ Aside0 (x0_1.length = l0.length) ∧ Aside0 (Kd.S k35 35 w' w0.heap.size P0_ (.slice A0 l0.length c0) x0_1) ∧ Aside0 (Kept w w' P0_) ∧ Aside0 (Below w0.heap.size w0 w'))
  case atStart => exact ⟨l0, a1, 0, rfl, rfl, H', ⟨Nat.le_refl _⟩, ⟨rfl⟩, HO0, ⟨Kept.refl _ _⟩, HB0⟩
  case round =>
    clear H' HO0 HB0
    obtain ⟨x0_1, x1_1, x5_1, rfl, rfl, HA, HK1, HL, HS, HK, HB⟩ := hrel
    cases gk with
    | zero => exact absurd HA.out (by simp [laws_markBlobS.l0])
    | succ k1 =>
      have H := HA.out
      clear HA
      simp only [laws_markBlobS.l0] at H
      rw [HL.out] at H
      by_cases c3 : x5_1 < (l0.length : Int)
      · rw [if_pos c3] at H
        have c3b0 : decide (x5_1 < (l0.length : Int)) = true := decide_eq_true c3
        by_cases c4 : 0 ≤ x5_1
        · rw [if_pos c4] at H
          have c4b0 : decide (0 ≤ x5_1) = true := decide_eq_true c4
          replace H := Option.bind_eq_some_iff.mp H
          obtain ⟨t1, At10, H⟩ := H
          replace H := Option.bind_eq_some_iff.mp H
          obtain ⟨⟨t2m, t2r⟩, At20, H⟩ := H
          have At1 := Aside0.mk (show laws_markText.f k1 x1_1 = some t1 from At10)
          have At2 := Aside0.mk (show laws_markByteS.f k1 (x0_1.getD x5_1.toNat z35).f2 (wrap64 ((wrap64 (x1_1 + 1)) + 1)) = some (t2m, t2r) from At20)
          have H' := Aside0.mk (show laws_markBlobS.l0 k1 (x0_1.set x5_1.toNat ⟨t1, (wrap64 (x1_1 + 1)), t2r⟩) t2m (wrap64 (x5_1 + 1)) = some (r1, r2) from H)
          clear At10 At20 H
          obtain ⟨ad, c_, rfl, _⟩ := Kd.C_get (Kd.S_reads' HS.out).2.2 z35 x5_1 c4 (by rw [HL.out]; exact c3)
          obtain ⟨g, rfl⟩ := Kd.R_head (Kd.S_R HS.out)
          obtain ⟨oki, c, hcl, hM, hcell, hfr, hoki, hH⟩ := Kd.S_elem HS.out z35 x5_1 c4 c3
          obtain ⟨v, rfl, hR⟩ := k35_openM hM
          have hge := Kd.R_base (Kd.S_R HS.out) g rfl
          have hPg := HS.out
          obtain ⟨_, hPf⟩ := hPg
          have HPg := Aside0.mk (hPf.1 g rfl)
          have HGE := Aside0.mk hge
          have HR := Aside0.mk hR
          have HH := Aside0.mk hH
          have HOK := Aside0.mk hoki
          have C3 := Aside0.mk c3
          have C4 := Aside0.mk c4
          have HNE := Aside0.mk (show ∀ k_, oki k_ → some k_ ≠ some g from fun k_ hk_ he_ => (hoki k_ hk_).2 (by injection he_))
          have HIN := Aside0.mk (show ∀ k_, some g = some k_ → P0_ k_ ∨ w.heap.size ≤ k_ from fun k_ hk_ => .inl (by injection hk_ with hk_; rw [← hk_]; exact HPg.out))
          clear hcell hcl hM hfr hge hPf hR hH hoki
          replace c3 := eq_true c3
          replace c4 := eq_true c4
          have hAt_ := Kd.H_at HH.out C4.out C3.out
          have hx0wr : wr.cell? ⟨g, x5_1.toNat * 3, none⟩ = some (.string (x0_1.getD x5_1.toNat z35).f0) := hAt_.1 0 _ rfl
          have hf0wr : wr.frozen? ⟨g, x5_1.toNat * 3, none⟩ = false := hAt_.2 0
          have hx1wr : wr.cell? ⟨g, x5_1.toNat * 3 + 1, none⟩ = some (.int .i64 (x0_1.getD x5_1.toNat z35).f1) := hAt_.1 1 _ rfl
          have hf1wr : wr.frozen? ⟨g, x5_1.toNat * 3 + 1, none⟩ = false := hAt_.2 1
          have hx2wr : wr.cell? ⟨g, x5_1.toNat * 3 + 2, none⟩ = some (v) := hAt_.1 2 _ rfl
          have hf2wr : wr.frozen? ⟨g, x5_1.toNat * 3 + 2, none⟩ = false := hAt_.2 2
          clear hAt_
          go_wp2_with (first | ((with_reducible refine gate_callee (f := 45) rfl ?_); refine goesL_ (some 15) rfl rfl Try.func45 (by kernel_rfl) rfl #[.int .i64 x1_1] rfl (by (try simp only [List.map_toArray, List.map_cons, List.map_nil]); first | done | rfl) ?_; (with_reducible refine (laws_markText.calls k1 x1_1 t1 _ At1.out).mono ?_); rintro e wk1 ⟨rfl, hb⟩; refine ⟨_, rfl, ?_⟩; have hk := kept_below hb; replace HH := Aside0.mk (Kd.H_kept HH.out hk (fun _ _ _ h_ => h_)); replace HR := Aside0.mk (Kd.R_kept HR.out hk no_S); replace HB := Aside0.mk (below_step HB.out hb); replace HK := Aside0.mk (HK.out.then_ hk (fun _ h_ => h_.elim)); clear hk hb; have hAt_ := Kd.H_at HH.out C4.out C3.out; have hx0wk1 : wk1.cell? ⟨g, x5_1.toNat * 3, none⟩ = some (.string (x0_1.getD x5_1.toNat z35).f0) := hAt_.1 0 _ rfl; have hf0wk1 : wk1.frozen? ⟨g, x5_1.toNat * 3, none⟩ = false := hAt_.2 0; have hx1wk1 : wk1.cell? ⟨g, x5_1.toNat * 3 + 1, none⟩ = some (.int .i64 (x0_1.getD x5_1.toNat z35).f1) := hAt_.1 1 _ rfl; have hf1wk1 : wk1.frozen? ⟨g, x5_1.toNat * 3 + 1, none⟩ = false := hAt_.2 1; have hx2wk1 : wk1.cell? ⟨g, x5_1.toNat * 3 + 2, none⟩ = some (v) := hAt_.1 2 _ rfl; have hf2wk1 : wk1.frozen? ⟨g, x5_1.toNat * 3 + 2, none⟩ = false := hAt_.2 2; clear hAt_; obtain ⟨hs0, hg0⟩ := Kd.H_seg HH.out C4.out C3.out (seg := [.string t1]) (j := 0) (show 0 + 1 ≤ 3 by decide) (by intro q hq; rw [List.mem_singleton.1 hq]; rfl); obtain ⟨hs1, hg1⟩ := Kd.H_seg hs0 C4.out C3.out (seg := [.int .i64 (wrap64 (x1_1 + 1))]) (j := 1) (show 1 + 1 ≤ 3 by decide) (by intro q hq; rw [List.mem_singleton.1 hq]; rfl); replace HH := Aside0.mk (show Kd.H k35 35 ((wk1.setCell ⟨g, x5_1.toNat * 3, none⟩ (.string t1)).setCell ⟨g, x5_1.toNat * 3 + 1, none⟩ (.int .i64 (wrap64 (x1_1 + 1)))) w0.heap.size P0_ (.slice (some ⟨g, 0, none⟩) l0.length c0) x0_1 x5_1 oki [.string t1, .int .i64 (wrap64 (x1_1 + 1)), v] from hs1); replace HR := Aside0.mk (show Kd.R (Kd.int .u8) 5 ((wk1.setCell ⟨g, x5_1.toNat * 3, none⟩ (.string t1)).setCell ⟨g, x5_1.toNat * 3 + 1, none⟩ (.int .i64 (wrap64 (x1_1 + 1)))) w0.heap.size oki v (x0_1.getD x5_1.toNat z35).f2 from (Kd.R_grown (Kd.R_grown HR.out hg0 HNE.out) hg1 HNE.out)); replace HB := Aside0.mk (show Below w0.heap.size w0 ((wk1.setCell ⟨g, x5_1.toNat * 3, none⟩ (.string t1)).setCell ⟨g, x5_1.toNat * 3 + 1, none⟩ (.int .i64 (wrap64 (x1_1 + 1)))) from (below_set (below_set HB.out HGE.out) HGE.out)); replace HK := Aside0.mk (show Kept w ((wk1.setCell ⟨g, x5_1.toNat * 3, none⟩ (.string t1)).setCell ⟨g, x5_1.toNat * 3 + 1, none⟩ (.int .i64 (wrap64 (x1_1 + 1)))) P0_ from (Kept.of_grown hg1 (Kept.of_grown hg0 HK.out HIN.out) HIN.out)); clear hs0 hg0 hs1 hg1) | ((with_reducible refine gate_callee (f := 44) rfl ?_); refine goesL_ (some 33) rfl rfl Try.func44 (by kernel_rfl) rfl #[v, .int .i64 (wrap64 ((wrap64 (x1_1 + 1)) + 1))] rfl (by (try simp only [List.map_toArray, List.map_cons, List.map_nil]); first | done | rfl) ?_; (with_reducible refine (laws_markByteS.own k1 oki v (x0_1.getD x5_1.toNat z35).f2 (wrap64 ((wrap64 (x1_1 + 1)) + 1)) t2m t2r w0 _ HB.out HR.out At2.out).mono ?_); rintro e wk2 ⟨rfl, hR2, hB2, hK2⟩; refine ⟨_, rfl, ?_⟩; replace HH := Aside0.mk (Kd.H_kept HH.out hK2 (fun _ _ hn => hn)); replace HK := Aside0.mk (HK.out.then_ hK2 (fun k_ h_ => .inl (HOK.out k_ h_).1)); replace HB := Aside0.mk hB2; replace HR := Aside0.mk hR2; clear hR2 hB2 hK2; have hAt_ := Kd.H_at HH.out C4.out C3.out; have hx0wk2 : wk2.cell? ⟨g, x5_1.toNat * 3, none⟩ = some (.string t1) := hAt_.1 0 _ rfl; have hf0wk2 : wk2.frozen? ⟨g, x5_1.toNat * 3, none⟩ = false := hAt_.2 0; have hx1wk2 : wk2.cell? ⟨g, x5_1.toNat * 3 + 1, none⟩ = some (.int .i64 (wrap64 (x1_1 + 1))) := hAt_.1 1 _ rfl; have hf1wk2 : wk2.frozen? ⟨g, x5_1.toNat * 3 + 1, none⟩ = false := hAt_.2 1; have hx2wk2 : wk2.cell? ⟨g, x5_1.toNat * 3 + 2, none⟩ = some (v) := hAt_.1 2 _ rfl; have hf2wk2 : wk2.frozen? ⟨g, x5_1.toNat * 3 + 2, none⟩ = false := hAt_.2 2; clear hAt_))
          go_roundg k1
          case measure => have := HK1.out; omega
          case rel => exact ⟨x0_1.set x5_1.toNat ⟨t1, (wrap64 (x1_1 + 1)), t2r⟩, t2m, wrap64 (x5_1 + 1), rfl, rfl, H', ⟨by have := HK1.out; omega⟩, ⟨by rw [List.length_set]; exact HL.out⟩, ⟨Kd.H_back HH.out (k35_mkM _ w0.heap.size oki ⟨t1, (wrap64 (x1_1 + 1)), t2r⟩ HR.out) (fun _ h_ => h_)⟩, HK, HB⟩
        · rw [if_neg c4] at H
          exact absurd H (by simp)
      · rw [if_neg c3] at H
        have c3b0 : decide (x5_1 < (l0.length : Int)) = false := decide_eq_false c3
        simp only [Option.some.injEq, Prod.mk.injEq] at H
        obtain ⟨rfl, rfl⟩ := H
        go_wp2
        go_ret
        exact ⟨rfl, HS.out, HB.out, HK.out⟩
end
end Go.Proofs.Ytcgkfijigjcmpaa.PFnExactBlobRun
