/- Functions of blobs told by hand: slices.IndexFunc and DeleteFunc, the program's and the reference's acts and runs, BlobGet, and how acts are drawn. No conditions. -/
import Derived.Test.YtcgkfijigjcmpaaPFnBlobsx0
import Derived.Test.YtcgkfijigjcmpaaPFnBlobsx1
import Derived.Test.YtcgkfijigjcmpaaPFnBlobsx2
import Derived.Test.YtcgkfijigjcmpaaHw
import Derived.Deep.RegionHeld3
import Derived.Deep.Cut
namespace Go.Proofs.Ytcgkfijigjcmpaa.PFnBlobs
open Go.RowKit Go.Proofs.Ytcgkfijigjcmpaa.Lawful Go.Proofs.YtcgkfijigjcmpaaW.PrintWords Go.Proofs.YtcgkfijigjcmpaaW.PrintLast Go.Proofs.YtcgkfijigjcmpaaW.PrintMore
attribute [local go_sem] max2_int min2_int max_two min_two max_three min_three max_four min_four   -- for this text's walks alone
set_option linter.unusedVariables false
set_option linter.unusedSimpArgs false
/-! ### slices.IndexFunc, slices.DeleteFunc at blobAct's literal, by hand -/
section
open Go.Proofs.YtcgkfijigjcmpaaW.PrintWords.Kd
variable {α : Type} {d : Kd α} {e g n m cap : Nat} {w W : World} {base : Nat} {ok : Nat → Prop} {xs : List α}
/-- The first elements of a row of one's own. -/
theorem R_pre (h : d.R e w base ok (.slice (some ⟨g, 0, none⟩) n cap) xs) (hm : m ≤ n) : d.R e w base ok (.slice (some ⟨g, 0, none⟩) m cap) (xs.take m) := by
  obtain ⟨hn, hnc, _⟩ := Kd.R_reads' h
  obtain ⟨hok, inner, ho, hr⟩ := h
  obtain ⟨ho1, ho2⟩ := ho
  rcases ho2 with ⟨hv, _⟩ | ⟨g', cap', cur, hv, hb, hh, hnc', hcm, hcs, ht⟩
  · cases hv
  injection hv with ha hl hc
  injection ha with ha
  injection ha with hg
  subst hg; subst hc
  have hml : (xs.take m).length = m := by rw [List.length_take]; omega
  have hle : m * d.sz ≤ xs.length * d.sz := Nat.mul_le_mul_right _ (by omega)
  refine ⟨fun k hk => hok k (by simpa [Value.ownBlock] using hk), inner.take (m * d.sz), ⟨?_, .inr ⟨g, cap, cur, by rw [hml], hb, hh, by omega, hcm, hcs, ?_⟩⟩, ?_⟩
  · rw [hml, List.length_take, hr.1]
    omega
  · rw [hml, ← ht, List.take_take, Nat.min_eq_left hle]
  · refine ⟨by rw [hml, List.length_take, hr.1]; omega, fun j p hj => ?_⟩
    have hj2 : j < m := by
      have := (List.getElem?_eq_some_iff.1 hj).1
      omega
    rw [List.getElem?_take, if_pos hj2] at hj
    have hM := hr.2 j p hj
    have hjs : j * d.sz + d.sz ≤ m * d.sz := by rw [← Nat.succ_mul]; exact Nat.mul_le_mul_right _ hj2
    have hcells : ((inner.take (m * d.sz)).drop (j * d.sz)).take d.sz = (inner.drop (j * d.sz)).take d.sz := by
      rw [List.drop_take, List.take_take, Nat.min_eq_left (by omega)]
    rw [hcells]
    exact d.M_mono (fun k hk => ⟨hk.1, fun he => hk.2 (by simpa [Value.ownBlock] using he)⟩) hM
/-- What lies behind a row's elements in its block is written. -/
theorem R_spare (h : d.R e w base ok (.slice (some ⟨g, 0, none⟩) n cap) xs) (o : Nat) (us : List Value) (ho : n * d.sz ≤ o) (hi : o + us.length ≤ cap * d.sz) :
    d.R e (w.setCells g o us) base ok (.slice (some ⟨g, 0, none⟩) n cap) xs ∧ w.grownBy (w.setCells g o us) (some g) := by
  obtain ⟨hn, hnc, _⟩ := Kd.R_reads' h
  obtain ⟨hok, inner, hown, hr⟩ := h
  obtain ⟨ho1, ho2⟩ := hown
  rcases ho2 with ⟨hv, _⟩ | ⟨g', cap', cur, hv, hb, hh, hnc', hcm, hcs, ht⟩
  · cases hv
  injection hv with ha hl hc
  injection ha with ha
  injection ha with hg
  subst hg; subst hc
  obtain ⟨cur', h3, h4, h5⟩ := setCells_row us o w cur hh (by rw [hcs]; exact hi)
  obtain ⟨s1, s2, s3, s4⟩ := setCells_same g us o w
  have hfar : ∀ k, k ≠ g → (w.setCells g o us).heap[k]? = w.heap[k]? := fun k hk => setCells_far us _ k hk
  refine ⟨⟨hok, inner, ⟨ho1, .inr ⟨g, cap, cur', by rw [hl], hb, h3, hnc', hcm, by rw [h4, hcs], ?_⟩⟩, hr.1, fun j p hj => ?_⟩, ⟨s1, s2, s3, by rw [s4]; exact Nat.le_refl _, fun k _ hk => hfar k (fun he => hk (by rw [he]))⟩⟩
  · have hcl : cur.toList.length = cap * d.sz := by rw [Array.length_toList, hcs]
    have hol : xs.length * d.sz ≤ o := by rw [← hn]; exact ho
    rw [h5, List.append_assoc, List.take_append_of_le_length (by rw [List.length_take, hcl]; omega), List.take_take, Nat.min_eq_left hol]
    exact ht
  · exact d.M_move (fun k hk => hfar k (fun he => hk.2 (by rw [he]; simp [Value.ownBlock]))) (hr.2 j p hj)
/-- Elements whose marks differ lie apart. -/
theorem S_of_marks {f : Nat → Nat} {v : Value} {zs : List (α × Nat)} (h : (tag f d).R e w base ok v zs) (hd : (zs.map Prod.snd).Nodup) : S d e w base ok v (zs.map Prod.fst) := by
  refine ⟨fun k => (zs.map Prod.snd).idxOf (f k), ?_⟩
  obtain ⟨hok, inner, ho, hr⟩ := h
  have hl : (zs.map Prod.fst).zipIdx.length = zs.length := by simp
  refine ⟨hok, inner, by rw [hl]; exact ho, by rw [hl]; exact hr.1, fun j p hj => ?_⟩
  rw [List.getElem?_zipIdx, List.getElem?_map] at hj
  rcases hz : zs[j]? with _ | z
  · rw [hz] at hj; simp at hj
  · rw [hz] at hj
    simp only [Option.map_some, Option.some.injEq, Nat.zero_add] at hj
    subst hj
    have hM := hr.2 j z hz
    refine d.M_mono (fun k hk => ⟨hk.1, ?_⟩) hM
    obtain ⟨hjl, hzj⟩ := List.getElem?_eq_some_iff.1 hz
    have hk2 : f k = z.2 := hk.2
    show (zs.map Prod.snd).idxOf (f k) = j
    have hjl2 : j < (zs.map Prod.snd).length := by simpa using hjl
    have he : f k = (zs.map Prod.snd)[j] := by rw [List.getElem_map, hzj, hk2]
    rw [he]
    exact List.Nodup.idxOf_getElem hd j hjl2
end

section
open Go.Proofs.Ytcgkfijigjcmpaa.Lawful
/-- A call of a function value, as an arm of go_wp2_with. -/
theorem goesV_ {P : Program} {ops : Array Oper} {Q : Exit → Act → World → Prop} {rest : List Oper} {oi : Oper} {a : Act} {w : World} (N : Option Tmp) (hd : oi.dst = N) (hg : oi.guard = none) {f : FuncId} {fn : Func} {p : Operand} {cap : Array Value} {ags : Array Operand} {ts : Array TypeId} (hf : P.funcs[f]? = some fn) (hname : (fn.name == "runtime.NumGoroutine") = false) (hb : fn.body.isSome = true) (args : Array Value)
    (hop : oi.op = .call { callee := .value p, args := ags, argTypes := ts }) (hp : a.eval p = .func (.func f) #[] cap) (hargs : ags.toList.map a.eval ++ cap.toList = args.toList)
    (h : Calls P f args w fun e w' => ∃ v, e = .returned v ∧ wpList P ops Q rest (a.put N v) w') : wpList P ops Q (oi :: rest) a w := by
  refine wpList_plain hg fun K hK => ?_
  have he := enters_ hf hname hb args w
  have hargs : ags.map a.eval ++ cap = args := Array.toList_inj.mp (by simpa using hargs)
  have hrun : (execOp a.eval oi).run P w = .ok (.enter f args) w := by
    unfold execOp
    simp [hop, resolve, Deferred.ofValue, invoke, hp, hargs, he]
  unfold Oper.wp
  rw [hrun, Oper.upon_enter]
  refine h.mono fun e w'' hh => ?_
  obtain ⟨v, rfl, hk⟩ := hh
  subst hd
  exact hK _ _ hk
/-- Where the first blob without a reference stands, -1 if nowhere. -/
def blobIdx : List S35 → Int → Int
  | [], _ => -1
  | x :: l, i => if (x.f1 == 0) = true then i else blobIdx l (i + 1)
theorem blobIdx_step (l : List S35) (i : Nat) (h : i < l.length) : blobIdx (l.drop i) i = if ((rd_T35 l (i : Int)).f1 == 0) = true then (i : Int) else blobIdx (l.drop (i + 1)) ((i + 1 : Nat) : Int) := by
  rw [List.drop_eq_getElem_cons h, blobIdx]
  have : rd_T35 l (i : Int) = l[i] := by
    unfold rd_T35
    simp [List.getD_eq_getElem?_getD, List.getElem?_eq_getElem h]
  rw [this]
  rfl
set_option maxHeartbeats 8000000 in
set_option maxRecDepth 100000 in
theorem blobLit (x : S35) (v : Value) (w : World) : Calls Try.prog 56 #[.agg #[.string x.f0, .int .i64 x.f1, v]] w fun e w' => e = .returned (.bool (x.f1 == 0)) ∧ Below w.heap.size w w' := by
  have hu := Try.underlying35
  have HB := Aside0.mk (Below.refl w.heap.size w)
  go_enter Try.func56, Try.ntmps56
  go_wp2_with (first | ((with_reducible refine gate_dst (N := 1) rfl ?_); refine box_event ?hg_1 (N := 1) ?hd_1 (cs := #[.string x.f0, .int .i64 x.f1, v]) (t := 35) ?hr_1 ?_; (case hd_1 => rfl); (case hg_1 => rfl); (case hr_1 => first | (go_simp; done) | (go_simp; rfl)); intro gX1 hg w2 hbox hb; have hk := kept_below hb; obtain ⟨PX1, hPX1, HLX1⟩ := LB.fresh hg hbox; have HX1 := Aside0.mk HLX1; clear HLX1; have GEX1 := Aside0.mk (show w.heap.size ≤ gX1 from (by rw [hg]; exact HB.out.size)); replace HB := Aside0.mk (below_step HB.out hb); clear hb hk hbox hg hPX1; (try clear hxX1_0 hfX1_0 hxX1_1 hfX1_1 hxX1_2 hfX1_2); have hxX1_0 := (HX1.out.cell 0).trans (show _ = some (.string x.f0) from rfl); have hfX1_0 := HX1.out.frozen 0; have hxX1_1 := (HX1.out.cell 1).trans (show _ = some (.int .i64 x.f1) from rfl); have hfX1_1 := HX1.out.frozen 1; have hxX1_2 := (HX1.out.cell 2).trans (show _ = some (v) from rfl); have hfX1_2 := HX1.out.frozen 2))
  go_ret
  exact ⟨rfl, HB.out⟩
set_option maxHeartbeats 8000000 in
set_option maxRecDepth 100000 in
theorem blobIndex (A0 : Option Addr) (c0 : Nat) (l : List S35) (w : World) (hr : Kd.C k35 w A0 l.length l) (hl : l.length ≤ 9223372036854775806) :
    Calls Try.prog 38 #[.slice A0 l.length c0, .func (.func 56) #[] #[]] w fun e w' => e = .returned (.int .i64 (blobIdx l 0)) ∧ Below w.heap.size w w' := by
  have HB := Aside0.mk (Below.refl w.heap.size w)
  have HR := Aside0.mk hr
  have HL := Aside0.mk hl
  clear hr hl
  go_enter Try.func38, Try.ntmps38
  go_wp2
  go_loopg [8] (l.length + 1) (fun kq v8 w' => ∃ i : Nat, v8 = .int .i64 (i : Int) ∧ Aside0 (i + kq = l.length + 1) ∧ Aside0 (blobIdx l 0 = blobIdx (l.drop i) i) ∧ Aside0 (Below w.heap.size w w'))
  case atStart => exact ⟨0, rfl, ⟨by omega⟩, ⟨rfl⟩, HB⟩
  case round =>
    clear HB
    obtain ⟨i, rfl, HK, HI, HB⟩ := hrel
    by_cases hi : i < l.length
    · obtain ⟨k1, rfl⟩ : ∃ k_, gk = k_ + 1 := ⟨gk - 1, by have := HK.out; omega⟩
      have hlt : decide ((i : Int) < (l.length : Int)) = true := decide_eq_true (by omega)
      have hltn : decide (i < l.length) = true := decide_eq_true (by omega)
      have hw : wrap64 ((i : Int) + 1) = ((i + 1 : Nat) : Int) := by have := HL.out; unfold wrap64; omega
      have hww : IntKind.i64.wrap ((i : Int) + 1) = ((i + 1 : Nat) : Int) := (i64_w _).trans hw
      obtain ⟨ad, A2, c2, ea, hx0, hx1, hx2, _, _⟩ := at_T35 (Kd.C_below HR.out HB.out) (i : Int) (by omega) (by omega)
      cases ea
      simp only [Int.toNat_natCast] at hx0 hx1 hx2
      have HS := Aside0.mk (blobIdx_step l i hi)
      have p1 := eq_true (show (0 : Int) ≤ (i : Int) by omega)
      have q1 := eq_true (show (i : Int) < (l.length : Int) by omega)
      have p2 := hi
      cases hc : ((rd_T35 l (i : Int)).f1 == 0) with
      | true =>
        have HE := Aside0.mk (show blobIdx l 0 = (i : Int) by rw [HI.out, HS.out, hc]; rfl)
        go_wp2_with (first | ((with_reducible refine gate_dst (N := 16) rfl ?_); refine goesV_ (f := 56) (some 16) rfl rfl Try.func56 (by kernel_rfl) rfl #[.agg #[.string (rd_T35 l (i : Int)).f0, .int .i64 (rd_T35 l (i : Int)).f1, .slice A2 (rd_T35 l (i : Int)).f2.length c2]] rfl rfl rfl ?_; (with_reducible refine (blobLit (rd_T35 l (i : Int)) _ _).mono ?_); rintro e w2 ⟨he, hb⟩; rw [hc] at he; subst he; refine ⟨_, rfl, ?_⟩; replace HB := Aside0.mk (below_step HB.out hb); clear hb))
        go_ret
        exact ⟨by rw [HE.out]; rfl, HB.out⟩
      | false =>
        have HE := Aside0.mk (show blobIdx l 0 = blobIdx (l.drop (i + 1)) ((i + 1 : Nat) : Int) by rw [HI.out, HS.out, hc]; rfl)
        go_wp2_with (first | ((with_reducible refine gate_dst (N := 16) rfl ?_); refine goesV_ (f := 56) (some 16) rfl rfl Try.func56 (by kernel_rfl) rfl #[.agg #[.string (rd_T35 l (i : Int)).f0, .int .i64 (rd_T35 l (i : Int)).f1, .slice A2 (rd_T35 l (i : Int)).f2.length c2]] rfl rfl rfl ?_; (with_reducible refine (blobLit (rd_T35 l (i : Int)) _ _).mono ?_); rintro e w2 ⟨he, hb⟩; rw [hc] at he; subst he; refine ⟨_, rfl, ?_⟩; replace HB := Aside0.mk (below_step HB.out hb); clear hb))
        go_roundg k1
        case measure => have := HK.out; omega
        case rel => exact ⟨i + 1, by first | rfl | (simp only [hw]) | simp, ⟨by have := HK.out; omega⟩, HE, HB⟩
    · have hd : l.drop i = [] := List.drop_eq_nil_of_le (by omega)
      have hlt : decide ((i : Int) < (l.length : Int)) = false := decide_eq_false (by omega)
      have hltn : decide (i < l.length) = false := decide_eq_false (by omega)
      have HE := Aside0.mk (show blobIdx l 0 = -1 by rw [HI.out, hd]; rfl)
      clear hd
      go_wp2
      go_ret
      exact ⟨by rw [HE.out]; rfl, HB.out⟩
theorem kept_cell {w w' : World} {Sx : Nat → Prop} {g o : Nat} {u : Value} (hk : Kept w w' Sx) (h : w.cell? ⟨g, o, none⟩ = some u) (hS : ¬ Sx g) : w'.cell? ⟨g, o, none⟩ = some u := by
  have hlt := World.block_lt_of_cell? w _ h
  have := hk.2 g hlt hS
  unfold World.cell? at h ⊢
  rw [this]
  exact h
theorem clear_any {P : Program} {t e : TypeId} {z : Value} (ht : P.underlying t = some (.slice e)) (hz : ∀ W, (zeroValue e).run P W = .ok z W) (h1 : ∀ u ∈ z.cells.toList, u.oneCell' = true) (hzs : 0 < z.cells.size) {g e2 : Nat} {cur : Array Value} {w : World} (hg : w.heap[g]? = some (.cells cur e2 (0, 0))) (o n c : Nat) (hn : 0 < n)
    (hfit : o + n * z.cells.size ≤ cur.size) : ∀ ty, (Builtin.clear_ #[t] ty #[.slice (some ⟨g, o, none⟩) n c]).run P w = .ok (.tuple #[]) (w.setCells g o (Builtin.zeroCells z.cells n).toList) := by
  intro ty
  have hl : (Builtin.zeroCells z.cells n).toList.length = n * z.cells.size := by rw [Array.length_toList, size_zeroCells]
  have hst := run_storeCells_cells (P := P) g o (Builtin.zeroCells z.cells n).toList 0 w (fun j hj => by
      rw [hl] at hj
      unfold World.cell?
      rw [hg]
      simp
      omega) (fun j _ => by unfold World.frozen?; rw [hg]; simp) (fun v hv => by
      simp [Builtin.zeroCells] at hv
      obtain ⟨a, _, rfl⟩ := hv
      have hm : a % z.cells.size < z.cells.size := Nat.mod_lt _ hzs
      rw [getElem!_pos z.cells (a % z.cells.size) hm]
      exact h1 _ (by simp))
  simp only [Nat.add_zero] at hst
  obtain ⟨m, rfl⟩ : ∃ m, n = m + 1 := ⟨n - 1, by omega⟩
  simp [Builtin.clear_, run_underlying ht, hz, hst]
def blobKeep (z : S35 × Nat) : Bool := !(z.1.f1 == 0)
theorem blobIdx_no : ∀ (l : List S35) (i : Int), 0 ≤ i → blobIdx l i = -1 → l.filter (fun x => !(x.f1 == 0)) = l
  | [], _, _, _ => rfl
  | x :: l, i, h0, h => by
    rw [blobIdx] at h
    cases hc : (x.f1 == 0) with
    | true => rw [hc, if_pos rfl] at h; omega
    | false =>
      rw [hc, if_neg (by simp)] at h
      rw [List.filter_cons_of_pos (by rw [hc]; rfl), blobIdx_no l (i + 1) (by omega) h]
theorem blobIdx_yes : ∀ (l : List S35) (i : Nat), blobIdx l (i : Int) ≠ -1 → ∃ m : Nat, blobIdx l (i : Int) = ((i + m : Nat) : Int) ∧ m < l.length ∧ (l.take m).filter (fun x => !(x.f1 == 0)) = l.take m ∧ ∀ x, l[m]? = some x → (x.f1 == 0) = true
  | [], _, h => absurd rfl h
  | x :: l, i, h => by
    rw [blobIdx] at h ⊢
    cases hc : (x.f1 == 0) with
    | true => exact ⟨0, by rw [if_pos rfl]; rfl, by simp, rfl, fun y hy => by simp at hy; rw [← hy]; exact hc⟩
    | false =>
      rw [hc, if_neg (by simp)] at h
      rw [if_neg (by simp)]
      have he : ((i : Int) + 1) = ((i + 1 : Nat) : Int) := by push_cast; rfl
      rw [he] at h ⊢
      obtain ⟨m, h1, h2, h3, h4⟩ := blobIdx_yes l (i + 1) h
      refine ⟨m + 1, by rw [h1]; congr 1; omega, by simp; omega, ?_, fun y hy => h4 y (by simpa using hy)⟩
      rw [List.take_succ_cons, List.filter_cons_of_pos (by rw [hc]; rfl), h3]
theorem zip_keep (l : List S35) (m : Nat) : ((l.zipIdx.take m).filter blobKeep).map Prod.fst = (l.take m).filter (fun x => !(x.f1 == 0)) := by
  have gen : ∀ (l : List S35) (k : Nat), ((l.zipIdx k).filter blobKeep).map Prod.fst = l.filter (fun x => !(x.f1 == 0)) := by
    intro l
    induction l with
    | nil => intro k; rfl
    | cons x l ih =>
      intro k
      rw [List.zipIdx_cons]
      cases hc : (x.f1 == 0) with
      | true => rw [List.filter_cons_of_neg (by simp [blobKeep, hc]), List.filter_cons_of_neg (by simp [hc]), ih]
      | false => rw [List.filter_cons_of_pos (by simp [blobKeep, hc]), List.filter_cons_of_pos (by simp [hc]), List.map_cons, ih]
  rw [← gen (l.take m) 0]
  congr 2
  apply List.ext_getElem?
  intro i
  rw [List.getElem?_take, List.getElem?_zipIdx, List.getElem?_zipIdx, List.getElem?_take]
  split <;> simp
theorem zip_nodup (l : List S35) : ((l.zipIdx.filter blobKeep).map Prod.snd).Nodup := by
  refine List.Nodup.sublist (List.Sublist.map _ List.filter_sublist) ?_
  rw [List.zipIdx_map_snd]
  exact List.nodup_range'
theorem blob3 {cs : List Value} {n : Nat} (h : cs.length = n) (hn : n = 3 := by rfl) : ∃ a b c, cs = [a, b, c] := by
  subst hn
  match cs, h with
  | [a, b, c], _ => exact ⟨a, b, c, rfl⟩
theorem blobBelow {w w1 w2 : World} {g : Nat} (hB : Below w.heap.size w w1) (h : w1.grownBy w2 (some g)) (hg : w.heap.size ≤ g) : Below w.heap.size w w2 :=
  ⟨h.os.trans hB.os, h.tape.trans hB.tape, h.output.trans hB.output, Nat.le_trans hB.size h.size, fun k hk => (h.block k (Nat.lt_of_lt_of_le hk hB.size) (fun he => by injection he with he; omega)).trans (hB.block k hk)⟩
theorem blobRd (l : List S35) (j : Nat) (hj : j < l.length) : rd_T35 l (j : Int) = l[j] := by
  unfold rd_T35
  simp [List.getD_eq_getElem?_getD, List.getElem?_eq_getElem hj]
theorem blobStart (l : List S35) (m : Nat) (hm : m < l.length) (h1 : (l.take m).filter (fun x => !(x.f1 == 0)) = l.take m) (h2 : ∀ x, l[m]? = some x → (x.f1 == 0) = true) :
    l.zipIdx.take m = (l.zipIdx.take (m + 1)).filter blobKeep ∧ ((l.zipIdx.take (m + 1)).filter blobKeep).length = m := by
  have hz : m < l.zipIdx.length := by simp; exact hm
  have hk : blobKeep l.zipIdx[m] = false := by
    rw [List.getElem_zipIdx]
    unfold blobKeep
    rw [h2 _ (by simp [List.getElem?_eq_getElem hm])]
    rfl
  have hall : (l.zipIdx.take m).filter blobKeep = l.zipIdx.take m := by
    rw [List.filter_eq_self]
    intro z hz
    have hz1 : z.1 ∈ l.take m := by
      have hmem := List.mem_map_of_mem (f := Prod.fst) hz
      rw [List.map_take, List.zipIdx_map_fst] at hmem
      exact hmem
    rw [← h1] at hz1
    have := (List.mem_filter.1 hz1).2
    exact this
  rw [List.take_succ_eq_append_getElem hz, List.filter_append, hall]
  simp only [List.filter_cons, hk, Bool.false_eq_true, if_false, List.filter_nil, List.append_nil]
  refine ⟨by simp, by simp; omega⟩
theorem blobAt (l : List S35) (zs : List (S35 × Nat)) (j : Nat) (hj : j < l.length) (hl : zs.length = l.length) (hd : zs.drop j = l.zipIdx.drop j) : zs.getD j ((z35, 0) : S35 × Nat) = (rd_T35 l (j : Int), j) := by
  have h1 := congrArg (fun x => x[0]?) hd
  simp only [List.getElem?_drop, Nat.add_zero] at h1
  rw [List.getElem?_zipIdx, List.getElem?_eq_getElem hj] at h1
  rw [List.getD_eq_getElem?_getD, h1, blobRd l j hj]
  simp
theorem blobStep1 (l : List S35) (zs : List (S35 × Nat)) (i j : Nat) (x : S35) (hj : j < l.length) (hc : (x.f1 == 0) = false) (hx : x = rd_T35 l (j : Int)) (h : zs.take i = (l.zipIdx.take j).filter blobKeep ∧ ((l.zipIdx.take j).filter blobKeep).length = i) (hij : i + 1 ≤ j) (hl : zs.length = l.length) :
    (zs.set i (x, j)).take (i + 1) = (l.zipIdx.take (j + 1)).filter blobKeep ∧ ((l.zipIdx.take (j + 1)).filter blobKeep).length = i + 1 := by
  have hz : j < l.zipIdx.length := by simp; exact hj
  have hk : l.zipIdx[j] = (x, j) := by rw [List.getElem_zipIdx, hx, blobRd l j hj]; simp
  have hkk : blobKeep l.zipIdx[j] = true := by rw [hk]; unfold blobKeep; simp [hc]
  have e : (l.zipIdx.take (j + 1)).filter blobKeep = (l.zipIdx.take j).filter blobKeep ++ [(x, j)] := by
    rw [List.take_succ_eq_append_getElem hz, List.filter_append, List.filter_cons_of_pos hkk, hk]
    rfl
  rw [e, ← h.1]
  have hil : i < (zs.set i (x, j)).length := by rw [List.length_set]; omega
  refine ⟨?_, by simp; omega⟩
  rw [List.take_succ_eq_append_getElem hil, List.getElem_set_self, List.take_set_of_le (Nat.le_refl i)]
theorem blobStep2 (l : List S35) (zs : List (S35 × Nat)) (i j : Nat) (x : S35) (hd : zs.drop j = l.zipIdx.drop j) (hij : i + 1 ≤ j) : (zs.set i (x, j)).drop (j + 1) = l.zipIdx.drop (j + 1) := by
  rw [List.drop_set_of_lt (by omega), ← List.drop_drop, ← List.drop_drop, hd]
theorem blobStep3 (l : List S35) (zs : List (S35 × Nat)) (i j : Nat) (x : S35) (hj : j < l.length) (hc : (x.f1 == 0) = true) (hx : x = rd_T35 l (j : Int)) (h : zs.take i = (l.zipIdx.take j).filter blobKeep ∧ ((l.zipIdx.take j).filter blobKeep).length = i) :
    zs.take i = (l.zipIdx.take (j + 1)).filter blobKeep ∧ ((l.zipIdx.take (j + 1)).filter blobKeep).length = i := by
  have hz : j < l.zipIdx.length := by simp; exact hj
  have hk : l.zipIdx[j] = (x, j) := by rw [List.getElem_zipIdx, hx, blobRd l j hj]; simp
  have hkk : ¬ blobKeep l.zipIdx[j] = true := by rw [hk]; unfold blobKeep; simp [hc]
  have e : (l.zipIdx.take (j + 1)).filter blobKeep = (l.zipIdx.take j).filter blobKeep := by
    rw [List.take_succ_eq_append_getElem hz, List.filter_append, List.filter_cons_of_neg hkk]
    simp
  rw [e]
  exact h
theorem blobStep4 (l : List S35) (zs : List (S35 × Nat)) (j : Nat) (hd : zs.drop j = l.zipIdx.drop j) : zs.drop (j + 1) = l.zipIdx.drop (j + 1) := by
  rw [← List.drop_drop, ← List.drop_drop, hd]
theorem blobRow {f : Nat → Nat} {w : World} {base g n cap : Nat} {ok : Nat → Prop} {xs : List (S35 × Nat)} (h : (Kd.tag f k35).R 35 w base ok (.slice (some ⟨g, 0, none⟩) n cap) xs) : ∃ cur, w.heap[g]? = some (.cells cur 35 (0, 0)) ∧ cur.size = cap * 3 := by
  obtain ⟨hok, inner, ho, hr⟩ := h
  obtain ⟨ho1, ho2⟩ := ho
  rcases ho2 with ⟨hv, _⟩ | ⟨g', cap', cur, hv, hb, hh, hnc', hcm, hcs, ht⟩
  · cases hv
  injection hv with ha hl hc
  injection ha with ha
  injection ha with hg
  subst hg; subst hc
  exact ⟨cur, hh, hcs⟩
theorem blobEnd {f : Nat → Nat} {P1 : Nat → Prop} {w ws wr : World} {g c0 i : Nat} {l : List S35} {zs : List (S35 × Nat)} (hR : LR (Kd.tag f k35) 35 wr w.heap.size P1 (.slice (some ⟨g, 0, none⟩) l.length c0) zs) (hi : i ≤ l.length)
    (ht : zs.take i = (l.zipIdx.take l.length).filter blobKeep) (us : List Value) (hu : us.length = (l.length - i) * 3) (hB : Below w.heap.size w wr) (hg : w.heap.size ≤ g) (hK : Kept ws wr P1) :
    LS k35 35 (wr.setCells g (i * 3) us) w.heap.size P1 (.slice (some ⟨g, 0, none⟩) i c0) (l.filter (fun x => !(x.f1 == 0))) ∧ Below w.heap.size w (wr.setCells g (i * 3) us) ∧ Kept ws (wr.setCells g (i * 3) us) P1 := by
  have hc := (Kd.R_reads' hR.1).2.1
  have h1 := R_pre hR.1 hi
  obtain ⟨h2, h3⟩ := R_spare h1 (i * 3) us (Nat.le_refl _) (by rw [hu, show (Kd.tag f k35).sz = 3 from rfl, ← Nat.add_mul]; exact Nat.mul_le_mul_right _ (by omega))
  have hP : P1 g := hR.1.1 g (by simp [Value.ownBlock])
  have hk : Kept wr (wr.setCells g (i * 3) us) P1 := Kept.of_grown h3 (Kept.refl _ P1) (fun k_ h_ => .inl (by injection h_ with h_; rw [← h_]; exact hP))
  refine ⟨⟨?_, fun k hk' => Nat.lt_of_lt_of_le (hR.2 k hk') h3.size⟩, blobBelow hB h3 hg, hK.then_ hk (fun _ h_ => .inl h_)⟩
  have hn : ((zs.take i).map Prod.snd).Nodup := by
    rw [ht, List.take_of_length_le (by simp)]
    exact zip_nodup l
  have hm : (zs.take i).map Prod.fst = l.filter (fun x => !(x.f1 == 0)) := by
    rw [ht, zip_keep, List.take_of_length_le (Nat.le_refl _)]
  rw [← hm]
  exact S_of_marks h2 hn
theorem blobInfo : (Try.prog.info? 35).map (fun i => (i.zero, i.size, i.bytes)) = some (some (.agg #[.string ByteArray.empty, .int .i64 0, .slice none 0 0]), 3, 48) := by kernel_rfl
set_option maxHeartbeats 8000000 in
set_option maxRecDepth 100000 in
theorem blobDel (P1 : Nat → Prop) (A0 : Option Addr) (c0 : Nat) (l : List S35) (w ws : World) (hB : Below w.heap.size w ws) (h : LS k35 35 ws w.heap.size P1 (.slice A0 l.length c0) l) (hlen : l.length ≤ 1000000) :
    Calls Try.prog 55 #[.slice A0 l.length c0, .func (.func 56) #[] #[]] ws fun e w' => ∃ v' : Value, e = .returned v' ∧ LS k35 35 w' w.heap.size P1 v' (l.filter (fun x => !(x.f1 == 0))) ∧ Below w.heap.size w w' ∧ Kept ws w' P1 := by
  have hu := Try.underlying35
  have HB := Aside0.mk hB
  have H1 := Aside0.mk h
  have HK := Aside0.mk (Kept.refl ws P1)
  have HLN := Aside0.mk hlen
  clear hB h hlen
  obtain ⟨q, hq⟩ : ∃ q_, q_ = blobIdx l 0 := ⟨_, rfl⟩
  have NQ := Aside0.mk hq.symm
  clear hq
  by_cases c : q = -1
  · have HE := Aside0.mk (blobIdx_no l 0 (by omega) (NQ.out.trans c))
    have cb : (q == -1) = true := beq_iff_eq.mpr c
    clear c
    go_enter Try.func55, Try.ntmps55
    go_wp2_with (first | ((with_reducible refine gate_callee (f := 38) rfl ?_); refine goesL_ (some 10) rfl rfl Try.func38 (by kernel_rfl) rfl #[.slice A0 l.length c0, .func (.func 56) #[] #[]] rfl (by (try simp only [List.map_toArray, List.map_cons, List.map_nil]); first | done | rfl) ?_; (with_reducible refine (blobIndex A0 c0 l _ H1.out.reads (by have := HLN.out; omega)).mono ?_); rintro e w2 ⟨he, hb⟩; rw [NQ.out] at he; subst he; refine ⟨_, rfl, ?_⟩; have hk := kept_below hb; replace H1 := Aside0.mk (H1.out.step hk no_S); replace HK := Aside0.mk (HK.out.then_ hk (fun _ h_ => h_.elim)); replace HB := Aside0.mk (below_step HB.out hb); clear hb hk))
    go_ret
    exact ⟨_, rfl, by rw [HE.out]; exact H1.out, HB.out, HK.out⟩
  · have cb : (q == -1) = false := beq_eq_false_iff_ne.mpr c
    obtain ⟨m, hm, hml, hm1, hm2⟩ := blobIdx_yes l 0 (by rw [show ((0 : Nat) : Int) = 0 from rfl, NQ.out]; exact c)
    obtain rfl : q = (m : Int) := by rw [← NQ.out, show (0 : Int) = ((0 : Nat) : Int) from rfl, hm]; congr 1; omega
    have HM1 := Aside0.mk hm1
    have HM2 := Aside0.mk hm2
    have HML := Aside0.mk hml
    have hw1 : wrap64 ((m : Int) + 1) = ((m + 1 : Nat) : Int) := by have := HLN.out; unfold wrap64; omega
    clear c hm hm1 hm2
    obtain ⟨g, co, eo, gb, gl, cl, HG⟩ := Kd.S_form H1.out.1 (by omega)
    injection eo with ea_ en_ ec_
    subst ea_
    subst ec_
    have GB := Aside0.mk gb
    clear en_ gb gl hml HG cl
    go_enter Try.func55, Try.ntmps55
    go_wp2_with (first | ((with_reducible refine gate_callee (f := 38) rfl ?_); refine goesL_ (some 10) rfl rfl Try.func38 (by kernel_rfl) rfl #[.slice (some ⟨g, 0, none⟩) l.length c0, .func (.func 56) #[] #[]] rfl (by (try simp only [List.map_toArray, List.map_cons, List.map_nil]); first | done | rfl) ?_; (with_reducible refine (blobIndex (some ⟨g, 0, none⟩) c0 l _ H1.out.reads (by have := HLN.out; omega)).mono ?_); rintro e w2 ⟨he, hb⟩; rw [NQ.out] at he; subst he; refine ⟨_, rfl, ?_⟩; have hk := kept_below hb; replace H1 := Aside0.mk (H1.out.step hk no_S); replace HK := Aside0.mk (HK.out.then_ hk (fun _ h_ => h_.elim)); replace HB := Aside0.mk (below_step HB.out hb); clear hb hk))
    obtain ⟨⟨f, hf⟩, hlt⟩ := H1.out
    have HZ := Aside0.mk (show LR (Kd.tag f k35) 35 _ w.heap.size P1 (.slice (some ⟨g, 0, none⟩) l.length c0) l.zipIdx from ⟨hf, hlt⟩)
    clear hf hlt H1
    go_loopg [5, 6] (l.length - (m + 1)) (fun kq v5 v6 w' => ∃ (i j : Nat) (zs : List (S35 × Nat)), v5 = .int .i64 (i : Int) ∧ v6 = .int .i64 (j : Int) ∧ Aside0 (j + kq = l.length ∧ i + 1 ≤ j ∧ zs.length = l.length) ∧ Aside0 (zs.take i = (l.zipIdx.take j).filter blobKeep ∧ ((l.zipIdx.take j).filter blobKeep).length = i) ∧ Aside0 (zs.drop j = l.zipIdx.drop j) ∧ Aside0 (LR (Kd.tag f k35) 35 w' w.heap.size P1 (.slice (some ⟨g, 0, none⟩) l.length c0) zs) ∧ Aside0 (Below w.heap.size w w') ∧ Aside0 (Kept ws w' P1))
    case atStart => exact ⟨m, m + 1, l.zipIdx, rfl, by first | rfl | (simp only [hw1]) | simp, ⟨by have := HML.out; omega, Nat.le_refl _, by simp⟩, ⟨blobStart l m HML.out HM1.out HM2.out⟩, ⟨rfl⟩, HZ, HB, HK⟩
    case round =>
      clear HZ HB HK HM1 HM2 hw1
      obtain ⟨i, j, zs, rfl, rfl, HJ, HT, HD, HZ, HB, HK⟩ := hrel
      by_cases hj : j < l.length
      · obtain ⟨k1, rfl⟩ : ∃ k_, gk = k_ + 1 := ⟨gk - 1, by have := HJ.out.1; omega⟩
        have hlt : decide ((j : Int) < (l.length : Int)) = true := decide_eq_true (by omega)
        have hltn : decide (j < l.length) = true := decide_eq_true (by omega)
        have hwj : wrap64 ((j : Int) + 1) = ((j + 1 : Nat) : Int) := by have := HLN.out; unfold wrap64; omega
        have hwi : wrap64 ((i : Int) + 1) = ((i + 1 : Nat) : Int) := by have := HLN.out; have := HJ.out.2.1; unfold wrap64; omega
        have p1 := eq_true (show (0 : Int) ≤ (j : Int) by omega)
        have q1 := eq_true (show (j : Int) < (l.length : Int) by omega)
        have p2 := eq_true (show (0 : Int) ≤ (i : Int) by omega)
        have q2 := eq_true (show (i : Int) < (l.length : Int) by have := HJ.out.2.1; omega)
        have NZ := Aside0.mk (blobAt l zs j hj HJ.out.2.2 HD.out)
        obtain ⟨c, _, hM, hcc, _⟩ := Kd.R_elem HZ.out.1 ((z35, 0) : S35 × Nat) (j : Int) (by omega) (by omega)
        rw [Int.toNat_natCast] at hcc
        rw [Int.toNat_natCast, NZ.out] at hM
        obtain ⟨x, hx⟩ : ∃ x_, x_ = rd_T35 l (j : Int) := ⟨_, rfl⟩
        rw [← hx] at hM NZ
        obtain ⟨v2, rfl, hg2⟩ := k35_openM hM
        obtain ⟨A2, c2, rfl⟩ := Kd.R_slice hg2
        have hx0 := hcc 0 _ rfl
        have hx1 := hcc 1 _ rfl
        have hx2 := hcc 2 _ rfl
        simp only [show (Kd.tag f k35).sz = 3 from rfl, Nat.add_zero] at hx0 hx1 hx2
        have HCC := Aside0.mk hx2
        have PG := Aside0.mk (HZ.out.1.1 g (by simp [Value.ownBlock]))
        have NX := Aside0.mk hx
        have esz : (Kd.tag f k35).sz = 3 := rfl
        clear hM hg2 hcc hx
        cases hc : (x.f1 == 0) with
        | false =>
          go_wp2_with (first | ((with_reducible refine gate_dst (N := 7) rfl ?_); refine box_event ?hg_2 (N := 7) ?hd_2 (cs := #[.string ByteArray.empty, .int .i64 0, .slice none 0 0]) (t := 35) ?hr_2 ?_; (case hd_2 => rfl); (case hg_2 => rfl); (case hr_2 => first | (go_simp; done) | (go_simp; rfl)); intro gX2 hg w2 hbox hb; have hk := kept_below hb; obtain ⟨PX2, hPX2, HLX2⟩ := LB.fresh hg hbox; have HX2 := Aside0.mk HLX2; clear HLX2; have GEX2 := Aside0.mk (show w.heap.size ≤ gX2 from (by rw [hg]; exact HB.out.size)); have D_Z_X2 := Aside0.mk (new_apart HZ.out.lt hPX2); have RRX2 := Aside0.mk (show ∀ k_, PX2 k_ → (P1) k_ ∨ ws.heap.size ≤ k_ from fun k_ h_ => .inr (Nat.le_trans HK.out.1 (hPX2 k_ h_).1)); replace HZ := Aside0.mk (HZ.out.step hk no_S); replace HK := Aside0.mk (HK.out.then_ hk (fun _ h_ => h_.elim)); replace HB := Aside0.mk (below_step HB.out hb); replace HCC := Aside0.mk ((hb.cell (World.block_lt_of_cell? _ _ HCC.out)).trans HCC.out); clear hb hk hbox hg hPX2; (try clear hxX2_0 hfX2_0 hxX2_1 hfX2_1 hxX2_2 hfX2_2); have hxX2_0 := (HX2.out.cell 0).trans (show _ = some (.string ByteArray.empty) from rfl); have hfX2_0 := HX2.out.frozen 0; have hxX2_1 := (HX2.out.cell 1).trans (show _ = some (.int .i64 0) from rfl); have hfX2_1 := HX2.out.frozen 1; have hxX2_2 := (HX2.out.cell 2).trans (show _ = some (.slice none 0 0) from rfl); have hfX2_2 := HX2.out.frozen 2) | ((with_reducible refine gate_store (t := 35) (p := 7) rfl ?_); refine LB.storedW HX2.out HB.out GEX2.out [.string x.f0, .int .i64 x.f1, .slice A2 x.f2.length c2] rfl rfl (t := 35) (p := 7) rfl rfl ?hr_3 ?_; (case hr_3 => first | (go_simp; done) | (go_simp; simp only [World.setCells, Nat.reduceAdd, Nat.zero_add]; done)); intro w2 hx hk hb; replace HZ := Aside0.mk (HZ.out.step hk D_Z_X2.out); replace HK := Aside0.mk (HK.out.then_ hk RRX2.out); replace HB := Aside0.mk hb; replace HX2 := Aside0.mk (show LB w2 PX2 gX2 35 #[.string x.f0, .int .i64 x.f1, .slice A2 x.f2.length c2] from hx); replace HCC := Aside0.mk (kept_cell hk HCC.out (D_Z_X2.out g PG.out)); clear hk hx hb; (try clear hxX2_0 hfX2_0 hxX2_1 hfX2_1 hxX2_2 hfX2_2); have hxX2_0 := (HX2.out.cell 0).trans (show _ = some (.string x.f0) from rfl); have hfX2_0 := HX2.out.frozen 0; have hxX2_1 := (HX2.out.cell 1).trans (show _ = some (.int .i64 x.f1) from rfl); have hfX2_1 := HX2.out.frozen 1; have hxX2_2 := (HX2.out.cell 2).trans (show _ = some (.slice A2 x.f2.length c2) from rfl); have hfX2_2 := HX2.out.frozen 2) | ((with_reducible refine gate_dst (N := 28) rfl ?_); refine goesV_ (f := 56) (some 28) rfl rfl Try.func56 (by kernel_rfl) rfl #[.agg #[.string x.f0, .int .i64 x.f1, .slice A2 x.f2.length c2]] rfl rfl rfl ?_; (with_reducible refine (blobLit x _ _).mono ?_); rintro e w2 ⟨he, hb⟩; rw [hc] at he; subst he; refine ⟨_, rfl, ?_⟩; have hk := kept_below hb; replace HZ := Aside0.mk (HZ.out.step hk no_S); replace HX2 := Aside0.mk (HX2.out.step hk no_S); replace HK := Aside0.mk (HK.out.then_ hk (fun _ h_ => h_.elim)); replace HCC := Aside0.mk ((hb.cell (World.block_lt_of_cell? _ _ HCC.out)).trans HCC.out); replace HB := Aside0.mk (below_step HB.out hb); clear hb hk; (try clear hxX2_0 hfX2_0 hxX2_1 hfX2_1 hxX2_2 hfX2_2); have hxX2_0 := (HX2.out.cell 0).trans (show _ = some (.string x.f0) from rfl); have hfX2_0 := HX2.out.frozen 0; have hxX2_1 := (HX2.out.cell 1).trans (show _ = some (.int .i64 x.f1) from rfl); have hfX2_1 := HX2.out.frozen 1; have hxX2_2 := (HX2.out.cell 2).trans (show _ = some (.slice A2 x.f2.length c2) from rfl); have hfX2_2 := HX2.out.frozen 2) | ((with_reducible refine gate_store (t := 35) (p := 33) rfl ?_); obtain ⟨ci_, hcl_, _, hci_, hfi_⟩ := Kd.R_elem HZ.out.1 ((z35, 0) : S35 × Nat) (i : Int) (by omega) (by have := HJ.out.2.1; omega); obtain ⟨cj_, _, hMj_, hcj_, _⟩ := Kd.R_elem HZ.out.1 ((z35, 0) : S35 × Nat) (j : Int) (by omega) (by omega); rw [Int.toNat_natCast] at hcj_; rw [Int.toNat_natCast, NZ.out] at hMj_; obtain ⟨vj_, rfl, hgj_⟩ := k35_openM hMj_; have ev_ := Option.some.inj ((hcj_ 2 _ rfl).symm.trans HCC.out); subst ev_; have HP_ := Aside0.mk (Kd.R_seg HZ.out.1 (i : Int) (by omega) (by have := HJ.out.2.1; omega) (c := ci_) (seg := [(.string x.f0), (.int .i64 x.f1), (.slice A2 x.f2.length c2)]) (j := 0) hcl_ hci_ (show 0 + 3 ≤ 3 from by decide) (x' := ((x, j) : S35 × Nat)) (okp := fun k_ => P1 k_ ∧ k_ ≠ g) (by rw [List.take_zero, List.nil_append, List.drop_of_length_le (by rw [hcl_]; exact Nat.le_refl 3), List.append_nil]; exact hMj_) (fun _ h_ => h_)); obtain ⟨u0_, u1_, u2_, eu_⟩ : ∃ a_ b_ c_, ci_ = [a_, b_, c_] := blob3 hcl_; subst eu_; have hi0_ := hci_ 0 _ rfl; have hi1_ := hci_ 1 _ rfl; have hi2_ := hci_ 2 _ rfl; have hg0_ := hfi_ 0; have hg1_ := hfi_ 1; have hg2_ := hfi_ 2; simp only [show (Kd.tag f k35).sz = 3 from rfl, Nat.add_zero, Int.toNat_natCast] at hi0_ hi1_ hi2_ hg0_ hg1_ hg2_ HP_; refine store_event (t := 35) (p := 33) (v := ?vo_s) (w1 := World.setCells w2 g (i * 3) [(.string x.f0), (.int .i64 x.f1), (.slice A2 x.f2.length c2)]) ?hg_s ?ho_s ?hn_s ?hr_s ?_; (case ho_s => rfl); (case hg_s => rfl); (case hn_s => rfl); (case hr_s => first | (go_simp; done) | (go_simp; rfl) | (simp only [World.setCells]; go_simp; done)); intro w13 hw; have hk := Kept.of_grown HP_.out.2 (Kept.refl _ P1) (fun k_ h_ => .inl (by injection h_ with h_; rw [← h_]; exact PG.out)); rw [← hw] at hk; have n0_ := Aside0.mk (LR.wrote HZ.out (show Kd.R (Kd.tag f k35) 35 w13 w.heap.size P1 (.slice (some ⟨g, 0, none⟩) l.length c0) (zs.set i (x, j)) from by rw [hw]; exact HP_.out.1) hk); have n1_ := Aside0.mk (show Below w.heap.size w w13 from by rw [hw]; exact blobBelow HB.out HP_.out.2 GB.out); replace HK := Aside0.mk (HK.out.then_ hk (fun _ h_ => .inl h_)); clear HZ HB HP_ hw hk HCC hci_ hfi_ hcj_ hMj_ hgj_ hi0_ hi1_ hi2_ hg0_ hg1_ hg2_; have HZ := n0_; have HB := n1_; clear n0_ n1_))
          go_roundg k1
          case measure => omega
          case rel => exact ⟨i + 1, j + 1, zs.set i (x, j), by first | rfl | (simp only [hwi]) | simp, by first | rfl | (simp only [hwj]) | simp, ⟨by have := HJ.out; simp; omega⟩, ⟨blobStep1 l zs i j x hj hc NX.out HT.out HJ.out.2.1 HJ.out.2.2⟩, ⟨blobStep2 l zs i j x HD.out HJ.out.2.1⟩, HZ, HB, HK⟩
        | true =>
          go_wp2_with (first | ((with_reducible refine gate_dst (N := 7) rfl ?_); refine box_event ?hg_4 (N := 7) ?hd_4 (cs := #[.string ByteArray.empty, .int .i64 0, .slice none 0 0]) (t := 35) ?hr_4 ?_; (case hd_4 => rfl); (case hg_4 => rfl); (case hr_4 => first | (go_simp; done) | (go_simp; rfl)); intro gX3 hg w2 hbox hb; have hk := kept_below hb; obtain ⟨PX3, hPX3, HLX3⟩ := LB.fresh hg hbox; have HX3 := Aside0.mk HLX3; clear HLX3; have GEX3 := Aside0.mk (show w.heap.size ≤ gX3 from (by rw [hg]; exact HB.out.size)); have D_Z_X3 := Aside0.mk (new_apart HZ.out.lt hPX3); have RRX3 := Aside0.mk (show ∀ k_, PX3 k_ → (P1) k_ ∨ ws.heap.size ≤ k_ from fun k_ h_ => .inr (Nat.le_trans HK.out.1 (hPX3 k_ h_).1)); replace HZ := Aside0.mk (HZ.out.step hk no_S); replace HK := Aside0.mk (HK.out.then_ hk (fun _ h_ => h_.elim)); replace HB := Aside0.mk (below_step HB.out hb); replace HCC := Aside0.mk ((hb.cell (World.block_lt_of_cell? _ _ HCC.out)).trans HCC.out); clear hb hk hbox hg hPX3; (try clear hxX3_0 hfX3_0 hxX3_1 hfX3_1 hxX3_2 hfX3_2); have hxX3_0 := (HX3.out.cell 0).trans (show _ = some (.string ByteArray.empty) from rfl); have hfX3_0 := HX3.out.frozen 0; have hxX3_1 := (HX3.out.cell 1).trans (show _ = some (.int .i64 0) from rfl); have hfX3_1 := HX3.out.frozen 1; have hxX3_2 := (HX3.out.cell 2).trans (show _ = some (.slice none 0 0) from rfl); have hfX3_2 := HX3.out.frozen 2) | ((with_reducible refine gate_store (t := 35) (p := 7) rfl ?_); refine LB.storedW HX3.out HB.out GEX3.out [.string x.f0, .int .i64 x.f1, .slice A2 x.f2.length c2] rfl rfl (t := 35) (p := 7) rfl rfl ?hr_5 ?_; (case hr_5 => first | (go_simp; done) | (go_simp; simp only [World.setCells, Nat.reduceAdd, Nat.zero_add]; done)); intro w2 hx hk hb; replace HZ := Aside0.mk (HZ.out.step hk D_Z_X3.out); replace HK := Aside0.mk (HK.out.then_ hk RRX3.out); replace HB := Aside0.mk hb; replace HX3 := Aside0.mk (show LB w2 PX3 gX3 35 #[.string x.f0, .int .i64 x.f1, .slice A2 x.f2.length c2] from hx); replace HCC := Aside0.mk (kept_cell hk HCC.out (D_Z_X3.out g PG.out)); clear hk hx hb; (try clear hxX3_0 hfX3_0 hxX3_1 hfX3_1 hxX3_2 hfX3_2); have hxX3_0 := (HX3.out.cell 0).trans (show _ = some (.string x.f0) from rfl); have hfX3_0 := HX3.out.frozen 0; have hxX3_1 := (HX3.out.cell 1).trans (show _ = some (.int .i64 x.f1) from rfl); have hfX3_1 := HX3.out.frozen 1; have hxX3_2 := (HX3.out.cell 2).trans (show _ = some (.slice A2 x.f2.length c2) from rfl); have hfX3_2 := HX3.out.frozen 2) | ((with_reducible refine gate_dst (N := 28) rfl ?_); refine goesV_ (f := 56) (some 28) rfl rfl Try.func56 (by kernel_rfl) rfl #[.agg #[.string x.f0, .int .i64 x.f1, .slice A2 x.f2.length c2]] rfl rfl rfl ?_; (with_reducible refine (blobLit x _ _).mono ?_); rintro e w2 ⟨he, hb⟩; rw [hc] at he; subst he; refine ⟨_, rfl, ?_⟩; have hk := kept_below hb; replace HZ := Aside0.mk (HZ.out.step hk no_S); replace HX3 := Aside0.mk (HX3.out.step hk no_S); replace HK := Aside0.mk (HK.out.then_ hk (fun _ h_ => h_.elim)); replace HCC := Aside0.mk ((hb.cell (World.block_lt_of_cell? _ _ HCC.out)).trans HCC.out); replace HB := Aside0.mk (below_step HB.out hb); clear hb hk; (try clear hxX3_0 hfX3_0 hxX3_1 hfX3_1 hxX3_2 hfX3_2); have hxX3_0 := (HX3.out.cell 0).trans (show _ = some (.string x.f0) from rfl); have hfX3_0 := HX3.out.frozen 0; have hxX3_1 := (HX3.out.cell 1).trans (show _ = some (.int .i64 x.f1) from rfl); have hfX3_1 := HX3.out.frozen 1; have hxX3_2 := (HX3.out.cell 2).trans (show _ = some (.slice A2 x.f2.length c2) from rfl); have hfX3_2 := HX3.out.frozen 2))
          go_roundg k1
          case measure => omega
          case rel => exact ⟨i, j + 1, zs, rfl, by first | rfl | (simp only [hwj]) | simp, ⟨by have := HJ.out; omega⟩, ⟨blobStep3 l zs i j x hj hc NX.out HT.out⟩, ⟨blobStep4 l zs j HD.out⟩, HZ, HB, HK⟩
      · have hlt : decide ((j : Int) < (l.length : Int)) = false := decide_eq_false (by omega)
        have hltn : decide (j < l.length) = false := decide_eq_false (by omega)
        obtain rfl : j = l.length := by have := HJ.out.1; omega
        obtain ⟨i05, hi05, hz05, hsz5, _⟩ := info_parts blobInfo
        have hij : i < l.length := by have := HJ.out.2.1; omega
        have hroom := (Kd.R_reads' HZ.out.1).2.1
        have hcf := cut_from (P := Try.prog) 30 35 .i64 Try.underlying30 hi05 3 hsz5 (some ⟨g, 0, none⟩) l.length c0 (i : Int) (by omega) (by omega)
        have hct := cut_to (P := Try.prog) 30 35 .i64 Try.underlying30 hi05 (some ⟨g, 0, none⟩) l.length c0 (i : Int) (by omega) (by omega) hroom
        rw [Int.toNat_natCast, if_neg (by omega)] at hcf
        rw [Int.toNat_natCast] at hct
        simp only [Option.map_some, Addr.add, Nat.zero_add, Option.map_none] at hcf
        obtain ⟨cur, hcur, hcs⟩ := blobRow HZ.out.1
        have hcl := clear_any (P := Try.prog) Try.underlying30 (z := .agg #[.string ByteArray.empty, .int .i64 0, .slice none 0 0]) (fun W => by simp [zeroValue, typeInfo, hi05, hz05]) (by decide) (by decide) hcur (i * 3) (l.length - i) (c0 - i) (by omega) (by rw [hcs]; have : (Value.agg #[.string ByteArray.empty, .int .i64 0, .slice none 0 0]).cells.size = 3 := rfl; rw [this, ← Nat.add_mul]; exact Nat.mul_le_mul_right _ (by omega))
        obtain ⟨us, hus⟩ : ∃ us_, us_ = (Builtin.zeroCells (Value.agg #[.string ByteArray.empty, .int .i64 0, .slice none 0 0]).cells (l.length - i)).toList := ⟨_, rfl⟩
        rw [← hus] at hcl
        have HU := Aside0.mk (show us.length = (l.length - i) * 3 by rw [hus, Array.length_toList, size_zeroCells]; rfl)
        obtain ⟨E1, E2, E3⟩ := blobEnd HZ.out (Nat.le_of_lt hij) HT.out.1 us HU.out HB.out GB.out HK.out
        replace E1 := Aside0.mk E1
        replace E2 := Aside0.mk E2
        replace E3 := Aside0.mk E3
        clear hus hi05 hz05 hsz5 hcur hcs HZ HB HK HT HD
        by_cases hi0 : i = 0
        · subst hi0
          simp only [Nat.zero_mul, Nat.sub_zero] at hcl hcf E1 E2 E3
          go_wp2
          go_ret
          exact ⟨_, rfl, E1.out, E2.out, E3.out⟩
        · have hi3 : (i * 3 = 0) = False := eq_false (by omega)
          go_wp2
          go_ret
          exact ⟨_, rfl, E1.out, E2.out, E3.out⟩
end
section
open Go.Proofs.Ytcgkfijigjcmpaa.Lawful
/-- The first place where p holds. -/
def blobAtP (q : S35 → Bool) : List S35 → Nat → Option Nat
  | [], _ => none
  | x :: l, i => if q x = true then some i else blobAtP q l (i + 1)
theorem blobAtP_step (q : S35 → Bool) (l : List S35) (i : Nat) (h : i < l.length) : blobAtP q (l.drop i) i = if q (rd_T35 l (i : Int)) = true then some i else blobAtP q (l.drop (i + 1)) (i + 1) := by
  rw [List.drop_eq_getElem_cons h, blobAtP, blobRd l i h]
/-- Another count in one place. -/
def blobPut (l : List S35) (i : Nat) (r : Int) : List S35 := l.set i ⟨(rd_T35 l (i : Int)).f0, r, (rd_T35 l (i : Int)).f2⟩
theorem blobPut_len (l : List S35) (i : Nat) (r : Int) : (blobPut l i r).length = l.length := by unfold blobPut; simp
/-- One act of the program. -/
def impl_blobAct.f (l0 : List S35) (a0 : Int) (l1 : List Int) (a2 : ByteArray) : Option (List S35 × Int) :=
  if a0 = 1 then
    if (2000 : Int) < (l1.length : Int) then some (l0, 14)
    else (impl_Sha.f l1).bind fun key =>
      match blobAtP (fun x => x.f0.toList == key.toList) l0 0 with
      | some i => some (blobPut l0 i (wrap64 ((rd_T35 l0 (i : Int)).f1 + 1)), 0)
      | none => if (l0.length : Int) = 60 then some (l0, 7) else some (l0 ++ [⟨key, 1, l1⟩], 0)
  else if a0 = 2 then
    match blobAtP (fun x => x.f0.toList == a2.toList && decide (0 < x.f1)) l0 0 with
    | some i => some (blobPut l0 i (wrap64 ((rd_T35 l0 (i : Int)).f1 - 1)), 0)
    | none => some (l0, 6)
  else if a0 = 3 then some (l0.filter (fun x => !(x.f1 == 0)), 0)
  else some (l0, 3)
theorem blobZip (l : List S35) (i : Nat) (x : S35) : l.zipIdx.set i (x, i) = (l.set i x).zipIdx := by
  apply List.ext_getElem?
  intro j
  rw [List.getElem?_set, List.getElem?_zipIdx, List.getElem?_zipIdx, List.getElem?_set, List.length_zipIdx]
  by_cases h : i = j
  · subst h
    by_cases hi : i < l.length
    · simp [hi]
    · simp [hi]
  · simp [h]
/-- A store of a count into a row of one's own. -/
theorem blobSet {W : World} {base : Nat} {P1 : Nat → Prop} {g n c : Nat} {xs : List S35} (h : LS k35 35 W base P1 (.slice (some ⟨g, 0, none⟩) n c) xs) (i : Nat) (hi : i < xs.length) (r : Int) :
    LS k35 35 (W.setCell ⟨g, i * 3 + 1, none⟩ (.int .i64 r)) base P1 (.slice (some ⟨g, 0, none⟩) n c) (blobPut xs i r) ∧ W.grownBy (W.setCell ⟨g, i * 3 + 1, none⟩ (.int .i64 r)) (some g) ∧ P1 g := by
  obtain ⟨⟨f, hf⟩, hlt⟩ := h
  have hn : n = xs.length := by have := (Kd.R_reads' hf).1; simpa using this
  subst hn
  obtain ⟨cs, hcl, hM, hcc, hcf⟩ := Kd.R_elem hf ((z35, 0) : S35 × Nat) (i : Int) (by omega) (by omega)
  have hx : xs.zipIdx.getD (Int.toNat (i : Int)) ((z35, 0) : S35 × Nat) = (rd_T35 xs (i : Int), i) := by
    rw [Int.toNat_natCast, List.getD_eq_getElem?_getD, List.getElem?_zipIdx, List.getElem?_eq_getElem hi, blobRd xs i hi]
    simp
  rw [hx] at hM
  have hP : P1 g := hf.1 g (by simp [Value.ownBlock])
  obtain ⟨v2, rfl, hg2⟩ := k35_openM hM
  have hnew : (Kd.tag f k35).M W base (fun k => P1 k ∧ k ≠ g) ((⟨(rd_T35 xs (i : Int)).f0, r, (rd_T35 xs (i : Int)).f2⟩, i) : S35 × Nat) [.string (rd_T35 xs (i : Int)).f0, .int .i64 r, v2] :=
    k35_mkM W base _ ⟨(rd_T35 xs (i : Int)).f0, r, (rd_T35 xs (i : Int)).f2⟩ hg2
  have hs := Kd.R_seg hf (i : Int) (by omega) (by omega) (c := [.string (rd_T35 xs (i : Int)).f0, .int .i64 (rd_T35 xs (i : Int)).f1, v2]) (seg := [.int .i64 r]) (j := 1) rfl hcc (show 1 + 1 ≤ 3 from by decide) (x' := ((⟨(rd_T35 xs (i : Int)).f0, r, (rd_T35 xs (i : Int)).f2⟩, i) : S35 × Nat)) (okp := fun k => P1 k ∧ k ≠ g) hnew (fun _ h_ => h_)
  rw [Int.toNat_natCast, blobZip] at hs
  obtain ⟨h1, h2⟩ := hs
  refine ⟨⟨⟨f, h1⟩, fun k hk => Nat.lt_of_lt_of_le (hlt k hk) h2.size⟩, h2, hP⟩
theorem blobCells {W : World} {base : Nat} {P1 : Nat → Prop} {g n c : Nat} {xs : List S35} (h : LS k35 35 W base P1 (.slice (some ⟨g, 0, none⟩) n c) xs) (i : Nat) (hi : i < xs.length) :
    W.cell? ⟨g, i * 3, none⟩ = some (.string (rd_T35 xs (i : Int)).f0) ∧ W.cell? ⟨g, i * 3 + 1, none⟩ = some (.int .i64 (rd_T35 xs (i : Int)).f1) ∧ W.frozen? ⟨g, i * 3 + 1, none⟩ = false := by
  obtain ⟨⟨f, hf⟩, hlt⟩ := h
  have hn : n = xs.length := by have := (Kd.R_reads' hf).1; simpa using this
  subst hn
  obtain ⟨cs, hcl, hM, hcc, hcf⟩ := Kd.R_elem hf ((z35, 0) : S35 × Nat) (i : Int) (by omega) (by omega)
  have hx : xs.zipIdx.getD (Int.toNat (i : Int)) ((z35, 0) : S35 × Nat) = (rd_T35 xs (i : Int), i) := by
    rw [Int.toNat_natCast, List.getD_eq_getElem?_getD, List.getElem?_zipIdx, List.getElem?_eq_getElem hi, blobRd xs i hi]
    simp
  rw [hx] at hM
  obtain ⟨v2, rfl, hg2⟩ := k35_openM hM
  have h0 := hcc 0 _ rfl
  have h1 := hcc 1 _ rfl
  have f1 := hcf 1
  simp only [show (Kd.tag f k35).sz = 3 from rfl, Nat.add_zero, Int.toNat_natCast] at h0 h1 f1
  exact ⟨h0, h1, f1⟩
/-- What one act of the program leaves. -/
def impl_blobAct.Post (P1 : Nat → Prop) (r1 : List S35) (r2 : Int) (w ws : World) (e : Ending) (w' : World) : Prop := ∃ (v' : Value) (P1' : Nat → Prop), e = .returned (.tuple #[v', .int .i64 r2]) ∧ LS k35 35 w' w.heap.size P1' v' r1 ∧ (∀ k_, P1' k_ → P1 k_ ∨ ws.heap.size ≤ k_) ∧ Below w.heap.size w w' ∧ Kept ws w' P1
set_option maxHeartbeats 16000000 in
set_option maxRecDepth 100000 in
theorem impl_blobAct.own (P1 : Nat → Prop) (B1 : Option Addr) (D1 : Nat) (l0 : List S35) (a0 : Int) (A2 : Option Addr) (c2 : Nat) (l1 : List Int) (a2 : ByteArray) (r1 : List S35) (r2 : Int) (w ws : World) (hB : Below w.heap.size w ws) (h1 : LS k35 35 ws w.heap.size P1 (.slice B1 l0.length D1) l0) (hlen : l0.length ≤ 1000000) (hr2 : Kd.C (Kd.int .u8) w A2 l1.length l1) (hc2 : l1.length ≤ c2) (h : impl_blobAct.f l0 a0 l1 a2 = some (r1, r2)) :
    Calls Try.prog 35 #[.slice B1 l0.length D1, .agg #[.int .i64 a0, .slice A2 l1.length c2, .string a2]] ws fun e w' => impl_blobAct.Post P1 r1 r2 w ws e w' := by
  have hu := Try.underlying35
  have hu2 := Try.underlying61
  have HB := Aside0.mk hB
  have H1 := Aside0.mk h1
  have HR2 := Aside0.mk hr2
  have HC2 := Aside0.mk hc2
  have HLN := Aside0.mk hlen
  have HK := Aside0.mk (Kept.refl ws P1)
  have RR1 := Aside0.mk (show ∀ k_, P1 k_ → P1 k_ ∨ ws.heap.size ≤ k_ from fun _ hk => .inl hk)
  clear hB h1 hr2 hc2 hlen
  unfold impl_blobAct.f at h
  by_cases k1 : a0 = 1
  · rw [if_pos k1] at h
    have k1b : (a0 == 1) = true := beq_iff_eq.mpr k1
    clear k1
    by_cases c1 : (2000 : Int) < (l1.length : Int)
    · rw [if_pos c1] at h
      have cb1 : decide ((2000 : Int) < (l1.length : Int)) = true := decide_eq_true c1
      have cb2 : decide (2000 < l1.length) = true := decide_eq_true (by omega)
      clear c1
      simp only [Option.some.injEq, Prod.mk.injEq] at h
      obtain ⟨rfl, rfl⟩ := h
      go_enter Try.func35, Try.ntmps35
      go_wp2_with (first | ((with_reducible refine gate_dst (N := 3) rfl ?_); refine box_event ?hg_1 (N := 3) ?hd_1 (cs := #[.int .i64 a0, .slice A2 l1.length c2, .string a2]) (t := 61) ?hr_1 ?_; (case hd_1 => rfl); (case hg_1 => rfl); (case hr_1 => first | (go_simp; done) | (go_simp; rfl)); intro gX1 hg w2 hbox hb; have hk := kept_below hb; obtain ⟨PX1, hPX1, HLX1⟩ := LB.fresh hg hbox; have HX1 := Aside0.mk HLX1; clear HLX1; have GEX1 := Aside0.mk (show w.heap.size ≤ gX1 from (by rw [hg]; exact HB.out.size)); have D_1_X1 := Aside0.mk (new_apart H1.out.lt hPX1); have RRX1 := Aside0.mk (show ∀ k_, PX1 k_ → (P1) k_ ∨ ws.heap.size ≤ k_ from fun k_ h_ => .inr (Nat.le_trans HK.out.1 (hPX1 k_ h_).1)); replace H1 := Aside0.mk (H1.out.step hk no_S); replace HK := Aside0.mk (HK.out.then_ hk (fun _ h_ => h_.elim)); replace HB := Aside0.mk (below_step HB.out hb); clear hb hk hbox hg hPX1; (try clear hxX1_0 hfX1_0 hxX1_1 hfX1_1 hxX1_2 hfX1_2); have hxX1_0 := (HX1.out.cell 0).trans (show _ = some (.int .i64 a0) from rfl); have hfX1_0 := HX1.out.frozen 0; have hxX1_1 := (HX1.out.cell 1).trans (show _ = some (.slice A2 l1.length c2) from rfl); have hfX1_1 := HX1.out.frozen 1; have hxX1_2 := (HX1.out.cell 2).trans (show _ = some (.string a2) from rfl); have hfX1_2 := HX1.out.frozen 2))
      go_ret2
      exact ⟨_, _, rfl, H1.out, RR1.out, HB.out, HK.out⟩
    · rw [if_neg c1] at h
      have cb1 : decide ((2000 : Int) < (l1.length : Int)) = false := decide_eq_false c1
      have cb2 : decide (2000 < l1.length) = false := decide_eq_false (by omega)
      have E2 := Aside0.mk (show slices_Clone_byte_byte.f l1 = some l1 by unfold slices_Clone_byte_byte.f; exact if_pos (by omega))
      clear c1
      obtain ⟨key, e1, h⟩ := Option.bind_eq_some_iff.1 h
      have E1 := Aside0.mk e1
      have HH := Aside0.mk h
      clear e1 h
      go_enter Try.func35, Try.ntmps35
      go_wp2_with (first | ((with_reducible refine gate_dst (N := 3) rfl ?_); refine box_event ?hg_1 (N := 3) ?hd_1 (cs := #[.int .i64 a0, .slice A2 l1.length c2, .string a2]) (t := 61) ?hr_1 ?_; (case hd_1 => rfl); (case hg_1 => rfl); (case hr_1 => first | (go_simp; done) | (go_simp; rfl)); intro gX1 hg w2 hbox hb; have hk := kept_below hb; obtain ⟨PX1, hPX1, HLX1⟩ := LB.fresh hg hbox; have HX1 := Aside0.mk HLX1; clear HLX1; have GEX1 := Aside0.mk (show w.heap.size ≤ gX1 from (by rw [hg]; exact HB.out.size)); have D_1_X1 := Aside0.mk (new_apart H1.out.lt hPX1); have RRX1 := Aside0.mk (show ∀ k_, PX1 k_ → (P1) k_ ∨ ws.heap.size ≤ k_ from fun k_ h_ => .inr (Nat.le_trans HK.out.1 (hPX1 k_ h_).1)); replace H1 := Aside0.mk (H1.out.step hk no_S); replace HK := Aside0.mk (HK.out.then_ hk (fun _ h_ => h_.elim)); replace HB := Aside0.mk (below_step HB.out hb); clear hb hk hbox hg hPX1; (try clear hxX1_0 hfX1_0 hxX1_1 hfX1_1 hxX1_2 hfX1_2); have hxX1_0 := (HX1.out.cell 0).trans (show _ = some (.int .i64 a0) from rfl); have hfX1_0 := HX1.out.frozen 0; have hxX1_1 := (HX1.out.cell 1).trans (show _ = some (.slice A2 l1.length c2) from rfl); have hfX1_1 := HX1.out.frozen 1; have hxX1_2 := (HX1.out.cell 2).trans (show _ = some (.string a2) from rfl); have hfX1_2 := HX1.out.frozen 2) | ((with_reducible refine gate_callee (f := 8) rfl ?_); refine goesL_ (some 20) rfl rfl Try.func8 (by kernel_rfl) rfl #[.slice A2 l1.length c2] rfl (by (try simp only [List.map_toArray, List.map_cons, List.map_nil]); first | done | rfl | (simp only [List.length_drop, List.length_take]; rfl)) ?_; (with_reducible refine (impl_Sha.calls _ _ l1 key _ (Kd.C_below HR2.out HB.out) HC2.out E1.out).mono ?_); rintro e w2 ⟨rfl, hb⟩; refine ⟨_, rfl, ?_⟩; have hk := kept_below hb; replace H1 := Aside0.mk (H1.out.step hk no_S); replace HX1 := Aside0.mk (HX1.out.step hk no_S); replace HK := Aside0.mk (HK.out.then_ hk (fun _ h_ => h_.elim)); replace HB := Aside0.mk (below_step HB.out hb); clear hb hk; (try clear hxX1_0 hfX1_0 hxX1_1 hfX1_1 hxX1_2 hfX1_2); have hxX1_0 := (HX1.out.cell 0).trans (show _ = some (.int .i64 a0) from rfl); have hfX1_0 := HX1.out.frozen 0; have hxX1_1 := (HX1.out.cell 1).trans (show _ = some (.slice A2 l1.length c2) from rfl); have hfX1_1 := HX1.out.frozen 1; have hxX1_2 := (HX1.out.cell 2).trans (show _ = some (.string a2) from rfl); have hfX1_2 := HX1.out.frozen 2))
      go_loopg [23] (l0.length + 1) (fun kq v23 w' => ∃ i : Nat, v23 = .int .i64 (i : Int) ∧ Aside0 (i + kq = l0.length + 1) ∧ Aside0 (blobAtP (fun x => x.f0.toList == key.toList) l0 0 = blobAtP (fun x => x.f0.toList == key.toList) (l0.drop i) i) ∧ Aside0 (LS k35 35 w' w.heap.size P1 (.slice B1 l0.length D1) l0) ∧ Aside0 (LB w' PX1 gX1 61 #[.int .i64 a0, .slice A2 l1.length c2, .string a2]) ∧ Aside0 (Below w.heap.size w w') ∧ Aside0 (Kept ws w' P1))
      case atStart => exact ⟨0, rfl, ⟨by omega⟩, ⟨rfl⟩, H1, HX1, HB, HK⟩
      case round =>
        clear H1 HX1 HB HK
        try clear hxX1_0 hfX1_0 hxX1_1 hfX1_1 hxX1_2 hfX1_2
        obtain ⟨i, rfl, HI, HE, H1, HX1, HB, HK⟩ := hrel
        (try clear hxX1_0 hfX1_0 hxX1_1 hfX1_1 hxX1_2 hfX1_2)
        have hxX1_0 := (HX1.out.cell 0).trans (show _ = some (.int .i64 a0) from rfl)
        have hfX1_0 := HX1.out.frozen 0
        have hxX1_1 := (HX1.out.cell 1).trans (show _ = some (.slice A2 l1.length c2) from rfl)
        have hfX1_1 := HX1.out.frozen 1
        have hxX1_2 := (HX1.out.cell 2).trans (show _ = some (.string a2) from rfl)
        have hfX1_2 := HX1.out.frozen 2
        by_cases hi : i < l0.length
        · obtain ⟨k1, rfl⟩ : ∃ k_, gk = k_ + 1 := ⟨gk - 1, by have := HI.out; omega⟩
          have hlt : decide ((i : Int) < (l0.length : Int)) = true := decide_eq_true (by omega)
          have hltn : decide (i < l0.length) = true := decide_eq_true hi
          have hwi : wrap64 ((i : Int) + 1) = ((i + 1 : Nat) : Int) := by have := HLN.out; unfold wrap64; omega
          have HI2 := Aside0.mk hi
          obtain ⟨g, co, eo, gb, gl, cl, HG⟩ := Kd.S_form H1.out.1 (by omega)
          injection eo with ea_ en_ ec_
          subst ea_
          subst ec_
          have GB := Aside0.mk gb
          clear en_ gb gl HG cl
          obtain ⟨hx0, hx1, hf1⟩ := blobCells H1.out i hi
          have HS := Aside0.mk (blobAtP_step (fun x => x.f0.toList == key.toList) l0 i hi)
          have p1 := eq_true (show (0 : Int) ≤ (i : Int) by omega)
          have q1 := eq_true (show (i : Int) < (l0.length : Int) by omega)
          have p2 := hi
          cases hc : ((rd_T35 l0 (i : Int)).f0.toList == key.toList) with
          | true =>
            have hE : blobAtP (fun x => x.f0.toList == key.toList) l0 0 = some i := by rw [HE.out, HS.out]; exact if_pos (by exact hc)
            replace h := HH.out
            clear HH
            rw [hE] at h
            dsimp only at h
            clear hE
            simp only [Option.some.injEq, Prod.mk.injEq] at h
            obtain ⟨rfl, rfl⟩ := h
            go_wp2_with (first | ((with_reducible refine gate_store (t := 3) (p := 40) rfl ?_); obtain ⟨hs1_, hg2_, hp_⟩ := blobSet H1.out i HI2.out (wrap64 ((rd_T35 l0 (i : Int)).f1 + 1)); refine store_event (t := 3) (p := 40) (v := ?vo_s2) (w1 := World.setCell wr ⟨g, i * 3 + 1, none⟩ (.int .i64 (wrap64 ((rd_T35 l0 (i : Int)).f1 + 1)))) ?hg_s2 ?ho_s2 ?hn_s2 ?hr_s2 ?_; (case ho_s2 => rfl); (case hg_s2 => rfl); (case hn_s2 => rfl); (case hr_s2 => first | (go_simp; done) | (go_simp; rfl)); intro w13 hw; rw [← hw] at hs1_ hg2_; have hk := Kept.of_grown hg2_ (Kept.refl _ P1) (fun k_ h_ => .inl (by injection h_ with h_; rw [← h_]; exact hp_)); have n1_ := Aside0.mk (blobBelow HB.out hg2_ GB.out); replace HK := Aside0.mk (HK.out.then_ hk (fun _ h_ => .inl h_)); clear H1 HB hw hk hg2_; have H1 := Aside0.mk hs1_; have HB := n1_; clear n1_ hs1_))
            go_ret2
            exact ⟨_, _, rfl, H1.out, RR1.out, HB.out, HK.out⟩
          | false =>
            go_wp2
            go_roundg k1
            case measure => omega
            case rel => exact ⟨i + 1, by first | rfl | (simp only [hwi]) | simp, ⟨by have := HI.out; omega⟩, ⟨by rw [HE.out, HS.out]; exact if_neg (by rw [show ((rd_T35 l0 (i : Int)).f0.toList == key.toList) = false from hc]; simp)⟩, H1, HX1, HB, HK⟩
        · have hd : l0.drop i = [] := List.drop_eq_nil_of_le (by omega)
          have hlt : decide ((i : Int) < (l0.length : Int)) = false := decide_eq_false (by omega)
          have hltn : decide (i < l0.length) = false := decide_eq_false hi
          have hE : blobAtP (fun x => x.f0.toList == key.toList) l0 0 = none := by rw [HE.out, hd]; rfl
          replace h := HH.out
          clear HH
          rw [hE] at h
          dsimp only at h
          clear hd hE
          by_cases c6 : (l0.length : Int) = 60
          · rw [if_pos c6] at h
            have c6b : ((l0.length : Int) == 60) = true := beq_iff_eq.mpr c6
            have c6n : (l0.length == 60) = true := by first | simpa using c6 | (simp at c6 ⊢; omega)
            clear c6
            simp only [Option.some.injEq, Prod.mk.injEq] at h
            obtain ⟨rfl, rfl⟩ := h
            go_wp2
            go_ret2
            exact ⟨_, _, rfl, H1.out, RR1.out, HB.out, HK.out⟩
          · rw [if_neg c6] at h
            have c6b : ((l0.length : Int) == 60) = false := beq_eq_false_iff_ne.mpr c6
            have c6n : (l0.length == 60) = false := by first | simpa using c6 | (simp at c6 ⊢; omega)
            clear c6
            obtain ⟨y1, hy1⟩ : ∃ y_, y_ = l0 ++ [(⟨key, 1, l1⟩ : S35)] := ⟨_, rfl⟩
            rw [← hy1] at h
            have Ny1 := Aside0.mk hy1
            clear hy1
            simp only [Option.some.injEq, Prod.mk.injEq] at h
            obtain ⟨rfl, rfl⟩ := h
            go_wp2_with (first | ((with_reducible refine gate_callee (f := 27) rfl ?_); refine goesL_ (some 51) rfl rfl Try.func27 (by kernel_rfl) rfl #[.slice A2 l1.length c2] rfl (by (try simp only [List.map_toArray, List.map_cons, List.map_nil]); first | done | rfl | (simp only [List.length_drop, List.length_take]; rfl)) ?_; (with_reducible refine (slices_Clone_byte_byte.calls _ _ l1 l1 _ (Kd.C_below HR2.out HB.out) HC2.out E2.out).mono ?_); rintro e w2 ⟨vF2, rfl, hrF2, hb⟩; refine ⟨_, rfl, ?_⟩; have hk := kept_below hb; obtain ⟨PF2, hPF2, HLF2⟩ := LR.fresh rfl HB.out hrF2; have HF2 := Aside0.mk HLF2; clear HLF2 hrF2; have D_1_F2 := Aside0.mk (new_apart H1.out.lt hPF2); have D_X1_F2 := Aside0.mk (new_apart HX1.out.lt hPF2); have RRF2 := Aside0.mk (show ∀ k_, PF2 k_ → (P1) k_ ∨ ws.heap.size ≤ k_ from fun k_ h_ => .inr (Nat.le_trans HK.out.1 (hPF2 k_ h_).1)); replace H1 := Aside0.mk (H1.out.step hk no_S); replace HX1 := Aside0.mk (HX1.out.step hk no_S); replace HK := Aside0.mk (HK.out.then_ hk (fun _ h_ => h_.elim)); clear hPF2; obtain ⟨BF2, DF2, e_F2⟩ := HF2.out.val; subst e_F2; replace HB := Aside0.mk (below_step HB.out hb); clear hb hk; (try clear hxX1_0 hfX1_0 hxX1_1 hfX1_1 hxX1_2 hfX1_2); have hxX1_0 := (HX1.out.cell 0).trans (show _ = some (.int .i64 a0) from rfl); have hfX1_0 := HX1.out.frozen 0; have hxX1_1 := (HX1.out.cell 1).trans (show _ = some (.slice A2 l1.length c2) from rfl); have hfX1_1 := HX1.out.frozen 1; have hxX1_2 := (HX1.out.cell 2).trans (show _ = some (.string a2) from rfl); have hfX1_2 := HX1.out.frozen 2) | ((with_reducible refine gate_builtin (b := .append) (xs := #[.tmp 47, .tmp 53]) rfl ?_); at_builtin; refine LS.append1 k35 (w0 := w) rfl (.tmp 47) (.tmp 53) 30 35 (.agg #[.string ByteArray.empty, .int .i64 0, .slice none 0 0]) 48 rfl Try.underlying30 blobInfo rfl (by decide) (by omega) (.slice B1 l0.length D1) l0 (⟨key, 1, l1⟩ : S35) [.string key, .int .i64 1, .slice BF2 l1.length DF2] rfl rfl (by simp) H1.out (k35_mkM _ _ _ (⟨key, 1, l1⟩ : S35) HF2.out.1) D_1_F2.out HB.out ?aL_3 ?_; (case aL_3 => have := HLN.out; omega); intro PF3 v_ w2 HL hb hk hR; have D_X1_F3 := Aside0.mk (apart_app hR HX1.out.lt (apart_or (apart_symm D_1_X1.out) D_X1_F2.out)); have RRF3 := Aside0.mk (show ∀ k_, PF3 k_ → (P1) k_ ∨ ws.heap.size ≤ k_ from rr_app hR HK.out.1 (rr_or RR1.out RRF2.out)); replace HX1 := Aside0.mk (HX1.out.step hk (apart_symm D_1_X1.out)); replace HK := Aside0.mk (HK.out.then_ hk RR1.out); rw [← Ny1.out] at HL; have HF3 := Aside0.mk HL; replace HB := Aside0.mk hb; clear hR HL hb hk; clear H1; clear HF2; obtain ⟨BF3, DF3, e_F3⟩ := HF3.out.val; subst e_F3; (try clear hxX1_0 hfX1_0 hxX1_1 hfX1_1 hxX1_2 hfX1_2); have hxX1_0 := (HX1.out.cell 0).trans (show _ = some (.int .i64 a0) from rfl); have hfX1_0 := HX1.out.frozen 0; have hxX1_1 := (HX1.out.cell 1).trans (show _ = some (.slice A2 l1.length c2) from rfl); have hfX1_1 := HX1.out.frozen 1; have hxX1_2 := (HX1.out.cell 2).trans (show _ = some (.string a2) from rfl); have hfX1_2 := HX1.out.frozen 2))
            go_ret2
            exact ⟨_, _, rfl, HF3.out, RRF3.out, HB.out, HK.out⟩
  rw [if_neg k1] at h
  have k1b : (a0 == 1) = false := beq_eq_false_iff_ne.mpr k1
  by_cases k2 : a0 = 2
  · rw [if_pos k2] at h
    have k2b : (a0 == 2) = true := beq_iff_eq.mpr k2
    clear k1 k2
    have HH := Aside0.mk h
    clear h
    go_enter Try.func35, Try.ntmps35
    go_wp2_with (first | ((with_reducible refine gate_dst (N := 3) rfl ?_); refine box_event ?hg_1 (N := 3) ?hd_1 (cs := #[.int .i64 a0, .slice A2 l1.length c2, .string a2]) (t := 61) ?hr_1 ?_; (case hd_1 => rfl); (case hg_1 => rfl); (case hr_1 => first | (go_simp; done) | (go_simp; rfl)); intro gX1 hg w2 hbox hb; have hk := kept_below hb; obtain ⟨PX1, hPX1, HLX1⟩ := LB.fresh hg hbox; have HX1 := Aside0.mk HLX1; clear HLX1; have GEX1 := Aside0.mk (show w.heap.size ≤ gX1 from (by rw [hg]; exact HB.out.size)); have D_1_X1 := Aside0.mk (new_apart H1.out.lt hPX1); have RRX1 := Aside0.mk (show ∀ k_, PX1 k_ → (P1) k_ ∨ ws.heap.size ≤ k_ from fun k_ h_ => .inr (Nat.le_trans HK.out.1 (hPX1 k_ h_).1)); replace H1 := Aside0.mk (H1.out.step hk no_S); replace HK := Aside0.mk (HK.out.then_ hk (fun _ h_ => h_.elim)); replace HB := Aside0.mk (below_step HB.out hb); clear hb hk hbox hg hPX1; (try clear hxX1_0 hfX1_0 hxX1_1 hfX1_1 hxX1_2 hfX1_2); have hxX1_0 := (HX1.out.cell 0).trans (show _ = some (.int .i64 a0) from rfl); have hfX1_0 := HX1.out.frozen 0; have hxX1_1 := (HX1.out.cell 1).trans (show _ = some (.slice A2 l1.length c2) from rfl); have hfX1_1 := HX1.out.frozen 1; have hxX1_2 := (HX1.out.cell 2).trans (show _ = some (.string a2) from rfl); have hfX1_2 := HX1.out.frozen 2))
    go_loopg [59] (l0.length + 1) (fun kq v59 w' => ∃ i : Nat, v59 = .int .i64 (i : Int) ∧ Aside0 (i + kq = l0.length + 1) ∧ Aside0 (blobAtP (fun x => x.f0.toList == a2.toList && decide (0 < x.f1)) l0 0 = blobAtP (fun x => x.f0.toList == a2.toList && decide (0 < x.f1)) (l0.drop i) i) ∧ Aside0 (LS k35 35 w' w.heap.size P1 (.slice B1 l0.length D1) l0) ∧ Aside0 (LB w' PX1 gX1 61 #[.int .i64 a0, .slice A2 l1.length c2, .string a2]) ∧ Aside0 (Below w.heap.size w w') ∧ Aside0 (Kept ws w' P1))
    case atStart => exact ⟨0, rfl, ⟨by omega⟩, ⟨rfl⟩, H1, HX1, HB, HK⟩
    case round =>
      clear H1 HX1 HB HK
      try clear hxX1_0 hfX1_0 hxX1_1 hfX1_1 hxX1_2 hfX1_2
      obtain ⟨i, rfl, HI, HE, H1, HX1, HB, HK⟩ := hrel
      (try clear hxX1_0 hfX1_0 hxX1_1 hfX1_1 hxX1_2 hfX1_2)
      have hxX1_0 := (HX1.out.cell 0).trans (show _ = some (.int .i64 a0) from rfl)
      have hfX1_0 := HX1.out.frozen 0
      have hxX1_1 := (HX1.out.cell 1).trans (show _ = some (.slice A2 l1.length c2) from rfl)
      have hfX1_1 := HX1.out.frozen 1
      have hxX1_2 := (HX1.out.cell 2).trans (show _ = some (.string a2) from rfl)
      have hfX1_2 := HX1.out.frozen 2
      by_cases hi : i < l0.length
      · obtain ⟨k1, rfl⟩ : ∃ k_, gk = k_ + 1 := ⟨gk - 1, by have := HI.out; omega⟩
        have hlt : decide ((i : Int) < (l0.length : Int)) = true := decide_eq_true (by omega)
        have hltn : decide (i < l0.length) = true := decide_eq_true hi
        have hwi : wrap64 ((i : Int) + 1) = ((i + 1 : Nat) : Int) := by have := HLN.out; unfold wrap64; omega
        have HI2 := Aside0.mk hi
        obtain ⟨g, co, eo, gb, gl, cl, HG⟩ := Kd.S_form H1.out.1 (by omega)
        injection eo with ea_ en_ ec_
        subst ea_
        subst ec_
        have GB := Aside0.mk gb
        clear en_ gb gl HG cl
        obtain ⟨hx0, hx1, hf1⟩ := blobCells H1.out i hi
        have HS := Aside0.mk (blobAtP_step (fun x => x.f0.toList == a2.toList && decide (0 < x.f1)) l0 i hi)
        have p1 := eq_true (show (0 : Int) ≤ (i : Int) by omega)
        have q1 := eq_true (show (i : Int) < (l0.length : Int) by omega)
        have p2 := hi
        cases hc : ((rd_T35 l0 (i : Int)).f0.toList == a2.toList) with
        | false =>
          go_wp2
          go_quiet (fail)
          generalize hwd_ : World.drewN _ _ = wd_
          have hk := Kept.of_below (below_at hwd_ (Below.refl _ _)) (fun _ => False)
          replace H1 := Aside0.mk (H1.out.step hk no_S)
          replace HX1 := Aside0.mk (HX1.out.step hk no_S)
          replace HK := Aside0.mk (HK.out.then_ hk (fun _ h_ => h_.elim))
          replace HB := Aside0.mk (below_at hwd_ HB.out)
          clear hk hwd_
          go_wp2
          go_roundg k1
          case measure => omega
          case rel => exact ⟨i + 1, by first | rfl | (simp only [hwi]) | simp, ⟨by have := HI.out; omega⟩, ⟨by rw [HE.out, HS.out]; exact if_neg (by rw [show ((rd_T35 l0 (i : Int)).f0.toList == a2.toList) = false from hc]; simp)⟩, H1, HX1, HB, HK⟩
        | true =>
          cases hd2 : decide (0 < (rd_T35 l0 (i : Int)).f1) with
          | false =>
            go_wp2
            go_quiet (fail)
            generalize hwd_ : World.drewN _ _ = wd_
            have hk := Kept.of_below (below_at hwd_ (Below.refl _ _)) (fun _ => False)
            replace H1 := Aside0.mk (H1.out.step hk no_S)
            replace HX1 := Aside0.mk (HX1.out.step hk no_S)
            replace HK := Aside0.mk (HK.out.then_ hk (fun _ h_ => h_.elim))
            replace HB := Aside0.mk (below_at hwd_ HB.out)
            clear hk hwd_
            go_wp2
            go_roundg k1
            case measure => omega
            case rel => exact ⟨i + 1, by first | rfl | (simp only [hwi]) | simp, ⟨by have := HI.out; omega⟩, ⟨by rw [HE.out, HS.out]; exact if_neg (by rw [show ((rd_T35 l0 (i : Int)).f0.toList == a2.toList) = true from hc, show decide (0 < (rd_T35 l0 (i : Int)).f1) = false from hd2]; simp)⟩, H1, HX1, HB, HK⟩
          | true =>
            go_wp2
            go_quiet (fail)
            generalize hwd_ : World.drewN _ _ = wd_
            have hk := Kept.of_below (below_at hwd_ (Below.refl _ _)) (fun _ => False)
            replace H1 := Aside0.mk (H1.out.step hk no_S)
            replace HX1 := Aside0.mk (HX1.out.step hk no_S)
            replace HK := Aside0.mk (HK.out.then_ hk (fun _ h_ => h_.elim))
            replace HB := Aside0.mk (below_at hwd_ HB.out)
            clear hk hwd_
            obtain ⟨hx0, hx1, hf1⟩ := blobCells H1.out i hi
            have hE : blobAtP (fun x => x.f0.toList == a2.toList && decide (0 < x.f1)) l0 0 = some i := by rw [HE.out, HS.out]; exact if_pos (by rw [show ((rd_T35 l0 (i : Int)).f0.toList == a2.toList) = true from hc, show decide (0 < (rd_T35 l0 (i : Int)).f1) = true from hd2]; rfl)
            replace h := HH.out
            clear HH
            rw [hE] at h
            dsimp only at h
            clear hE
            simp only [Option.some.injEq, Prod.mk.injEq] at h
            obtain ⟨rfl, rfl⟩ := h
            go_wp2_with (first | ((with_reducible refine gate_store (t := 3) (p := 85) rfl ?_); obtain ⟨hs1_, hg2_, hp_⟩ := blobSet H1.out i HI2.out (wrap64 ((rd_T35 l0 (i : Int)).f1 - 1)); refine store_event (t := 3) (p := 85) (v := ?vo_s4) (w1 := World.setCell wd_ ⟨g, i * 3 + 1, none⟩ (.int .i64 (wrap64 ((rd_T35 l0 (i : Int)).f1 - 1)))) ?hg_s4 ?ho_s4 ?hn_s4 ?hr_s4 ?_; (case ho_s4 => rfl); (case hg_s4 => rfl); (case hn_s4 => rfl); (case hr_s4 => first | (go_simp; done) | (go_simp; rfl)); intro w13 hw; rw [← hw] at hs1_ hg2_; have hk := Kept.of_grown hg2_ (Kept.refl _ P1) (fun k_ h_ => .inl (by injection h_ with h_; rw [← h_]; exact hp_)); have n1_ := Aside0.mk (blobBelow HB.out hg2_ GB.out); replace HK := Aside0.mk (HK.out.then_ hk (fun _ h_ => .inl h_)); clear H1 HB hw hk hg2_; have H1 := Aside0.mk hs1_; have HB := n1_; clear n1_ hs1_))
            go_ret2
            exact ⟨_, _, rfl, H1.out, RR1.out, HB.out, HK.out⟩
      · have hd : l0.drop i = [] := List.drop_eq_nil_of_le (by omega)
        have hlt : decide ((i : Int) < (l0.length : Int)) = false := decide_eq_false (by omega)
        have hltn : decide (i < l0.length) = false := decide_eq_false hi
        have hE : blobAtP (fun x => x.f0.toList == a2.toList && decide (0 < x.f1)) l0 0 = none := by rw [HE.out, hd]; rfl
        replace h := HH.out
        clear HH
        rw [hE] at h
        dsimp only at h
        clear hd hE
        simp only [Option.some.injEq, Prod.mk.injEq] at h
        obtain ⟨rfl, rfl⟩ := h
        go_wp2
        go_ret2
        exact ⟨_, _, rfl, H1.out, RR1.out, HB.out, HK.out⟩
  rw [if_neg k2] at h
  have k2b : (a0 == 2) = false := beq_eq_false_iff_ne.mpr k2
  by_cases k3 : a0 = 3
  · rw [if_pos k3] at h
    have k3b : (a0 == 3) = true := beq_iff_eq.mpr k3
    clear k1 k2 k3
    simp only [Option.some.injEq, Prod.mk.injEq] at h
    obtain ⟨rfl, rfl⟩ := h
    go_enter Try.func35, Try.ntmps35
    go_wp2_with (first | ((with_reducible refine gate_dst (N := 3) rfl ?_); refine box_event ?hg_1 (N := 3) ?hd_1 (cs := #[.int .i64 a0, .slice A2 l1.length c2, .string a2]) (t := 61) ?hr_1 ?_; (case hd_1 => rfl); (case hg_1 => rfl); (case hr_1 => first | (go_simp; done) | (go_simp; rfl)); intro gX1 hg w2 hbox hb; have hk := kept_below hb; obtain ⟨PX1, hPX1, HLX1⟩ := LB.fresh hg hbox; have HX1 := Aside0.mk HLX1; clear HLX1; have GEX1 := Aside0.mk (show w.heap.size ≤ gX1 from (by rw [hg]; exact HB.out.size)); have D_1_X1 := Aside0.mk (new_apart H1.out.lt hPX1); have RRX1 := Aside0.mk (show ∀ k_, PX1 k_ → (P1) k_ ∨ ws.heap.size ≤ k_ from fun k_ h_ => .inr (Nat.le_trans HK.out.1 (hPX1 k_ h_).1)); replace H1 := Aside0.mk (H1.out.step hk no_S); replace HK := Aside0.mk (HK.out.then_ hk (fun _ h_ => h_.elim)); replace HB := Aside0.mk (below_step HB.out hb); clear hb hk hbox hg hPX1; (try clear hxX1_0 hfX1_0 hxX1_1 hfX1_1 hxX1_2 hfX1_2); have hxX1_0 := (HX1.out.cell 0).trans (show _ = some (.int .i64 a0) from rfl); have hfX1_0 := HX1.out.frozen 0; have hxX1_1 := (HX1.out.cell 1).trans (show _ = some (.slice A2 l1.length c2) from rfl); have hfX1_1 := HX1.out.frozen 1; have hxX1_2 := (HX1.out.cell 2).trans (show _ = some (.string a2) from rfl); have hfX1_2 := HX1.out.frozen 2) | ((with_reducible refine gate_callee (f := 55) rfl ?_); refine goesL_ (some 92) rfl rfl Try.func55 (by kernel_rfl) rfl #[.slice B1 l0.length D1, .func (.func 56) #[] #[]] rfl (by (try simp only [List.map_toArray, List.map_cons, List.map_nil]); first | done | rfl) ?_; (with_reducible refine (blobDel P1 _ _ l0 _ _ HB.out H1.out HLN.out).mono ?_); rintro e w2 ⟨v9, rfl, h1_, hb_, hk_⟩; refine ⟨_, rfl, ?_⟩; replace HB := Aside0.mk hb_; replace HK := Aside0.mk (HK.out.then_ hk_ (fun _ h_ => .inl h_)); clear H1 hb_ hk_; have H1 := Aside0.mk h1_; clear h1_))
    go_ret2
    exact ⟨_, _, rfl, H1.out, RR1.out, HB.out, HK.out⟩
  rw [if_neg k3] at h
  have k3b : (a0 == 3) = false := beq_eq_false_iff_ne.mpr k3
  clear k1 k2 k3
  simp only [Option.some.injEq, Prod.mk.injEq] at h
  obtain ⟨rfl, rfl⟩ := h
  go_enter Try.func35, Try.ntmps35
  go_wp2_with (first | ((with_reducible refine gate_dst (N := 3) rfl ?_); refine box_event ?hg_1 (N := 3) ?hd_1 (cs := #[.int .i64 a0, .slice A2 l1.length c2, .string a2]) (t := 61) ?hr_1 ?_; (case hd_1 => rfl); (case hg_1 => rfl); (case hr_1 => first | (go_simp; done) | (go_simp; rfl)); intro gX1 hg w2 hbox hb; have hk := kept_below hb; obtain ⟨PX1, hPX1, HLX1⟩ := LB.fresh hg hbox; have HX1 := Aside0.mk HLX1; clear HLX1; have GEX1 := Aside0.mk (show w.heap.size ≤ gX1 from (by rw [hg]; exact HB.out.size)); have D_1_X1 := Aside0.mk (new_apart H1.out.lt hPX1); have RRX1 := Aside0.mk (show ∀ k_, PX1 k_ → (P1) k_ ∨ ws.heap.size ≤ k_ from fun k_ h_ => .inr (Nat.le_trans HK.out.1 (hPX1 k_ h_).1)); replace H1 := Aside0.mk (H1.out.step hk no_S); replace HK := Aside0.mk (HK.out.then_ hk (fun _ h_ => h_.elim)); replace HB := Aside0.mk (below_step HB.out hb); clear hb hk hbox hg hPX1; (try clear hxX1_0 hfX1_0 hxX1_1 hfX1_1 hxX1_2 hfX1_2); have hxX1_0 := (HX1.out.cell 0).trans (show _ = some (.int .i64 a0) from rfl); have hfX1_0 := HX1.out.frozen 0; have hxX1_1 := (HX1.out.cell 1).trans (show _ = some (.slice A2 l1.length c2) from rfl); have hfX1_1 := HX1.out.frozen 1; have hxX1_2 := (HX1.out.cell 2).trans (show _ = some (.string a2) from rfl); have hfX1_2 := HX1.out.frozen 2))
  go_ret2
  exact ⟨_, _, rfl, H1.out, RR1.out, HB.out, HK.out⟩
end
section
open Go.Proofs.Ytcgkfijigjcmpaa.Lawful
/-! ### impl_BlobRun: function 11, by hand -/
def impl_BlobRun.l0 : Nat → List S61 → Int → List Int → List S35 → Option (List Int × List S35 × Int)
  | 0, _, _, _, _ => none
  | k + 1, x0, i, c, s => if i < (x0.length : Int) then (if 0 ≤ i then ((if s.length ≤ 1000000 then impl_blobAct.f s (rd_T61 x0 i).f0 (rd_T61 x0 i).f1 (rd_T61 x0 i).f2 else none).bind fun t => (if c.length < 17592186044416 then (impl_BlobRun.l0 k x0 (wrap64 (i + 1)) (c ++ [t.2]) t.1) else none)) else none) else some (c, s, 0)
def impl_BlobRun.f (k : Nat) (l0 : List S61) : Option (List Int × List S35 × Int) := (impl_longList.f (l0.length : Int)).bind fun t1 => (impl_unless.f (decide ((l0.length : Int) ≤ 200)) 7).bind fun t2 => (impl_first.f k [t1, t2]).bind fun t3 => (if t3 = 0 then impl_BlobRun.l0 k l0 0 [] [] else some ([], [], t3))
set_option maxHeartbeats 16000000 in
set_option maxRecDepth 100000 in
theorem impl_BlobRun.own (k : Nat) (A0 : Option Addr) (c0 : Nat) (l0 : List S61) (r1 : List Int) (r2 : List S35) (r3 : Int) (w : World) (hr0 : Kd.C k61 w A0 l0.length l0) (hc0 : l0.length ≤ c0) (h : impl_BlobRun.f k l0 = some (r1, r2, r3)) :
    Calls Try.prog 11 #[.slice A0 l0.length c0] w fun e w' => ∃ v0_ v1_ : Value, e = .returned (.tuple #[v0_, v1_, .int .i64 r3]) ∧ Kd.R (Kd.int .i64) 3 w' w.heap.size (fun k_ => (w.heap.size ≤ k_)) v0_ r1 ∧ Kd.S k35 35 w' w.heap.size (fun k_ => (w.heap.size ≤ k_) ∧ some k_ ≠ (v0_ : Value).ownBlock) v1_ r2 ∧ Below w.heap.size w w' := by
  have hu := Try.underlying61
  have HB := Aside0.mk (Below.refl w.heap.size w)
  have HR0 := Aside0.mk hr0
  have HC0 := Aside0.mk hc0
  unfold impl_BlobRun.f at h
  obtain ⟨t1, e1, h⟩ := Option.bind_eq_some_iff.1 h
  obtain ⟨t2, e2, h⟩ := Option.bind_eq_some_iff.1 h
  obtain ⟨y1, hy1⟩ : ∃ y_ : List Int, y_ = [t1, t2] := ⟨_, rfl⟩
  rw [← hy1] at h
  obtain ⟨t3, e3, h⟩ := Option.bind_eq_some_iff.1 h
  have E1 := Aside0.mk e1
  have E2 := Aside0.mk e2
  have E3 := Aside0.mk e3
  have Ny1 := Aside0.mk hy1
  clear e1 e2 e3 hy1 hr0 hc0
  by_cases c : t3 = 0
  · rw [if_pos c] at h
    have cb : (t3 == 0) = true := beq_iff_eq.mpr c
    have cb2 : (t3 != 0) = false := bne_eq_false_iff_eq.mpr c
    clear c
    obtain ⟨y2, hy2⟩ : ∃ y_ : List Int, y_ = [] := ⟨_, rfl⟩
    obtain ⟨y0, hy0⟩ : ∃ y_ : List S35, y_ = [] := ⟨_, rfl⟩
    have Ny2 := Aside0.mk hy2
    have Ny0 := Aside0.mk hy0
    have H' := Aside0.mk (show impl_BlobRun.l0 k l0 0 y2 y0 = some (r1, r2, r3) from by rw [hy2, hy0]; exact h)
    clear h hy2 hy0
    go_enter Try.func11, Try.ntmps11
    go_wp2_with (first | ((with_reducible refine gate_callee (f := 33) rfl ?_); refine goesL_ (some 14) rfl rfl Try.func33 (by kernel_rfl) rfl #[.int .i64 (l0.length : Int)] rfl (by (try simp only [List.map_toArray, List.map_cons, List.map_nil]); first | done | rfl | (simp only [List.length_drop, List.length_take]; rfl)) ?_; (with_reducible refine (impl_longList.calls (l0.length : Int) t1 _ E1.out).mono ?_); rintro e w2 ⟨rfl, hq⟩; refine ⟨_, rfl, ?_⟩; have hk := kept_drawn hq; replace HB := Aside0.mk (below_drawn HB.out hq); clear hk hq) | ((with_reducible refine gate_callee (f := 34) rfl ?_); refine goesL_ (some 18) rfl rfl Try.func34 (by kernel_rfl) rfl #[.bool (decide ((l0.length : Int) ≤ 200)), .int .i64 7] rfl (by (try simp only [List.map_toArray, List.map_cons, List.map_nil]); first | done | rfl | (simp only [List.length_drop, List.length_take]; rfl)) ?_; (with_reducible refine (impl_unless.calls (decide ((l0.length : Int) ≤ 200)) 7 t2 _ E2.out).mono ?_); rintro e w2 ⟨rfl, hq⟩; refine ⟨_, rfl, ?_⟩; have hk := kept_drawn hq; replace HB := Aside0.mk (below_drawn HB.out hq); clear hk hq) | ((with_reducible refine gate_dst (N := 19) rfl ?_); refine Kd.R_lit (Kd.int .i64) _ 3 ?hg_1 (N := 19) ?hd_1 (xs := ([t1, t2] : List Int)) (inner := [.int .i64 t1, .int .i64 t2]) (ok := fun _ => True) (okp := fun _ => True) ?hr_1 ?hp_1 (fun _ hk => hk) trivial (Below.refl _ _) (Nat.le_refl _) (by simp) ?_; (case hd_1 => rfl); (case hg_1 => rfl); (case hr_1 => first | (go_simp; done) | (go_simp; rfl)); (case hp_1 => exact ⟨rfl, fun j p hj => by match j with | 0 => (obtain rfl := Option.some.inj hj; rfl) | 1 => (obtain rfl := Option.some.inj hj; rfl) | _ + 2 => (simp at hj)⟩); intro vF1 w2 hrF1 hb hg_ hnew_; clear hg_ hnew_; rw [← Ny1.out] at hrF1; have hk := kept_below hb; obtain ⟨PF1, hPF1, HLF1⟩ := LR.fresh rfl HB.out hrF1; have HF1 := Aside0.mk HLF1; clear HLF1 hrF1; clear hPF1; obtain ⟨BF1, DF1, e_F1⟩ := HF1.out.val; subst e_F1; replace HB := Aside0.mk (below_step HB.out hb); clear hb hk) | ((with_reducible refine gate_callee (f := 32) rfl ?_); refine goesL_ (some 20) rfl rfl Try.func32 (by kernel_rfl) rfl #[.slice BF1 y1.length DF1] rfl (by (try simp only [List.map_toArray, List.map_cons, List.map_nil]); first | done | rfl | (simp only [List.length_drop, List.length_take]; rfl)) ?_; (with_reducible refine (impl_first.calls k _ _ y1 t3 _ HF1.out.reads HF1.out.room E3.out).mono ?_); rintro e w2 ⟨rfl, hq⟩; refine ⟨_, rfl, ?_⟩; have hk := kept_drawn hq; replace HF1 := Aside0.mk (HF1.out.step hk no_S); replace HB := Aside0.mk (below_drawn HB.out hq); clear hk hq) | ((with_reducible refine gate_dst (N := 24) rfl ?_); refine Kd.S_lit k35 _ 35 ?hg_2 (N := 24) ?hd_2 (xs := ([] : List S35)) (inner := []) (ok := fun _ => True) (okp := fun _ => True) ?hr_2 ?hp_2 (fun _ hk => hk) trivial (Below.refl _ _) (Nat.le_refl _) (by simp) ?_; (case hd_2 => rfl); (case hg_2 => rfl); (case hr_2 => first | (go_simp; done) | (go_simp; rfl)); (case hp_2 => exact (Reps.none _ _)); intro vF2 w2 hrF2 hb hg_ hnew_; clear hg_ hnew_; rw [← Ny0.out] at hrF2; have hk := kept_below hb; obtain ⟨PF2, hPF2, HLF2⟩ := LS.fresh HB.out hrF2; have HF2 := Aside0.mk HLF2; clear HLF2 hrF2; have D_F1_F2 := Aside0.mk (new_apart HF1.out.lt hPF2); replace HF1 := Aside0.mk (HF1.out.step hk no_S); clear hPF2; obtain ⟨BF2, DF2, e_F2⟩ := HF2.out.val; subst e_F2; replace HB := Aside0.mk (below_step HB.out hb); clear hb hk) | ((with_reducible refine gate_dst (N := 25) rfl ?_); refine Kd.R_lit (Kd.int .i64) _ 3 ?hg_3 (N := 25) ?hd_3 (xs := ([] : List Int)) (inner := []) (ok := fun _ => True) (okp := fun _ => True) ?hr_3 ?hp_3 (fun _ hk => hk) trivial (Below.refl _ _) (Nat.le_refl _) (by simp) ?_; (case hd_3 => rfl); (case hg_3 => rfl); (case hr_3 => first | (go_simp; done) | (go_simp; rfl)); (case hp_3 => exact (Reps.none _ _)); intro vF3 w2 hrF3 hb hg_ hnew_; clear hg_ hnew_; rw [← Ny2.out] at hrF3; have hk := kept_below hb; obtain ⟨PF3, hPF3, HLF3⟩ := LR.fresh rfl HB.out hrF3; have HF3 := Aside0.mk HLF3; clear HLF3 hrF3; have D_F1_F3 := Aside0.mk (new_apart HF1.out.lt hPF3); have D_F2_F3 := Aside0.mk (new_apart HF2.out.lt hPF3); replace HF1 := Aside0.mk (HF1.out.step hk no_S); replace HF2 := Aside0.mk (HF2.out.step hk no_S); clear hPF3; obtain ⟨BF3, DF3, e_F3⟩ := HF3.out.val; subst e_F3; replace HB := Aside0.mk (below_step HB.out hb); clear hb hk))
    go_loopg [6, 7, 28] k (fun kq v6 v7 v28 w' => ∃ (x7 : List Int) (i : Int) (s : List S35) (P7 Pq : Nat → Prop), v28 = .int .i64 i ∧ Aside0 (impl_BlobRun.l0 kq l0 i x7 s = some (r1, r2, r3)) ∧ Aside0 (kq ≤ k) ∧ Aside0 (LR (Kd.int .i64) 3 w' w.heap.size P7 v7 x7) ∧ Aside0 (LS k35 35 w' w.heap.size Pq v6 s) ∧ Aside0 (∀ k_, P7 k_ → ¬ Pq k_) ∧ Aside0 (Below w.heap.size w w'))
    case atStart => exact ⟨y2, 0, y0, PF3, PF2, rfl, H', ⟨Nat.le_refl _⟩, HF3, HF2, ⟨(apart_symm D_F2_F3.out)⟩, HB⟩
    case round =>
      clear H' HB HF1 HF2 HF3
      obtain ⟨x7, i, s, P7, Pq, rfl, HA, HK1, H7, Hq, D_7_q, HB⟩ := hrel
      cases gk with
      | zero => exact absurd HA.out (by simp [impl_BlobRun.l0])
      | succ k1 =>
        have H := HA.out
        clear HA
        simp only [impl_BlobRun.l0] at H
        obtain ⟨B7, D7, e_7⟩ := H7.out.val
        subst e_7
        obtain ⟨Bq, Dq, e_q⟩ := Hq.out.val
        subst e_q
        by_cases c1 : i < (l0.length : Int)
        · rw [if_pos c1] at H
          have cb1 : decide (i < (l0.length : Int)) = true := decide_eq_true c1
          by_cases c2 : 0 ≤ i
          · rw [if_pos c2] at H
            have cb2 : decide (0 ≤ i) = true := decide_eq_true c2
            obtain ⟨adx, A2, c3, ex, hx0, hx1, hx2, hl3, hi3⟩ := at_T61 HR0.out i c2 c1
            cases ex
            obtain ⟨z, hz⟩ : ∃ z, z = rd_T61 l0 i := ⟨_, rfl⟩
            rw [← hz] at H hx0 hx1 hx2 hl3 hi3
            replace hx0 := (HB.out.cell (World.block_lt_of_cell? w _ hx0)).trans hx0
            replace hx1 := (HB.out.cell (World.block_lt_of_cell? w _ hx1)).trans hx1
            replace hx2 := (HB.out.cell (World.block_lt_of_cell? w _ hx2)).trans hx2
            have HIX := Aside0.mk hi3
            have HLX := Aside0.mk hl3
            clear hi3 hl3 hz
            replace c1 := eq_true c1
            replace c2 := eq_true c2
            obtain ⟨⟨t1, t2⟩, e1, H⟩ := Option.bind_eq_some_iff.1 H
            by_cases c5 : s.length ≤ 1000000
            · rw [if_pos c5] at e1
              have HLN := Aside0.mk c5
              have E1 := Aside0.mk e1
              clear e1 c5
              simp only at H
              by_cases c4 : x7.length < 17592186044416
              · rw [if_pos c4] at H
                have LM4 := Aside0.mk c4
                clear c4
                obtain ⟨y3, hy3⟩ : ∃ y_ : List Int, y_ = x7 ++ [t2] := ⟨_, rfl⟩
                rw [← hy3] at H
                have Ny3 := Aside0.mk hy3
                have H' := Aside0.mk H
                clear H hy3
                go_wp2_with (first | ((with_reducible refine gate_dst (N := 9) rfl ?_); refine box_event ?hg_4 (N := 9) ?hd_4 (cs := #[.int .i64 0, .slice none 0 0, .string ByteArray.empty]) (t := 61) ?hr_4 ?_; (case hd_4 => rfl); (case hg_4 => rfl); (case hr_4 => first | (go_simp; done) | (go_simp; rfl)); intro gX4 hg w2 hbox hb; have hk := kept_below hb; obtain ⟨PX4, hPX4, HLX4⟩ := LB.fresh hg hbox; have HX4 := Aside0.mk HLX4; clear HLX4; have GEX4 := Aside0.mk (show w.heap.size ≤ gX4 from (by rw [hg]; exact HB.out.size)); have D_7_X4 := Aside0.mk (new_apart H7.out.lt hPX4); have D_q_X4 := Aside0.mk (new_apart Hq.out.lt hPX4); replace H7 := Aside0.mk (H7.out.step hk no_S); replace Hq := Aside0.mk (Hq.out.step hk no_S); replace HB := Aside0.mk (below_step HB.out hb); clear hb hk hbox hg hPX4; (try clear hxX4_0 hfX4_0 hxX4_1 hfX4_1 hxX4_2 hfX4_2); have hxX4_0 := (HX4.out.cell 0).trans (show _ = some (.int .i64 0) from rfl); have hfX4_0 := HX4.out.frozen 0; have hxX4_1 := (HX4.out.cell 1).trans (show _ = some (.slice none 0 0) from rfl); have hfX4_1 := HX4.out.frozen 1; have hxX4_2 := (HX4.out.cell 2).trans (show _ = some (.string ByteArray.empty) from rfl); have hfX4_2 := HX4.out.frozen 2) | ((with_reducible refine gate_store (t := 61) (p := 9) rfl ?_); refine LB.storedW HX4.out HB.out GEX4.out [.int .i64 z.f0, .slice A2 z.f1.length c3, .string z.f2] rfl rfl (t := 61) (p := 9) rfl rfl ?hr_5 ?_; (case hr_5 => first | (go_simp; done) | (go_simp; simp only [World.setCells, Nat.reduceAdd, Nat.zero_add]; done)); intro w2 hx hk hb; replace H7 := Aside0.mk (H7.out.step hk D_7_X4.out); replace Hq := Aside0.mk (Hq.out.step hk D_q_X4.out); replace HB := Aside0.mk hb; replace HX4 := Aside0.mk (show LB w2 PX4 gX4 61 #[.int .i64 z.f0, .slice A2 z.f1.length c3, .string z.f2] from hx); clear hk hx hb; (try clear hxX4_0 hfX4_0 hxX4_1 hfX4_1 hxX4_2 hfX4_2); have hxX4_0 := (HX4.out.cell 0).trans (show _ = some (.int .i64 z.f0) from rfl); have hfX4_0 := HX4.out.frozen 0; have hxX4_1 := (HX4.out.cell 1).trans (show _ = some (.slice A2 z.f1.length c3) from rfl); have hfX4_1 := HX4.out.frozen 1; have hxX4_2 := (HX4.out.cell 2).trans (show _ = some (.string z.f2) from rfl); have hfX4_2 := HX4.out.frozen 2) | ((with_reducible refine gate_callee (f := 35) rfl ?_); refine goesL_ (some 35) rfl rfl Try.func35 (by kernel_rfl) rfl #[.slice Bq s.length Dq, .agg #[.int .i64 z.f0, .slice A2 z.f1.length c3, .string z.f2]] rfl (by (try simp only [List.map_toArray, List.map_cons, List.map_nil]); first | done | rfl) ?_; (with_reducible refine (impl_blobAct.own Pq Bq Dq s z.f0 A2 c3 z.f1 z.f2 t1 t2 w _ HB.out Hq.out HLN.out HIX.out HLX.out E1.out).mono ?_); rintro e w2 ⟨v5, Q5, rfl, h5, rr5, hb, hk⟩; refine ⟨_, rfl, ?_⟩; have D_7_5 := Aside0.mk (apart_app rr5 H7.out.lt D_7_q.out); have D_X4_5 := Aside0.mk (apart_app rr5 HX4.out.lt (apart_symm D_q_X4.out)); replace H7 := Aside0.mk (H7.out.step hk D_7_q.out); replace HX4 := Aside0.mk (HX4.out.step hk (apart_symm D_q_X4.out)); have H5 := Aside0.mk h5; replace HB := Aside0.mk hb; clear h5 rr5 hb hk Hq; obtain ⟨B5, D5, e_5⟩ := H5.out.val; subst e_5; (try clear hxX4_0 hfX4_0 hxX4_1 hfX4_1 hxX4_2 hfX4_2); have hxX4_0 := (HX4.out.cell 0).trans (show _ = some (.int .i64 z.f0) from rfl); have hfX4_0 := HX4.out.frozen 0; have hxX4_1 := (HX4.out.cell 1).trans (show _ = some (.slice A2 z.f1.length c3) from rfl); have hfX4_1 := HX4.out.frozen 1; have hxX4_2 := (HX4.out.cell 2).trans (show _ = some (.string z.f2) from rfl); have hfX4_2 := HX4.out.frozen 2) | ((with_reducible refine gate_builtin (b := .append) (xs := #[.tmp 39, .tmp 41]) rfl ?_); at_builtin; refine LR.append1 (Kd.int .i64) (w0 := w) rfl (.tmp 39) (.tmp 41) 29 3 (.int .i64 0) 8 rfl Try.underlying29 info3 rfl (by decide) (by omega) (.slice B7 x7.length D7) x7 t2 [.int .i64 t2] rfl rfl (by simp) H7.out rfl (fun _ _ h_ => h_) HB.out ?aL_6 ?_; (case aL_6 => have := LM4.out; omega); intro PF5 v_ w2 HL hb hk hR; have D_X4_F5 := Aside0.mk (apart_app hR HX4.out.lt (apart_symm D_7_X4.out)); have D_5_F5 := Aside0.mk (apart_app hR H5.out.lt (apart_symm D_7_5.out)); replace HX4 := Aside0.mk (HX4.out.step hk (apart_symm D_7_X4.out)); replace H5 := Aside0.mk (H5.out.step hk (apart_symm D_7_5.out)); rw [← Ny3.out] at HL; have HF5 := Aside0.mk HL; replace HB := Aside0.mk hb; clear hR HL hb hk; clear H7; obtain ⟨BF5, DF5, e_F5⟩ := HF5.out.val; subst e_F5; (try clear hxX4_0 hfX4_0 hxX4_1 hfX4_1 hxX4_2 hfX4_2); have hxX4_0 := (HX4.out.cell 0).trans (show _ = some (.int .i64 z.f0) from rfl); have hfX4_0 := HX4.out.frozen 0; have hxX4_1 := (HX4.out.cell 1).trans (show _ = some (.slice A2 z.f1.length c3) from rfl); have hfX4_1 := HX4.out.frozen 1; have hxX4_2 := (HX4.out.cell 2).trans (show _ = some (.string z.f2) from rfl); have hfX4_2 := HX4.out.frozen 2))
                go_roundg k1
                case measure => have := HK1.out; omega
                case rel => exact ⟨y3, wrap64 (i + 1), t1, PF5, Q5, by first | rfl | simp, H', ⟨by have := HK1.out; omega⟩, HF5, H5, ⟨(apart_symm D_5_F5.out)⟩, HB⟩
              · rw [if_neg c4] at H
                exact absurd H (by simp)
            · rw [if_neg c5] at e1
              exact absurd e1 (by simp)
          · rw [if_neg c2] at H
            exact absurd H (by simp)
        · rw [if_neg c1] at H
          have cb1 : decide (i < (l0.length : Int)) = false := decide_eq_false c1
          clear c1
          simp only [Option.some.injEq, Prod.mk.injEq] at H
          obtain ⟨rfl, rfl, rfl⟩ := H
          go_wp2
          go_ret3
          exact ⟨_, _, rfl, LR.out H7.out, LS.out Hq.out H7.out.1.1 D_7_q.out, HB.out⟩
  · rw [if_neg c] at h
    have cb : (t3 == 0) = false := beq_eq_false_iff_ne.mpr c
    have cb2 : (t3 != 0) = true := bne_iff_ne.mpr c
    clear c
    simp only [Option.some.injEq, Prod.mk.injEq] at h
    obtain ⟨rfl, rfl, rfl⟩ := h
    go_enter Try.func11, Try.ntmps11
    go_wp2_with (first | ((with_reducible refine gate_callee (f := 33) rfl ?_); refine goesL_ (some 14) rfl rfl Try.func33 (by kernel_rfl) rfl #[.int .i64 (l0.length : Int)] rfl (by (try simp only [List.map_toArray, List.map_cons, List.map_nil]); first | done | rfl | (simp only [List.length_drop, List.length_take]; rfl)) ?_; (with_reducible refine (impl_longList.calls (l0.length : Int) t1 _ E1.out).mono ?_); rintro e w2 ⟨rfl, hq⟩; refine ⟨_, rfl, ?_⟩; have hk := kept_drawn hq; replace HB := Aside0.mk (below_drawn HB.out hq); clear hk hq) | ((with_reducible refine gate_callee (f := 34) rfl ?_); refine goesL_ (some 18) rfl rfl Try.func34 (by kernel_rfl) rfl #[.bool (decide ((l0.length : Int) ≤ 200)), .int .i64 7] rfl (by (try simp only [List.map_toArray, List.map_cons, List.map_nil]); first | done | rfl | (simp only [List.length_drop, List.length_take]; rfl)) ?_; (with_reducible refine (impl_unless.calls (decide ((l0.length : Int) ≤ 200)) 7 t2 _ E2.out).mono ?_); rintro e w2 ⟨rfl, hq⟩; refine ⟨_, rfl, ?_⟩; have hk := kept_drawn hq; replace HB := Aside0.mk (below_drawn HB.out hq); clear hk hq) | ((with_reducible refine gate_dst (N := 19) rfl ?_); refine Kd.R_lit (Kd.int .i64) _ 3 ?hg_7 (N := 19) ?hd_7 (xs := ([t1, t2] : List Int)) (inner := [.int .i64 t1, .int .i64 t2]) (ok := fun _ => True) (okp := fun _ => True) ?hr_7 ?hp_7 (fun _ hk => hk) trivial (Below.refl _ _) (Nat.le_refl _) (by simp) ?_; (case hd_7 => rfl); (case hg_7 => rfl); (case hr_7 => first | (go_simp; done) | (go_simp; rfl)); (case hp_7 => exact ⟨rfl, fun j p hj => by match j with | 0 => (obtain rfl := Option.some.inj hj; rfl) | 1 => (obtain rfl := Option.some.inj hj; rfl) | _ + 2 => (simp at hj)⟩); intro vF6 w2 hrF6 hb hg_ hnew_; clear hg_ hnew_; rw [← Ny1.out] at hrF6; have hk := kept_below hb; obtain ⟨PF6, hPF6, HLF6⟩ := LR.fresh rfl HB.out hrF6; have HF6 := Aside0.mk HLF6; clear HLF6 hrF6; clear hPF6; obtain ⟨BF6, DF6, e_F6⟩ := HF6.out.val; subst e_F6; replace HB := Aside0.mk (below_step HB.out hb); clear hb hk) | ((with_reducible refine gate_callee (f := 32) rfl ?_); refine goesL_ (some 20) rfl rfl Try.func32 (by kernel_rfl) rfl #[.slice BF6 y1.length DF6] rfl (by (try simp only [List.map_toArray, List.map_cons, List.map_nil]); first | done | rfl | (simp only [List.length_drop, List.length_take]; rfl)) ?_; (with_reducible refine (impl_first.calls k _ _ y1 t3 _ HF6.out.reads HF6.out.room E3.out).mono ?_); rintro e w2 ⟨rfl, hq⟩; refine ⟨_, rfl, ?_⟩; have hk := kept_drawn hq; replace HF6 := Aside0.mk (HF6.out.step hk no_S); replace HB := Aside0.mk (below_drawn HB.out hq); clear hk hq))
    go_ret3
    exact ⟨_, _, rfl, Kd.R_nil _ _ _ _ _, Kd.S_nil _ _ _ _ _, HB.out⟩
end
section
open Go.Proofs.Ytcgkfijigjcmpaa.Lawful
/-- One act of the reference. -/
def spec_l04Act.f (k : Nat) (l0 : List S35) (a0 : Int) (l1 : List Int) (a2 : ByteArray) : Option (List S35 × Int) :=
  if a0 = 1 then
    if (2000 : Int) < (l1.length : Int) then some (l0, 14)
    else (spec_l04Sha.f k l1).bind fun key => (spec_l04Find.f k l0 key).bind fun t =>
      if 0 ≤ t then (if t < (l0.length : Int) then some (blobPut l0 t.toNat (wrap64 ((rd_T35 l0 t).f1 + 1)), 0) else none)
      else if (l0.length : Int) = 60 then some (l0, 7) else some (l0 ++ [⟨key, 1, l1⟩], 0)
  else if a0 = 2 then (spec_l04Find.f k l0 a2).bind fun t =>
    if t < 0 then some (l0, 6)
    else if t < (l0.length : Int) then (if (rd_T35 l0 t).f1 = 0 then some (l0, 6) else some (blobPut l0 t.toNat (wrap64 ((rd_T35 l0 t).f1 - 1)), 0)) else none
  else if a0 = 3 then some (l0.filter (fun x => decide (0 < x.f1)), 0)
  else some (l0, 3)
theorem blobTake (q : S35 × Nat → Bool) (l : List S35) (j : Nat) (hj : j < l.length) : (l.zipIdx.take (j + 1)).filter q = (l.zipIdx.take j).filter q ++ (if q (rd_T35 l (j : Int), j) = true then [(rd_T35 l (j : Int), j)] else []) := by
  have hz : j < l.zipIdx.length := by simp; exact hj
  have hk : l.zipIdx[j] = (rd_T35 l (j : Int), j) := by rw [List.getElem_zipIdx, blobRd l j hj]; simp
  rw [List.take_succ_eq_append_getElem hz, List.filter_append, hk]
  by_cases h : q (rd_T35 l (j : Int), j) = true
  · rw [if_pos h, List.filter_cons_of_pos h]; rfl
  · rw [if_neg h, List.filter_cons_of_neg h]; rfl
theorem blobFst (q : S35 → Bool) : ∀ (l : List S35) (k : Nat), ((l.zipIdx k).filter (fun z => q z.1)).map Prod.fst = l.filter q
  | [], _ => rfl
  | x :: l, k => by
    rw [List.zipIdx_cons]
    by_cases hc : q x = true
    · rw [List.filter_cons_of_pos (by exact hc), List.filter_cons_of_pos hc, List.map_cons, blobFst q l]
    · rw [List.filter_cons_of_neg (by exact hc), List.filter_cons_of_neg hc, blobFst q l]
theorem blobNd (q : S35 → Bool) (l : List S35) : ((l.zipIdx.filter (fun z => q z.1)).map Prod.snd).Nodup := by
  refine List.Nodup.sublist (List.Sublist.map _ List.filter_sublist) ?_
  rw [List.zipIdx_map_snd]
  exact List.nodup_range'
theorem blobOwn {w w1 w2 : World} {r : Option Nat} (hB : Below w.heap.size w w1) (h : w1.grownBy w2 r) (hr : ∀ k, r = some k → w.heap.size ≤ k) : Below w.heap.size w w2 :=
  ⟨h.os.trans hB.os, h.tape.trans hB.tape, h.output.trans hB.output, Nat.le_trans hB.size h.size, fun k hk => (h.block k (Nat.lt_of_lt_of_le hk hB.size) (fun he => by have := hr k he.symm; omega)).trans (hB.block k hk)⟩
def blobLive (x : S35) : Bool := decide (0 < x.f1)
set_option maxHeartbeats 16000000 in
set_option maxRecDepth 100000 in
theorem spec_l04Act.own (k : Nat) (P1 : Nat → Prop) (B1 : Option Addr) (D1 : Nat) (l0 : List S35) (a0 : Int) (A2 : Option Addr) (c2 : Nat) (l1 : List Int) (a2 : ByteArray) (r1 : List S35) (r2 : Int) (w ws : World) (hB : Below w.heap.size w ws) (h1 : LS k35 35 ws w.heap.size P1 (.slice B1 l0.length D1) l0) (hlen : l0.length ≤ 1000000) (hr2 : Kd.C (Kd.int .u8) w A2 l1.length l1) (hc2 : l1.length ≤ c2) (h : spec_l04Act.f k l0 a0 l1 a2 = some (r1, r2)) :
    Calls Try.prog 36 #[.slice B1 l0.length D1, .agg #[.int .i64 a0, .slice A2 l1.length c2, .string a2]] ws fun e w' => impl_blobAct.Post P1 r1 r2 w ws e w' := by
  have hu := Try.underlying35
  have hu2 := Try.underlying61
  have HB := Aside0.mk hB
  have H1 := Aside0.mk h1
  have HR2 := Aside0.mk hr2
  have HC2 := Aside0.mk hc2
  have HLN := Aside0.mk hlen
  have HK := Aside0.mk (Kept.refl ws P1)
  have RR1 := Aside0.mk (show ∀ k_, P1 k_ → P1 k_ ∨ ws.heap.size ≤ k_ from fun _ hk => .inl hk)
  clear hB h1 hr2 hc2 hlen
  unfold spec_l04Act.f at h
  by_cases k1 : a0 = 1
  · rw [if_pos k1] at h
    have k1b : (a0 == 1) = true := beq_iff_eq.mpr k1
    clear k1
    by_cases c1 : (2000 : Int) < (l1.length : Int)
    · rw [if_pos c1] at h
      have cb1 : decide ((2000 : Int) < (l1.length : Int)) = true := decide_eq_true c1
      have cb2 : decide (2000 < l1.length) = true := decide_eq_true (by omega)
      clear c1
      simp only [Option.some.injEq, Prod.mk.injEq] at h
      obtain ⟨rfl, rfl⟩ := h
      go_enter Try.func36, Try.ntmps36
      go_wp2_with (first | ((with_reducible refine gate_dst (N := 3) rfl ?_); refine box_event ?hg_1 (N := 3) ?hd_1 (cs := #[.int .i64 a0, .slice A2 l1.length c2, .string a2]) (t := 61) ?hr_1 ?_; (case hd_1 => rfl); (case hg_1 => rfl); (case hr_1 => first | (go_simp; done) | (go_simp; rfl)); intro gX1 hg w2 hbox hb; have hk := kept_below hb; obtain ⟨PX1, hPX1, HLX1⟩ := LB.fresh hg hbox; have HX1 := Aside0.mk HLX1; clear HLX1; have GEX1 := Aside0.mk (show w.heap.size ≤ gX1 from (by rw [hg]; exact HB.out.size)); have D_1_X1 := Aside0.mk (new_apart H1.out.lt hPX1); have RRX1 := Aside0.mk (show ∀ k_, PX1 k_ → (P1) k_ ∨ ws.heap.size ≤ k_ from fun k_ h_ => .inr (Nat.le_trans HK.out.1 (hPX1 k_ h_).1)); replace H1 := Aside0.mk (H1.out.step hk no_S); replace HK := Aside0.mk (HK.out.then_ hk (fun _ h_ => h_.elim)); replace HB := Aside0.mk (below_step HB.out hb); clear hb hk hbox hg hPX1; (try clear hxX1_0 hfX1_0 hxX1_1 hfX1_1 hxX1_2 hfX1_2); have hxX1_0 := (HX1.out.cell 0).trans (show _ = some (.int .i64 a0) from rfl); have hfX1_0 := HX1.out.frozen 0; have hxX1_1 := (HX1.out.cell 1).trans (show _ = some (.slice A2 l1.length c2) from rfl); have hfX1_1 := HX1.out.frozen 1; have hxX1_2 := (HX1.out.cell 2).trans (show _ = some (.string a2) from rfl); have hfX1_2 := HX1.out.frozen 2))
      go_ret2
      exact ⟨_, _, rfl, H1.out, RR1.out, HB.out, HK.out⟩
    · rw [if_neg c1] at h
      have cb1 : decide ((2000 : Int) < (l1.length : Int)) = false := decide_eq_false c1
      have cb2 : decide (2000 < l1.length) = false := decide_eq_false (by omega)
      have LM1 := Aside0.mk (show l1.length ≤ 2000 by omega)
      clear c1
      obtain ⟨key, e1, h⟩ := Option.bind_eq_some_iff.1 h
      obtain ⟨t, e2, h⟩ := Option.bind_eq_some_iff.1 h
      have E1 := Aside0.mk e1
      have E2 := Aside0.mk e2
      clear e1 e2
      by_cases c3 : 0 ≤ t
      · rw [if_pos c3] at h
        have cb3 : decide (0 ≤ t) = true := decide_eq_true c3
        by_cases c4 : t < (l0.length : Int)
        · rw [if_pos c4] at h
          obtain ⟨i, rfl⟩ : ∃ i : Nat, t = (i : Int) := ⟨t.toNat, by omega⟩
          rw [Int.toNat_natCast] at h
          have hi : i < l0.length := by omega
          have HI2 := Aside0.mk hi
          have p1 := eq_true c3
          have q1 := eq_true c4
          clear c3 c4
          obtain ⟨g, co, eo, gb, gl, cl, HG⟩ := Kd.S_form H1.out.1 (by omega)
          injection eo with ea_ en_ ec_
          subst ea_
          subst ec_
          have GB := Aside0.mk gb
          clear en_ gb gl HG cl
          have hx0 := (blobCells H1.out i hi).1
          clear hx0
          simp only [Option.some.injEq, Prod.mk.injEq] at h
          obtain ⟨rfl, rfl⟩ := h
          go_enter Try.func36, Try.ntmps36
          go_wp2_with (first | ((with_reducible refine gate_dst (N := 3) rfl ?_); refine box_event ?hg_1 (N := 3) ?hd_1 (cs := #[.int .i64 a0, .slice A2 l1.length c2, .string a2]) (t := 61) ?hr_1 ?_; (case hd_1 => rfl); (case hg_1 => rfl); (case hr_1 => first | (go_simp; done) | (go_simp; rfl)); intro gX1 hg w2 hbox hb; have hk := kept_below hb; obtain ⟨PX1, hPX1, HLX1⟩ := LB.fresh hg hbox; have HX1 := Aside0.mk HLX1; clear HLX1; have GEX1 := Aside0.mk (show w.heap.size ≤ gX1 from (by rw [hg]; exact HB.out.size)); have D_1_X1 := Aside0.mk (new_apart H1.out.lt hPX1); have RRX1 := Aside0.mk (show ∀ k_, PX1 k_ → (P1) k_ ∨ ws.heap.size ≤ k_ from fun k_ h_ => .inr (Nat.le_trans HK.out.1 (hPX1 k_ h_).1)); replace H1 := Aside0.mk (H1.out.step hk no_S); replace HK := Aside0.mk (HK.out.then_ hk (fun _ h_ => h_.elim)); replace HB := Aside0.mk (below_step HB.out hb); clear hb hk hbox hg hPX1; (try clear hxX1_0 hfX1_0 hxX1_1 hfX1_1 hxX1_2 hfX1_2); have hxX1_0 := (HX1.out.cell 0).trans (show _ = some (.int .i64 a0) from rfl); have hfX1_0 := HX1.out.frozen 0; have hxX1_1 := (HX1.out.cell 1).trans (show _ = some (.slice A2 l1.length c2) from rfl); have hfX1_1 := HX1.out.frozen 1; have hxX1_2 := (HX1.out.cell 2).trans (show _ = some (.string a2) from rfl); have hfX1_2 := HX1.out.frozen 2) | ((with_reducible refine gate_callee (f := 25) rfl ?_); refine goesL_ (some 22) rfl rfl Try.func25 (by kernel_rfl) rfl #[.slice A2 l1.length c2] rfl (by (try simp only [List.map_toArray, List.map_cons, List.map_nil]); first | done | rfl | (simp only [List.length_drop, List.length_take]; rfl)) ?_; (with_reducible refine (spec_l04Sha.calls k _ _ l1 key _ (Kd.C_below HR2.out HB.out) HC2.out E1.out).mono ?_); rintro e w2 ⟨rfl, hb⟩; refine ⟨_, rfl, ?_⟩; have hk := kept_below hb; replace H1 := Aside0.mk (H1.out.step hk no_S); replace HX1 := Aside0.mk (HX1.out.step hk no_S); replace HK := Aside0.mk (HK.out.then_ hk (fun _ h_ => h_.elim)); replace HB := Aside0.mk (below_step HB.out hb); clear hb hk; (try clear hxX1_0 hfX1_0 hxX1_1 hfX1_1 hxX1_2 hfX1_2); have hxX1_0 := (HX1.out.cell 0).trans (show _ = some (.int .i64 a0) from rfl); have hfX1_0 := HX1.out.frozen 0; have hxX1_1 := (HX1.out.cell 1).trans (show _ = some (.slice A2 l1.length c2) from rfl); have hfX1_1 := HX1.out.frozen 1; have hxX1_2 := (HX1.out.cell 2).trans (show _ = some (.string a2) from rfl); have hfX1_2 := HX1.out.frozen 2) | ((with_reducible refine gate_callee (f := 57) rfl ?_); refine goesL_ (some 25) rfl rfl Try.func57 (by kernel_rfl) rfl #[.slice (some ⟨g, 0, none⟩) l0.length D1, .string key] rfl (by (try simp only [List.map_toArray, List.map_cons, List.map_nil]); first | done | rfl | (simp only [List.length_drop, List.length_take]; rfl)) ?_; (with_reducible refine (spec_l04Find.calls k _ _ l0 key (i : Int) _ H1.out.reads H1.out.room E2.out).mono ?_); rintro e w2 ⟨rfl, hq⟩; refine ⟨_, rfl, ?_⟩; have hk := kept_drawn hq; replace H1 := Aside0.mk (H1.out.step hk no_S); replace HX1 := Aside0.mk (HX1.out.step hk no_S); replace HK := Aside0.mk (HK.out.then_ hk (fun _ h_ => h_.elim)); replace HB := Aside0.mk (below_drawn HB.out hq); clear hk hq; (try clear hxX1_0 hfX1_0 hxX1_1 hfX1_1 hxX1_2 hfX1_2); have hxX1_0 := (HX1.out.cell 0).trans (show _ = some (.int .i64 a0) from rfl); have hfX1_0 := HX1.out.frozen 0; have hxX1_1 := (HX1.out.cell 1).trans (show _ = some (.slice A2 l1.length c2) from rfl); have hfX1_1 := HX1.out.frozen 1; have hxX1_2 := (HX1.out.cell 2).trans (show _ = some (.string a2) from rfl); have hfX1_2 := HX1.out.frozen 2; obtain ⟨hx0, hx1, hf1⟩ := blobCells H1.out i HI2.out) | ((with_reducible refine gate_store (t := 3) (p := 35) rfl ?_); obtain ⟨hs1_, hg2_, hp_⟩ := blobSet H1.out i HI2.out (wrap64 ((rd_T35 l0 (i : Int)).f1 + 1)); refine store_event (t := 3) (p := 35) (v := ?vo_s2) (w1 := World.setCell w2 ⟨g, i * 3 + 1, none⟩ (.int .i64 (wrap64 ((rd_T35 l0 (i : Int)).f1 + 1)))) ?hg_s2 ?ho_s2 ?hn_s2 ?hr_s2 ?_; (case ho_s2 => rfl); (case hg_s2 => rfl); (case hn_s2 => rfl); (case hr_s2 => first | (go_simp; done) | (go_simp; rfl)); intro w13 hw; rw [← hw] at hs1_ hg2_; have hk := Kept.of_grown hg2_ (Kept.refl _ P1) (fun k_ h_ => .inl (by injection h_ with h_; rw [← h_]; exact hp_)); have n1_ := Aside0.mk (blobBelow HB.out hg2_ GB.out); replace HK := Aside0.mk (HK.out.then_ hk (fun _ h_ => .inl h_)); clear H1 HB hw hk hg2_; have H1 := Aside0.mk hs1_; have HB := n1_; clear n1_ hs1_))
          go_ret2
          exact ⟨_, _, rfl, H1.out, RR1.out, HB.out, HK.out⟩
        · rw [if_neg c4] at h
          exact absurd h (by simp)
      · rw [if_neg c3] at h
        have cb3 : decide (0 ≤ t) = false := decide_eq_false c3
        clear c3
        by_cases c6 : (l0.length : Int) = 60
        · rw [if_pos c6] at h
          have c6b : ((l0.length : Int) == 60) = true := beq_iff_eq.mpr c6
          have c6n : (l0.length == 60) = true := by first | simpa using c6 | (simp at c6 ⊢; omega)
          clear c6
          simp only [Option.some.injEq, Prod.mk.injEq] at h
          obtain ⟨rfl, rfl⟩ := h
          go_enter Try.func36, Try.ntmps36
          go_wp2_with (first | ((with_reducible refine gate_dst (N := 3) rfl ?_); refine box_event ?hg_1 (N := 3) ?hd_1 (cs := #[.int .i64 a0, .slice A2 l1.length c2, .string a2]) (t := 61) ?hr_1 ?_; (case hd_1 => rfl); (case hg_1 => rfl); (case hr_1 => first | (go_simp; done) | (go_simp; rfl)); intro gX1 hg w2 hbox hb; have hk := kept_below hb; obtain ⟨PX1, hPX1, HLX1⟩ := LB.fresh hg hbox; have HX1 := Aside0.mk HLX1; clear HLX1; have GEX1 := Aside0.mk (show w.heap.size ≤ gX1 from (by rw [hg]; exact HB.out.size)); have D_1_X1 := Aside0.mk (new_apart H1.out.lt hPX1); have RRX1 := Aside0.mk (show ∀ k_, PX1 k_ → (P1) k_ ∨ ws.heap.size ≤ k_ from fun k_ h_ => .inr (Nat.le_trans HK.out.1 (hPX1 k_ h_).1)); replace H1 := Aside0.mk (H1.out.step hk no_S); replace HK := Aside0.mk (HK.out.then_ hk (fun _ h_ => h_.elim)); replace HB := Aside0.mk (below_step HB.out hb); clear hb hk hbox hg hPX1; (try clear hxX1_0 hfX1_0 hxX1_1 hfX1_1 hxX1_2 hfX1_2); have hxX1_0 := (HX1.out.cell 0).trans (show _ = some (.int .i64 a0) from rfl); have hfX1_0 := HX1.out.frozen 0; have hxX1_1 := (HX1.out.cell 1).trans (show _ = some (.slice A2 l1.length c2) from rfl); have hfX1_1 := HX1.out.frozen 1; have hxX1_2 := (HX1.out.cell 2).trans (show _ = some (.string a2) from rfl); have hfX1_2 := HX1.out.frozen 2) | ((with_reducible refine gate_callee (f := 25) rfl ?_); refine goesL_ (some 22) rfl rfl Try.func25 (by kernel_rfl) rfl #[.slice A2 l1.length c2] rfl (by (try simp only [List.map_toArray, List.map_cons, List.map_nil]); first | done | rfl | (simp only [List.length_drop, List.length_take]; rfl)) ?_; (with_reducible refine (spec_l04Sha.calls k _ _ l1 key _ (Kd.C_below HR2.out HB.out) HC2.out E1.out).mono ?_); rintro e w2 ⟨rfl, hb⟩; refine ⟨_, rfl, ?_⟩; have hk := kept_below hb; replace H1 := Aside0.mk (H1.out.step hk no_S); replace HX1 := Aside0.mk (HX1.out.step hk no_S); replace HK := Aside0.mk (HK.out.then_ hk (fun _ h_ => h_.elim)); replace HB := Aside0.mk (below_step HB.out hb); clear hb hk; (try clear hxX1_0 hfX1_0 hxX1_1 hfX1_1 hxX1_2 hfX1_2); have hxX1_0 := (HX1.out.cell 0).trans (show _ = some (.int .i64 a0) from rfl); have hfX1_0 := HX1.out.frozen 0; have hxX1_1 := (HX1.out.cell 1).trans (show _ = some (.slice A2 l1.length c2) from rfl); have hfX1_1 := HX1.out.frozen 1; have hxX1_2 := (HX1.out.cell 2).trans (show _ = some (.string a2) from rfl); have hfX1_2 := HX1.out.frozen 2) | ((with_reducible refine gate_callee (f := 57) rfl ?_); refine goesL_ (some 25) rfl rfl Try.func57 (by kernel_rfl) rfl #[.slice B1 l0.length D1, .string key] rfl (by (try simp only [List.map_toArray, List.map_cons, List.map_nil]); first | done | rfl | (simp only [List.length_drop, List.length_take]; rfl)) ?_; (with_reducible refine (spec_l04Find.calls k _ _ l0 key t _ H1.out.reads H1.out.room E2.out).mono ?_); rintro e w2 ⟨rfl, hq⟩; refine ⟨_, rfl, ?_⟩; have hk := kept_drawn hq; replace H1 := Aside0.mk (H1.out.step hk no_S); replace HX1 := Aside0.mk (HX1.out.step hk no_S); replace HK := Aside0.mk (HK.out.then_ hk (fun _ h_ => h_.elim)); replace HB := Aside0.mk (below_drawn HB.out hq); clear hk hq; (try clear hxX1_0 hfX1_0 hxX1_1 hfX1_1 hxX1_2 hfX1_2); have hxX1_0 := (HX1.out.cell 0).trans (show _ = some (.int .i64 a0) from rfl); have hfX1_0 := HX1.out.frozen 0; have hxX1_1 := (HX1.out.cell 1).trans (show _ = some (.slice A2 l1.length c2) from rfl); have hfX1_1 := HX1.out.frozen 1; have hxX1_2 := (HX1.out.cell 2).trans (show _ = some (.string a2) from rfl); have hfX1_2 := HX1.out.frozen 2))
          go_ret2
          exact ⟨_, _, rfl, H1.out, RR1.out, HB.out, HK.out⟩
        · rw [if_neg c6] at h
          have c6b : ((l0.length : Int) == 60) = false := beq_eq_false_iff_ne.mpr c6
          have c6n : (l0.length == 60) = false := by first | simpa using c6 | (simp at c6 ⊢; omega)
          clear c6
          obtain ⟨y1, hy1⟩ : ∃ y_, y_ = l0 ++ [(⟨key, 1, l1⟩ : S35)] := ⟨_, rfl⟩
          rw [← hy1] at h
          have Ny1 := Aside0.mk hy1
          clear hy1
          obtain ⟨yb, hyb⟩ : ∃ y_ : List Int, y_ = [] := ⟨_, rfl⟩
          have Nyb := Aside0.mk hyb
          obtain ⟨y2, hy2⟩ : ∃ y_ : List Int, y_ = yb ++ l1 := ⟨_, rfl⟩
          have Ny2 := Aside0.mk hy2
          have N3 := Aside0.mk (show y2 = l1 by rw [hy2, hyb]; rfl)
          have LB0 := Aside0.mk (show yb.length = 0 by rw [hyb]; rfl)
          clear hyb hy2
          simp only [Option.some.injEq, Prod.mk.injEq] at h
          obtain ⟨rfl, rfl⟩ := h
          go_enter Try.func36, Try.ntmps36
          go_wp2_with (first | ((with_reducible refine gate_dst (N := 3) rfl ?_); refine box_event ?hg_1 (N := 3) ?hd_1 (cs := #[.int .i64 a0, .slice A2 l1.length c2, .string a2]) (t := 61) ?hr_1 ?_; (case hd_1 => rfl); (case hg_1 => rfl); (case hr_1 => first | (go_simp; done) | (go_simp; rfl)); intro gX1 hg w2 hbox hb; have hk := kept_below hb; obtain ⟨PX1, hPX1, HLX1⟩ := LB.fresh hg hbox; have HX1 := Aside0.mk HLX1; clear HLX1; have GEX1 := Aside0.mk (show w.heap.size ≤ gX1 from (by rw [hg]; exact HB.out.size)); have D_1_X1 := Aside0.mk (new_apart H1.out.lt hPX1); have RRX1 := Aside0.mk (show ∀ k_, PX1 k_ → (P1) k_ ∨ ws.heap.size ≤ k_ from fun k_ h_ => .inr (Nat.le_trans HK.out.1 (hPX1 k_ h_).1)); replace H1 := Aside0.mk (H1.out.step hk no_S); replace HK := Aside0.mk (HK.out.then_ hk (fun _ h_ => h_.elim)); replace HB := Aside0.mk (below_step HB.out hb); clear hb hk hbox hg hPX1; (try clear hxX1_0 hfX1_0 hxX1_1 hfX1_1 hxX1_2 hfX1_2); have hxX1_0 := (HX1.out.cell 0).trans (show _ = some (.int .i64 a0) from rfl); have hfX1_0 := HX1.out.frozen 0; have hxX1_1 := (HX1.out.cell 1).trans (show _ = some (.slice A2 l1.length c2) from rfl); have hfX1_1 := HX1.out.frozen 1; have hxX1_2 := (HX1.out.cell 2).trans (show _ = some (.string a2) from rfl); have hfX1_2 := HX1.out.frozen 2) | ((with_reducible refine gate_callee (f := 25) rfl ?_); refine goesL_ (some 22) rfl rfl Try.func25 (by kernel_rfl) rfl #[.slice A2 l1.length c2] rfl (by (try simp only [List.map_toArray, List.map_cons, List.map_nil]); first | done | rfl | (simp only [List.length_drop, List.length_take]; rfl)) ?_; (with_reducible refine (spec_l04Sha.calls k _ _ l1 key _ (Kd.C_below HR2.out HB.out) HC2.out E1.out).mono ?_); rintro e w2 ⟨rfl, hb⟩; refine ⟨_, rfl, ?_⟩; have hk := kept_below hb; replace H1 := Aside0.mk (H1.out.step hk no_S); replace HX1 := Aside0.mk (HX1.out.step hk no_S); replace HK := Aside0.mk (HK.out.then_ hk (fun _ h_ => h_.elim)); replace HB := Aside0.mk (below_step HB.out hb); clear hb hk; (try clear hxX1_0 hfX1_0 hxX1_1 hfX1_1 hxX1_2 hfX1_2); have hxX1_0 := (HX1.out.cell 0).trans (show _ = some (.int .i64 a0) from rfl); have hfX1_0 := HX1.out.frozen 0; have hxX1_1 := (HX1.out.cell 1).trans (show _ = some (.slice A2 l1.length c2) from rfl); have hfX1_1 := HX1.out.frozen 1; have hxX1_2 := (HX1.out.cell 2).trans (show _ = some (.string a2) from rfl); have hfX1_2 := HX1.out.frozen 2) | ((with_reducible refine gate_callee (f := 57) rfl ?_); refine goesL_ (some 25) rfl rfl Try.func57 (by kernel_rfl) rfl #[.slice B1 l0.length D1, .string key] rfl (by (try simp only [List.map_toArray, List.map_cons, List.map_nil]); first | done | rfl | (simp only [List.length_drop, List.length_take]; rfl)) ?_; (with_reducible refine (spec_l04Find.calls k _ _ l0 key t _ H1.out.reads H1.out.room E2.out).mono ?_); rintro e w2 ⟨rfl, hq⟩; refine ⟨_, rfl, ?_⟩; have hk := kept_drawn hq; replace H1 := Aside0.mk (H1.out.step hk no_S); replace HX1 := Aside0.mk (HX1.out.step hk no_S); replace HK := Aside0.mk (HK.out.then_ hk (fun _ h_ => h_.elim)); replace HB := Aside0.mk (below_drawn HB.out hq); clear hk hq; (try clear hxX1_0 hfX1_0 hxX1_1 hfX1_1 hxX1_2 hfX1_2); have hxX1_0 := (HX1.out.cell 0).trans (show _ = some (.int .i64 a0) from rfl); have hfX1_0 := HX1.out.frozen 0; have hxX1_1 := (HX1.out.cell 1).trans (show _ = some (.slice A2 l1.length c2) from rfl); have hfX1_1 := HX1.out.frozen 1; have hxX1_2 := (HX1.out.cell 2).trans (show _ = some (.string a2) from rfl); have hfX1_2 := HX1.out.frozen 2) | ((with_reducible refine gate_dst (N := 43) rfl ?_); refine Kd.R_lit (Kd.int .u8) _ 5 ?hg_3 (N := 43) ?hd_3 (xs := ([] : List Int)) (inner := []) (ok := fun _ => True) (okp := fun _ => True) ?hr_3 ?hp_3 (fun _ hk => hk) trivial (Below.refl _ _) (Nat.le_refl _) (by simp) ?_; (case hd_3 => rfl); (case hg_3 => rfl); (case hr_3 => first | (go_simp; done) | (go_simp; rfl)); (case hp_3 => exact (Reps.none _ _)); intro vF2 w2 hrF2 hb hg_ hnew_; clear hg_ hnew_; rw [← Nyb.out] at hrF2; have hk := kept_below hb; obtain ⟨PF2, hPF2, HLF2⟩ := LR.fresh rfl HB.out hrF2; have HF2 := Aside0.mk HLF2; clear HLF2 hrF2; have D_1_F2 := Aside0.mk (new_apart H1.out.lt hPF2); have D_X1_F2 := Aside0.mk (new_apart HX1.out.lt hPF2); have RRF2 := Aside0.mk (show ∀ k_, PF2 k_ → (P1) k_ ∨ ws.heap.size ≤ k_ from fun k_ h_ => .inr (Nat.le_trans HK.out.1 (hPF2 k_ h_).1)); replace H1 := Aside0.mk (H1.out.step hk no_S); replace HX1 := Aside0.mk (HX1.out.step hk no_S); replace HK := Aside0.mk (HK.out.then_ hk (fun _ h_ => h_.elim)); clear hPF2; obtain ⟨BF2, DF2, e_F2⟩ := HF2.out.val; subst e_F2; replace HB := Aside0.mk (below_step HB.out hb); clear hb hk; (try clear hxX1_0 hfX1_0 hxX1_1 hfX1_1 hxX1_2 hfX1_2); have hxX1_0 := (HX1.out.cell 0).trans (show _ = some (.int .i64 a0) from rfl); have hfX1_0 := HX1.out.frozen 0; have hxX1_1 := (HX1.out.cell 1).trans (show _ = some (.slice A2 l1.length c2) from rfl); have hfX1_1 := HX1.out.frozen 1; have hxX1_2 := (HX1.out.cell 2).trans (show _ = some (.string a2) from rfl); have hfX1_2 := HX1.out.frozen 2) | ((with_reducible refine gate_builtin (b := .append) (xs := #[.tmp 43, .tmp 45]) rfl ?_); at_builtin; refine LR.append_read (Kd.int .u8) (w0 := w) rfl (.tmp 43) (.tmp 45) 22 5 (.int .u8 0) 1 rfl Try.underlying22 info5 rfl (by decide) (by omega) (.slice BF2 yb.length DF2) yb l1 _ _ _ rfl rfl (fun _ _ h_ => h_) HF2.out (Kd.C_below HR2.out HB.out) HB.out ?aL_4 ?_; (case aL_4 => have := LB0.out; have := LM1.out; omega); intro PF3 v_ w2 HL hb hk hR; have D_1_F3 := Aside0.mk (apart_app hR H1.out.lt D_1_F2.out); have D_X1_F3 := Aside0.mk (apart_app hR HX1.out.lt D_X1_F2.out); have RRF3 := Aside0.mk (show ∀ k_, PF3 k_ → (P1) k_ ∨ ws.heap.size ≤ k_ from rr_app hR HK.out.1 RRF2.out); replace H1 := Aside0.mk (H1.out.step hk D_1_F2.out); replace HX1 := Aside0.mk (HX1.out.step hk D_X1_F2.out); replace HK := Aside0.mk (HK.out.then_ hk RRF2.out); rw [← Ny2.out] at HL; have HF3 := Aside0.mk HL; replace HB := Aside0.mk hb; clear hR HL hb hk; clear HF2; obtain ⟨BF3, DF3, e_F3⟩ := HF3.out.val; subst e_F3; (try clear hxX1_0 hfX1_0 hxX1_1 hfX1_1 hxX1_2 hfX1_2); have hxX1_0 := (HX1.out.cell 0).trans (show _ = some (.int .i64 a0) from rfl); have hfX1_0 := HX1.out.frozen 0; have hxX1_1 := (HX1.out.cell 1).trans (show _ = some (.slice A2 l1.length c2) from rfl); have hfX1_1 := HX1.out.frozen 1; have hxX1_2 := (HX1.out.cell 2).trans (show _ = some (.string a2) from rfl); have hfX1_2 := HX1.out.frozen 2) | ((with_reducible refine gate_builtin (b := .append) (xs := #[.tmp 41, .tmp 48]) rfl ?_); at_builtin; refine LS.append1 k35 (w0 := w) rfl (.tmp 41) (.tmp 48) 30 35 (.agg #[.string ByteArray.empty, .int .i64 0, .slice none 0 0]) 48 rfl Try.underlying30 blobInfo rfl (by decide) (by omega) (.slice B1 l0.length D1) l0 (⟨key, 1, l1⟩ : S35) [.string key, .int .i64 1, .slice BF3 y2.length DF3] rfl rfl (by simp) H1.out (k35_mkM _ _ _ (⟨key, 1, l1⟩ : S35) (by rw [← N3.out]; exact HF3.out.1)) D_1_F3.out HB.out ?aL_5 ?_; (case aL_5 => have := HLN.out; omega); intro PF4 v_ w2 HL hb hk hR; have D_X1_F4 := Aside0.mk (apart_app hR HX1.out.lt (apart_or (apart_symm D_1_X1.out) D_X1_F3.out)); have RRF4 := Aside0.mk (show ∀ k_, PF4 k_ → (P1) k_ ∨ ws.heap.size ≤ k_ from rr_app hR HK.out.1 (rr_or RR1.out RRF3.out)); replace HX1 := Aside0.mk (HX1.out.step hk (apart_symm D_1_X1.out)); replace HK := Aside0.mk (HK.out.then_ hk RR1.out); rw [← Ny1.out] at HL; have HF4 := Aside0.mk HL; replace HB := Aside0.mk hb; clear hR HL hb hk; clear H1; clear HF3; obtain ⟨BF4, DF4, e_F4⟩ := HF4.out.val; subst e_F4; (try clear hxX1_0 hfX1_0 hxX1_1 hfX1_1 hxX1_2 hfX1_2); have hxX1_0 := (HX1.out.cell 0).trans (show _ = some (.int .i64 a0) from rfl); have hfX1_0 := HX1.out.frozen 0; have hxX1_1 := (HX1.out.cell 1).trans (show _ = some (.slice A2 l1.length c2) from rfl); have hfX1_1 := HX1.out.frozen 1; have hxX1_2 := (HX1.out.cell 2).trans (show _ = some (.string a2) from rfl); have hfX1_2 := HX1.out.frozen 2))
          go_ret2
          exact ⟨_, _, rfl, HF4.out, RRF4.out, HB.out, HK.out⟩
  rw [if_neg k1] at h
  have k1b : (a0 == 1) = false := beq_eq_false_iff_ne.mpr k1
  by_cases k2 : a0 = 2
  · rw [if_pos k2] at h
    have k2b : (a0 == 2) = true := beq_iff_eq.mpr k2
    clear k1 k2
    obtain ⟨t, e2, h⟩ := Option.bind_eq_some_iff.1 h
    have E2 := Aside0.mk e2
    clear e2
    by_cases c3 : t < 0
    · rw [if_pos c3] at h
      have cb3 : decide (t < 0) = true := decide_eq_true c3
      clear c3
      simp only [Option.some.injEq, Prod.mk.injEq] at h
      obtain ⟨rfl, rfl⟩ := h
      go_enter Try.func36, Try.ntmps36
      go_wp2_with (first | ((with_reducible refine gate_dst (N := 3) rfl ?_); refine box_event ?hg_1 (N := 3) ?hd_1 (cs := #[.int .i64 a0, .slice A2 l1.length c2, .string a2]) (t := 61) ?hr_1 ?_; (case hd_1 => rfl); (case hg_1 => rfl); (case hr_1 => first | (go_simp; done) | (go_simp; rfl)); intro gX1 hg w2 hbox hb; have hk := kept_below hb; obtain ⟨PX1, hPX1, HLX1⟩ := LB.fresh hg hbox; have HX1 := Aside0.mk HLX1; clear HLX1; have GEX1 := Aside0.mk (show w.heap.size ≤ gX1 from (by rw [hg]; exact HB.out.size)); have D_1_X1 := Aside0.mk (new_apart H1.out.lt hPX1); have RRX1 := Aside0.mk (show ∀ k_, PX1 k_ → (P1) k_ ∨ ws.heap.size ≤ k_ from fun k_ h_ => .inr (Nat.le_trans HK.out.1 (hPX1 k_ h_).1)); replace H1 := Aside0.mk (H1.out.step hk no_S); replace HK := Aside0.mk (HK.out.then_ hk (fun _ h_ => h_.elim)); replace HB := Aside0.mk (below_step HB.out hb); clear hb hk hbox hg hPX1; (try clear hxX1_0 hfX1_0 hxX1_1 hfX1_1 hxX1_2 hfX1_2); have hxX1_0 := (HX1.out.cell 0).trans (show _ = some (.int .i64 a0) from rfl); have hfX1_0 := HX1.out.frozen 0; have hxX1_1 := (HX1.out.cell 1).trans (show _ = some (.slice A2 l1.length c2) from rfl); have hfX1_1 := HX1.out.frozen 1; have hxX1_2 := (HX1.out.cell 2).trans (show _ = some (.string a2) from rfl); have hfX1_2 := HX1.out.frozen 2) | ((with_reducible refine gate_callee (f := 57) rfl ?_); refine goesL_ (some 55) rfl rfl Try.func57 (by kernel_rfl) rfl #[.slice B1 l0.length D1, .string a2] rfl (by (try simp only [List.map_toArray, List.map_cons, List.map_nil]); first | done | rfl | (simp only [List.length_drop, List.length_take]; rfl)) ?_; (with_reducible refine (spec_l04Find.calls k _ _ l0 a2 t _ H1.out.reads H1.out.room E2.out).mono ?_); rintro e w2 ⟨rfl, hq⟩; refine ⟨_, rfl, ?_⟩; have hk := kept_drawn hq; replace H1 := Aside0.mk (H1.out.step hk no_S); replace HX1 := Aside0.mk (HX1.out.step hk no_S); replace HK := Aside0.mk (HK.out.then_ hk (fun _ h_ => h_.elim)); replace HB := Aside0.mk (below_drawn HB.out hq); clear hk hq; (try clear hxX1_0 hfX1_0 hxX1_1 hfX1_1 hxX1_2 hfX1_2); have hxX1_0 := (HX1.out.cell 0).trans (show _ = some (.int .i64 a0) from rfl); have hfX1_0 := HX1.out.frozen 0; have hxX1_1 := (HX1.out.cell 1).trans (show _ = some (.slice A2 l1.length c2) from rfl); have hfX1_1 := HX1.out.frozen 1; have hxX1_2 := (HX1.out.cell 2).trans (show _ = some (.string a2) from rfl); have hfX1_2 := HX1.out.frozen 2))
      go_ret2
      exact ⟨_, _, rfl, H1.out, RR1.out, HB.out, HK.out⟩
    · rw [if_neg c3] at h
      have cb3 : decide (t < 0) = false := decide_eq_false c3
      by_cases c4 : t < (l0.length : Int)
      · rw [if_pos c4] at h
        obtain ⟨i, rfl⟩ : ∃ i : Nat, t = (i : Int) := ⟨t.toNat, by omega⟩
        rw [Int.toNat_natCast] at h
        have hi : i < l0.length := by omega
        have HI2 := Aside0.mk hi
        have p1 := eq_true (show (0 : Int) ≤ (i : Int) by omega)
        have q1 := eq_true c4
        clear c3 c4
        obtain ⟨g, co, eo, gb, gl, cl, HG⟩ := Kd.S_form H1.out.1 (by omega)
        injection eo with ea_ en_ ec_
        subst ea_
        subst ec_
        have GB := Aside0.mk gb
        clear en_ gb gl HG cl
        by_cases c5 : (rd_T35 l0 (i : Int)).f1 = 0
        · rw [if_pos c5] at h
          have c5b : ((rd_T35 l0 (i : Int)).f1 == 0) = true := beq_iff_eq.mpr c5
          clear c5
          simp only [Option.some.injEq, Prod.mk.injEq] at h
          obtain ⟨rfl, rfl⟩ := h
          go_enter Try.func36, Try.ntmps36
          go_wp2_with (first | ((with_reducible refine gate_dst (N := 3) rfl ?_); refine box_event ?hg_1 (N := 3) ?hd_1 (cs := #[.int .i64 a0, .slice A2 l1.length c2, .string a2]) (t := 61) ?hr_1 ?_; (case hd_1 => rfl); (case hg_1 => rfl); (case hr_1 => first | (go_simp; done) | (go_simp; rfl)); intro gX1 hg w2 hbox hb; have hk := kept_below hb; obtain ⟨PX1, hPX1, HLX1⟩ := LB.fresh hg hbox; have HX1 := Aside0.mk HLX1; clear HLX1; have GEX1 := Aside0.mk (show w.heap.size ≤ gX1 from (by rw [hg]; exact HB.out.size)); have D_1_X1 := Aside0.mk (new_apart H1.out.lt hPX1); have RRX1 := Aside0.mk (show ∀ k_, PX1 k_ → (P1) k_ ∨ ws.heap.size ≤ k_ from fun k_ h_ => .inr (Nat.le_trans HK.out.1 (hPX1 k_ h_).1)); replace H1 := Aside0.mk (H1.out.step hk no_S); replace HK := Aside0.mk (HK.out.then_ hk (fun _ h_ => h_.elim)); replace HB := Aside0.mk (below_step HB.out hb); clear hb hk hbox hg hPX1; (try clear hxX1_0 hfX1_0 hxX1_1 hfX1_1 hxX1_2 hfX1_2); have hxX1_0 := (HX1.out.cell 0).trans (show _ = some (.int .i64 a0) from rfl); have hfX1_0 := HX1.out.frozen 0; have hxX1_1 := (HX1.out.cell 1).trans (show _ = some (.slice A2 l1.length c2) from rfl); have hfX1_1 := HX1.out.frozen 1; have hxX1_2 := (HX1.out.cell 2).trans (show _ = some (.string a2) from rfl); have hfX1_2 := HX1.out.frozen 2) | ((with_reducible refine gate_callee (f := 57) rfl ?_); refine goesL_ (some 55) rfl rfl Try.func57 (by kernel_rfl) rfl #[.slice (some ⟨g, 0, none⟩) l0.length D1, .string a2] rfl (by (try simp only [List.map_toArray, List.map_cons, List.map_nil]); first | done | rfl | (simp only [List.length_drop, List.length_take]; rfl)) ?_; (with_reducible refine (spec_l04Find.calls k _ _ l0 a2 (i : Int) _ H1.out.reads H1.out.room E2.out).mono ?_); rintro e w2 ⟨rfl, hq⟩; refine ⟨_, rfl, ?_⟩; have hk := kept_drawn hq; replace H1 := Aside0.mk (H1.out.step hk no_S); replace HX1 := Aside0.mk (HX1.out.step hk no_S); replace HK := Aside0.mk (HK.out.then_ hk (fun _ h_ => h_.elim)); replace HB := Aside0.mk (below_drawn HB.out hq); clear hk hq; (try clear hxX1_0 hfX1_0 hxX1_1 hfX1_1 hxX1_2 hfX1_2); have hxX1_0 := (HX1.out.cell 0).trans (show _ = some (.int .i64 a0) from rfl); have hfX1_0 := HX1.out.frozen 0; have hxX1_1 := (HX1.out.cell 1).trans (show _ = some (.slice A2 l1.length c2) from rfl); have hfX1_1 := HX1.out.frozen 1; have hxX1_2 := (HX1.out.cell 2).trans (show _ = some (.string a2) from rfl); have hfX1_2 := HX1.out.frozen 2; obtain ⟨hx0, hx1, hf1⟩ := blobCells H1.out i HI2.out))
          go_ret2
          exact ⟨_, _, rfl, H1.out, RR1.out, HB.out, HK.out⟩
        · rw [if_neg c5] at h
          have c5b : ((rd_T35 l0 (i : Int)).f1 == 0) = false := beq_eq_false_iff_ne.mpr c5
          clear c5
          simp only [Option.some.injEq, Prod.mk.injEq] at h
          obtain ⟨rfl, rfl⟩ := h
          go_enter Try.func36, Try.ntmps36
          go_wp2_with (first | ((with_reducible refine gate_dst (N := 3) rfl ?_); refine box_event ?hg_1 (N := 3) ?hd_1 (cs := #[.int .i64 a0, .slice A2 l1.length c2, .string a2]) (t := 61) ?hr_1 ?_; (case hd_1 => rfl); (case hg_1 => rfl); (case hr_1 => first | (go_simp; done) | (go_simp; rfl)); intro gX1 hg w2 hbox hb; have hk := kept_below hb; obtain ⟨PX1, hPX1, HLX1⟩ := LB.fresh hg hbox; have HX1 := Aside0.mk HLX1; clear HLX1; have GEX1 := Aside0.mk (show w.heap.size ≤ gX1 from (by rw [hg]; exact HB.out.size)); have D_1_X1 := Aside0.mk (new_apart H1.out.lt hPX1); have RRX1 := Aside0.mk (show ∀ k_, PX1 k_ → (P1) k_ ∨ ws.heap.size ≤ k_ from fun k_ h_ => .inr (Nat.le_trans HK.out.1 (hPX1 k_ h_).1)); replace H1 := Aside0.mk (H1.out.step hk no_S); replace HK := Aside0.mk (HK.out.then_ hk (fun _ h_ => h_.elim)); replace HB := Aside0.mk (below_step HB.out hb); clear hb hk hbox hg hPX1; (try clear hxX1_0 hfX1_0 hxX1_1 hfX1_1 hxX1_2 hfX1_2); have hxX1_0 := (HX1.out.cell 0).trans (show _ = some (.int .i64 a0) from rfl); have hfX1_0 := HX1.out.frozen 0; have hxX1_1 := (HX1.out.cell 1).trans (show _ = some (.slice A2 l1.length c2) from rfl); have hfX1_1 := HX1.out.frozen 1; have hxX1_2 := (HX1.out.cell 2).trans (show _ = some (.string a2) from rfl); have hfX1_2 := HX1.out.frozen 2) | ((with_reducible refine gate_callee (f := 57) rfl ?_); refine goesL_ (some 55) rfl rfl Try.func57 (by kernel_rfl) rfl #[.slice (some ⟨g, 0, none⟩) l0.length D1, .string a2] rfl (by (try simp only [List.map_toArray, List.map_cons, List.map_nil]); first | done | rfl | (simp only [List.length_drop, List.length_take]; rfl)) ?_; (with_reducible refine (spec_l04Find.calls k _ _ l0 a2 (i : Int) _ H1.out.reads H1.out.room E2.out).mono ?_); rintro e w2 ⟨rfl, hq⟩; refine ⟨_, rfl, ?_⟩; have hk := kept_drawn hq; replace H1 := Aside0.mk (H1.out.step hk no_S); replace HX1 := Aside0.mk (HX1.out.step hk no_S); replace HK := Aside0.mk (HK.out.then_ hk (fun _ h_ => h_.elim)); replace HB := Aside0.mk (below_drawn HB.out hq); clear hk hq; (try clear hxX1_0 hfX1_0 hxX1_1 hfX1_1 hxX1_2 hfX1_2); have hxX1_0 := (HX1.out.cell 0).trans (show _ = some (.int .i64 a0) from rfl); have hfX1_0 := HX1.out.frozen 0; have hxX1_1 := (HX1.out.cell 1).trans (show _ = some (.slice A2 l1.length c2) from rfl); have hfX1_1 := HX1.out.frozen 1; have hxX1_2 := (HX1.out.cell 2).trans (show _ = some (.string a2) from rfl); have hfX1_2 := HX1.out.frozen 2; obtain ⟨hx0, hx1, hf1⟩ := blobCells H1.out i HI2.out) | ((with_reducible refine gate_store (t := 3) (p := 74) rfl ?_); obtain ⟨hs1_, hg2_, hp_⟩ := blobSet H1.out i HI2.out (wrap64 ((rd_T35 l0 (i : Int)).f1 - 1)); refine store_event (t := 3) (p := 74) (v := ?vo_s6) (w1 := World.setCell w2 ⟨g, i * 3 + 1, none⟩ (.int .i64 (wrap64 ((rd_T35 l0 (i : Int)).f1 - 1)))) ?hg_s6 ?ho_s6 ?hn_s6 ?hr_s6 ?_; (case ho_s6 => rfl); (case hg_s6 => rfl); (case hn_s6 => rfl); (case hr_s6 => first | (go_simp; done) | (go_simp; rfl)); intro w13 hw; rw [← hw] at hs1_ hg2_; have hk := Kept.of_grown hg2_ (Kept.refl _ P1) (fun k_ h_ => .inl (by injection h_ with h_; rw [← h_]; exact hp_)); have n1_ := Aside0.mk (blobBelow HB.out hg2_ GB.out); replace HK := Aside0.mk (HK.out.then_ hk (fun _ h_ => .inl h_)); clear H1 HB hw hk hg2_; have H1 := Aside0.mk hs1_; have HB := n1_; clear n1_ hs1_))
          go_ret2
          exact ⟨_, _, rfl, H1.out, RR1.out, HB.out, HK.out⟩
      · rw [if_neg c4] at h
        exact absurd h (by simp)
  rw [if_neg k2] at h
  have k2b : (a0 == 2) = false := beq_eq_false_iff_ne.mpr k2
  by_cases k3 : a0 = 3
  · rw [if_pos k3] at h
    have k3b : (a0 == 3) = true := beq_iff_eq.mpr k3
    clear k1 k2 k3
    simp only [Option.some.injEq, Prod.mk.injEq] at h
    obtain ⟨hr1, rfl⟩ := h
    have HR1 := Aside0.mk hr1
    clear hr1
    have HB0 := Aside0.mk HB.out
    have HLT := Aside0.mk H1.out.2
    have H1S := Aside0.mk H1.out
    obtain ⟨⟨f, hf⟩, hlt⟩ := H1.out
    have HZ0 := Aside0.mk (show LR (Kd.tag f k35) 35 ws w.heap.size P1 (.slice B1 l0.length D1) l0.zipIdx from ⟨hf, hlt⟩)
    clear hf hlt
    have HW := Aside0.mk (Below.refl ws.heap.size ws)
    obtain ⟨y0, hy0⟩ : ∃ y_ : List (S35 × Nat), y_ = [] := ⟨_, rfl⟩
    have Ny0 := Aside0.mk hy0
    clear hy0
    go_enter Try.func36, Try.ntmps36
    go_wp2_with (first | ((with_reducible refine gate_dst (N := 3) rfl ?_); refine box_event ?hg_1 (N := 3) ?hd_1 (cs := #[.int .i64 a0, .slice A2 l1.length c2, .string a2]) (t := 61) ?hr_1 ?_; (case hd_1 => rfl); (case hg_1 => rfl); (case hr_1 => first | (go_simp; done) | (go_simp; rfl)); intro gX1 hg w2 hbox hb; have hk := kept_below hb; obtain ⟨PX1, hPX1, HLX1⟩ := LB.fresh hg hbox; have HX1 := Aside0.mk HLX1; clear HLX1; have GEX1 := Aside0.mk (show w.heap.size ≤ gX1 from (by rw [hg]; exact HB.out.size)); have D_1_X1 := Aside0.mk (new_apart H1.out.lt hPX1); have RRX1 := Aside0.mk (show ∀ k_, PX1 k_ → (P1) k_ ∨ ws.heap.size ≤ k_ from fun k_ h_ => .inr (Nat.le_trans HK.out.1 (hPX1 k_ h_).1)); replace H1 := Aside0.mk (H1.out.step hk no_S); replace HK := Aside0.mk (HK.out.then_ hk (fun _ h_ => h_.elim)); replace HB := Aside0.mk (below_step HB.out hb); replace HW := Aside0.mk (below_step HW.out hb); clear hb hk hbox hg hPX1; (try clear hxX1_0 hfX1_0 hxX1_1 hfX1_1 hxX1_2 hfX1_2); have hxX1_0 := (HX1.out.cell 0).trans (show _ = some (.int .i64 a0) from rfl); have hfX1_0 := HX1.out.frozen 0; have hxX1_1 := (HX1.out.cell 1).trans (show _ = some (.slice A2 l1.length c2) from rfl); have hfX1_1 := HX1.out.frozen 1; have hxX1_2 := (HX1.out.cell 2).trans (show _ = some (.string a2) from rfl); have hfX1_2 := HX1.out.frozen 2) | ((with_reducible refine gate_dst (N := 78) rfl ?_); refine Kd.R_lit (Kd.tag f k35) _ 35 ?hg_7 (N := 78) ?hd_7 (xs := ([] : List (S35 × Nat))) (inner := []) (ok := fun _ => True) (okp := fun _ => True) ?hr_7 ?hp_7 (fun _ hk => hk) trivial (Below.refl _ _) (Nat.le_refl _) (by simp) ?_; (case hd_7 => rfl); (case hg_7 => rfl); (case hr_7 => first | (go_simp; done) | (go_simp; rfl)); (case hp_7 => exact (Reps.none _ _)); intro vF5 w2 hrF5 hb hg_ hnew_; clear hg_ hnew_; rw [← Ny0.out] at hrF5; have o1_ := Aside0.mk (Kd.R_base hrF5); have HSZ := Aside0.mk HW.out.size; have n1_ := Aside0.mk (Kd.R_lower (Kd.R_mono (Kd.R_bound hrF5) (ok' := (fun k_ => P1 k_ ∨ ws.heap.size ≤ k_)) (fun k_ h_ => .inr (Nat.le_trans HW.out.size h_.2.1))) HB.out.size); replace HW := Aside0.mk (below_step HW.out hb); have OB1 := Aside0.mk (show ∀ k_, (vF5).ownBlock = some k_ → ws.heap.size ≤ k_ from fun k_ h_ => Nat.le_trans HSZ.out (o1_.out k_ h_)); have HO1 := n1_; clear n1_ o1_ hrF5 hb))
    go_loopg [9, 10] (l0.length + 1) (fun kq v9 v10 w' => ∃ (i : Nat) (ys : List (S35 × Nat)), v10 = .int .i64 (i : Int) ∧ Aside0 (i + kq = l0.length + 1) ∧ Aside0 (ys = (l0.zipIdx.take i).filter (fun z => blobLive z.1)) ∧ Aside0 ((Kd.tag f k35).R 35 w' w.heap.size (fun k_ => P1 k_ ∨ ws.heap.size ≤ k_) v9 ys) ∧ Aside0 (∀ k_, v9.ownBlock = some k_ → ws.heap.size ≤ k_) ∧ Aside0 (Below ws.heap.size ws w'))
    case atStart => exact ⟨0, y0, rfl, ⟨by omega⟩, ⟨by rw [Ny0.out]; rfl⟩, HO1, OB1, HW⟩
    case round =>
      try clear H1
      clear HB HK HW HO1 OB1 HX1
      try clear hxX1_0 hfX1_0 hxX1_1 hfX1_1 hxX1_2 hfX1_2
      obtain ⟨i, ys, rfl, HI, HY, HO, HOB, HW⟩ := hrel
      have HZ := Aside0.mk (HZ0.out.step (Kept.of_below HW.out (fun _ => False)) no_S)
      have H1 := Aside0.mk (H1S.out.step (Kept.of_below HW.out (fun _ => False)) no_S)
      have HB := Aside0.mk (below_step HB0.out HW.out)
      by_cases hi : i < l0.length
      · obtain ⟨k1, rfl⟩ : ∃ k_, gk = k_ + 1 := ⟨gk - 1, by have := HI.out; omega⟩
        have hlt : decide ((i : Int) < (l0.length : Int)) = true := decide_eq_true (by omega)
        have hltn : decide (i < l0.length) = true := decide_eq_true hi
        have hwi : wrap64 ((i : Int) + 1) = ((i + 1 : Nat) : Int) := by have := HLN.out; unfold wrap64; omega
        have HI2 := Aside0.mk hi
        obtain ⟨g, co, eo, gb, gl, cl, HG⟩ := Kd.S_form H1.out.1 (by omega)
        injection eo with ea_ en_ ec_
        subst ea_
        subst ec_
        have GB := Aside0.mk gb
        clear en_ gb gl HG cl
        obtain ⟨cs_, hcl, hM, hcc, hcf⟩ := Kd.R_elem HZ.out.1 ((z35, 0) : S35 × Nat) (i : Int) (by omega) (by omega)
        have hxx : l0.zipIdx.getD (Int.toNat (i : Int)) ((z35, 0) : S35 × Nat) = (rd_T35 l0 (i : Int), i) := by rw [Int.toNat_natCast, List.getD_eq_getElem?_getD, List.getElem?_zipIdx, List.getElem?_eq_getElem hi, blobRd l0 i hi]; simp
        rw [hxx] at hM
        obtain ⟨x, hx⟩ : ∃ x_, x_ = rd_T35 l0 (i : Int) := ⟨_, rfl⟩
        rw [← hx] at hM
        obtain ⟨v2, rfl, hg2⟩ := k35_openM hM
        obtain ⟨A5, c5, rfl⟩ := Kd.R_slice hg2
        have hx0 := hcc 0 _ rfl
        have hx1 := hcc 1 _ rfl
        have hx2 := hcc 2 _ rfl
        simp only [show (Kd.tag f k35).sz = 3 from rfl, Nat.add_zero, Int.toNat_natCast] at hx0 hx1 hx2
        have esz : (Kd.tag f k35).sz = 3 := rfl
        have HM := Aside0.mk hM
        have NX := Aside0.mk hx
        have HS := Aside0.mk (blobTake (fun z => blobLive z.1) l0 i hi)
        clear hM hg2 hcc hcf hcl hxx hx
        have p1 := eq_true (show (0 : Int) ≤ (i : Int) by omega)
        have q1 := eq_true (show (i : Int) < (l0.length : Int) by omega)
        cases hc : decide (0 < x.f1) with
        | true =>
          go_wp2_with (first | ((with_reducible refine gate_builtin (b := .append) (xs := #[.tmp 91, .tmp 96]) rfl ?_); at_builtin; refine Kd.R_append (Kd.tag f k35) (w0 := w) w.heap.size rfl (.tmp 91) (.tmp 96) 30 35 (.agg #[.string ByteArray.empty, .int .i64 0, .slice none 0 0]) 48 rfl Try.underlying30 blobInfo rfl (show 0 < 3 from by decide) (by omega) u9 ys (x, i) [.string x.f0, .int .i64 x.f1, .slice A5 x.f2.length c5] (fun k_ => P1 k_ ∨ ws.heap.size ≤ k_) (fun k_ => P1 k_ ∧ k_ ≠ g) rfl rfl HM.out (fun k_ h_ => ⟨.inl h_.1, fun e_ => by have a_ := HOB.out k_ e_.symm; have b_ := HLT.out k_ h_.1; omega⟩) (fun k_ h_ => .inr (Nat.le_trans HW.out.size h_)) HO.out HB.out HB.out.size (by have h9_ : ys.length ≤ i := (by rw [HY.out]; exact Nat.le_trans (List.length_filter_le _ _) (by rw [List.length_take]; exact Nat.min_le_left _ _)); have := HLN.out; omega) ?_; intro v1_ w2 hr_ hb_ hg_ hat_; have n1_ := Aside0.mk (blobOwn HW.out hg_ HOB.out); have n2_ := Aside0.mk (show ∀ k_, v1_.ownBlock = some k_ → ws.heap.size ≤ k_ from fun k_ h_ => by rcases hat_ with e_ | ⟨b_, e_, l_⟩; exact HOB.out k_ (e_ ▸ h_); rw [e_] at h_; injection h_ with h_; rw [← h_]; exact Nat.le_trans HW.out.size l_); clear HO HOB HW HB HZ H1 HM hb_ hg_ hat_ hx0 hx1 hx2; have HO := Aside0.mk hr_; have HW := n1_; have HOB := n2_; clear n1_ n2_ hr_))
          go_roundg k1
          case measure => omega
          case rel => exact ⟨i + 1, ys ++ [(x, i)], by first | rfl | (simp only [hwi]) | simp, ⟨by have := HI.out; omega⟩, ⟨by rw [HS.out, ← NX.out, if_pos (by exact hc), HY.out]⟩, HO, HOB, HW⟩
        | false =>
          go_wp2
          go_roundg k1
          case measure => omega
          case rel => exact ⟨i + 1, ys, by first | rfl | (simp only [hwi]) | simp, ⟨by have := HI.out; omega⟩, ⟨by rw [HS.out, ← NX.out, if_neg (by show ¬ decide (0 < x.f1) = true; rw [hc]; simp), List.append_nil, HY.out]⟩, HO, HOB, HW⟩
      · have hlt : decide ((i : Int) < (l0.length : Int)) = false := decide_eq_false (by omega)
        have hltn : decide (i < l0.length) = false := decide_eq_false hi
        have hys : ys = l0.zipIdx.filter (fun z => blobLive z.1) := by rw [HY.out, List.take_of_length_le (by simp; omega)]
        have hS := S_of_marks HO.out (by rw [hys]; exact blobNd blobLive l0)
        rw [hys, blobFst blobLive l0] at hS
        obtain ⟨Q_, HL9, HQ9⟩ : ∃ Q_ : Nat → Prop, LS k35 35 wr w.heap.size Q_ u9 (l0.filter blobLive) ∧ ∀ k_, Q_ k_ → P1 k_ ∨ ws.heap.size ≤ k_ := ⟨_, ⟨Kd.S_bound hS, fun k_ h_ => h_.2.2.1⟩, fun k_ h_ => h_.1⟩
        replace HL9 := Aside0.mk HL9
        replace HQ9 := Aside0.mk HQ9
        have HKK := Aside0.mk (Kept.of_below HW.out P1)
        clear hS hys
        go_wp2
        go_ret2
        exact ⟨_, _, rfl, (show LS k35 35 wr w.heap.size Q_ u9 _ from by rw [← HR1.out]; exact HL9.out), HQ9.out, HB.out, HKK.out⟩
  rw [if_neg k3] at h
  have k3b : (a0 == 3) = false := beq_eq_false_iff_ne.mpr k3
  clear k1 k2 k3
  simp only [Option.some.injEq, Prod.mk.injEq] at h
  obtain ⟨rfl, rfl⟩ := h
  go_enter Try.func36, Try.ntmps36
  go_wp2_with (first | ((with_reducible refine gate_dst (N := 3) rfl ?_); refine box_event ?hg_1 (N := 3) ?hd_1 (cs := #[.int .i64 a0, .slice A2 l1.length c2, .string a2]) (t := 61) ?hr_1 ?_; (case hd_1 => rfl); (case hg_1 => rfl); (case hr_1 => first | (go_simp; done) | (go_simp; rfl)); intro gX1 hg w2 hbox hb; have hk := kept_below hb; obtain ⟨PX1, hPX1, HLX1⟩ := LB.fresh hg hbox; have HX1 := Aside0.mk HLX1; clear HLX1; have GEX1 := Aside0.mk (show w.heap.size ≤ gX1 from (by rw [hg]; exact HB.out.size)); have D_1_X1 := Aside0.mk (new_apart H1.out.lt hPX1); have RRX1 := Aside0.mk (show ∀ k_, PX1 k_ → (P1) k_ ∨ ws.heap.size ≤ k_ from fun k_ h_ => .inr (Nat.le_trans HK.out.1 (hPX1 k_ h_).1)); replace H1 := Aside0.mk (H1.out.step hk no_S); replace HK := Aside0.mk (HK.out.then_ hk (fun _ h_ => h_.elim)); replace HB := Aside0.mk (below_step HB.out hb); clear hb hk hbox hg hPX1; (try clear hxX1_0 hfX1_0 hxX1_1 hfX1_1 hxX1_2 hfX1_2); have hxX1_0 := (HX1.out.cell 0).trans (show _ = some (.int .i64 a0) from rfl); have hfX1_0 := HX1.out.frozen 0; have hxX1_1 := (HX1.out.cell 1).trans (show _ = some (.slice A2 l1.length c2) from rfl); have hfX1_1 := HX1.out.frozen 1; have hxX1_2 := (HX1.out.cell 2).trans (show _ = some (.string a2) from rfl); have hfX1_2 := HX1.out.frozen 2))
  go_ret2
  exact ⟨_, _, rfl, H1.out, RR1.out, HB.out, HK.out⟩
end
section
open Go.Proofs.Ytcgkfijigjcmpaa.Lawful
/-! ### spec_BlobRun: function 12, by hand -/
def spec_BlobRun.l0 : Nat → List S61 → Int → List Int → List S35 → Option (List Int × List S35 × Int)
  | 0, _, _, _, _ => none
  | k + 1, x0, i, c, s => if i < (x0.length : Int) then (if 0 ≤ i then ((if s.length ≤ 1000000 then spec_l04Act.f k s (rd_T61 x0 i).f0 (rd_T61 x0 i).f1 (rd_T61 x0 i).f2 else none).bind fun t => (if c.length < 17592186044416 then (spec_BlobRun.l0 k x0 (wrap64 (i + 1)) (c ++ [t.2]) t.1) else none)) else none) else some (c, s, 0)
def spec_BlobRun.f (k : Nat) (l0 : List S61) : Option (List Int × List S35 × Int) := if (4096 : Int) < (l0.length : Int) then some ([], [], 2) else if (200 : Int) < (l0.length : Int) then some ([], [], 7) else spec_BlobRun.l0 k l0 0 [] []
set_option maxHeartbeats 16000000 in
set_option maxRecDepth 100000 in
theorem spec_BlobRun.own (k : Nat) (A0 : Option Addr) (c0 : Nat) (l0 : List S61) (r1 : List Int) (r2 : List S35) (r3 : Int) (w : World) (hr0 : Kd.C k61 w A0 l0.length l0) (hc0 : l0.length ≤ c0) (h : spec_BlobRun.f k l0 = some (r1, r2, r3)) :
    Calls Try.prog 12 #[.slice A0 l0.length c0] w fun e w' => ∃ v0_ v1_ : Value, e = .returned (.tuple #[v0_, v1_, .int .i64 r3]) ∧ Kd.R (Kd.int .i64) 3 w' w.heap.size (fun k_ => (w.heap.size ≤ k_)) v0_ r1 ∧ Kd.S k35 35 w' w.heap.size (fun k_ => (w.heap.size ≤ k_) ∧ some k_ ≠ (v0_ : Value).ownBlock) v1_ r2 ∧ Below w.heap.size w w' := by
  have hu := Try.underlying61
  have HB := Aside0.mk (Below.refl w.heap.size w)
  have HR0 := Aside0.mk hr0
  have HC0 := Aside0.mk hc0
  unfold spec_BlobRun.f at h
  clear hr0 hc0
  obtain ⟨y2, hy2⟩ : ∃ y_ : List Int, y_ = [] := ⟨_, rfl⟩
  obtain ⟨y0, hy0⟩ : ∃ y_ : List S35, y_ = [] := ⟨_, rfl⟩
  rw [← hy2, ← hy0] at h
  have Ny2 := Aside0.mk hy2
  have Ny0 := Aside0.mk hy0
  clear hy2 hy0
  by_cases c : (4096 : Int) < (l0.length : Int)
  · rw [if_pos c] at h
    have cb4096 : decide ((4096 : Int) < (l0.length : Int)) = true := decide_eq_true c
    have cn : decide (4096 < l0.length) = true := decide_eq_true (by omega)
    clear c
    simp only [Option.some.injEq, Prod.mk.injEq] at h
    obtain ⟨rfl, rfl, rfl⟩ := h
    go_enter Try.func12, Try.ntmps12
    go_wp2_with (first | ((with_reducible refine gate_dst (N := 12) rfl ?_); refine Kd.R_lit (Kd.int .i64) _ 3 ?hg_1 (N := 12) ?hd_1 (xs := ([] : List Int)) (inner := []) (ok := fun _ => True) (okp := fun _ => True) ?hr_1 ?hp_1 (fun _ hk => hk) trivial (Below.refl _ _) (Nat.le_refl _) (by simp) ?_; (case hd_1 => rfl); (case hg_1 => rfl); (case hr_1 => first | (go_simp; done) | (go_simp; rfl)); (case hp_1 => exact (Reps.none _ _)); intro vF1 w2 hrF1 hb hg_ hnew_; clear hg_ hnew_; rw [← Ny2.out] at hrF1; have hk := kept_below hb; obtain ⟨PF1, hPF1, HLF1⟩ := LR.fresh rfl HB.out hrF1; have HF1 := Aside0.mk HLF1; clear HLF1 hrF1; clear hPF1; obtain ⟨BF1, DF1, e_F1⟩ := HF1.out.val; subst e_F1; replace HB := Aside0.mk (below_step HB.out hb); clear hb hk) | ((with_reducible refine gate_dst (N := 13) rfl ?_); refine Kd.S_lit k35 _ 35 ?hg_2 (N := 13) ?hd_2 (xs := ([] : List S35)) (inner := []) (ok := fun _ => True) (okp := fun _ => True) ?hr_2 ?hp_2 (fun _ hk => hk) trivial (Below.refl _ _) (Nat.le_refl _) (by simp) ?_; (case hd_2 => rfl); (case hg_2 => rfl); (case hr_2 => first | (go_simp; done) | (go_simp; rfl)); (case hp_2 => exact (Reps.none _ _)); intro vF2 w2 hrF2 hb hg_ hnew_; clear hg_ hnew_; rw [← Ny0.out] at hrF2; have hk := kept_below hb; obtain ⟨PF2, hPF2, HLF2⟩ := LS.fresh HB.out hrF2; have HF2 := Aside0.mk HLF2; clear HLF2 hrF2; have D_F1_F2 := Aside0.mk (new_apart HF1.out.lt hPF2); replace HF1 := Aside0.mk (HF1.out.step hk no_S); clear hPF2; obtain ⟨BF2, DF2, e_F2⟩ := HF2.out.val; subst e_F2; replace HB := Aside0.mk (below_step HB.out hb); clear hb hk))
    go_ret3
    exact ⟨_, _, rfl, LR.out HF1.out, LS.out HF2.out HF1.out.1.1 D_F1_F2.out, HB.out⟩
  · rw [if_neg c] at h
    have cb4096 : decide ((4096 : Int) < (l0.length : Int)) = false := decide_eq_false c
    have cn : decide (4096 < l0.length) = false := decide_eq_false (by omega)
    clear c
    by_cases c : (200 : Int) < (l0.length : Int)
    · rw [if_pos c] at h
      have cb200 : decide ((200 : Int) < (l0.length : Int)) = true := decide_eq_true c
      have cn2 : decide (200 < l0.length) = true := decide_eq_true (by omega)
      clear c
      simp only [Option.some.injEq, Prod.mk.injEq] at h
      obtain ⟨rfl, rfl, rfl⟩ := h
      go_enter Try.func12, Try.ntmps12
      go_wp2_with (first | ((with_reducible refine gate_dst (N := 17) rfl ?_); refine Kd.R_lit (Kd.int .i64) _ 3 ?hg_3 (N := 17) ?hd_3 (xs := ([] : List Int)) (inner := []) (ok := fun _ => True) (okp := fun _ => True) ?hr_3 ?hp_3 (fun _ hk => hk) trivial (Below.refl _ _) (Nat.le_refl _) (by simp) ?_; (case hd_3 => rfl); (case hg_3 => rfl); (case hr_3 => first | (go_simp; done) | (go_simp; rfl)); (case hp_3 => exact (Reps.none _ _)); intro vF3 w2 hrF3 hb hg_ hnew_; clear hg_ hnew_; rw [← Ny2.out] at hrF3; have hk := kept_below hb; obtain ⟨PF3, hPF3, HLF3⟩ := LR.fresh rfl HB.out hrF3; have HF3 := Aside0.mk HLF3; clear HLF3 hrF3; clear hPF3; obtain ⟨BF3, DF3, e_F3⟩ := HF3.out.val; subst e_F3; replace HB := Aside0.mk (below_step HB.out hb); clear hb hk) | ((with_reducible refine gate_dst (N := 18) rfl ?_); refine Kd.S_lit k35 _ 35 ?hg_4 (N := 18) ?hd_4 (xs := ([] : List S35)) (inner := []) (ok := fun _ => True) (okp := fun _ => True) ?hr_4 ?hp_4 (fun _ hk => hk) trivial (Below.refl _ _) (Nat.le_refl _) (by simp) ?_; (case hd_4 => rfl); (case hg_4 => rfl); (case hr_4 => first | (go_simp; done) | (go_simp; rfl)); (case hp_4 => exact (Reps.none _ _)); intro vF4 w2 hrF4 hb hg_ hnew_; clear hg_ hnew_; rw [← Ny0.out] at hrF4; have hk := kept_below hb; obtain ⟨PF4, hPF4, HLF4⟩ := LS.fresh HB.out hrF4; have HF4 := Aside0.mk HLF4; clear HLF4 hrF4; have D_F3_F4 := Aside0.mk (new_apart HF3.out.lt hPF4); replace HF3 := Aside0.mk (HF3.out.step hk no_S); clear hPF4; obtain ⟨BF4, DF4, e_F4⟩ := HF4.out.val; subst e_F4; replace HB := Aside0.mk (below_step HB.out hb); clear hb hk))
      go_ret3
      exact ⟨_, _, rfl, LR.out HF3.out, LS.out HF4.out HF3.out.1.1 D_F3_F4.out, HB.out⟩
    rw [if_neg c] at h
    have cb200 : decide ((200 : Int) < (l0.length : Int)) = false := decide_eq_false c
    have cn2 : decide (200 < l0.length) = false := decide_eq_false (by omega)
    clear c
    have H' := Aside0.mk h
    clear h
    go_enter Try.func12, Try.ntmps12
    go_wp2_with (first | ((with_reducible refine gate_dst (N := 19) rfl ?_); refine Kd.R_lit (Kd.int .i64) _ 3 ?hg_5 (N := 19) ?hd_5 (xs := ([] : List Int)) (inner := []) (ok := fun _ => True) (okp := fun _ => True) ?hr_5 ?hp_5 (fun _ hk => hk) trivial (Below.refl _ _) (Nat.le_refl _) (by simp) ?_; (case hd_5 => rfl); (case hg_5 => rfl); (case hr_5 => first | (go_simp; done) | (go_simp; rfl)); (case hp_5 => exact (Reps.none _ _)); intro vF5 w2 hrF5 hb hg_ hnew_; clear hg_ hnew_; rw [← Ny2.out] at hrF5; have hk := kept_below hb; obtain ⟨PF5, hPF5, HLF5⟩ := LR.fresh rfl HB.out hrF5; have HF5 := Aside0.mk HLF5; clear HLF5 hrF5; clear hPF5; obtain ⟨BF5, DF5, e_F5⟩ := HF5.out.val; subst e_F5; replace HB := Aside0.mk (below_step HB.out hb); clear hb hk) | ((with_reducible refine gate_dst (N := 20) rfl ?_); refine Kd.S_lit k35 _ 35 ?hg_6 (N := 20) ?hd_6 (xs := ([] : List S35)) (inner := []) (ok := fun _ => True) (okp := fun _ => True) ?hr_6 ?hp_6 (fun _ hk => hk) trivial (Below.refl _ _) (Nat.le_refl _) (by simp) ?_; (case hd_6 => rfl); (case hg_6 => rfl); (case hr_6 => first | (go_simp; done) | (go_simp; rfl)); (case hp_6 => exact (Reps.none _ _)); intro vF6 w2 hrF6 hb hg_ hnew_; clear hg_ hnew_; rw [← Ny0.out] at hrF6; have hk := kept_below hb; obtain ⟨PF6, hPF6, HLF6⟩ := LS.fresh HB.out hrF6; have HF6 := Aside0.mk HLF6; clear HLF6 hrF6; have D_F5_F6 := Aside0.mk (new_apart HF5.out.lt hPF6); replace HF5 := Aside0.mk (HF5.out.step hk no_S); clear hPF6; obtain ⟨BF6, DF6, e_F6⟩ := HF6.out.val; subst e_F6; replace HB := Aside0.mk (below_step HB.out hb); clear hb hk))
    go_loopg [5, 6, 7] k (fun kq v7 v6 v28 w' => ∃ (x7 : List Int) (i : Int) (s : List S35) (P7 Pq : Nat → Prop), v28 = .int .i64 i ∧ Aside0 (spec_BlobRun.l0 kq l0 i x7 s = some (r1, r2, r3)) ∧ Aside0 (kq ≤ k) ∧ Aside0 (LR (Kd.int .i64) 3 w' w.heap.size P7 v7 x7) ∧ Aside0 (LS k35 35 w' w.heap.size Pq v6 s) ∧ Aside0 (∀ k_, P7 k_ → ¬ Pq k_) ∧ Aside0 (Below w.heap.size w w'))
    case atStart => exact ⟨y2, 0, y0, PF5, PF6, rfl, H', ⟨Nat.le_refl _⟩, HF5, HF6, ⟨D_F5_F6.out⟩, HB⟩
    case round =>
      clear H' HB HF5 HF6
      obtain ⟨x7, i, s, P7, Pq, rfl, HA, HK1, H7, Hq, D_7_q, HB⟩ := hrel
      cases gk with
      | zero => exact absurd HA.out (by simp [spec_BlobRun.l0])
      | succ k1 =>
        have H := HA.out
        clear HA
        simp only [spec_BlobRun.l0] at H
        obtain ⟨B7, D7, e_7⟩ := H7.out.val
        subst e_7
        obtain ⟨Bq, Dq, e_q⟩ := Hq.out.val
        subst e_q
        by_cases c1 : i < (l0.length : Int)
        · rw [if_pos c1] at H
          have cb1 : decide (i < (l0.length : Int)) = true := decide_eq_true c1
          by_cases c2 : 0 ≤ i
          · rw [if_pos c2] at H
            have cb2 : decide (0 ≤ i) = true := decide_eq_true c2
            obtain ⟨adx, A2, c3, ex, hx0, hx1, hx2, hl3, hi3⟩ := at_T61 HR0.out i c2 c1
            cases ex
            obtain ⟨z, hz⟩ : ∃ z, z = rd_T61 l0 i := ⟨_, rfl⟩
            rw [← hz] at H hx0 hx1 hx2 hl3 hi3
            replace hx0 := (HB.out.cell (World.block_lt_of_cell? w _ hx0)).trans hx0
            replace hx1 := (HB.out.cell (World.block_lt_of_cell? w _ hx1)).trans hx1
            replace hx2 := (HB.out.cell (World.block_lt_of_cell? w _ hx2)).trans hx2
            have HIX := Aside0.mk hi3
            have HLX := Aside0.mk hl3
            clear hi3 hl3 hz
            replace c1 := eq_true c1
            replace c2 := eq_true c2
            obtain ⟨⟨t1, t2⟩, e1, H⟩ := Option.bind_eq_some_iff.1 H
            by_cases c5 : s.length ≤ 1000000
            · rw [if_pos c5] at e1
              have HLN := Aside0.mk c5
              have E1 := Aside0.mk e1
              clear e1 c5
              simp only at H
              by_cases c4 : x7.length < 17592186044416
              · rw [if_pos c4] at H
                have LM4 := Aside0.mk c4
                clear c4
                obtain ⟨y3, hy3⟩ : ∃ y_ : List Int, y_ = x7 ++ [t2] := ⟨_, rfl⟩
                rw [← hy3] at H
                have Ny3 := Aside0.mk hy3
                have H' := Aside0.mk H
                clear H hy3
                go_wp2_with (first | ((with_reducible refine gate_callee (f := 36) rfl ?_); refine goesL_ (some 33) rfl rfl Try.func36 (by kernel_rfl) rfl #[.slice Bq s.length Dq, .agg #[.int .i64 z.f0, .slice A2 z.f1.length c3, .string z.f2]] rfl (by (try simp only [List.map_toArray, List.map_cons, List.map_nil]); first | done | rfl) ?_; (with_reducible refine (spec_l04Act.own k1 Pq Bq Dq s z.f0 A2 c3 z.f1 z.f2 t1 t2 w _ HB.out Hq.out HLN.out HIX.out HLX.out E1.out).mono ?_); rintro e w2 ⟨v5, Q5, rfl, h5, rr5, hb, hk⟩; refine ⟨_, rfl, ?_⟩; have D_7_5 := Aside0.mk (apart_app rr5 H7.out.lt D_7_q.out); replace H7 := Aside0.mk (H7.out.step hk D_7_q.out); have H5 := Aside0.mk h5; replace HB := Aside0.mk hb; clear h5 rr5 hb hk Hq; obtain ⟨B5, D5, e_5⟩ := H5.out.val; subst e_5) | ((with_reducible refine gate_builtin (b := .append) (xs := #[.tmp 36, .tmp 38]) rfl ?_); at_builtin; refine LR.append1 (Kd.int .i64) (w0 := w) rfl (.tmp 36) (.tmp 38) 29 3 (.int .i64 0) 8 rfl Try.underlying29 info3 rfl (by decide) (by omega) (.slice B7 x7.length D7) x7 t2 [.int .i64 t2] rfl rfl (by simp) H7.out rfl (fun _ _ h_ => h_) HB.out ?aL_7 ?_; (case aL_7 => have := LM4.out; omega); intro PF7 v_ w2 HL hb hk hR; have D_5_F7 := Aside0.mk (apart_app hR H5.out.lt (apart_symm D_7_5.out)); replace H5 := Aside0.mk (H5.out.step hk (apart_symm D_7_5.out)); rw [← Ny3.out] at HL; have HF7 := Aside0.mk HL; replace HB := Aside0.mk hb; clear hR HL hb hk; clear H7; obtain ⟨BF7, DF7, e_F7⟩ := HF7.out.val; subst e_F7))
                go_roundg k1
                case measure => have := HK1.out; omega
                case rel => exact ⟨y3, wrap64 (i + 1), t1, PF7, Q5, by first | rfl | simp, H', ⟨by have := HK1.out; omega⟩, HF7, H5, ⟨(apart_symm D_5_F7.out)⟩, HB⟩
              · rw [if_neg c4] at H
                exact absurd H (by simp)
            · rw [if_neg c5] at e1
              exact absurd e1 (by simp)
          · rw [if_neg c2] at H
            exact absurd H (by simp)
        · rw [if_neg c1] at H
          have cb1 : decide (i < (l0.length : Int)) = false := decide_eq_false c1
          clear c1
          simp only [Option.some.injEq, Prod.mk.injEq] at H
          obtain ⟨rfl, rfl, rfl⟩ := H
          go_wp2
          go_ret3
          exact ⟨_, _, rfl, LR.out H7.out, LS.out Hq.out H7.out.1.1 D_7_q.out, HB.out⟩
end
/-! ### slices.IndexFunc at BlobGet's literal, impl_BlobGet (function 14), by hand -/
section
open Go.Proofs.Ytcgkfijigjcmpaa.Lawful
set_option maxHeartbeats 16000000 in
set_option maxRecDepth 100000 in
theorem getLit (x : S35) (v : Value) (key : ByteArray) (gK : Nat) (w : World) (hk : w.cell? ⟨gK, 0, none⟩ = some (.string key)) : Calls Try.prog 39 #[.agg #[.string x.f0, .int .i64 x.f1, v], .pointer (some ⟨gK, 0, none⟩)] w fun e w' => e = .returned (.bool (x.f0.toList == key.toList)) ∧ Below w.heap.size w w' := by
  have hu := Try.underlying35
  have HB := Aside0.mk (Below.refl w.heap.size w)
  have HKC := Aside0.mk hk
  clear hk
  go_enter Try.func39, Try.ntmps39
  go_wp2_with (first | ((with_reducible refine gate_dst (N := 2) rfl ?_); refine box_event ?hg_1 (N := 2) ?hd_1 (cs := #[.string x.f0, .int .i64 x.f1, v]) (t := 35) ?hr_1 ?_; (case hd_1 => rfl); (case hg_1 => rfl); (case hr_1 => first | (go_simp; done) | (go_simp; rfl)); intro gX1 hg w2 hbox hb; have hk := kept_below hb; obtain ⟨PX1, hPX1, HLX1⟩ := LB.fresh hg hbox; have HX1 := Aside0.mk HLX1; clear HLX1; have GEX1 := Aside0.mk (show w.heap.size ≤ gX1 from (by rw [hg]; exact HB.out.size)); replace HB := Aside0.mk (below_step HB.out hb); clear hb hk hbox hg hPX1; (try clear hxX1_0 hfX1_0 hxX1_1 hfX1_1 hxX1_2 hfX1_2); have hxX1_0 := (HX1.out.cell 0).trans (show _ = some (.string x.f0) from rfl); have hfX1_0 := HX1.out.frozen 0; have hxX1_1 := (HX1.out.cell 1).trans (show _ = some (.int .i64 x.f1) from rfl); have hfX1_1 := HX1.out.frozen 1; have hxX1_2 := (HX1.out.cell 2).trans (show _ = some (v) from rfl); have hfX1_2 := HX1.out.frozen 2; have hkc := (HB.out.cell (World.block_lt_of_cell? _ _ HKC.out)).trans HKC.out))
  go_ret
  exact ⟨rfl, HB.out⟩
set_option maxHeartbeats 16000000 in
set_option maxRecDepth 100000 in
theorem getIndex (A0 : Option Addr) (c0 : Nat) (l : List S35) (key : ByteArray) (gK : Nat) (n : Nat) (w : World) (hr : Kd.C k35 w A0 l.length l) (hl : l.length ≤ 9223372036854775807) (hk : w.cell? ⟨gK, 0, none⟩ = some (.string key)) (hn : blobAtP (fun x => x.f0.toList == key.toList) l 0 = some n) :
    Calls Try.prog 38 #[.slice A0 l.length c0, .func (.func 39) #[] #[.pointer (some ⟨gK, 0, none⟩)]] w fun e w' => e = .returned (.int .i64 (n : Int)) ∧ Below w.heap.size w w' := by
  have HB := Aside0.mk (Below.refl w.heap.size w)
  have HR := Aside0.mk hr
  have HL := Aside0.mk hl
  have HKC := Aside0.mk hk
  have HN := Aside0.mk hn
  clear hr hl hk hn
  go_enter Try.func38, Try.ntmps38
  go_wp2
  go_loopg [8] (l.length + 1) (fun kq v8 w' => ∃ i : Nat, v8 = .int .i64 (i : Int) ∧ Aside0 (i + kq = l.length + 1) ∧ Aside0 (blobAtP (fun x => x.f0.toList == key.toList) (l.drop i) i = some n) ∧ Aside0 (Below w.heap.size w w'))
  case atStart => exact ⟨0, rfl, ⟨by omega⟩, HN, HB⟩
  case round =>
    clear HB HN
    obtain ⟨i, rfl, HK, HI, HB⟩ := hrel
    by_cases hi : i < l.length
    · obtain ⟨k1, rfl⟩ : ∃ k_, gk = k_ + 1 := ⟨gk - 1, by have := HK.out; omega⟩
      have hlt : decide ((i : Int) < (l.length : Int)) = true := decide_eq_true (by omega)
      have hltn : decide (i < l.length) = true := decide_eq_true (by omega)
      have hw : wrap64 ((i : Int) + 1) = ((i + 1 : Nat) : Int) := by have := HL.out; unfold wrap64; omega
      have hww : IntKind.i64.wrap ((i : Int) + 1) = ((i + 1 : Nat) : Int) := (i64_w _).trans hw
      obtain ⟨ad, A2, c2, ea, hx0, hx1, hx2, _, _⟩ := at_T35 (Kd.C_below HR.out HB.out) (i : Int) (by omega) (by omega)
      cases ea
      simp only [Int.toNat_natCast] at hx0 hx1 hx2
      have HS := Aside0.mk ((blobAtP_step (fun x => x.f0.toList == key.toList) l i hi).symm.trans HI.out)
      have p1 := eq_true (show (0 : Int) ≤ (i : Int) by omega)
      have q1 := eq_true (show (i : Int) < (l.length : Int) by omega)
      have p2 := hi
      cases hc : ((rd_T35 l (i : Int)).f0.toList == key.toList) with
      | true =>
        have HE := Aside0.mk (show i = n by have h_ := HS.out; rw [hc] at h_; exact Option.some.inj h_)
        go_wp2_with (first | ((with_reducible refine gate_dst (N := 16) rfl ?_); refine goesV_ (f := 39) (some 16) rfl rfl Try.func39 (by kernel_rfl) rfl #[.agg #[.string (rd_T35 l (i : Int)).f0, .int .i64 (rd_T35 l (i : Int)).f1, .slice A2 (rd_T35 l (i : Int)).f2.length c2], .pointer (some ⟨gK, 0, none⟩)] rfl rfl rfl ?_; (with_reducible refine (getLit (rd_T35 l (i : Int)) _ key gK _ ((HB.out.cell (World.block_lt_of_cell? _ _ HKC.out)).trans HKC.out)).mono ?_); rintro e w2 ⟨he, hb⟩; rw [hc] at he; subst he; refine ⟨_, rfl, ?_⟩; replace HB := Aside0.mk (below_step HB.out hb); clear hb))
        go_ret
        exact ⟨by rw [← HE.out]; rfl, HB.out⟩
      | false =>
        have HE := Aside0.mk (show blobAtP (fun x => x.f0.toList == key.toList) (l.drop (i + 1)) (i + 1) = some n by have h_ := HS.out; rw [hc] at h_; exact h_)
        go_wp2_with (first | ((with_reducible refine gate_dst (N := 16) rfl ?_); refine goesV_ (f := 39) (some 16) rfl rfl Try.func39 (by kernel_rfl) rfl #[.agg #[.string (rd_T35 l (i : Int)).f0, .int .i64 (rd_T35 l (i : Int)).f1, .slice A2 (rd_T35 l (i : Int)).f2.length c2], .pointer (some ⟨gK, 0, none⟩)] rfl rfl rfl ?_; (with_reducible refine (getLit (rd_T35 l (i : Int)) _ key gK _ ((HB.out.cell (World.block_lt_of_cell? _ _ HKC.out)).trans HKC.out)).mono ?_); rintro e w2 ⟨he, hb⟩; rw [hc] at he; subst he; refine ⟨_, rfl, ?_⟩; replace HB := Aside0.mk (below_step HB.out hb); clear hb))
        go_roundg k1
        case measure => have := HK.out; omega
        case rel => exact ⟨i + 1, by first | rfl | (simp only [hw]) | simp, ⟨by have := HK.out; omega⟩, HE, HB⟩
    · have hd : l.drop i = [] := List.drop_eq_nil_of_le (by omega)
      exact absurd HI.out (by rw [hd]; simp [blobAtP])
/-- What the law asks BlobGet for: a key that is there; with references its bytes have it. -/
def impl_BlobGet.f (k : Nat) (l0 : List S35) (key : ByteArray) : Option (List Int × Int) :=
  (impl_longList.f (l0.length : Int)).bind fun t1 => (impl_long.f k [key]).bind fun t2 => (impl_first.f k [t1, t2]).bind fun t3 =>
    if t3 = 0 then
      match blobAtP (fun x => x.f0.toList == key.toList) l0 0 with
      | none => none
      | some i => if (rd_T35 l0 (i : Int)).f1 < 1 then some ([], 6) else (impl_Sha.f (rd_T35 l0 (i : Int)).f2).bind fun t4 => if t4.toList = key.toList then (slices_Clone_byte_byte.f (rd_T35 l0 (i : Int)).f2).bind fun t5 => some (t5, 0) else none
    else none
theorem blobAtP_lt (q : S35 → Bool) : ∀ (l : List S35) (i n : Nat), blobAtP q l i = some n → i ≤ n ∧ n < i + l.length
  | [], _, _, h => by simp [blobAtP] at h
  | x :: l, i, n, h => by
    rw [blobAtP] at h
    by_cases hq : q x = true
    · rw [if_pos hq] at h
      obtain rfl := Option.some.inj h
      simp
    · rw [if_neg hq] at h
      have := blobAtP_lt q l (i + 1) n h
      simp only [List.length_cons]
      omega
def impl_BlobGet.T1 : Bool × List (List Nat × List Nat) := (true, [([], []), ([0], [0]), ([1], [1]), ([], []), ([3], [3]), ([4, 2], [4]), ([2, 5], [2, 5]), ([6, 5], [6]), ([7, 7, 0, 1, 2, 3, 4, 5, 6, 7], [7])])
def impl_BlobGet.B1 : List Nat := [0, 1, 3, 0, 8, 31, 63, 127, 255]
theorem impl_BlobGet.tab1 : rtab .any (opsOf Try.f14 1) = impl_BlobGet.T1 := by kernel_rfl
theorem impl_BlobGet.bits1 : waitsOk impl_BlobGet.T1.2 impl_BlobGet.B1 = true := by kernel_rfl
def impl_BlobGet.T7 : Bool × List (List Nat × List Nat) := (true, [([], []), ([], []), ([0, 1], [0, 1]), ([2], [2]), ([3], [3]), ([4], [4]), ([], []), ([5, 6], [5, 6]), ([7, 5], [7])])
def impl_BlobGet.B7 : List Nat := [0, 0, 3, 7, 15, 31, 0, 127, 255]
theorem impl_BlobGet.tab7 : rtab .any (opsOf Try.f14 7) = impl_BlobGet.T7 := by kernel_rfl
theorem impl_BlobGet.bits7 : waitsOk impl_BlobGet.T7.2 impl_BlobGet.B7 = true := by kernel_rfl
set_option maxHeartbeats 16000000 in
set_option maxRecDepth 100000 in
theorem impl_BlobGet.own (k : Nat) (A0 : Option Addr) (c0 : Nat) (l0 : List S35) (a1 : ByteArray) (r1 : List Int) (r2 : Int) (w : World) (hr0 : Kd.C k35 w A0 l0.length l0) (hc0 : l0.length ≤ c0) (h : impl_BlobGet.f k l0 a1 = some (r1, r2)) :
    Calls Try.prog 14 #[.slice A0 l0.length c0, .string a1] w fun e w' => ∃ v0_ : Value, e = .returned (.tuple #[v0_, .int .i64 r2]) ∧ Kd.R (Kd.int .u8) 5 w' w.heap.size (fun k_ => (w.heap.size ≤ k_)) v0_ r1 ∧ Below w.heap.size w w' := by
  have hu := Try.underlying35
  have HB := Aside0.mk (Below.refl w.heap.size w)
  have HR0 := Aside0.mk hr0
  have HC0 := Aside0.mk hc0
  have HLL := Aside0.mk hr0.2.1
  unfold impl_BlobGet.f at h
  obtain ⟨t1, e1, h⟩ := Option.bind_eq_some_iff.1 h
  obtain ⟨ys, hys⟩ : ∃ y_ : List ByteArray, y_ = [a1] := ⟨_, rfl⟩
  rw [← hys] at h
  obtain ⟨t2, e2, h⟩ := Option.bind_eq_some_iff.1 h
  obtain ⟨y1, hy1⟩ : ∃ y_ : List Int, y_ = [t1, t2] := ⟨_, rfl⟩
  rw [← hy1] at h
  obtain ⟨t3, e3, h⟩ := Option.bind_eq_some_iff.1 h
  have E1 := Aside0.mk e1
  have E2 := Aside0.mk e2
  have E3 := Aside0.mk e3
  have Ny1 := Aside0.mk hy1
  have Nys := Aside0.mk hys
  clear e1 e2 e3 hy1 hys hr0 hc0
  by_cases c : t3 = 0
  · rw [if_pos c] at h
    have cb : (t3 == 0) = true := beq_iff_eq.mpr c
    have cb2 : (t3 != 0) = false := bne_eq_false_iff_eq.mpr c
    clear c
    cases hat : blobAtP (fun x => x.f0.toList == a1.toList) l0 0 with
    | none => rw [hat] at h; exact absurd h (by simp)
    | some i =>
      rw [hat] at h
      have HAT := Aside0.mk hat
      have hi : i < l0.length := by have := blobAtP_lt _ l0 0 i hat; omega
      clear hat
      replace h : (if (rd_T35 l0 (i : Int)).f1 < 1 then some ([], 6) else (impl_Sha.f (rd_T35 l0 (i : Int)).f2).bind fun t4 => if t4.toList = a1.toList then (slices_Clone_byte_byte.f (rd_T35 l0 (i : Int)).f2).bind fun t5 => some (t5, 0) else none) = some (r1, r2) := h
      have H := Aside0.mk h
      have i0 : decide ((i : Int) < 0) = false := decide_eq_false (by omega)
      have p1 := eq_true (show (0 : Int) ≤ (i : Int) by omega)
      have q1 := eq_true (show (i : Int) < (l0.length : Int) by omega)
      have p2 := hi
      obtain ⟨ad, A2, c2, ea, hw0, hw1, hw2, hl2, hr2⟩ := at_T35 HR0.out (i : Int) (by omega) (by omega)
      cases ea
      simp only [Int.toNat_natCast] at hw0 hw1 hw2
      have HXE1 := Aside0.mk hw1
      have HXE2 := Aside0.mk hw2
      have HR2 := Aside0.mk hr2
      have HC2 := Aside0.mk hl2
      clear h hw0 hw1 hw2 hr2 hl2
      go_enter Try.func14, Try.ntmps14
      go_upto_region 1 with (first | ((with_reducible refine gate_dst (N := 3) rfl ?_); refine box_event ?hg_2 (N := 3) ?hd_2 (cs := #[.string a1]) (t := 9) ?hr_2 ?_; (case hd_2 => rfl); (case hg_2 => rfl); (case hr_2 => first | (go_simp; done) | (go_simp; rfl)); intro gX2 hg w2 hbox hb; have hk := kept_below hb; obtain ⟨PX2, hPX2, HLX2⟩ := LB.fresh hg hbox; have HX2 := Aside0.mk HLX2; clear HLX2; have GEX2 := Aside0.mk (show w.heap.size ≤ gX2 from (by rw [hg]; exact HB.out.size)); replace HB := Aside0.mk (below_step HB.out hb); clear hb hk hbox hg hPX2; (try clear hxX2_0 hfX2_0); have hxX2_0 := (HX2.out.cell 0).trans (show _ = some (.string a1) from rfl); have hfX2_0 := HX2.out.frozen 0))
      refine start_ (n := 9) (S := fun w' => w'.cell? ⟨gX2, 0, none⟩ = some (.string a1)) (ds := []) #[false, false, false, false, false, false, false, false, false] (by kernel_rfl) rfl rfl hxX2_0 (fun hHeld => ?_)
      refine with_tabW impl_BlobGet.tab1 impl_BlobGet.bits1 (fun HT_ HW_ => ?_)
      generalize hwd_ : World.drew w2 = wd_ at hHeld ⊢
      have hk := kept_drew hwd_
      replace HX2 := Aside0.mk (HX2.out.step hk no_S)
      replace HB := Aside0.mk (below_drewd HB.out hwd_)
      clear hk hwd_
      (try clear hxX2_0 hfX2_0)
      have hxX2_0 := (HX2.out.cell 0).trans (show _ = some (.string a1) from rfl)
      have hfX2_0 := HX2.out.frozen 0
      refine pure_ (i := 0) (N := some 8) (v := ?_) (a' := ?_) #[true, false, false, false, false, false, false, false, false] rfl rfl (any_of HT_.out (by kernel_rfl)) (fun _ _ _ h => h) (Or.inl ⟨by rfl, ?_⟩) ?_ ?_
      rotate_left
      · intro w'
        go_simp
        with_reducible rfl
      rotate_left
      · simp only [Act.put, List.setIfInBounds_toArray, List.set_cons_zero, List.set_cons_succ, i64_w, i32_w]
        rfl
      refine pure_ (i := 1) (N := some 9) (v := ?_) (a' := ?_) #[true, true, false, false, false, false, false, false, false] rfl rfl (any_of HT_.out (by kernel_rfl)) (fun _ _ _ h => h) (Or.inl ⟨by rfl, ?_⟩) ?_ ?_
      rotate_left
      · intro w'
        go_simp
        with_reducible rfl
      rotate_left
      · simp only [Act.put, List.setIfInBounds_toArray, List.set_cons_zero, List.set_cons_succ, i64_w, i32_w]
        rfl
      refine take_ (i := 3) (N := some 11) (v := ?_) (a' := ?_) #[true, true, false, true, false, false, false, false, false] rfl rfl (take_ofW HT_.out HW_.out (by kernel_rfl)) (fun _ _ _ h => h) (Or.inl ⟨by rfl, ?_⟩) hHeld ?_ ?_
      rotate_left
      · rintro w' s0
        go_simp
        with_reducible rfl
      rotate_left
      · simp only [Act.put, List.setIfInBounds_toArray, List.set_cons_zero, List.set_cons_succ, i64_w, i32_w]
        rfl
      refine two_ (i := 2) (j := 4) (Ni := some 10) (Nj := some 12) #[true, true, true, true, false, false, false, false, false] #[true, true, false, true, true, false, false, false, false] rfl rfl rfl rfl (two_of HT_.out (by kernel_rfl)) (by decide) (by decide) (fun K hK => ?_) (fun K hK => ?_)
      · refine goes_ Try.func33 (by kernel_rfl) rfl #[.int .i64 (l0.length : Int)] (by rfl) rfl rfl (by (try simp only [List.map_toArray, List.map_cons, List.map_nil]); first | done | rfl | (simp only [List.length_drop, List.length_take]; rfl)) ?_
        (with_reducible refine (impl_longList.calls (l0.length : Int) t1 _ E1.out).mono ?_)
        rintro e w2 ⟨rfl, hq⟩
        refine ⟨_, rfl, ?_⟩
        have hk := kept_drawn hq
        replace HX2 := Aside0.mk (HX2.out.step hk no_S)
        replace HB := Aside0.mk (below_drawn HB.out hq)
        clear hk hq
        (try clear hxX2_0 hfX2_0)
        have hxX2_0 := (HX2.out.cell 0).trans (show _ = some (.string a1) from rfl)
        have hfX2_0 := HX2.out.frozen 0
        refine hK.out _ _ hxX2_0 (fun hHeld => ?_)
        clear hK K
        refine norm_ (a' := ?_) ?_ ?_
        rotate_left
        · show Act.put _ (some 10) _ = _
          simp only [Act.put, List.setIfInBounds_toArray, List.set_cons_zero, List.set_cons_succ, i64_w, i32_w]
          rfl
        refine one_ (i := 4) (N := some 12) #[true, true, true, true, true, false, false, false, false] rfl rfl (one_of HT_.out (by kernel_rfl)) (by decide) (fun K hK => ?_)
        refine Kd.R_lit_step Kd.string _ 9 ?hg_3 (N := 12) ?hd_3 (xs := ([a1] : List ByteArray)) (inner := [.string a1]) (ok := fun _ => True) (okp := fun _ => True) ?hr_3 ?hp_3 (fun _ hk => hk) trivial (Below.refl _ _) (Nat.le_refl _) (by simp) ?_
        (case hd_3 => rfl)
        (case hg_3 => exact (by rfl))
        (case hr_3 => first | (go_simp; done) | (go_simp; rfl))
        (case hp_3 => exact ⟨rfl, fun j p hj => by match j with | 0 => (obtain rfl := Option.some.inj hj; rfl) | _ + 1 => (simp at hj)⟩)
        intro vF3 w2 hrF3 hb hg_ hnew_
        clear hg_ hnew_
        rw [← Nys.out] at hrF3
        have hk := kept_below hb
        obtain ⟨PF3, hPF3, HLF3⟩ := LR.fresh rfl HB.out hrF3
        have HF3 := Aside0.mk HLF3
        clear HLF3 hrF3
        have D_X2_F3 := Aside0.mk (new_apart HX2.out.lt hPF3)
        replace HX2 := Aside0.mk (HX2.out.step hk no_S)
        clear hPF3
        obtain ⟨BF3, DF3, e_F3⟩ := HF3.out.val
        subst e_F3
        replace HB := Aside0.mk (below_step HB.out hb)
        clear hb hk
        (try clear hxX2_0 hfX2_0)
        have hxX2_0 := (HX2.out.cell 0).trans (show _ = some (.string a1) from rfl)
        have hfX2_0 := HX2.out.frozen 0
        refine hK.out _ _ hxX2_0 (fun hHeld => ?_)
        clear hK K
        refine norm_ (a' := ?_) ?_ ?_
        rotate_left
        · show Act.put _ (some 12) _ = _
          simp only [Act.put, List.setIfInBounds_toArray, List.set_cons_zero, List.set_cons_succ, i64_w, i32_w]
          rfl
        refine one_ (i := 5) (N := some 13) #[true, true, true, true, true, true, false, false, false] rfl rfl (one_of HT_.out (by kernel_rfl)) (by decide) (fun K hK => ?_)
        refine goes_ Try.func37 (by kernel_rfl) rfl #[.slice BF3 ys.length DF3] (by rfl) rfl rfl (by (try simp only [List.map_toArray, List.map_cons, List.map_nil]); first | done | rfl | (simp only [List.length_drop, List.length_take]; rfl)) ?_
        (with_reducible refine (impl_long.calls k _ _ ys t2 _ HF3.out.reads HF3.out.room E2.out).mono ?_)
        rintro e w2 ⟨rfl, hq⟩
        refine ⟨_, rfl, ?_⟩
        have hk := kept_drawn hq
        replace HX2 := Aside0.mk (HX2.out.step hk no_S)
        replace HF3 := Aside0.mk (HF3.out.step hk no_S)
        replace HB := Aside0.mk (below_drawn HB.out hq)
        clear hk hq
        (try clear hxX2_0 hfX2_0)
        have hxX2_0 := (HX2.out.cell 0).trans (show _ = some (.string a1) from rfl)
        have hfX2_0 := HX2.out.frozen 0
        refine hK.out _ _ hxX2_0 (fun hHeld => ?_)
        clear hK K
        refine norm_ (a' := ?_) ?_ ?_
        rotate_left
        · show Act.put _ (some 13) _ = _
          simp only [Act.put, List.setIfInBounds_toArray, List.set_cons_zero, List.set_cons_succ, i64_w, i32_w]
          rfl
        refine one_ (i := 6) (N := some 14) #[true, true, true, true, true, true, true, false, false] rfl rfl (one_of HT_.out (by kernel_rfl)) (by decide) (fun K hK => ?_)
        refine Kd.R_lit_step (Kd.int .i64) _ 3 ?hg_4 (N := 14) ?hd_4 (xs := ([t1, t2] : List Int)) (inner := [.int .i64 t1, .int .i64 t2]) (ok := fun _ => True) (okp := fun _ => True) ?hr_4 ?hp_4 (fun _ hk => hk) trivial (Below.refl _ _) (Nat.le_refl _) (by simp) ?_
        (case hd_4 => rfl)
        (case hg_4 => exact (by rfl))
        (case hr_4 => first | (go_simp; done) | (go_simp; rfl))
        (case hp_4 => exact ⟨rfl, fun j p hj => by match j with | 0 => (obtain rfl := Option.some.inj hj; rfl) | 1 => (obtain rfl := Option.some.inj hj; rfl) | _ + 2 => (simp at hj)⟩)
        intro vF4 w2 hrF4 hb hg_ hnew_
        clear hg_ hnew_
        rw [← Ny1.out] at hrF4
        have hk := kept_below hb
        obtain ⟨PF4, hPF4, HLF4⟩ := LR.fresh rfl HB.out hrF4
        have HF4 := Aside0.mk HLF4
        clear HLF4 hrF4
        have D_X2_F4 := Aside0.mk (new_apart HX2.out.lt hPF4)
        have D_F3_F4 := Aside0.mk (new_apart HF3.out.lt hPF4)
        replace HX2 := Aside0.mk (HX2.out.step hk no_S)
        replace HF3 := Aside0.mk (HF3.out.step hk no_S)
        clear hPF4
        obtain ⟨BF4, DF4, e_F4⟩ := HF4.out.val
        subst e_F4
        replace HB := Aside0.mk (below_step HB.out hb)
        clear hb hk
        (try clear hxX2_0 hfX2_0)
        have hxX2_0 := (HX2.out.cell 0).trans (show _ = some (.string a1) from rfl)
        have hfX2_0 := HX2.out.frozen 0
        refine hK.out _ _ hxX2_0 (fun hHeld => ?_)
        clear hK K
        refine norm_ (a' := ?_) ?_ ?_
        rotate_left
        · show Act.put _ (some 14) _ = _
          simp only [Act.put, List.setIfInBounds_toArray, List.set_cons_zero, List.set_cons_succ, i64_w, i32_w]
          rfl
        refine one_ (i := 7) (N := some 15) #[true, true, true, true, true, true, true, true, false] rfl rfl (one_of HT_.out (by kernel_rfl)) (by decide) (fun K hK => ?_)
        refine goes_ Try.func32 (by kernel_rfl) rfl #[.slice BF4 y1.length DF4] (by rfl) rfl rfl (by (try simp only [List.map_toArray, List.map_cons, List.map_nil]); first | done | rfl | (simp only [List.length_drop, List.length_take]; rfl)) ?_
        (with_reducible refine (impl_first.calls k _ _ y1 t3 _ HF4.out.reads HF4.out.room E3.out).mono ?_)
        rintro e w2 ⟨rfl, hq⟩
        refine ⟨_, rfl, ?_⟩
        have hk := kept_drawn hq
        replace HX2 := Aside0.mk (HX2.out.step hk no_S)
        replace HF3 := Aside0.mk (HF3.out.step hk no_S)
        replace HF4 := Aside0.mk (HF4.out.step hk no_S)
        replace HB := Aside0.mk (below_drawn HB.out hq)
        clear hk hq
        (try clear hxX2_0 hfX2_0)
        have hxX2_0 := (HX2.out.cell 0).trans (show _ = some (.string a1) from rfl)
        have hfX2_0 := HX2.out.frozen 0
        refine hK.out _ _ hxX2_0 (fun hHeld => ?_)
        clear hK K
        refine norm_ (a' := ?_) ?_ ?_
        rotate_left
        · show Act.put _ (some 15) _ = _
          simp only [Act.put, List.setIfInBounds_toArray, List.set_cons_zero, List.set_cons_succ, i64_w, i32_w]
          rfl
        refine pure_ (i := 8) (N := some 6) (v := ?_) (a' := ?_) #[true, true, true, true, true, true, true, true, true] rfl rfl (any_of HT_.out (by kernel_rfl)) (fun _ _ _ h => h) (Or.inl ⟨by rfl, ?_⟩) ?_ ?_
        rotate_left
        · intro w'
          go_simp
          with_reducible rfl
        rotate_left
        · simp only [Act.put, List.setIfInBounds_toArray, List.set_cons_zero, List.set_cons_succ, i64_w, i32_w]
          rfl
        refine done_ (done_of HT_.out (by kernel_rfl)) ?_
        go_upto_region 5 with (first | ((with_reducible refine gate_callee (f := 38) rfl ?_); refine goesL_ (some 21) rfl rfl Try.func38 (by kernel_rfl) rfl #[.slice (some ad) l0.length c0, .func (.func 39) #[] #[.pointer (some ⟨gX2, 0, none⟩)]] rfl (by (try simp only [List.map_toArray, List.map_cons, List.map_nil]); first | done | rfl) ?_; (with_reducible refine (getIndex _ _ l0 a1 gX2 i _ (Kd.C_below HR0.out HB.out) HLL.out hxX2_0 HAT.out).mono ?_); rintro e w2 ⟨rfl, hb⟩; refine ⟨_, rfl, ?_⟩; have hk := kept_below hb; replace HX2 := Aside0.mk (HX2.out.step hk no_S); replace HF3 := Aside0.mk (HF3.out.step hk no_S); replace HF4 := Aside0.mk (HF4.out.step hk no_S); replace HB := Aside0.mk (below_step HB.out hb); clear hb hk; (try clear hxX2_0 hfX2_0); have hxX2_0 := (HX2.out.cell 0).trans (show _ = some (.string a1) from rfl); have hfX2_0 := HX2.out.frozen 0))
        have hX1 := (HB.out.cell (World.block_lt_of_cell? _ _ HXE1.out)).trans HXE1.out
        by_cases c1 : (rd_T35 l0 (i : Int)).f1 < 1
        · have d1 : decide ((rd_T35 l0 (i : Int)).f1 < 1) = true := decide_eq_true c1
          have h_ := H.out
          rw [if_pos c1] at h_
          simp only [Option.some.injEq, Prod.mk.injEq] at h_
          obtain ⟨rfl, rfl⟩ := h_
          clear c1
          go_wp2
          go_ret2
          exact ⟨_, rfl, Kd.R_nil _ _ _ _ _, HB.out⟩
        · have d1 : decide ((rd_T35 l0 (i : Int)).f1 < 1) = false := decide_eq_false c1
          have h_ := H.out
          rw [if_neg c1] at h_
          obtain ⟨t4, e4, h_⟩ := Option.bind_eq_some_iff.1 h_
          by_cases c2 : t4.toList = a1.toList
          · rw [if_pos c2] at h_
            obtain ⟨t5, e5, h_⟩ := Option.bind_eq_some_iff.1 h_
            simp only [Option.some.injEq, Prod.mk.injEq] at h_
            obtain ⟨rfl, rfl⟩ := h_
            have E4 := Aside0.mk e4
            have E5 := Aside0.mk e5
            have d2 : (t4.toList != a1.toList) = false := bne_eq_false_iff_eq.mpr c2
            have d2b : (t4.toList == a1.toList) = true := beq_iff_eq.mpr c2
            clear c1 c2 e4 e5
            go_upto_region 7 with (fail)
            have hX2 := (HB.out.cell (World.block_lt_of_cell? _ _ HXE2.out)).trans HXE2.out
            refine start_ (n := 9) (S := fun w' => w'.cell? ⟨gX2, 0, none⟩ = some (.string a1) ∧ w'.cell? ⟨(ad.add (i * 3)).block, (ad.add (i * 3)).off + 2, none⟩ = some (.slice A2 (rd_T35 l0 (i : Int)).f2.length c2)) (ds := []) #[false, false, false, false, false, false, false, false, false] (by kernel_rfl) rfl rfl ⟨hxX2_0, ((HB.out.cell (World.block_lt_of_cell? _ _ HXE2.out)).trans HXE2.out)⟩ (fun hHeld => ?_)
            refine with_tabW impl_BlobGet.tab7 impl_BlobGet.bits7 (fun HT_ HW_ => ?_)
            generalize hwd_ : World.drew w2 = wd_ at hHeld ⊢
            have hk := kept_drew hwd_
            replace HX2 := Aside0.mk (HX2.out.step hk no_S)
            replace HF3 := Aside0.mk (HF3.out.step hk no_S)
            replace HF4 := Aside0.mk (HF4.out.step hk no_S)
            replace HB := Aside0.mk (below_drewd HB.out hwd_)
            clear hk hwd_
            (try clear hxX2_0 hfX2_0)
            have hxX2_0 := (HX2.out.cell 0).trans (show _ = some (.string a1) from rfl)
            have hfX2_0 := HX2.out.frozen 0
            refine pure_ (i := 0) (N := some 34) (v := ?_) (a' := ?_) #[true, false, false, false, false, false, false, false, false] rfl rfl (any_of HT_.out (by kernel_rfl)) (fun _ _ _ h => h) (Or.inl ⟨by rfl, ?_⟩) ?_ ?_
            rotate_left
            · intro w'
              go_simp
              with_reducible rfl
            rotate_left
            · simp only [Act.put, List.setIfInBounds_toArray, List.set_cons_zero, List.set_cons_succ, i64_w, i32_w]
              rfl
            refine pure_ (i := 1) (N := some 35) (v := ?_) (a' := ?_) #[true, true, false, false, false, false, false, false, false] rfl rfl (any_of HT_.out (by kernel_rfl)) (fun _ _ _ h => h) (Or.inl ⟨by rfl, ?_⟩) ?_ ?_
            rotate_left
            · intro w'
              go_simp
              with_reducible rfl
            rotate_left
            · simp only [Act.put, List.setIfInBounds_toArray, List.set_cons_zero, List.set_cons_succ, i64_w, i32_w]
              rfl
            refine pure_ (i := 2) (N := some 36) (v := ?_) (a' := ?_) #[true, true, true, false, false, false, false, false, false] rfl rfl (any_of HT_.out (by kernel_rfl)) (fun _ _ _ h => h) (Or.inl ⟨by rfl, ?_⟩) ?_ ?_
            rotate_left
            · intro w'
              go_simp
              with_reducible rfl
            rotate_left
            · simp only [Act.put, List.setIfInBounds_toArray, List.set_cons_zero, List.set_cons_succ, i64_w, i32_w]
              rfl
            refine pure_ (i := 3) (N := some 37) (v := ?_) (a' := ?_) #[true, true, true, true, false, false, false, false, false] rfl rfl (any_of HT_.out (by kernel_rfl)) (fun _ _ _ h => h) (Or.inl ⟨by rfl, ?_⟩) ?_ ?_
            rotate_left
            · intro w'
              go_simp
              with_reducible rfl
            rotate_left
            · simp only [Act.put, List.setIfInBounds_toArray, List.set_cons_zero, List.set_cons_succ, i64_w, i32_w]
              rfl
            refine take_ (i := 4) (N := some 38) (v := ?_) (a' := ?_) #[true, true, true, true, true, false, false, false, false] rfl rfl (take_ofW HT_.out HW_.out (by kernel_rfl)) (fun _ _ _ h => h) (Or.inl ⟨by rfl, ?_⟩) hHeld ?_ ?_
            rotate_left
            · rintro w' ⟨s0, s1⟩
              go_simp
              with_reducible rfl
            rotate_left
            · simp only [Act.put, List.setIfInBounds_toArray, List.set_cons_zero, List.set_cons_succ, i64_w, i32_w]
              rfl
            refine take_ (i := 6) (N := some 40) (v := ?_) (a' := ?_) #[true, true, true, true, true, false, true, false, false] rfl rfl (take_ofW HT_.out HW_.out (by kernel_rfl)) (fun _ _ _ h => h) (Or.inl ⟨by rfl, ?_⟩) hHeld ?_ ?_
            rotate_left
            · rintro w' ⟨s0, s1⟩
              go_simp
              with_reducible rfl
            rotate_left
            · simp only [Act.put, List.setIfInBounds_toArray, List.set_cons_zero, List.set_cons_succ, i64_w, i32_w]
              rfl
            refine one_ (i := 5) (N := some 39) #[true, true, true, true, true, true, true, false, false] rfl rfl (one_of HT_.out (by kernel_rfl)) (by decide) (fun K hK => ?_)
            refine goes_ Try.func8 (by kernel_rfl) rfl #[.slice A2 (rd_T35 l0 (i : Int)).f2.length c2] (by rfl) rfl rfl (by (try simp only [List.map_toArray, List.map_cons, List.map_nil]); first | done | rfl | (simp only [List.length_drop, List.length_take]; rfl)) ?_
            (with_reducible refine (impl_Sha.calls _ _ ((rd_T35 l0 (i : Int)).f2) t4 _ (Kd.C_below HR2.out HB.out) HC2.out E4.out).mono ?_)
            rintro e w2 ⟨rfl, hb⟩
            refine ⟨_, rfl, ?_⟩
            have hk := kept_below hb
            replace HX2 := Aside0.mk (HX2.out.step hk no_S)
            replace HF3 := Aside0.mk (HF3.out.step hk no_S)
            replace HF4 := Aside0.mk (HF4.out.step hk no_S)
            replace HB := Aside0.mk (below_step HB.out hb)
            clear hb hk
            (try clear hxX2_0 hfX2_0)
            have hxX2_0 := (HX2.out.cell 0).trans (show _ = some (.string a1) from rfl)
            have hfX2_0 := HX2.out.frozen 0
            refine hK.out _ _ ⟨hxX2_0, ((HB.out.cell (World.block_lt_of_cell? _ _ HXE2.out)).trans HXE2.out)⟩ (fun hHeld => ?_)
            clear hK K
            refine norm_ (a' := ?_) ?_ ?_
            rotate_left
            · show Act.put _ (some 39) _ = _
              simp only [Act.put, List.setIfInBounds_toArray, List.set_cons_zero, List.set_cons_succ, i64_w, i32_w]
              rfl
            refine pure_ (i := 7) (N := some 41) (v := ?_) (a' := ?_) #[true, true, true, true, true, true, true, true, false] rfl rfl (any_of HT_.out (by kernel_rfl)) (fun _ _ _ h => h) (Or.inl ⟨by rfl, ?_⟩) ?_ ?_
            rotate_left
            · intro w'
              go_simp
              with_reducible rfl
            rotate_left
            · simp only [Act.put, List.setIfInBounds_toArray, List.set_cons_zero, List.set_cons_succ, i64_w, i32_w]
              rfl
            refine pure_ (i := 8) (N := some 33) (v := ?_) (a' := ?_) #[true, true, true, true, true, true, true, true, true] rfl rfl (any_of HT_.out (by kernel_rfl)) (fun _ _ _ h => h) (Or.inl ⟨by rfl, ?_⟩) ?_ ?_
            rotate_left
            · intro w'
              go_simp
              with_reducible rfl
            rotate_left
            · simp only [Act.put, List.setIfInBounds_toArray, List.set_cons_zero, List.set_cons_succ, i64_w, i32_w]
              rfl
            refine done_ (done_of HT_.out (by kernel_rfl)) ?_
            have hX3 := (HB.out.cell (World.block_lt_of_cell? _ _ HXE2.out)).trans HXE2.out
            clear hX2 hX1
            go_wp2_with (first | ((with_reducible refine gate_callee (f := 27) rfl ?_); refine goesL_ (some 47) rfl rfl Try.func27 (by kernel_rfl) rfl #[.slice A2 (rd_T35 l0 (i : Int)).f2.length c2] rfl (by (try simp only [List.map_toArray, List.map_cons, List.map_nil]); first | done | rfl | (simp only [List.length_drop, List.length_take]; rfl)) ?_; (with_reducible refine (slices_Clone_byte_byte.calls _ _ ((rd_T35 l0 (i : Int)).f2) t5 _ (Kd.C_below HR2.out HB.out) HC2.out E5.out).mono ?_); rintro e w2 ⟨vF5, rfl, hrF5, hb⟩; refine ⟨_, rfl, ?_⟩; have hk := kept_below hb; obtain ⟨PF5, hPF5, HLF5⟩ := LR.fresh rfl HB.out hrF5; have HF5 := Aside0.mk HLF5; clear HLF5 hrF5; have D_X2_F5 := Aside0.mk (new_apart HX2.out.lt hPF5); have D_F3_F5 := Aside0.mk (new_apart HF3.out.lt hPF5); have D_F4_F5 := Aside0.mk (new_apart HF4.out.lt hPF5); replace HX2 := Aside0.mk (HX2.out.step hk no_S); replace HF3 := Aside0.mk (HF3.out.step hk no_S); replace HF4 := Aside0.mk (HF4.out.step hk no_S); clear hPF5; obtain ⟨BF5, DF5, e_F5⟩ := HF5.out.val; subst e_F5; replace HB := Aside0.mk (below_step HB.out hb); clear hb hk; (try clear hxX2_0 hfX2_0); have hxX2_0 := (HX2.out.cell 0).trans (show _ = some (.string a1) from rfl); have hfX2_0 := HX2.out.frozen 0))
            go_ret2
            exact ⟨_, rfl, Kd.R_mono (Kd.R_bound HF5.out.1) (fun k_ h_ => h_.2.1), HB.out⟩
          · rw [if_neg c2] at h_
            exact absurd h_ (by simp)
      · refine Kd.R_lit_step Kd.string _ 9 ?hg_5 (N := 12) ?hd_5 (xs := ([a1] : List ByteArray)) (inner := [.string a1]) (ok := fun _ => True) (okp := fun _ => True) ?hr_5 ?hp_5 (fun _ hk => hk) trivial (Below.refl _ _) (Nat.le_refl _) (by simp) ?_
        (case hd_5 => rfl)
        (case hg_5 => exact (by rfl))
        (case hr_5 => first | (go_simp; done) | (go_simp; rfl))
        (case hp_5 => exact ⟨rfl, fun j p hj => by match j with | 0 => (obtain rfl := Option.some.inj hj; rfl) | _ + 1 => (simp at hj)⟩)
        intro vF6 w2 hrF6 hb hg_ hnew_
        clear hg_ hnew_
        rw [← Nys.out] at hrF6
        have hk := kept_below hb
        obtain ⟨PF6, hPF6, HLF6⟩ := LR.fresh rfl HB.out hrF6
        have HF6 := Aside0.mk HLF6
        clear HLF6 hrF6
        have D_X2_F6 := Aside0.mk (new_apart HX2.out.lt hPF6)
        replace HX2 := Aside0.mk (HX2.out.step hk no_S)
        clear hPF6
        obtain ⟨BF6, DF6, e_F6⟩ := HF6.out.val
        subst e_F6
        replace HB := Aside0.mk (below_step HB.out hb)
        clear hb hk
        (try clear hxX2_0 hfX2_0)
        have hxX2_0 := (HX2.out.cell 0).trans (show _ = some (.string a1) from rfl)
        have hfX2_0 := HX2.out.frozen 0
        refine hK.out _ _ hxX2_0 (fun hHeld => ?_)
        clear hK K
        refine norm_ (a' := ?_) ?_ ?_
        rotate_left
        · show Act.put _ (some 12) _ = _
          simp only [Act.put, List.setIfInBounds_toArray, List.set_cons_zero, List.set_cons_succ, i64_w, i32_w]
          rfl
        refine one_ (i := 2) (N := some 10) #[true, true, true, true, true, false, false, false, false] rfl rfl (one_of HT_.out (by kernel_rfl)) (by decide) (fun K hK => ?_)
        refine goes_ Try.func33 (by kernel_rfl) rfl #[.int .i64 (l0.length : Int)] (by rfl) rfl rfl (by (try simp only [List.map_toArray, List.map_cons, List.map_nil]); first | done | rfl | (simp only [List.length_drop, List.length_take]; rfl)) ?_
        (with_reducible refine (impl_longList.calls (l0.length : Int) t1 _ E1.out).mono ?_)
        rintro e w2 ⟨rfl, hq⟩
        refine ⟨_, rfl, ?_⟩
        have hk := kept_drawn hq
        replace HX2 := Aside0.mk (HX2.out.step hk no_S)
        replace HF6 := Aside0.mk (HF6.out.step hk no_S)
        replace HB := Aside0.mk (below_drawn HB.out hq)
        clear hk hq
        (try clear hxX2_0 hfX2_0)
        have hxX2_0 := (HX2.out.cell 0).trans (show _ = some (.string a1) from rfl)
        have hfX2_0 := HX2.out.frozen 0
        refine hK.out _ _ hxX2_0 (fun hHeld => ?_)
        clear hK K
        refine norm_ (a' := ?_) ?_ ?_
        rotate_left
        · show Act.put _ (some 10) _ = _
          simp only [Act.put, List.setIfInBounds_toArray, List.set_cons_zero, List.set_cons_succ, i64_w, i32_w]
          rfl
        refine one_ (i := 5) (N := some 13) #[true, true, true, true, true, true, false, false, false] rfl rfl (one_of HT_.out (by kernel_rfl)) (by decide) (fun K hK => ?_)
        refine goes_ Try.func37 (by kernel_rfl) rfl #[.slice BF6 ys.length DF6] (by rfl) rfl rfl (by (try simp only [List.map_toArray, List.map_cons, List.map_nil]); first | done | rfl | (simp only [List.length_drop, List.length_take]; rfl)) ?_
        (with_reducible refine (impl_long.calls k _ _ ys t2 _ HF6.out.reads HF6.out.room E2.out).mono ?_)
        rintro e w2 ⟨rfl, hq⟩
        refine ⟨_, rfl, ?_⟩
        have hk := kept_drawn hq
        replace HX2 := Aside0.mk (HX2.out.step hk no_S)
        replace HF6 := Aside0.mk (HF6.out.step hk no_S)
        replace HB := Aside0.mk (below_drawn HB.out hq)
        clear hk hq
        (try clear hxX2_0 hfX2_0)
        have hxX2_0 := (HX2.out.cell 0).trans (show _ = some (.string a1) from rfl)
        have hfX2_0 := HX2.out.frozen 0
        refine hK.out _ _ hxX2_0 (fun hHeld => ?_)
        clear hK K
        refine norm_ (a' := ?_) ?_ ?_
        rotate_left
        · show Act.put _ (some 13) _ = _
          simp only [Act.put, List.setIfInBounds_toArray, List.set_cons_zero, List.set_cons_succ, i64_w, i32_w]
          rfl
        refine one_ (i := 6) (N := some 14) #[true, true, true, true, true, true, true, false, false] rfl rfl (one_of HT_.out (by kernel_rfl)) (by decide) (fun K hK => ?_)
        refine Kd.R_lit_step (Kd.int .i64) _ 3 ?hg_6 (N := 14) ?hd_6 (xs := ([t1, t2] : List Int)) (inner := [.int .i64 t1, .int .i64 t2]) (ok := fun _ => True) (okp := fun _ => True) ?hr_6 ?hp_6 (fun _ hk => hk) trivial (Below.refl _ _) (Nat.le_refl _) (by simp) ?_
        (case hd_6 => rfl)
        (case hg_6 => exact (by rfl))
        (case hr_6 => first | (go_simp; done) | (go_simp; rfl))
        (case hp_6 => exact ⟨rfl, fun j p hj => by match j with | 0 => (obtain rfl := Option.some.inj hj; rfl) | 1 => (obtain rfl := Option.some.inj hj; rfl) | _ + 2 => (simp at hj)⟩)
        intro vF7 w2 hrF7 hb hg_ hnew_
        clear hg_ hnew_
        rw [← Ny1.out] at hrF7
        have hk := kept_below hb
        obtain ⟨PF7, hPF7, HLF7⟩ := LR.fresh rfl HB.out hrF7
        have HF7 := Aside0.mk HLF7
        clear HLF7 hrF7
        have D_X2_F7 := Aside0.mk (new_apart HX2.out.lt hPF7)
        have D_F6_F7 := Aside0.mk (new_apart HF6.out.lt hPF7)
        replace HX2 := Aside0.mk (HX2.out.step hk no_S)
        replace HF6 := Aside0.mk (HF6.out.step hk no_S)
        clear hPF7
        obtain ⟨BF7, DF7, e_F7⟩ := HF7.out.val
        subst e_F7
        replace HB := Aside0.mk (below_step HB.out hb)
        clear hb hk
        (try clear hxX2_0 hfX2_0)
        have hxX2_0 := (HX2.out.cell 0).trans (show _ = some (.string a1) from rfl)
        have hfX2_0 := HX2.out.frozen 0
        refine hK.out _ _ hxX2_0 (fun hHeld => ?_)
        clear hK K
        refine norm_ (a' := ?_) ?_ ?_
        rotate_left
        · show Act.put _ (some 14) _ = _
          simp only [Act.put, List.setIfInBounds_toArray, List.set_cons_zero, List.set_cons_succ, i64_w, i32_w]
          rfl
        refine one_ (i := 7) (N := some 15) #[true, true, true, true, true, true, true, true, false] rfl rfl (one_of HT_.out (by kernel_rfl)) (by decide) (fun K hK => ?_)
        refine goes_ Try.func32 (by kernel_rfl) rfl #[.slice BF7 y1.length DF7] (by rfl) rfl rfl (by (try simp only [List.map_toArray, List.map_cons, List.map_nil]); first | done | rfl | (simp only [List.length_drop, List.length_take]; rfl)) ?_
        (with_reducible refine (impl_first.calls k _ _ y1 t3 _ HF7.out.reads HF7.out.room E3.out).mono ?_)
        rintro e w2 ⟨rfl, hq⟩
        refine ⟨_, rfl, ?_⟩
        have hk := kept_drawn hq
        replace HX2 := Aside0.mk (HX2.out.step hk no_S)
        replace HF6 := Aside0.mk (HF6.out.step hk no_S)
        replace HF7 := Aside0.mk (HF7.out.step hk no_S)
        replace HB := Aside0.mk (below_drawn HB.out hq)
        clear hk hq
        (try clear hxX2_0 hfX2_0)
        have hxX2_0 := (HX2.out.cell 0).trans (show _ = some (.string a1) from rfl)
        have hfX2_0 := HX2.out.frozen 0
        refine hK.out _ _ hxX2_0 (fun hHeld => ?_)
        clear hK K
        refine norm_ (a' := ?_) ?_ ?_
        rotate_left
        · show Act.put _ (some 15) _ = _
          simp only [Act.put, List.setIfInBounds_toArray, List.set_cons_zero, List.set_cons_succ, i64_w, i32_w]
          rfl
        refine pure_ (i := 8) (N := some 6) (v := ?_) (a' := ?_) #[true, true, true, true, true, true, true, true, true] rfl rfl (any_of HT_.out (by kernel_rfl)) (fun _ _ _ h => h) (Or.inl ⟨by rfl, ?_⟩) ?_ ?_
        rotate_left
        · intro w'
          go_simp
          with_reducible rfl
        rotate_left
        · simp only [Act.put, List.setIfInBounds_toArray, List.set_cons_zero, List.set_cons_succ, i64_w, i32_w]
          rfl
        refine done_ (done_of HT_.out (by kernel_rfl)) ?_
        go_upto_region 5 with (first | ((with_reducible refine gate_callee (f := 38) rfl ?_); refine goesL_ (some 21) rfl rfl Try.func38 (by kernel_rfl) rfl #[.slice (some ad) l0.length c0, .func (.func 39) #[] #[.pointer (some ⟨gX2, 0, none⟩)]] rfl (by (try simp only [List.map_toArray, List.map_cons, List.map_nil]); first | done | rfl) ?_; (with_reducible refine (getIndex _ _ l0 a1 gX2 i _ (Kd.C_below HR0.out HB.out) HLL.out hxX2_0 HAT.out).mono ?_); rintro e w2 ⟨rfl, hb⟩; refine ⟨_, rfl, ?_⟩; have hk := kept_below hb; replace HX2 := Aside0.mk (HX2.out.step hk no_S); replace HF6 := Aside0.mk (HF6.out.step hk no_S); replace HF7 := Aside0.mk (HF7.out.step hk no_S); replace HB := Aside0.mk (below_step HB.out hb); clear hb hk; (try clear hxX2_0 hfX2_0); have hxX2_0 := (HX2.out.cell 0).trans (show _ = some (.string a1) from rfl); have hfX2_0 := HX2.out.frozen 0))
        have hX1 := (HB.out.cell (World.block_lt_of_cell? _ _ HXE1.out)).trans HXE1.out
        by_cases c1 : (rd_T35 l0 (i : Int)).f1 < 1
        · have d1 : decide ((rd_T35 l0 (i : Int)).f1 < 1) = true := decide_eq_true c1
          have h_ := H.out
          rw [if_pos c1] at h_
          simp only [Option.some.injEq, Prod.mk.injEq] at h_
          obtain ⟨rfl, rfl⟩ := h_
          clear c1
          go_wp2
          go_ret2
          exact ⟨_, rfl, Kd.R_nil _ _ _ _ _, HB.out⟩
        · have d1 : decide ((rd_T35 l0 (i : Int)).f1 < 1) = false := decide_eq_false c1
          have h_ := H.out
          rw [if_neg c1] at h_
          obtain ⟨t4, e4, h_⟩ := Option.bind_eq_some_iff.1 h_
          by_cases c2 : t4.toList = a1.toList
          · rw [if_pos c2] at h_
            obtain ⟨t5, e5, h_⟩ := Option.bind_eq_some_iff.1 h_
            simp only [Option.some.injEq, Prod.mk.injEq] at h_
            obtain ⟨rfl, rfl⟩ := h_
            have E4 := Aside0.mk e4
            have E5 := Aside0.mk e5
            have d2 : (t4.toList != a1.toList) = false := bne_eq_false_iff_eq.mpr c2
            have d2b : (t4.toList == a1.toList) = true := beq_iff_eq.mpr c2
            clear c1 c2 e4 e5
            go_upto_region 7 with (fail)
            have hX2 := (HB.out.cell (World.block_lt_of_cell? _ _ HXE2.out)).trans HXE2.out
            refine start_ (n := 9) (S := fun w' => w'.cell? ⟨gX2, 0, none⟩ = some (.string a1) ∧ w'.cell? ⟨(ad.add (i * 3)).block, (ad.add (i * 3)).off + 2, none⟩ = some (.slice A2 (rd_T35 l0 (i : Int)).f2.length c2)) (ds := []) #[false, false, false, false, false, false, false, false, false] (by kernel_rfl) rfl rfl ⟨hxX2_0, ((HB.out.cell (World.block_lt_of_cell? _ _ HXE2.out)).trans HXE2.out)⟩ (fun hHeld => ?_)
            refine with_tabW impl_BlobGet.tab7 impl_BlobGet.bits7 (fun HT_ HW_ => ?_)
            generalize hwd_ : World.drew w2 = wd_ at hHeld ⊢
            have hk := kept_drew hwd_
            replace HX2 := Aside0.mk (HX2.out.step hk no_S)
            replace HF6 := Aside0.mk (HF6.out.step hk no_S)
            replace HF7 := Aside0.mk (HF7.out.step hk no_S)
            replace HB := Aside0.mk (below_drewd HB.out hwd_)
            clear hk hwd_
            (try clear hxX2_0 hfX2_0)
            have hxX2_0 := (HX2.out.cell 0).trans (show _ = some (.string a1) from rfl)
            have hfX2_0 := HX2.out.frozen 0
            refine pure_ (i := 0) (N := some 34) (v := ?_) (a' := ?_) #[true, false, false, false, false, false, false, false, false] rfl rfl (any_of HT_.out (by kernel_rfl)) (fun _ _ _ h => h) (Or.inl ⟨by rfl, ?_⟩) ?_ ?_
            rotate_left
            · intro w'
              go_simp
              with_reducible rfl
            rotate_left
            · simp only [Act.put, List.setIfInBounds_toArray, List.set_cons_zero, List.set_cons_succ, i64_w, i32_w]
              rfl
            refine pure_ (i := 1) (N := some 35) (v := ?_) (a' := ?_) #[true, true, false, false, false, false, false, false, false] rfl rfl (any_of HT_.out (by kernel_rfl)) (fun _ _ _ h => h) (Or.inl ⟨by rfl, ?_⟩) ?_ ?_
            rotate_left
            · intro w'
              go_simp
              with_reducible rfl
            rotate_left
            · simp only [Act.put, List.setIfInBounds_toArray, List.set_cons_zero, List.set_cons_succ, i64_w, i32_w]
              rfl
            refine pure_ (i := 2) (N := some 36) (v := ?_) (a' := ?_) #[true, true, true, false, false, false, false, false, false] rfl rfl (any_of HT_.out (by kernel_rfl)) (fun _ _ _ h => h) (Or.inl ⟨by rfl, ?_⟩) ?_ ?_
            rotate_left
            · intro w'
              go_simp
              with_reducible rfl
            rotate_left
            · simp only [Act.put, List.setIfInBounds_toArray, List.set_cons_zero, List.set_cons_succ, i64_w, i32_w]
              rfl
            refine pure_ (i := 3) (N := some 37) (v := ?_) (a' := ?_) #[true, true, true, true, false, false, false, false, false] rfl rfl (any_of HT_.out (by kernel_rfl)) (fun _ _ _ h => h) (Or.inl ⟨by rfl, ?_⟩) ?_ ?_
            rotate_left
            · intro w'
              go_simp
              with_reducible rfl
            rotate_left
            · simp only [Act.put, List.setIfInBounds_toArray, List.set_cons_zero, List.set_cons_succ, i64_w, i32_w]
              rfl
            refine take_ (i := 4) (N := some 38) (v := ?_) (a' := ?_) #[true, true, true, true, true, false, false, false, false] rfl rfl (take_ofW HT_.out HW_.out (by kernel_rfl)) (fun _ _ _ h => h) (Or.inl ⟨by rfl, ?_⟩) hHeld ?_ ?_
            rotate_left
            · rintro w' ⟨s0, s1⟩
              go_simp
              with_reducible rfl
            rotate_left
            · simp only [Act.put, List.setIfInBounds_toArray, List.set_cons_zero, List.set_cons_succ, i64_w, i32_w]
              rfl
            refine take_ (i := 6) (N := some 40) (v := ?_) (a' := ?_) #[true, true, true, true, true, false, true, false, false] rfl rfl (take_ofW HT_.out HW_.out (by kernel_rfl)) (fun _ _ _ h => h) (Or.inl ⟨by rfl, ?_⟩) hHeld ?_ ?_
            rotate_left
            · rintro w' ⟨s0, s1⟩
              go_simp
              with_reducible rfl
            rotate_left
            · simp only [Act.put, List.setIfInBounds_toArray, List.set_cons_zero, List.set_cons_succ, i64_w, i32_w]
              rfl
            refine one_ (i := 5) (N := some 39) #[true, true, true, true, true, true, true, false, false] rfl rfl (one_of HT_.out (by kernel_rfl)) (by decide) (fun K hK => ?_)
            refine goes_ Try.func8 (by kernel_rfl) rfl #[.slice A2 (rd_T35 l0 (i : Int)).f2.length c2] (by rfl) rfl rfl (by (try simp only [List.map_toArray, List.map_cons, List.map_nil]); first | done | rfl | (simp only [List.length_drop, List.length_take]; rfl)) ?_
            (with_reducible refine (impl_Sha.calls _ _ ((rd_T35 l0 (i : Int)).f2) t4 _ (Kd.C_below HR2.out HB.out) HC2.out E4.out).mono ?_)
            rintro e w2 ⟨rfl, hb⟩
            refine ⟨_, rfl, ?_⟩
            have hk := kept_below hb
            replace HX2 := Aside0.mk (HX2.out.step hk no_S)
            replace HF6 := Aside0.mk (HF6.out.step hk no_S)
            replace HF7 := Aside0.mk (HF7.out.step hk no_S)
            replace HB := Aside0.mk (below_step HB.out hb)
            clear hb hk
            (try clear hxX2_0 hfX2_0)
            have hxX2_0 := (HX2.out.cell 0).trans (show _ = some (.string a1) from rfl)
            have hfX2_0 := HX2.out.frozen 0
            refine hK.out _ _ ⟨hxX2_0, ((HB.out.cell (World.block_lt_of_cell? _ _ HXE2.out)).trans HXE2.out)⟩ (fun hHeld => ?_)
            clear hK K
            refine norm_ (a' := ?_) ?_ ?_
            rotate_left
            · show Act.put _ (some 39) _ = _
              simp only [Act.put, List.setIfInBounds_toArray, List.set_cons_zero, List.set_cons_succ, i64_w, i32_w]
              rfl
            refine pure_ (i := 7) (N := some 41) (v := ?_) (a' := ?_) #[true, true, true, true, true, true, true, true, false] rfl rfl (any_of HT_.out (by kernel_rfl)) (fun _ _ _ h => h) (Or.inl ⟨by rfl, ?_⟩) ?_ ?_
            rotate_left
            · intro w'
              go_simp
              with_reducible rfl
            rotate_left
            · simp only [Act.put, List.setIfInBounds_toArray, List.set_cons_zero, List.set_cons_succ, i64_w, i32_w]
              rfl
            refine pure_ (i := 8) (N := some 33) (v := ?_) (a' := ?_) #[true, true, true, true, true, true, true, true, true] rfl rfl (any_of HT_.out (by kernel_rfl)) (fun _ _ _ h => h) (Or.inl ⟨by rfl, ?_⟩) ?_ ?_
            rotate_left
            · intro w'
              go_simp
              with_reducible rfl
            rotate_left
            · simp only [Act.put, List.setIfInBounds_toArray, List.set_cons_zero, List.set_cons_succ, i64_w, i32_w]
              rfl
            refine done_ (done_of HT_.out (by kernel_rfl)) ?_
            have hX3 := (HB.out.cell (World.block_lt_of_cell? _ _ HXE2.out)).trans HXE2.out
            clear hX2 hX1
            go_wp2_with (first | ((with_reducible refine gate_callee (f := 27) rfl ?_); refine goesL_ (some 47) rfl rfl Try.func27 (by kernel_rfl) rfl #[.slice A2 (rd_T35 l0 (i : Int)).f2.length c2] rfl (by (try simp only [List.map_toArray, List.map_cons, List.map_nil]); first | done | rfl | (simp only [List.length_drop, List.length_take]; rfl)) ?_; (with_reducible refine (slices_Clone_byte_byte.calls _ _ ((rd_T35 l0 (i : Int)).f2) t5 _ (Kd.C_below HR2.out HB.out) HC2.out E5.out).mono ?_); rintro e w2 ⟨vF8, rfl, hrF8, hb⟩; refine ⟨_, rfl, ?_⟩; have hk := kept_below hb; obtain ⟨PF8, hPF8, HLF8⟩ := LR.fresh rfl HB.out hrF8; have HF8 := Aside0.mk HLF8; clear HLF8 hrF8; have D_X2_F8 := Aside0.mk (new_apart HX2.out.lt hPF8); have D_F6_F8 := Aside0.mk (new_apart HF6.out.lt hPF8); have D_F7_F8 := Aside0.mk (new_apart HF7.out.lt hPF8); replace HX2 := Aside0.mk (HX2.out.step hk no_S); replace HF6 := Aside0.mk (HF6.out.step hk no_S); replace HF7 := Aside0.mk (HF7.out.step hk no_S); clear hPF8; obtain ⟨BF8, DF8, e_F8⟩ := HF8.out.val; subst e_F8; replace HB := Aside0.mk (below_step HB.out hb); clear hb hk; (try clear hxX2_0 hfX2_0); have hxX2_0 := (HX2.out.cell 0).trans (show _ = some (.string a1) from rfl); have hfX2_0 := HX2.out.frozen 0))
            go_ret2
            exact ⟨_, rfl, Kd.R_mono (Kd.R_bound HF8.out.1) (fun k_ h_ => h_.2.1), HB.out⟩
          · rw [if_neg c2] at h_
            exact absurd h_ (by simp)
  · rw [if_neg c] at h
    exact absurd h (by simp)
end
/-! ### spec_l00Src_blob (function 53), spec_l00Src_blobActs (31), spec_BlobActsOf (10), by hand -/
section
open Go.Proofs.Ytcgkfijigjcmpaa.Lawful
/-- The state's box, as a value that lies in the blocks P. -/
def LI (w0 W : World) (P : Nat → Prop) (g : Nat) (f0 : List Int) (f1 f2 : Int) : Prop := IsS78 w0 W g f0 f1 f2 ∧ ∀ k, P k ↔ k = g
theorem LI.step {w0 W W' : World} {P S : Nat → Prop} {g : Nat} {f0 : List Int} {f1 f2 : Int} (h : LI w0 W P g f0 f1 f2) (hk : Kept W W' S) (hS : ∀ k, P k → ¬ S k) : LI w0 W' P g f0 f1 f2 := ⟨IsS78.kept h.1 hk (hS g ((h.2 g).2 rfl)), h.2⟩
theorem LI.lt {w0 W : World} {P : Nat → Prop} {g : Nat} {f0 : List Int} {f1 f2 : Int} (h : LI w0 W P g f0 f1 f2) : ∀ k, P k → k < W.heap.size := fun k hk => by rw [(h.2 k).1 hk]; exact IsS78.lt h.1
theorem LI.is {w0 W : World} {P : Nat → Prop} {g : Nat} {f0 : List Int} {f1 f2 : Int} (h : LI w0 W P g f0 f1 f2) : IsS78 w0 W g f0 f1 f2 := h.1
theorem LI.kept {w0 W W' : World} {P : Nat → Prop} {g : Nat} {f0 : List Int} {f1 f2 : Int} (h : LI w0 W P g f0 f1 f2) (hk : KeepBut W W' g none) : Kept W W' P := ⟨hk.1, fun i hi hn => hk.2 i hi (fun he => hn ((h.2 i).2 he)) (by simp)⟩
theorem LI.new {w0 W W' : World} {P : Nat → Prop} {g : Nat} {f0 : List Int} {f1 f2 f3 f4 : Int} (h : LI w0 W P g f0 f1 f2) (hi : IsS78 w0 W' g f0 f3 f4) : LI w0 W' P g f0 f3 f4 := ⟨hi, h.2⟩
/-- A string's bytes as numbers. -/
def numsB (t : ByteArray) : List Int := t.data.toList.map fun (b : UInt8) => ((b.toNat : Nat) : Int)
theorem numsB_len (t : ByteArray) : (numsB t).length = t.size := by unfold numsB; rw [List.length_map]; rfl
/-- A row of bytes out of a string. -/
theorem conv_bytes {P : Program} (src dst e : TypeId) {u : TypeDesc} (hs : P.underlying src = some u) (hd : P.underlying dst = some (.slice e)) (he : P.underlying e = some (.int .u8)) (W : World) (t : ByteArray) (ht : t.size ≤ 9223372036854775807) :
    ∃ A c W1, (convert src dst (.string t)).run P W = .ok (.slice A (numsB t).length c) W1 ∧ Kd.V (Kd.int .u8) e W1 W.heap.size (fun k => W.heap.size ≤ k) (.slice A (numsB t).length c) (numsB t) ∧ Below W.heap.size W W1 := by
  refine ⟨some ⟨W.heap.size, 0, none⟩, grownCap W t.size 0 e, Go.Lib.bytesWorld W e t, ?_, ?_, ?_⟩
  · rw [numsB_len]; exact Go.Lib.run_convert_string_bytes W src dst e t hs hd he
  · refine ⟨_, _, rfl, by rw [numsB_len]; exact grownCap_ge W t.size 0 e, fun W' hW => ⟨rfl, by rw [numsB_len]; exact ht, fun hp => ⟨_, rfl, fun j q hj => ⟨[.int .u8 q], rfl, rfl, fun i v hv => ?_⟩⟩⟩⟩
    have hi : i = 0 := by have := (List.getElem?_eq_some_iff.1 hv).1; simp at this; omega
    subst hi
    obtain rfl := (Option.some.inj hv)
    obtain ⟨hjl, hjq⟩ := List.getElem?_eq_some_iff.1 hj
    have hj2 : j < t.size := by rw [← numsB_len]; exact hjl
    have hcell := Go.Lib.bytesWorld_cell W e t j hj2
    have hsz := Go.Lib.bytesWorld_size W e t
    have hb := hW W.heap.size (Nat.le_refl _) (by rw [hsz]; omega)
    have hq : q = (((t.data.toList.getD j 0).toNat : Nat) : Int) := by
      obtain ⟨b, hb1, hb2⟩ := Option.map_eq_some_iff.1 ((List.getElem?_map (f := fun (b : UInt8) => ((b.toNat : Nat) : Int)) (l := t.data.toList) (i := j)).symm.trans hj)
      rw [← hb2, List.getD_eq_getElem?_getD, hb1]
      rfl
    have ha : (⟨W.heap.size, 0, none⟩ : Addr).add (j * 1 + 0) = ⟨W.heap.size, j, none⟩ := by by_cases h0 : j = 0 <;> simp [Addr.add, h0]
    show W'.cell? ((⟨W.heap.size, 0, none⟩ : Addr).add (j * 1 + 0)) = _
    rw [ha, hq, ← hcell]
    unfold World.cell?
    rw [hb]
  · exact ⟨rfl, rfl, rfl, by rw [Go.Lib.bytesWorld_size]; omega, fun k hk => Go.Lib.bytesWorld_at_old W e t k hk⟩
theorem LM.append1 {α : Type} {d : Kd α} {P : Program} {ops : Array Oper} {rest : List Oper} {o : Oper} {a : Act} {Q : Exit → Act → World → Prop} {w0 W : World} {P1 P2 : Nat → Prop} (_d : Kd α) (hgd : o.guard = none) (s x : Operand) (t e : TypeId) (z : Value) (bytes : Nat)
    (ho : o.op = .call { callee := .builtin .append, args := #[s, x], argTypes := #[t, t] })
    (ht : P.underlying t = some (.slice e)) (hinfo : (P.info? e).map (fun i => (i.zero, i.size, i.bytes)) = some (some z, d.sz, bytes)) (hz : z.cells.size = d.sz) (hs0 : 0 < d.sz) (hb0 : 0 < bytes)
    (v : Value) (xs : List α) (p : α) (cs : List Value) (hs : a.eval s = v) (hx : a.eval x = .slice (some ⟨W.heap.size, 0, none⟩) 1 1) (_h1 : True)
    (HO : LM d e W w0.heap.size P1 v xs) (HP : Kd.FK d W P2 p cs) (hD : ∀ k, P1 k → ¬ P2 k)
    (HB : Below w0.heap.size w0 W) (hl : (xs.length + 1) * bytes ≤ 140737488355328)
    (h : ∀ R v1 w1, LM d e w1 w0.heap.size R v1 (xs ++ [p]) → Below w0.heap.size w0 w1 → Kept W w1 P1 → (∀ k, R k → (P1 k ∨ P2 k) ∨ W.heap.size ≤ k) → wpList P ops Q rest (a.put o.dst v1) w1) :
    wpList P ops Q (o :: rest) a (W.alloc (.cells cs.toArray e)) := by
  have hv : ∀ k, v.ownBlock = some k → P1 k := HO.1.1
  refine Kd.N_append d w0.heap.size hgd s x t e z bytes ho ht hinfo hz hs0 hb0 v xs p cs (fun k => (P1 k ∨ P2 k) ∨ W.heap.size ≤ k) P2 hs hx HP (fun k hk => ⟨.inl (.inr hk), fun he => hD k (hv k he.symm) hk⟩) (fun k hk => .inr hk) (Kd.N_mono HO.1 (fun k hk => .inl (.inl hk))) HB HB.size hl ?_
  intro v1 w1 hr hb hg hat
  obtain ⟨R, h1, h2⟩ := LM.of_app (P1 := fun k => P1 k ∨ P2 k) hr
  exact h R v1 w1 h2 hb (kept_app hg hv) h1
def spec_l00Src_blob.L : List ByteArray := [⟨#[]⟩, ⟨#[97]⟩, ⟨#[98]⟩, ⟨#[97, 10, 98, 10]⟩, ⟨#[104, 101, 108, 108, 111, 10]⟩]
def spec_l00Src_blob.f (s0_0 : List Int) (s0_1 s0_2 : Int) : Option (List Int × Int × Int) := (spec_l00Src_pick.f s0_0 s0_1 s0_2 spec_l00Src_blob.L).bind fun t => if t.1.size ≤ 1000 then some (numsB t.1, t.2.1, t.2.2) else none
theorem keepbut_below {w w1 w2 : World} {g : Nat} (hb : Below w.heap.size w w1) (hk : KeepBut w1 w2 g none) : KeepBut w w2 g none :=
  ⟨Nat.le_trans hb.size hk.1, fun i hi hg hn => (hk.2 i (Nat.lt_of_lt_of_le hi hb.size) hg hn).trans (hb.block i hi)⟩
theorem keepbut_more {w w1 w2 : World} {g : Nat} (hk : KeepBut w w1 g none) (hb : Below w1.heap.size w1 w2) : KeepBut w w2 g none :=
  ⟨Nat.le_trans hk.1 hb.size, fun i hi hg hn => (hb.block i (Nat.lt_of_lt_of_le hi hk.1)).trans (hk.2 i hi hg hn)⟩
theorem Kd.V_base {α : Type} {d : Kd α} {e : Nat} {W : World} {base base' : Nat} {ok : Nat → Prop} {v : Value} {xs : List α} (h : Kd.V d e W base ok v xs) : Kd.V d e W base' ok v xs := h
set_option maxHeartbeats 16000000 in
set_option maxRecDepth 100000 in
theorem spec_l00Src_blob.own (g : Nat) (s0_0 : List Int) (s0_1 s0_2 : Int) (r1 : List Int) (r2 r3 : Int) (w0 w : World) (hI : IsS78 w0 w g s0_0 s0_1 s0_2) (hB : Below w0.heap.size w0 w) (h : spec_l00Src_blob.f s0_0 s0_1 s0_2 = some (r1, r2, r3)) :
    Calls Try.prog 53 #[.pointer (some ⟨g, 0, none⟩)] w fun e w' => ∃ v0_ : Value, e = .returned (v0_) ∧ Kd.V (Kd.int .u8) 5 w' w.heap.size (fun k_ => (w.heap.size ≤ k_)) v0_ r1 ∧ IsS78 w0 w' g s0_0 r2 r3 ∧ Below w0.heap.size w0 w' ∧ KeepBut w w' g none := by
  obtain ⟨PS, hPS⟩ : ∃ P_ : Nat → Prop, P_ = fun k_ => k_ = g := ⟨_, rfl⟩
  have HS := Aside0.mk (show LI w0 w PS g s0_0 s0_1 s0_2 from ⟨hI, fun k_ => by rw [hPS]⟩)
  have HB0 := Aside0.mk hB
  have HB := Aside0.mk (Below.refl w.heap.size w)
  clear hI hB hPS
  unfold spec_l00Src_blob.f at h
  obtain ⟨⟨t1, a1, b1⟩, e1, h⟩ := Option.bind_eq_some_iff.1 h
  by_cases c : t1.size ≤ 1000
  · rw [if_pos c] at h
    simp only [Option.some.injEq, Prod.mk.injEq] at h
    obtain ⟨rfl, rfl, rfl⟩ := h
    obtain ⟨ys, hys⟩ : ∃ y_ : List ByteArray, y_ = spec_l00Src_blob.L := ⟨_, rfl⟩
    rw [← hys] at e1
    have Nys := Aside0.mk (show ys = ([⟨#[]⟩, ⟨#[97]⟩, ⟨#[98]⟩, ⟨#[97, 10, 98, 10]⟩, ⟨#[104, 101, 108, 108, 111, 10]⟩] : List ByteArray) from hys)
    have E1 := Aside0.mk e1
    have CS := Aside0.mk c
    clear e1 c hys
    go_enter Try.func53, Try.ntmps53
    go_wp2_with (first | ((with_reducible refine gate_dst (N := 4) rfl ?_); refine Kd.R_lit Kd.string _ 9 ?hg_1 (N := 4) ?hd_1 (xs := ([⟨#[]⟩, ⟨#[97]⟩, ⟨#[98]⟩, ⟨#[97, 10, 98, 10]⟩, ⟨#[104, 101, 108, 108, 111, 10]⟩] : List ByteArray)) (inner := [.string ⟨#[]⟩, .string ⟨#[97]⟩, .string ⟨#[98]⟩, .string ⟨#[97, 10, 98, 10]⟩, .string ⟨#[104, 101, 108, 108, 111, 10]⟩]) (ok := fun _ => True) (okp := fun _ => True) ?hr_1 ?hp_1 (fun _ hk => hk) trivial (Below.refl _ _) (Nat.le_refl _) (by simp) ?_; (case hd_1 => rfl); (case hg_1 => rfl); (case hr_1 => first | (go_simp; done) | (go_simp; rfl)); (case hp_1 => exact ⟨rfl, fun j p hj => by match j with | 0 => (obtain rfl := Option.some.inj hj; rfl) | 1 => (obtain rfl := Option.some.inj hj; rfl) | 2 => (obtain rfl := Option.some.inj hj; rfl) | 3 => (obtain rfl := Option.some.inj hj; rfl) | 4 => (obtain rfl := Option.some.inj hj; rfl) | _ + 5 => (simp at hj)⟩); intro vF1 w2 hrF1 hb hg_ hnew_; clear hg_ hnew_; rw [← Nys.out] at hrF1; have hk := kept_below hb; obtain ⟨PF1, hPF1, HLF1⟩ := LR.fresh rfl HB.out hrF1; have HF1 := Aside0.mk HLF1; clear HLF1 hrF1; have D_S_F1 := Aside0.mk (new_apart HS.out.lt hPF1); replace HS := Aside0.mk (HS.out.step hk no_S); clear hPF1; obtain ⟨BF1, DF1, e_F1⟩ := HF1.out.val; subst e_F1; replace HB := Aside0.mk (below_step HB.out hb); clear hb hk; have HB1 := Aside0.mk (below_step HB0.out HB.out); have HNG := Aside0.mk (show ∀ ad : Addr, BF1 = some ad → 0 < ys.length → ad.block ≠ g from fun ad h_ _ he_ => D_S_F1.out g ((HS.out.2 g).2 rfl) (he_ ▸ HF1.out.1.1 ad.block (by rw [h_]; rfl)))) | ((with_reducible refine gate_callee (f := 62) rfl ?_); refine goesL_ (some 5) rfl rfl Try.func62 (by kernel_rfl) rfl #[.pointer (some ⟨g, 0, none⟩), .slice BF1 ys.length DF1] rfl (by (try simp only [List.map_toArray, List.map_cons, List.map_nil]); first | done | rfl) ?_; (with_reducible refine (spec_l00Src_pick.calls g s0_0 s0_1 s0_2 _ _ ys t1 a1 b1 w0 _ HS.out.is HB1.out HF1.out.reads HF1.out.room HNG.out E1.out).mono ?_); rintro e w2 ⟨rfl, hi, hb, hkb⟩; refine ⟨_, rfl, ?_⟩; have HI := Aside0.mk hi; have HB2 := Aside0.mk hb; have HKB := Aside0.mk (keepbut_below HB.out hkb); obtain ⟨BB, DD, wb, hcv, hv, hb3⟩ := conv_bytes (P := Try.prog) 9 22 5 Try.underlying9 Try.underlying22 Try.underlying5 w2 t1 (by have := CS.out; omega); have HV := Aside0.mk hv; have HB3 := Aside0.mk hb3; clear hi hb hkb hv hb3) | ((with_reducible refine gate_dst (N := 6) rfl ?_); refine event_run (v := .slice BB (numsB t1).length DD) (w1 := wb) ?hgq ?hrq ?_; (case hgq => rfl); (case hrq => first | (go_simp; done) | (go_simp; rfl))))
    go_ret
    exact ⟨_, rfl, Kd.V_mono (Kd.V_base HV.out) (fun k_ h_ => Nat.le_trans HKB.out.1 h_), IsS78.below HI.out HB3.out, below_step HB2.out HB3.out, keepbut_more HKB.out HB3.out⟩
  · rw [if_neg c] at h
    exact absurd h (by simp)
theorem info61 : (Try.prog.info? 61).map (fun i => (i.zero, i.size, i.bytes)) = some (some (.agg #[(.int .i64 0), (.slice none 0 0), (.string ⟨#[]⟩)]), 3, 48) := by kernel_rfl
/-- One act. -/
def spec_l00Src_blobActs.el (k : Nat) (s0 : List Int) (t1 : List Int) (t2 : Int) (a b : Int) : Option (S61 × Int × Int) :=
  if t2 = 0 ∨ t2 = 1 then (spec_l00Src_blob.f s0 a b).bind fun t => (spec_l04Sha.f k t.1).bind fun key => some (⟨2, [], key⟩, t.2.1, t.2.2)
  else if t2 = 2 then some (⟨3, [], ⟨#[]⟩⟩, a, b)
  else if t2 = 3 then (spec_l00Src_chance.f s0 a b 3).bind fun t => if t.1 = true then
      (spec_l00Src_next.f s0 t.2.1 t.2.2 6).bind fun n1 => (spec_l00Src_next.f s0 n1.2.1 n1.2.2 2).bind fun n2 => if 0 ≤ n2.1 ∧ n2.1 ≤ 1000 then some (⟨n1.1, List.replicate (2000 + n2.1).toNat 0, ⟨#[110, 111, 110, 101]⟩⟩, n2.2.1, n2.2.2) else none
    else some (⟨1, t1, ⟨#[]⟩⟩, t.2.1, t.2.2)
  else some (⟨1, t1, ⟨#[]⟩⟩, a, b)
def spec_l00Src_blobActs.l0 : Nat → List S61 → Int → List Int → Int → Int → Option (List S61 × Int × Int)
  | 0, _, _, _, _, _ => none
  | k + 1, x3, x4, s0, a, b => if x4 > 0 then ((spec_l00Src_blob.f s0 a b).bind fun t1 => (spec_l00Src_next.f s0 t1.2.1 t1.2.2 6).bind fun t2 => (spec_l00Src_blobActs.el k s0 t1.1 t2.1 t2.2.1 t2.2.2).bind fun e => if x3.length < 1000000 then spec_l00Src_blobActs.l0 k (x3 ++ [e.1]) (wrap64 (x4 - 1)) s0 e.2.1 e.2.2 else none) else some (x3, a, b)
def spec_l00Src_blobActs.f (k : Nat) (s0 : List Int) (a b : Int) : Option (List S61 × Int × Int) := (spec_l00Src_size.f s0 a b 10).bind fun t1 => (spec_l00Src_next.f s0 t1.2.1 t1.2.2 (wrap64 (t1.1 + 2))).bind fun t2 => spec_l00Src_blobActs.l0 k [] t2.1 s0 t2.2.1 t2.2.2
set_option maxHeartbeats 16000000 in
set_option maxRecDepth 100000 in
theorem spec_l00Src_blobActs.own (k : Nat) (g : Nat) (s0_0 : List Int) (s0_1 : Int) (s0_2 : Int) (r1 : List S61) (r2 r3 : Int) (w ws : World) (hI : IsS78 w ws g s0_0 s0_1 s0_2) (hB : Below w.heap.size w ws) (h : spec_l00Src_blobActs.f k s0_0 s0_1 s0_2 = some (r1, r2, r3)) :
    Calls Try.prog 31 #[.pointer (some ⟨g, 0, none⟩)] ws fun e w' => ∃ v0_ : Value, e = .returned (v0_) ∧ Kd.V k61 61 w' w.heap.size (fun k_ => w.heap.size ≤ k_) v0_ r1 ∧ IsS78 w w' g s0_0 r2 r3 ∧ Below w.heap.size w w' := by
  have hu61 := Try.underlying61
  obtain ⟨PS, hPS⟩ : ∃ P_ : Nat → Prop, P_ = fun k_ => k_ = g := ⟨_, rfl⟩
  have HS := Aside0.mk (show LI w ws PS g s0_0 s0_1 s0_2 from ⟨hI, fun k_ => by rw [hPS]⟩)
  have HB := Aside0.mk hB
  clear hI hB hPS
  unfold spec_l00Src_blobActs.f at h
  obtain ⟨⟨t1, a1, b1⟩, e1, h⟩ := Option.bind_eq_some_iff.1 h
  obtain ⟨⟨t2, a2, b2⟩, e2, h⟩ := Option.bind_eq_some_iff.1 h
  have E1 := Aside0.mk e1
  have E2 := Aside0.mk e2
  clear e1 e2
  obtain ⟨y0, hy0⟩ : ∃ y_ : List S61, y_ = [] := ⟨_, rfl⟩
  have Ny0 := Aside0.mk hy0
  have H' := Aside0.mk (show spec_l00Src_blobActs.l0 k y0 t2 s0_0 a2 b2 = some (r1, r2, r3) from by rw [hy0]; exact h)
  clear h hy0
  go_enter Try.func31, Try.ntmps31
  go_wp2_with (first | ((with_reducible refine gate_dst (N := 6) rfl ?_); refine Kd.S_lit k61 _ 61 ?hg_2 (N := 6) ?hd_2 (xs := ([] : List S61)) (inner := []) (ok := fun _ => True) (okp := fun _ => True) ?hr_2 ?hp_2 (fun _ hk => hk) trivial (Below.refl _ _) (Nat.le_refl _) (by simp) ?_; (case hd_2 => rfl); (case hg_2 => rfl); (case hr_2 => first | (go_simp; done) | (go_simp; rfl)); (case hp_2 => exact (Reps.none _ _)); intro vF2 w2 hrF2 hb hg_ hnew_; clear hg_ hnew_; rw [← Ny0.out] at hrF2; have hk := kept_below hb; obtain ⟨PF2, hPF2, HLF2⟩ := LS.fresh HB.out hrF2; have HF2 := Aside0.mk HLF2; clear HLF2 hrF2; have D_S_F2 := Aside0.mk (new_apart HS.out.lt hPF2); have RRF2 := Aside0.mk (show ∀ k_, PF2 k_ → (fun _ => False) k_ ∨ w.heap.size ≤ k_ from fun k_ h_ => .inr (Nat.le_trans HB.out.size (hPF2 k_ h_).1)); replace HS := Aside0.mk (HS.out.step hk no_S); clear hPF2; obtain ⟨BF2, DF2, e_F2⟩ := HF2.out.val; subst e_F2; replace HB := Aside0.mk (below_step HB.out hb); clear hb hk; replace HF2 := Aside0.mk HF2.out.toLM) | ((with_reducible refine gate_callee (f := 52) rfl ?_); refine goesL_ (some 9) rfl rfl Try.func52 (by kernel_rfl) rfl #[.pointer (some ⟨g, 0, none⟩), .int .i64 10] rfl (by (try simp only [List.map_toArray, List.map_cons, List.map_nil]); first | done | rfl) ?_; (with_reducible refine (spec_l00Src_size.calls g s0_0 s0_1 s0_2 10 t1 a1 b1 w _ HS.out.is HB.out E1.out).mono ?_); rintro e w2 ⟨rfl, hi, hb, hkb⟩; refine ⟨_, rfl, ?_⟩; have hk := LI.kept HS.out hkb; replace HF2 := Aside0.mk (HF2.out.step hk (apart_symm D_S_F2.out)); replace HS := Aside0.mk (LI.new HS.out hi); replace HB := Aside0.mk hb; clear hi hb hk hkb) | ((with_reducible refine gate_callee (f := 51) rfl ?_); refine goesL_ (some 11) rfl rfl Try.func51 (by kernel_rfl) rfl #[.pointer (some ⟨g, 0, none⟩), .int .i64 (wrap64 (t1 + 2))] rfl (by (try simp only [List.map_toArray, List.map_cons, List.map_nil]); first | done | rfl) ?_; (with_reducible refine (spec_l00Src_next.calls g s0_0 a1 b1 (wrap64 (t1 + 2)) t2 a2 b2 w _ HS.out.is HB.out E2.out).mono ?_); rintro e w2 ⟨rfl, hi, hb, hkb⟩; refine ⟨_, rfl, ?_⟩; have hk := LI.kept HS.out hkb; replace HF2 := Aside0.mk (HF2.out.step hk (apart_symm D_S_F2.out)); replace HS := Aside0.mk (LI.new HS.out hi); replace HB := Aside0.mk hb; clear hi hb hk hkb))
  go_loopg [3, 4] k (fun kq v3 v4 w' => ∃ (x3 : List S61) (x4 a b : Int) (P3 : Nat → Prop), v4 = .int .i64 x4 ∧ Aside0 (spec_l00Src_blobActs.l0 kq x3 x4 s0_0 a b = some (r1, r2, r3)) ∧ Aside0 (kq ≤ k) ∧ Aside0 (LM k61 61 w' w.heap.size P3 v3 x3) ∧ Aside0 (LI w w' PS g s0_0 a b) ∧ Aside0 (∀ k_, PS k_ → ¬ P3 k_) ∧ Aside0 (∀ k_, P3 k_ → (fun _ => False) k_ ∨ w.heap.size ≤ k_) ∧ Aside0 (Below w.heap.size w w'))
  case atStart => exact ⟨y0, t2, a2, b2, PF2, rfl, H', ⟨Nat.le_refl _⟩, HF2, HS, D_S_F2, RRF2, HB⟩
  case round =>
    clear H' HF2 HS D_S_F2 RRF2 HB E1 E2 Ny0
    obtain ⟨x3, x4, a, b, P3, rfl, HA, HK1, H3, HS, D_S_3, RR3, HB⟩ := hrel
    cases gk with
    | zero => exact absurd HA.out (by simp [spec_l00Src_blobActs.l0])
    | succ k1 =>
      have H := HA.out
      clear HA
      obtain ⟨B3, D3, e_3⟩ := H3.out.val
      subst e_3
      simp only [spec_l00Src_blobActs.l0] at H
      by_cases c1 : x4 > 0
      · rw [if_pos c1] at H
        have cb1 : decide (0 < x4) = true := decide_eq_true c1
        clear c1
        obtain ⟨⟨t3, a3, b3⟩, e3, H⟩ := Option.bind_eq_some_iff.1 H
        obtain ⟨⟨t4, a4, b4⟩, e4, H⟩ := Option.bind_eq_some_iff.1 H
        obtain ⟨⟨el, ae, be⟩, e5, H⟩ := Option.bind_eq_some_iff.1 H
        have E3 := Aside0.mk e3
        have E4 := Aside0.mk e4
        clear e3 e4
        simp only at H e5
        by_cases cl : x3.length < 1000000
        · rw [if_pos cl] at H
          have LM_ := Aside0.mk cl
          obtain ⟨y1, hy1⟩ : ∃ y_ : List S61, y_ = x3 ++ [el] := ⟨_, rfl⟩
          rw [← hy1] at H
          have Ny1 := Aside0.mk hy1
          have H' := Aside0.mk H
          clear H hy1 cl
          unfold spec_l00Src_blobActs.el at e5
          by_cases d0 : t4 = 0
          · rw [if_pos (.inl d0)] at e5
            have cq0 : (t4 == 0) = true := beq_iff_eq.mpr d0
            obtain ⟨⟨t5, a5, b5⟩, e6, e5⟩ := Option.bind_eq_some_iff.1 e5
            obtain ⟨key, e7, e5⟩ := Option.bind_eq_some_iff.1 e5
            have E6 := Aside0.mk e6
            have E7 := Aside0.mk e7
            clear e6 e7
            simp only [Option.some.injEq, Prod.mk.injEq] at e5
            obtain ⟨rfl, rfl, rfl⟩ := e5
            go_wp2_with (first | ((with_reducible refine gate_callee (f := 53) rfl ?_); refine goesL_ (some 17) rfl rfl Try.func53 (by kernel_rfl) rfl #[.pointer (some ⟨g, 0, none⟩)] rfl (by (try simp only [List.map_toArray, List.map_cons, List.map_nil]); first | done | rfl) ?_; (with_reducible refine (spec_l00Src_blob.own g s0_0 a b  t3 a3 b3 w _ HS.out.is HB.out E3.out).mono ?_); rintro e w2 ⟨vF3, rfl, hrF3, hi, hb, hkb⟩; refine ⟨_, rfl, ?_⟩; have hk := LI.kept HS.out hkb; obtain ⟨PF3, hPF3, HLF3⟩ := LV.fresh HB.out hrF3 (fun _ hk_ => hk_); have HF3 := Aside0.mk HLF3; clear HLF3 hrF3; have D_S_F3 := Aside0.mk (new_apart HS.out.lt hPF3); have D_3_F3 := Aside0.mk (new_apart H3.out.lt hPF3); have RRF3 := Aside0.mk (show ∀ k_, PF3 k_ → (fun _ => False) k_ ∨ w.heap.size ≤ k_ from fun k_ h_ => .inr (Nat.le_trans HB.out.size (hPF3 k_ h_).1)); replace H3 := Aside0.mk (H3.out.step hk (apart_symm D_S_3.out)); replace HS := Aside0.mk (LI.new HS.out hi); replace HB := Aside0.mk hb; clear hi hb hk hkb; clear hPF3; obtain ⟨BF3, DF3, e_F3⟩ := HF3.out.val; subst e_F3) | ((with_reducible refine gate_dst (N := 5) rfl ?_); refine box_event ?hg_3 (N := 5) ?hd_3 (cs := #[.int .i64 0, .slice none 0 0, .string ByteArray.empty]) (t := 61) ?hr_3 ?_; (case hd_3 => rfl); (case hg_3 => rfl); (case hr_3 => first | (go_simp; done) | (go_simp; rfl)); intro gX4 hg w2 hbox hb; have hk := kept_below hb; obtain ⟨PX4, hPX4, HLX4⟩ := LB.fresh hg hbox; have HX4 := Aside0.mk HLX4; clear HLX4; have GEX4 := Aside0.mk (show w.heap.size ≤ gX4 from (by rw [hg]; exact HB.out.size)); have D_S_X4 := Aside0.mk (new_apart HS.out.lt hPX4); have D_3_X4 := Aside0.mk (new_apart H3.out.lt hPX4); have D_F3_X4 := Aside0.mk (new_apart HF3.out.lt hPX4); have RRX4 := Aside0.mk (show ∀ k_, PX4 k_ → (fun _ => False) k_ ∨ w.heap.size ≤ k_ from fun k_ h_ => .inr (Nat.le_trans HB.out.size (hPX4 k_ h_).1)); replace HS := Aside0.mk (HS.out.step hk no_S); replace H3 := Aside0.mk (H3.out.step hk no_S); replace HF3 := Aside0.mk (HF3.out.step hk no_S); replace HB := Aside0.mk (below_step HB.out hb); clear hb hk hbox hg hPX4; (try clear hxX4_0 hfX4_0 hxX4_1 hfX4_1 hxX4_2 hfX4_2); have hxX4_0 := (HX4.out.cell 0).trans (show _ = some (.int .i64 0) from rfl); have hfX4_0 := HX4.out.frozen 0; have hxX4_1 := (HX4.out.cell 1).trans (show _ = some (.slice none 0 0) from rfl); have hfX4_1 := HX4.out.frozen 1; have hxX4_2 := (HX4.out.cell 2).trans (show _ = some (.string ByteArray.empty) from rfl); have hfX4_2 := HX4.out.frozen 2) | ((with_reducible refine gate_store (t := 61) (p := 5) rfl ?_); refine LB.storedW HX4.out HB.out GEX4.out [.int .i64 1, .slice BF3 t3.length DF3, .string ⟨#[]⟩] rfl rfl (t := 61) (p := 5) rfl rfl ?hr_4 ?_; (case hr_4 => first | (go_simp; done) | (go_simp; simp only [World.setCells, Nat.reduceAdd, Nat.zero_add]; done)); intro w2 hx hk hb; replace HS := Aside0.mk (HS.out.step hk D_S_X4.out); replace H3 := Aside0.mk (H3.out.step hk D_3_X4.out); replace HF3 := Aside0.mk (HF3.out.step hk D_F3_X4.out); replace HB := Aside0.mk hb; replace HX4 := Aside0.mk (show LB w2 PX4 gX4 61 #[.int .i64 1, .slice BF3 t3.length DF3, .string ⟨#[]⟩] from hx); clear hk hx hb; (try clear hxX4_0 hfX4_0 hxX4_1 hfX4_1 hxX4_2 hfX4_2); have hxX4_0 := (HX4.out.cell 0).trans (show _ = some (.int .i64 1) from rfl); have hfX4_0 := HX4.out.frozen 0; have hxX4_1 := (HX4.out.cell 1).trans (show _ = some (.slice BF3 t3.length DF3) from rfl); have hfX4_1 := HX4.out.frozen 1; have hxX4_2 := (HX4.out.cell 2).trans (show _ = some (.string ⟨#[]⟩) from rfl); have hfX4_2 := HX4.out.frozen 2) | ((with_reducible refine gate_callee (f := 51) rfl ?_); refine goesL_ (some 20) rfl rfl Try.func51 (by kernel_rfl) rfl #[.pointer (some ⟨g, 0, none⟩), .int .i64 6] rfl (by (try simp only [List.map_toArray, List.map_cons, List.map_nil]); first | done | rfl) ?_; (with_reducible refine (spec_l00Src_next.calls g s0_0 a3 b3 6 t4 a4 b4 w _ HS.out.is HB.out E4.out).mono ?_); rintro e w2 ⟨rfl, hi, hb, hkb⟩; refine ⟨_, rfl, ?_⟩; have hk := LI.kept HS.out hkb; replace H3 := Aside0.mk (H3.out.step hk (apart_symm D_S_3.out)); replace HF3 := Aside0.mk (HF3.out.step hk (apart_symm D_S_F3.out)); replace HX4 := Aside0.mk (HX4.out.step hk (apart_symm D_S_X4.out)); replace HS := Aside0.mk (LI.new HS.out hi); replace HB := Aside0.mk hb; clear hi hb hk hkb; (try clear hxX4_0 hfX4_0 hxX4_1 hfX4_1 hxX4_2 hfX4_2); have hxX4_0 := (HX4.out.cell 0).trans (show _ = some (.int .i64 1) from rfl); have hfX4_0 := HX4.out.frozen 0; have hxX4_1 := (HX4.out.cell 1).trans (show _ = some (.slice BF3 t3.length DF3) from rfl); have hfX4_1 := HX4.out.frozen 1; have hxX4_2 := (HX4.out.cell 2).trans (show _ = some (.string ⟨#[]⟩) from rfl); have hfX4_2 := HX4.out.frozen 2) | ((with_reducible refine gate_callee (f := 53) rfl ?_); refine goesL_ (some 25) rfl rfl Try.func53 (by kernel_rfl) rfl #[.pointer (some ⟨g, 0, none⟩)] rfl (by (try simp only [List.map_toArray, List.map_cons, List.map_nil]); first | done | rfl) ?_; (with_reducible refine (spec_l00Src_blob.own g s0_0 a4 b4  t5 a5 b5 w _ HS.out.is HB.out E6.out).mono ?_); rintro e w2 ⟨vF5, rfl, hrF5, hi, hb, hkb⟩; refine ⟨_, rfl, ?_⟩; have hk := LI.kept HS.out hkb; obtain ⟨PF5, hPF5, HLF5⟩ := LV.fresh HB.out hrF5 (fun _ hk_ => hk_); have HF5 := Aside0.mk HLF5; clear HLF5 hrF5; have D_S_F5 := Aside0.mk (new_apart HS.out.lt hPF5); have D_3_F5 := Aside0.mk (new_apart H3.out.lt hPF5); have D_F3_F5 := Aside0.mk (new_apart HF3.out.lt hPF5); have D_X4_F5 := Aside0.mk (new_apart HX4.out.lt hPF5); have RRF5 := Aside0.mk (show ∀ k_, PF5 k_ → (fun _ => False) k_ ∨ w.heap.size ≤ k_ from fun k_ h_ => .inr (Nat.le_trans HB.out.size (hPF5 k_ h_).1)); replace H3 := Aside0.mk (H3.out.step hk (apart_symm D_S_3.out)); replace HF3 := Aside0.mk (HF3.out.step hk (apart_symm D_S_F3.out)); replace HX4 := Aside0.mk (HX4.out.step hk (apart_symm D_S_X4.out)); replace HS := Aside0.mk (LI.new HS.out hi); replace HB := Aside0.mk hb; clear hi hb hk hkb; clear hPF5; obtain ⟨BF5, DF5, e_F5⟩ := HF5.out.val; subst e_F5; (try clear hxX4_0 hfX4_0 hxX4_1 hfX4_1 hxX4_2 hfX4_2); have hxX4_0 := (HX4.out.cell 0).trans (show _ = some (.int .i64 1) from rfl); have hfX4_0 := HX4.out.frozen 0; have hxX4_1 := (HX4.out.cell 1).trans (show _ = some (.slice BF3 t3.length DF3) from rfl); have hfX4_1 := HX4.out.frozen 1; have hxX4_2 := (HX4.out.cell 2).trans (show _ = some (.string ⟨#[]⟩) from rfl); have hfX4_2 := HX4.out.frozen 2) | ((with_reducible refine gate_callee (f := 25) rfl ?_); refine goesL_ (some 26) rfl rfl Try.func25 (by kernel_rfl) rfl #[.slice BF5 t5.length DF5] rfl (by (try simp only [List.map_toArray, List.map_cons, List.map_nil]); first | done | rfl | (simp only [List.length_drop, List.length_take]; rfl)) ?_; (with_reducible refine (spec_l04Sha.calls k1 _ _ t5 key _ HF5.out.reads HF5.out.room E7.out).mono ?_); rintro e w2 ⟨rfl, hb⟩; refine ⟨_, rfl, ?_⟩; have hk := kept_below hb; replace HS := Aside0.mk (HS.out.step hk no_S); replace H3 := Aside0.mk (H3.out.step hk no_S); replace HF3 := Aside0.mk (HF3.out.step hk no_S); replace HX4 := Aside0.mk (HX4.out.step hk no_S); replace HF5 := Aside0.mk (HF5.out.step hk no_S); replace HB := Aside0.mk (below_step HB.out hb); clear hb hk; (try clear hxX4_0 hfX4_0 hxX4_1 hfX4_1 hxX4_2 hfX4_2); have hxX4_0 := (HX4.out.cell 0).trans (show _ = some (.int .i64 1) from rfl); have hfX4_0 := HX4.out.frozen 0; have hxX4_1 := (HX4.out.cell 1).trans (show _ = some (.slice BF3 t3.length DF3) from rfl); have hfX4_1 := HX4.out.frozen 1; have hxX4_2 := (HX4.out.cell 2).trans (show _ = some (.string ⟨#[]⟩) from rfl); have hfX4_2 := HX4.out.frozen 2) | ((with_reducible refine gate_store (t := 61) (p := 5) rfl ?_); refine LB.storedW HX4.out HB.out GEX4.out [.int .i64 2, .slice none 0 0, .string key] rfl rfl (t := 61) (p := 5) rfl rfl ?hr_5 ?_; (case hr_5 => first | (go_simp; done) | (go_simp; simp only [World.setCells, Nat.reduceAdd, Nat.zero_add]; done)); intro w2 hx hk hb; replace HS := Aside0.mk (HS.out.step hk D_S_X4.out); replace H3 := Aside0.mk (H3.out.step hk D_3_X4.out); replace HF3 := Aside0.mk (HF3.out.step hk D_F3_X4.out); replace HF5 := Aside0.mk (HF5.out.step hk (apart_symm D_X4_F5.out)); replace HB := Aside0.mk hb; replace HX4 := Aside0.mk (show LB w2 PX4 gX4 61 #[.int .i64 2, .slice none 0 0, .string key] from hx); clear hk hx hb; (try clear hxX4_0 hfX4_0 hxX4_1 hfX4_1 hxX4_2 hfX4_2); have hxX4_0 := (HX4.out.cell 0).trans (show _ = some (.int .i64 2) from rfl); have hfX4_0 := HX4.out.frozen 0; have hxX4_1 := (HX4.out.cell 1).trans (show _ = some (.slice none 0 0) from rfl); have hfX4_1 := HX4.out.frozen 1; have hxX4_2 := (HX4.out.cell 2).trans (show _ = some (.string key) from rfl); have hfX4_2 := HX4.out.frozen 2) | (have D_S_N := Aside0.mk (show ∀ k_, PS k_ → ¬ (fun _ : Nat => False) k_ from fun _ _ h_ => h_); have D_3_N := Aside0.mk (show ∀ k_, P3 k_ → ¬ (fun _ : Nat => False) k_ from fun _ _ h_ => h_); have D_F3_N := Aside0.mk (show ∀ k_, PF3 k_ → ¬ (fun _ : Nat => False) k_ from fun _ _ h_ => h_); have D_X4_N := Aside0.mk (show ∀ k_, PX4 k_ → ¬ (fun _ : Nat => False) k_ from fun _ _ h_ => h_); have D_F5_N := Aside0.mk (show ∀ k_, PF5 k_ → ¬ (fun _ : Nat => False) k_ from fun _ _ h_ => h_); have HN := Aside0.mk trivial; have RRN := Aside0.mk (show ∀ k_, (fun _ : Nat => False) k_ → (fun _ => False) k_ ∨ w.heap.size ≤ k_ from fun _ h_ => h_.elim); (with_reducible refine gate_builtin (b := .append) (xs := #[.tmp 42, .tmp 44]) rfl ?_); at_builtin; refine LM.append1 k61 (w0 := w) rfl (.tmp 42) (.tmp 44) 27 61 (.agg #[.int .i64 0, .slice none 0 0, .string ⟨#[]⟩]) 48 rfl Try.underlying27 info61 rfl (by decide) (by omega) (.slice B3 x3.length D3) x3 (⟨2, [], key⟩ : S61) [.int .i64 2, .slice none 0 0, .string key] rfl rfl (by simp) H3.out (show Kd.FK k61 _ (fun _ => False) (⟨2, [], key⟩ : S61) _ from fun W_ _ => k61_mk W_ (⟨2, [], key⟩ : S61) (Nat.le_refl _) (Kd.C_nil _ _)) D_3_N.out HB.out ?aL_6 ?_; (case aL_6 => have := LM_.out; omega); intro PF6 v_ w2 HL hb hk hR; have D_S_F6 := Aside0.mk (apart_app hR HS.out.lt (apart_or D_S_3.out D_S_N.out)); have D_F3_F6 := Aside0.mk (apart_app hR HF3.out.lt (apart_or (apart_symm D_3_F3.out) D_F3_N.out)); have D_X4_F6 := Aside0.mk (apart_app hR HX4.out.lt (apart_or (apart_symm D_3_X4.out) D_X4_N.out)); have D_F5_F6 := Aside0.mk (apart_app hR HF5.out.lt (apart_or (apart_symm D_3_F5.out) D_F5_N.out)); have RRF6 := Aside0.mk (show ∀ k_, PF6 k_ → (fun _ => False) k_ ∨ w.heap.size ≤ k_ from rr_app hR HB.out.size (rr_or RR3.out RRN.out)); replace HS := Aside0.mk (HS.out.step hk D_S_3.out); replace HF3 := Aside0.mk (HF3.out.step hk (apart_symm D_3_F3.out)); replace HX4 := Aside0.mk (HX4.out.step hk (apart_symm D_3_X4.out)); replace HF5 := Aside0.mk (HF5.out.step hk (apart_symm D_3_F5.out)); rw [← Ny1.out] at HL; have HF6 := Aside0.mk HL; replace HB := Aside0.mk hb; clear hR HL hb hk; clear H3; clear HN; obtain ⟨BF6, DF6, e_F6⟩ := HF6.out.val; subst e_F6; (try clear hxX4_0 hfX4_0 hxX4_1 hfX4_1 hxX4_2 hfX4_2); have hxX4_0 := (HX4.out.cell 0).trans (show _ = some (.int .i64 2) from rfl); have hfX4_0 := HX4.out.frozen 0; have hxX4_1 := (HX4.out.cell 1).trans (show _ = some (.slice none 0 0) from rfl); have hfX4_1 := HX4.out.frozen 1; have hxX4_2 := (HX4.out.cell 2).trans (show _ = some (.string key) from rfl); have hfX4_2 := HX4.out.frozen 2))
            go_roundg k1
            case measure => have := HK1.out; omega
            case rel => exact ⟨y1, wrap64 (x4 - 1), a5, b5, PF6, rfl, H', ⟨by have := HK1.out; omega⟩, HF6, HS, D_S_F6, RRF6, HB⟩
          · have cq0 : (t4 == 0) = false := beq_eq_false_iff_ne.mpr d0
            by_cases d1 : t4 = 1
            · rw [if_pos (.inr d1)] at e5
              have cq1 : (t4 == 1) = true := beq_iff_eq.mpr d1
              obtain ⟨⟨t5, a5, b5⟩, e6, e5⟩ := Option.bind_eq_some_iff.1 e5
              obtain ⟨key, e7, e5⟩ := Option.bind_eq_some_iff.1 e5
              have E6 := Aside0.mk e6
              have E7 := Aside0.mk e7
              clear e6 e7
              simp only [Option.some.injEq, Prod.mk.injEq] at e5
              obtain ⟨rfl, rfl, rfl⟩ := e5
              go_wp2_with (first | ((with_reducible refine gate_callee (f := 53) rfl ?_); refine goesL_ (some 17) rfl rfl Try.func53 (by kernel_rfl) rfl #[.pointer (some ⟨g, 0, none⟩)] rfl (by (try simp only [List.map_toArray, List.map_cons, List.map_nil]); first | done | rfl) ?_; (with_reducible refine (spec_l00Src_blob.own g s0_0 a b  t3 a3 b3 w _ HS.out.is HB.out E3.out).mono ?_); rintro e w2 ⟨vF7, rfl, hrF7, hi, hb, hkb⟩; refine ⟨_, rfl, ?_⟩; have hk := LI.kept HS.out hkb; obtain ⟨PF7, hPF7, HLF7⟩ := LV.fresh HB.out hrF7 (fun _ hk_ => hk_); have HF7 := Aside0.mk HLF7; clear HLF7 hrF7; have D_S_F7 := Aside0.mk (new_apart HS.out.lt hPF7); have D_3_F7 := Aside0.mk (new_apart H3.out.lt hPF7); have RRF7 := Aside0.mk (show ∀ k_, PF7 k_ → (fun _ => False) k_ ∨ w.heap.size ≤ k_ from fun k_ h_ => .inr (Nat.le_trans HB.out.size (hPF7 k_ h_).1)); replace H3 := Aside0.mk (H3.out.step hk (apart_symm D_S_3.out)); replace HS := Aside0.mk (LI.new HS.out hi); replace HB := Aside0.mk hb; clear hi hb hk hkb; clear hPF7; obtain ⟨BF7, DF7, e_F7⟩ := HF7.out.val; subst e_F7) | ((with_reducible refine gate_dst (N := 5) rfl ?_); refine box_event ?hg_7 (N := 5) ?hd_7 (cs := #[.int .i64 0, .slice none 0 0, .string ByteArray.empty]) (t := 61) ?hr_7 ?_; (case hd_7 => rfl); (case hg_7 => rfl); (case hr_7 => first | (go_simp; done) | (go_simp; rfl)); intro gX8 hg w2 hbox hb; have hk := kept_below hb; obtain ⟨PX8, hPX8, HLX8⟩ := LB.fresh hg hbox; have HX8 := Aside0.mk HLX8; clear HLX8; have GEX8 := Aside0.mk (show w.heap.size ≤ gX8 from (by rw [hg]; exact HB.out.size)); have D_S_X8 := Aside0.mk (new_apart HS.out.lt hPX8); have D_3_X8 := Aside0.mk (new_apart H3.out.lt hPX8); have D_F7_X8 := Aside0.mk (new_apart HF7.out.lt hPX8); have RRX8 := Aside0.mk (show ∀ k_, PX8 k_ → (fun _ => False) k_ ∨ w.heap.size ≤ k_ from fun k_ h_ => .inr (Nat.le_trans HB.out.size (hPX8 k_ h_).1)); replace HS := Aside0.mk (HS.out.step hk no_S); replace H3 := Aside0.mk (H3.out.step hk no_S); replace HF7 := Aside0.mk (HF7.out.step hk no_S); replace HB := Aside0.mk (below_step HB.out hb); clear hb hk hbox hg hPX8; (try clear hxX8_0 hfX8_0 hxX8_1 hfX8_1 hxX8_2 hfX8_2); have hxX8_0 := (HX8.out.cell 0).trans (show _ = some (.int .i64 0) from rfl); have hfX8_0 := HX8.out.frozen 0; have hxX8_1 := (HX8.out.cell 1).trans (show _ = some (.slice none 0 0) from rfl); have hfX8_1 := HX8.out.frozen 1; have hxX8_2 := (HX8.out.cell 2).trans (show _ = some (.string ByteArray.empty) from rfl); have hfX8_2 := HX8.out.frozen 2) | ((with_reducible refine gate_store (t := 61) (p := 5) rfl ?_); refine LB.storedW HX8.out HB.out GEX8.out [.int .i64 1, .slice BF7 t3.length DF7, .string ⟨#[]⟩] rfl rfl (t := 61) (p := 5) rfl rfl ?hr_8 ?_; (case hr_8 => first | (go_simp; done) | (go_simp; simp only [World.setCells, Nat.reduceAdd, Nat.zero_add]; done)); intro w2 hx hk hb; replace HS := Aside0.mk (HS.out.step hk D_S_X8.out); replace H3 := Aside0.mk (H3.out.step hk D_3_X8.out); replace HF7 := Aside0.mk (HF7.out.step hk D_F7_X8.out); replace HB := Aside0.mk hb; replace HX8 := Aside0.mk (show LB w2 PX8 gX8 61 #[.int .i64 1, .slice BF7 t3.length DF7, .string ⟨#[]⟩] from hx); clear hk hx hb; (try clear hxX8_0 hfX8_0 hxX8_1 hfX8_1 hxX8_2 hfX8_2); have hxX8_0 := (HX8.out.cell 0).trans (show _ = some (.int .i64 1) from rfl); have hfX8_0 := HX8.out.frozen 0; have hxX8_1 := (HX8.out.cell 1).trans (show _ = some (.slice BF7 t3.length DF7) from rfl); have hfX8_1 := HX8.out.frozen 1; have hxX8_2 := (HX8.out.cell 2).trans (show _ = some (.string ⟨#[]⟩) from rfl); have hfX8_2 := HX8.out.frozen 2) | ((with_reducible refine gate_callee (f := 51) rfl ?_); refine goesL_ (some 20) rfl rfl Try.func51 (by kernel_rfl) rfl #[.pointer (some ⟨g, 0, none⟩), .int .i64 6] rfl (by (try simp only [List.map_toArray, List.map_cons, List.map_nil]); first | done | rfl) ?_; (with_reducible refine (spec_l00Src_next.calls g s0_0 a3 b3 6 t4 a4 b4 w _ HS.out.is HB.out E4.out).mono ?_); rintro e w2 ⟨rfl, hi, hb, hkb⟩; refine ⟨_, rfl, ?_⟩; have hk := LI.kept HS.out hkb; replace H3 := Aside0.mk (H3.out.step hk (apart_symm D_S_3.out)); replace HF7 := Aside0.mk (HF7.out.step hk (apart_symm D_S_F7.out)); replace HX8 := Aside0.mk (HX8.out.step hk (apart_symm D_S_X8.out)); replace HS := Aside0.mk (LI.new HS.out hi); replace HB := Aside0.mk hb; clear hi hb hk hkb; (try clear hxX8_0 hfX8_0 hxX8_1 hfX8_1 hxX8_2 hfX8_2); have hxX8_0 := (HX8.out.cell 0).trans (show _ = some (.int .i64 1) from rfl); have hfX8_0 := HX8.out.frozen 0; have hxX8_1 := (HX8.out.cell 1).trans (show _ = some (.slice BF7 t3.length DF7) from rfl); have hfX8_1 := HX8.out.frozen 1; have hxX8_2 := (HX8.out.cell 2).trans (show _ = some (.string ⟨#[]⟩) from rfl); have hfX8_2 := HX8.out.frozen 2) | ((with_reducible refine gate_callee (f := 53) rfl ?_); refine goesL_ (some 25) rfl rfl Try.func53 (by kernel_rfl) rfl #[.pointer (some ⟨g, 0, none⟩)] rfl (by (try simp only [List.map_toArray, List.map_cons, List.map_nil]); first | done | rfl) ?_; (with_reducible refine (spec_l00Src_blob.own g s0_0 a4 b4  t5 a5 b5 w _ HS.out.is HB.out E6.out).mono ?_); rintro e w2 ⟨vF9, rfl, hrF9, hi, hb, hkb⟩; refine ⟨_, rfl, ?_⟩; have hk := LI.kept HS.out hkb; obtain ⟨PF9, hPF9, HLF9⟩ := LV.fresh HB.out hrF9 (fun _ hk_ => hk_); have HF9 := Aside0.mk HLF9; clear HLF9 hrF9; have D_S_F9 := Aside0.mk (new_apart HS.out.lt hPF9); have D_3_F9 := Aside0.mk (new_apart H3.out.lt hPF9); have D_F7_F9 := Aside0.mk (new_apart HF7.out.lt hPF9); have D_X8_F9 := Aside0.mk (new_apart HX8.out.lt hPF9); have RRF9 := Aside0.mk (show ∀ k_, PF9 k_ → (fun _ => False) k_ ∨ w.heap.size ≤ k_ from fun k_ h_ => .inr (Nat.le_trans HB.out.size (hPF9 k_ h_).1)); replace H3 := Aside0.mk (H3.out.step hk (apart_symm D_S_3.out)); replace HF7 := Aside0.mk (HF7.out.step hk (apart_symm D_S_F7.out)); replace HX8 := Aside0.mk (HX8.out.step hk (apart_symm D_S_X8.out)); replace HS := Aside0.mk (LI.new HS.out hi); replace HB := Aside0.mk hb; clear hi hb hk hkb; clear hPF9; obtain ⟨BF9, DF9, e_F9⟩ := HF9.out.val; subst e_F9; (try clear hxX8_0 hfX8_0 hxX8_1 hfX8_1 hxX8_2 hfX8_2); have hxX8_0 := (HX8.out.cell 0).trans (show _ = some (.int .i64 1) from rfl); have hfX8_0 := HX8.out.frozen 0; have hxX8_1 := (HX8.out.cell 1).trans (show _ = some (.slice BF7 t3.length DF7) from rfl); have hfX8_1 := HX8.out.frozen 1; have hxX8_2 := (HX8.out.cell 2).trans (show _ = some (.string ⟨#[]⟩) from rfl); have hfX8_2 := HX8.out.frozen 2) | ((with_reducible refine gate_callee (f := 25) rfl ?_); refine goesL_ (some 26) rfl rfl Try.func25 (by kernel_rfl) rfl #[.slice BF9 t5.length DF9] rfl (by (try simp only [List.map_toArray, List.map_cons, List.map_nil]); first | done | rfl | (simp only [List.length_drop, List.length_take]; rfl)) ?_; (with_reducible refine (spec_l04Sha.calls k1 _ _ t5 key _ HF9.out.reads HF9.out.room E7.out).mono ?_); rintro e w2 ⟨rfl, hb⟩; refine ⟨_, rfl, ?_⟩; have hk := kept_below hb; replace HS := Aside0.mk (HS.out.step hk no_S); replace H3 := Aside0.mk (H3.out.step hk no_S); replace HF7 := Aside0.mk (HF7.out.step hk no_S); replace HX8 := Aside0.mk (HX8.out.step hk no_S); replace HF9 := Aside0.mk (HF9.out.step hk no_S); replace HB := Aside0.mk (below_step HB.out hb); clear hb hk; (try clear hxX8_0 hfX8_0 hxX8_1 hfX8_1 hxX8_2 hfX8_2); have hxX8_0 := (HX8.out.cell 0).trans (show _ = some (.int .i64 1) from rfl); have hfX8_0 := HX8.out.frozen 0; have hxX8_1 := (HX8.out.cell 1).trans (show _ = some (.slice BF7 t3.length DF7) from rfl); have hfX8_1 := HX8.out.frozen 1; have hxX8_2 := (HX8.out.cell 2).trans (show _ = some (.string ⟨#[]⟩) from rfl); have hfX8_2 := HX8.out.frozen 2) | ((with_reducible refine gate_store (t := 61) (p := 5) rfl ?_); refine LB.storedW HX8.out HB.out GEX8.out [.int .i64 2, .slice none 0 0, .string key] rfl rfl (t := 61) (p := 5) rfl rfl ?hr_9 ?_; (case hr_9 => first | (go_simp; done) | (go_simp; simp only [World.setCells, Nat.reduceAdd, Nat.zero_add]; done)); intro w2 hx hk hb; replace HS := Aside0.mk (HS.out.step hk D_S_X8.out); replace H3 := Aside0.mk (H3.out.step hk D_3_X8.out); replace HF7 := Aside0.mk (HF7.out.step hk D_F7_X8.out); replace HF9 := Aside0.mk (HF9.out.step hk (apart_symm D_X8_F9.out)); replace HB := Aside0.mk hb; replace HX8 := Aside0.mk (show LB w2 PX8 gX8 61 #[.int .i64 2, .slice none 0 0, .string key] from hx); clear hk hx hb; (try clear hxX8_0 hfX8_0 hxX8_1 hfX8_1 hxX8_2 hfX8_2); have hxX8_0 := (HX8.out.cell 0).trans (show _ = some (.int .i64 2) from rfl); have hfX8_0 := HX8.out.frozen 0; have hxX8_1 := (HX8.out.cell 1).trans (show _ = some (.slice none 0 0) from rfl); have hfX8_1 := HX8.out.frozen 1; have hxX8_2 := (HX8.out.cell 2).trans (show _ = some (.string key) from rfl); have hfX8_2 := HX8.out.frozen 2) | (have D_S_N := Aside0.mk (show ∀ k_, PS k_ → ¬ (fun _ : Nat => False) k_ from fun _ _ h_ => h_); have D_3_N := Aside0.mk (show ∀ k_, P3 k_ → ¬ (fun _ : Nat => False) k_ from fun _ _ h_ => h_); have D_F7_N := Aside0.mk (show ∀ k_, PF7 k_ → ¬ (fun _ : Nat => False) k_ from fun _ _ h_ => h_); have D_X8_N := Aside0.mk (show ∀ k_, PX8 k_ → ¬ (fun _ : Nat => False) k_ from fun _ _ h_ => h_); have D_F9_N := Aside0.mk (show ∀ k_, PF9 k_ → ¬ (fun _ : Nat => False) k_ from fun _ _ h_ => h_); have HN := Aside0.mk trivial; have RRN := Aside0.mk (show ∀ k_, (fun _ : Nat => False) k_ → (fun _ => False) k_ ∨ w.heap.size ≤ k_ from fun _ h_ => h_.elim); (with_reducible refine gate_builtin (b := .append) (xs := #[.tmp 42, .tmp 44]) rfl ?_); at_builtin; refine LM.append1 k61 (w0 := w) rfl (.tmp 42) (.tmp 44) 27 61 (.agg #[.int .i64 0, .slice none 0 0, .string ⟨#[]⟩]) 48 rfl Try.underlying27 info61 rfl (by decide) (by omega) (.slice B3 x3.length D3) x3 (⟨2, [], key⟩ : S61) [.int .i64 2, .slice none 0 0, .string key] rfl rfl (by simp) H3.out (show Kd.FK k61 _ (fun _ => False) (⟨2, [], key⟩ : S61) _ from fun W_ _ => k61_mk W_ (⟨2, [], key⟩ : S61) (Nat.le_refl _) (Kd.C_nil _ _)) D_3_N.out HB.out ?aL_10 ?_; (case aL_10 => have := LM_.out; omega); intro PF10 v_ w2 HL hb hk hR; have D_S_F10 := Aside0.mk (apart_app hR HS.out.lt (apart_or D_S_3.out D_S_N.out)); have D_F7_F10 := Aside0.mk (apart_app hR HF7.out.lt (apart_or (apart_symm D_3_F7.out) D_F7_N.out)); have D_X8_F10 := Aside0.mk (apart_app hR HX8.out.lt (apart_or (apart_symm D_3_X8.out) D_X8_N.out)); have D_F9_F10 := Aside0.mk (apart_app hR HF9.out.lt (apart_or (apart_symm D_3_F9.out) D_F9_N.out)); have RRF10 := Aside0.mk (show ∀ k_, PF10 k_ → (fun _ => False) k_ ∨ w.heap.size ≤ k_ from rr_app hR HB.out.size (rr_or RR3.out RRN.out)); replace HS := Aside0.mk (HS.out.step hk D_S_3.out); replace HF7 := Aside0.mk (HF7.out.step hk (apart_symm D_3_F7.out)); replace HX8 := Aside0.mk (HX8.out.step hk (apart_symm D_3_X8.out)); replace HF9 := Aside0.mk (HF9.out.step hk (apart_symm D_3_F9.out)); rw [← Ny1.out] at HL; have HF10 := Aside0.mk HL; replace HB := Aside0.mk hb; clear hR HL hb hk; clear H3; clear HN; obtain ⟨BF10, DF10, e_F10⟩ := HF10.out.val; subst e_F10; (try clear hxX8_0 hfX8_0 hxX8_1 hfX8_1 hxX8_2 hfX8_2); have hxX8_0 := (HX8.out.cell 0).trans (show _ = some (.int .i64 2) from rfl); have hfX8_0 := HX8.out.frozen 0; have hxX8_1 := (HX8.out.cell 1).trans (show _ = some (.slice none 0 0) from rfl); have hfX8_1 := HX8.out.frozen 1; have hxX8_2 := (HX8.out.cell 2).trans (show _ = some (.string key) from rfl); have hfX8_2 := HX8.out.frozen 2))
              go_roundg k1
              case measure => have := HK1.out; omega
              case rel => exact ⟨y1, wrap64 (x4 - 1), a5, b5, PF10, rfl, H', ⟨by have := HK1.out; omega⟩, HF10, HS, D_S_F10, RRF10, HB⟩
            · rw [if_neg (fun h_ => h_.elim d0 d1)] at e5
              have cq1 : (t4 == 1) = false := beq_eq_false_iff_ne.mpr d1
              by_cases d2 : t4 = 2
              · rw [if_pos d2] at e5
                have cq2 : (t4 == 2) = true := beq_iff_eq.mpr d2
                simp only [Option.some.injEq, Prod.mk.injEq] at e5
                obtain ⟨rfl, rfl, rfl⟩ := e5
                go_wp2_with (first | ((with_reducible refine gate_callee (f := 53) rfl ?_); refine goesL_ (some 17) rfl rfl Try.func53 (by kernel_rfl) rfl #[.pointer (some ⟨g, 0, none⟩)] rfl (by (try simp only [List.map_toArray, List.map_cons, List.map_nil]); first | done | rfl) ?_; (with_reducible refine (spec_l00Src_blob.own g s0_0 a b  t3 a3 b3 w _ HS.out.is HB.out E3.out).mono ?_); rintro e w2 ⟨vF11, rfl, hrF11, hi, hb, hkb⟩; refine ⟨_, rfl, ?_⟩; have hk := LI.kept HS.out hkb; obtain ⟨PF11, hPF11, HLF11⟩ := LV.fresh HB.out hrF11 (fun _ hk_ => hk_); have HF11 := Aside0.mk HLF11; clear HLF11 hrF11; have D_S_F11 := Aside0.mk (new_apart HS.out.lt hPF11); have D_3_F11 := Aside0.mk (new_apart H3.out.lt hPF11); have RRF11 := Aside0.mk (show ∀ k_, PF11 k_ → (fun _ => False) k_ ∨ w.heap.size ≤ k_ from fun k_ h_ => .inr (Nat.le_trans HB.out.size (hPF11 k_ h_).1)); replace H3 := Aside0.mk (H3.out.step hk (apart_symm D_S_3.out)); replace HS := Aside0.mk (LI.new HS.out hi); replace HB := Aside0.mk hb; clear hi hb hk hkb; clear hPF11; obtain ⟨BF11, DF11, e_F11⟩ := HF11.out.val; subst e_F11) | ((with_reducible refine gate_dst (N := 5) rfl ?_); refine box_event ?hg_11 (N := 5) ?hd_11 (cs := #[.int .i64 0, .slice none 0 0, .string ByteArray.empty]) (t := 61) ?hr_11 ?_; (case hd_11 => rfl); (case hg_11 => rfl); (case hr_11 => first | (go_simp; done) | (go_simp; rfl)); intro gX12 hg w2 hbox hb; have hk := kept_below hb; obtain ⟨PX12, hPX12, HLX12⟩ := LB.fresh hg hbox; have HX12 := Aside0.mk HLX12; clear HLX12; have GEX12 := Aside0.mk (show w.heap.size ≤ gX12 from (by rw [hg]; exact HB.out.size)); have D_S_X12 := Aside0.mk (new_apart HS.out.lt hPX12); have D_3_X12 := Aside0.mk (new_apart H3.out.lt hPX12); have D_F11_X12 := Aside0.mk (new_apart HF11.out.lt hPX12); have RRX12 := Aside0.mk (show ∀ k_, PX12 k_ → (fun _ => False) k_ ∨ w.heap.size ≤ k_ from fun k_ h_ => .inr (Nat.le_trans HB.out.size (hPX12 k_ h_).1)); replace HS := Aside0.mk (HS.out.step hk no_S); replace H3 := Aside0.mk (H3.out.step hk no_S); replace HF11 := Aside0.mk (HF11.out.step hk no_S); replace HB := Aside0.mk (below_step HB.out hb); clear hb hk hbox hg hPX12; (try clear hxX12_0 hfX12_0 hxX12_1 hfX12_1 hxX12_2 hfX12_2); have hxX12_0 := (HX12.out.cell 0).trans (show _ = some (.int .i64 0) from rfl); have hfX12_0 := HX12.out.frozen 0; have hxX12_1 := (HX12.out.cell 1).trans (show _ = some (.slice none 0 0) from rfl); have hfX12_1 := HX12.out.frozen 1; have hxX12_2 := (HX12.out.cell 2).trans (show _ = some (.string ByteArray.empty) from rfl); have hfX12_2 := HX12.out.frozen 2) | ((with_reducible refine gate_store (t := 61) (p := 5) rfl ?_); refine LB.storedW HX12.out HB.out GEX12.out [.int .i64 1, .slice BF11 t3.length DF11, .string ⟨#[]⟩] rfl rfl (t := 61) (p := 5) rfl rfl ?hr_12 ?_; (case hr_12 => first | (go_simp; done) | (go_simp; simp only [World.setCells, Nat.reduceAdd, Nat.zero_add]; done)); intro w2 hx hk hb; replace HS := Aside0.mk (HS.out.step hk D_S_X12.out); replace H3 := Aside0.mk (H3.out.step hk D_3_X12.out); replace HF11 := Aside0.mk (HF11.out.step hk D_F11_X12.out); replace HB := Aside0.mk hb; replace HX12 := Aside0.mk (show LB w2 PX12 gX12 61 #[.int .i64 1, .slice BF11 t3.length DF11, .string ⟨#[]⟩] from hx); clear hk hx hb; (try clear hxX12_0 hfX12_0 hxX12_1 hfX12_1 hxX12_2 hfX12_2); have hxX12_0 := (HX12.out.cell 0).trans (show _ = some (.int .i64 1) from rfl); have hfX12_0 := HX12.out.frozen 0; have hxX12_1 := (HX12.out.cell 1).trans (show _ = some (.slice BF11 t3.length DF11) from rfl); have hfX12_1 := HX12.out.frozen 1; have hxX12_2 := (HX12.out.cell 2).trans (show _ = some (.string ⟨#[]⟩) from rfl); have hfX12_2 := HX12.out.frozen 2) | ((with_reducible refine gate_callee (f := 51) rfl ?_); refine goesL_ (some 20) rfl rfl Try.func51 (by kernel_rfl) rfl #[.pointer (some ⟨g, 0, none⟩), .int .i64 6] rfl (by (try simp only [List.map_toArray, List.map_cons, List.map_nil]); first | done | rfl) ?_; (with_reducible refine (spec_l00Src_next.calls g s0_0 a3 b3 6 t4 a4 b4 w _ HS.out.is HB.out E4.out).mono ?_); rintro e w2 ⟨rfl, hi, hb, hkb⟩; refine ⟨_, rfl, ?_⟩; have hk := LI.kept HS.out hkb; replace H3 := Aside0.mk (H3.out.step hk (apart_symm D_S_3.out)); replace HF11 := Aside0.mk (HF11.out.step hk (apart_symm D_S_F11.out)); replace HX12 := Aside0.mk (HX12.out.step hk (apart_symm D_S_X12.out)); replace HS := Aside0.mk (LI.new HS.out hi); replace HB := Aside0.mk hb; clear hi hb hk hkb; (try clear hxX12_0 hfX12_0 hxX12_1 hfX12_1 hxX12_2 hfX12_2); have hxX12_0 := (HX12.out.cell 0).trans (show _ = some (.int .i64 1) from rfl); have hfX12_0 := HX12.out.frozen 0; have hxX12_1 := (HX12.out.cell 1).trans (show _ = some (.slice BF11 t3.length DF11) from rfl); have hfX12_1 := HX12.out.frozen 1; have hxX12_2 := (HX12.out.cell 2).trans (show _ = some (.string ⟨#[]⟩) from rfl); have hfX12_2 := HX12.out.frozen 2) | ((with_reducible refine gate_store (t := 61) (p := 5) rfl ?_); refine LB.storedW HX12.out HB.out GEX12.out [.int .i64 3, .slice none 0 0, .string ⟨#[]⟩] rfl rfl (t := 61) (p := 5) rfl rfl ?hr_13 ?_; (case hr_13 => first | (go_simp; done) | (go_simp; simp only [World.setCells, Nat.reduceAdd, Nat.zero_add]; done)); intro w2 hx hk hb; replace HS := Aside0.mk (HS.out.step hk D_S_X12.out); replace H3 := Aside0.mk (H3.out.step hk D_3_X12.out); replace HF11 := Aside0.mk (HF11.out.step hk D_F11_X12.out); replace HB := Aside0.mk hb; replace HX12 := Aside0.mk (show LB w2 PX12 gX12 61 #[.int .i64 3, .slice none 0 0, .string ⟨#[]⟩] from hx); clear hk hx hb; (try clear hxX12_0 hfX12_0 hxX12_1 hfX12_1 hxX12_2 hfX12_2); have hxX12_0 := (HX12.out.cell 0).trans (show _ = some (.int .i64 3) from rfl); have hfX12_0 := HX12.out.frozen 0; have hxX12_1 := (HX12.out.cell 1).trans (show _ = some (.slice none 0 0) from rfl); have hfX12_1 := HX12.out.frozen 1; have hxX12_2 := (HX12.out.cell 2).trans (show _ = some (.string ⟨#[]⟩) from rfl); have hfX12_2 := HX12.out.frozen 2) | (have D_S_N := Aside0.mk (show ∀ k_, PS k_ → ¬ (fun _ : Nat => False) k_ from fun _ _ h_ => h_); have D_3_N := Aside0.mk (show ∀ k_, P3 k_ → ¬ (fun _ : Nat => False) k_ from fun _ _ h_ => h_); have D_F11_N := Aside0.mk (show ∀ k_, PF11 k_ → ¬ (fun _ : Nat => False) k_ from fun _ _ h_ => h_); have D_X12_N := Aside0.mk (show ∀ k_, PX12 k_ → ¬ (fun _ : Nat => False) k_ from fun _ _ h_ => h_); have HN := Aside0.mk trivial; have RRN := Aside0.mk (show ∀ k_, (fun _ : Nat => False) k_ → (fun _ => False) k_ ∨ w.heap.size ≤ k_ from fun _ h_ => h_.elim); (with_reducible refine gate_builtin (b := .append) (xs := #[.tmp 42, .tmp 44]) rfl ?_); at_builtin; refine LM.append1 k61 (w0 := w) rfl (.tmp 42) (.tmp 44) 27 61 (.agg #[.int .i64 0, .slice none 0 0, .string ⟨#[]⟩]) 48 rfl Try.underlying27 info61 rfl (by decide) (by omega) (.slice B3 x3.length D3) x3 (⟨3, [], ⟨#[]⟩⟩ : S61) [.int .i64 3, .slice none 0 0, .string ⟨#[]⟩] rfl rfl (by simp) H3.out (show Kd.FK k61 _ (fun _ => False) (⟨3, [], ⟨#[]⟩⟩ : S61) _ from fun W_ _ => k61_mk W_ (⟨3, [], ⟨#[]⟩⟩ : S61) (Nat.le_refl _) (Kd.C_nil _ _)) D_3_N.out HB.out ?aL_14 ?_; (case aL_14 => have := LM_.out; omega); intro PF13 v_ w2 HL hb hk hR; have D_S_F13 := Aside0.mk (apart_app hR HS.out.lt (apart_or D_S_3.out D_S_N.out)); have D_F11_F13 := Aside0.mk (apart_app hR HF11.out.lt (apart_or (apart_symm D_3_F11.out) D_F11_N.out)); have D_X12_F13 := Aside0.mk (apart_app hR HX12.out.lt (apart_or (apart_symm D_3_X12.out) D_X12_N.out)); have RRF13 := Aside0.mk (show ∀ k_, PF13 k_ → (fun _ => False) k_ ∨ w.heap.size ≤ k_ from rr_app hR HB.out.size (rr_or RR3.out RRN.out)); replace HS := Aside0.mk (HS.out.step hk D_S_3.out); replace HF11 := Aside0.mk (HF11.out.step hk (apart_symm D_3_F11.out)); replace HX12 := Aside0.mk (HX12.out.step hk (apart_symm D_3_X12.out)); rw [← Ny1.out] at HL; have HF13 := Aside0.mk HL; replace HB := Aside0.mk hb; clear hR HL hb hk; clear H3; clear HN; obtain ⟨BF13, DF13, e_F13⟩ := HF13.out.val; subst e_F13; (try clear hxX12_0 hfX12_0 hxX12_1 hfX12_1 hxX12_2 hfX12_2); have hxX12_0 := (HX12.out.cell 0).trans (show _ = some (.int .i64 3) from rfl); have hfX12_0 := HX12.out.frozen 0; have hxX12_1 := (HX12.out.cell 1).trans (show _ = some (.slice none 0 0) from rfl); have hfX12_1 := HX12.out.frozen 1; have hxX12_2 := (HX12.out.cell 2).trans (show _ = some (.string ⟨#[]⟩) from rfl); have hfX12_2 := HX12.out.frozen 2))
                go_roundg k1
                case measure => have := HK1.out; omega
                case rel => exact ⟨y1, wrap64 (x4 - 1), a4, b4, PF13, rfl, H', ⟨by have := HK1.out; omega⟩, HF13, HS, D_S_F13, RRF13, HB⟩
              · rw [if_neg d2] at e5
                have cq2 : (t4 == 2) = false := beq_eq_false_iff_ne.mpr d2
                by_cases d3 : t4 = 3
                · rw [if_pos d3] at e5
                  have cq3 : (t4 == 3) = true := beq_iff_eq.mpr d3
                  obtain ⟨⟨t5, a5, b5⟩, e6, e5⟩ := Option.bind_eq_some_iff.1 e5
                  have E6 := Aside0.mk e6
                  clear e6
                  simp only at e5
                  cases t5 with
                  | true =>
                    rw [if_pos rfl] at e5
                    obtain ⟨⟨t6, a6, b6⟩, e7, e5⟩ := Option.bind_eq_some_iff.1 e5
                    obtain ⟨⟨t7, a7, b7⟩, e8, e5⟩ := Option.bind_eq_some_iff.1 e5
                    simp only at e5 e8
                    by_cases c7 : 0 ≤ t7 ∧ t7 ≤ 1000
                    · rw [if_pos c7] at e5
                      simp only [Option.some.injEq, Prod.mk.injEq] at e5
                      obtain ⟨rfl, rfl, rfl⟩ := e5
                      have E7 := Aside0.mk e7
                      have E8 := Aside0.mk e8
                      have C7 := Aside0.mk c7
                      obtain ⟨m, hm⟩ : ∃ m_ : Int, m_ = 2000 + t7 := ⟨_, rfl⟩
                      have hwm : wrap64 (2000 + t7) = m := by rw [hm]; unfold wrap64; omega
                      have HM_ := Aside0.mk (show 0 ≤ m ∧ m ≤ 3000 by omega)
                      rw [← hm] at Ny1
                      obtain ⟨zs, hzs⟩ : ∃ z_ : List Int, z_ = List.replicate m.toNat 0 := ⟨_, rfl⟩
                      rw [← hzs] at Ny1
                      have Nzs := Aside0.mk hzs
                      clear e7 e8 c7 hm hzs
                      go_wp2_with (first | ((with_reducible refine gate_callee (f := 53) rfl ?_); refine goesL_ (some 17) rfl rfl Try.func53 (by kernel_rfl) rfl #[.pointer (some ⟨g, 0, none⟩)] rfl (by (try simp only [List.map_toArray, List.map_cons, List.map_nil]); first | done | rfl) ?_; (with_reducible refine (spec_l00Src_blob.own g s0_0 a b  t3 a3 b3 w _ HS.out.is HB.out E3.out).mono ?_); rintro e w2 ⟨vF14, rfl, hrF14, hi, hb, hkb⟩; refine ⟨_, rfl, ?_⟩; have hk := LI.kept HS.out hkb; obtain ⟨PF14, hPF14, HLF14⟩ := LV.fresh HB.out hrF14 (fun _ hk_ => hk_); have HF14 := Aside0.mk HLF14; clear HLF14 hrF14; have D_S_F14 := Aside0.mk (new_apart HS.out.lt hPF14); have D_3_F14 := Aside0.mk (new_apart H3.out.lt hPF14); have RRF14 := Aside0.mk (show ∀ k_, PF14 k_ → (fun _ => False) k_ ∨ w.heap.size ≤ k_ from fun k_ h_ => .inr (Nat.le_trans HB.out.size (hPF14 k_ h_).1)); replace H3 := Aside0.mk (H3.out.step hk (apart_symm D_S_3.out)); replace HS := Aside0.mk (LI.new HS.out hi); replace HB := Aside0.mk hb; clear hi hb hk hkb; clear hPF14; obtain ⟨BF14, DF14, e_F14⟩ := HF14.out.val; subst e_F14) | ((with_reducible refine gate_dst (N := 5) rfl ?_); refine box_event ?hg_15 (N := 5) ?hd_15 (cs := #[.int .i64 0, .slice none 0 0, .string ByteArray.empty]) (t := 61) ?hr_15 ?_; (case hd_15 => rfl); (case hg_15 => rfl); (case hr_15 => first | (go_simp; done) | (go_simp; rfl)); intro gX15 hg w2 hbox hb; have hk := kept_below hb; obtain ⟨PX15, hPX15, HLX15⟩ := LB.fresh hg hbox; have HX15 := Aside0.mk HLX15; clear HLX15; have GEX15 := Aside0.mk (show w.heap.size ≤ gX15 from (by rw [hg]; exact HB.out.size)); have D_S_X15 := Aside0.mk (new_apart HS.out.lt hPX15); have D_3_X15 := Aside0.mk (new_apart H3.out.lt hPX15); have D_F14_X15 := Aside0.mk (new_apart HF14.out.lt hPX15); have RRX15 := Aside0.mk (show ∀ k_, PX15 k_ → (fun _ => False) k_ ∨ w.heap.size ≤ k_ from fun k_ h_ => .inr (Nat.le_trans HB.out.size (hPX15 k_ h_).1)); replace HS := Aside0.mk (HS.out.step hk no_S); replace H3 := Aside0.mk (H3.out.step hk no_S); replace HF14 := Aside0.mk (HF14.out.step hk no_S); replace HB := Aside0.mk (below_step HB.out hb); clear hb hk hbox hg hPX15; (try clear hxX15_0 hfX15_0 hxX15_1 hfX15_1 hxX15_2 hfX15_2); have hxX15_0 := (HX15.out.cell 0).trans (show _ = some (.int .i64 0) from rfl); have hfX15_0 := HX15.out.frozen 0; have hxX15_1 := (HX15.out.cell 1).trans (show _ = some (.slice none 0 0) from rfl); have hfX15_1 := HX15.out.frozen 1; have hxX15_2 := (HX15.out.cell 2).trans (show _ = some (.string ByteArray.empty) from rfl); have hfX15_2 := HX15.out.frozen 2) | ((with_reducible refine gate_store (t := 61) (p := 5) rfl ?_); refine LB.storedW HX15.out HB.out GEX15.out [.int .i64 1, .slice BF14 t3.length DF14, .string ⟨#[]⟩] rfl rfl (t := 61) (p := 5) rfl rfl ?hr_16 ?_; (case hr_16 => first | (go_simp; done) | (go_simp; simp only [World.setCells, Nat.reduceAdd, Nat.zero_add]; done)); intro w2 hx hk hb; replace HS := Aside0.mk (HS.out.step hk D_S_X15.out); replace H3 := Aside0.mk (H3.out.step hk D_3_X15.out); replace HF14 := Aside0.mk (HF14.out.step hk D_F14_X15.out); replace HB := Aside0.mk hb; replace HX15 := Aside0.mk (show LB w2 PX15 gX15 61 #[.int .i64 1, .slice BF14 t3.length DF14, .string ⟨#[]⟩] from hx); clear hk hx hb; (try clear hxX15_0 hfX15_0 hxX15_1 hfX15_1 hxX15_2 hfX15_2); have hxX15_0 := (HX15.out.cell 0).trans (show _ = some (.int .i64 1) from rfl); have hfX15_0 := HX15.out.frozen 0; have hxX15_1 := (HX15.out.cell 1).trans (show _ = some (.slice BF14 t3.length DF14) from rfl); have hfX15_1 := HX15.out.frozen 1; have hxX15_2 := (HX15.out.cell 2).trans (show _ = some (.string ⟨#[]⟩) from rfl); have hfX15_2 := HX15.out.frozen 2) | ((with_reducible refine gate_callee (f := 51) rfl ?_); refine goesL_ (some 20) rfl rfl Try.func51 (by kernel_rfl) rfl #[.pointer (some ⟨g, 0, none⟩), .int .i64 6] rfl (by (try simp only [List.map_toArray, List.map_cons, List.map_nil]); first | done | rfl) ?_; (with_reducible refine (spec_l00Src_next.calls g s0_0 a3 b3 6 t4 a4 b4 w _ HS.out.is HB.out E4.out).mono ?_); rintro e w2 ⟨rfl, hi, hb, hkb⟩; refine ⟨_, rfl, ?_⟩; have hk := LI.kept HS.out hkb; replace H3 := Aside0.mk (H3.out.step hk (apart_symm D_S_3.out)); replace HF14 := Aside0.mk (HF14.out.step hk (apart_symm D_S_F14.out)); replace HX15 := Aside0.mk (HX15.out.step hk (apart_symm D_S_X15.out)); replace HS := Aside0.mk (LI.new HS.out hi); replace HB := Aside0.mk hb; clear hi hb hk hkb; (try clear hxX15_0 hfX15_0 hxX15_1 hfX15_1 hxX15_2 hfX15_2); have hxX15_0 := (HX15.out.cell 0).trans (show _ = some (.int .i64 1) from rfl); have hfX15_0 := HX15.out.frozen 0; have hxX15_1 := (HX15.out.cell 1).trans (show _ = some (.slice BF14 t3.length DF14) from rfl); have hfX15_1 := HX15.out.frozen 1; have hxX15_2 := (HX15.out.cell 2).trans (show _ = some (.string ⟨#[]⟩) from rfl); have hfX15_2 := HX15.out.frozen 2) | ((with_reducible refine gate_callee (f := 54) rfl ?_); refine goesL_ (some 34) rfl rfl Try.func54 (by kernel_rfl) rfl #[.pointer (some ⟨g, 0, none⟩), .int .i64 3] rfl (by (try simp only [List.map_toArray, List.map_cons, List.map_nil]); first | done | rfl) ?_; (with_reducible refine (spec_l00Src_chance.calls g s0_0 a4 b4 3 true a5 b5 w _ HS.out.is HB.out E6.out).mono ?_); rintro e w2 ⟨rfl, hi, hb, hkb⟩; refine ⟨_, rfl, ?_⟩; have hk := LI.kept HS.out hkb; replace H3 := Aside0.mk (H3.out.step hk (apart_symm D_S_3.out)); replace HF14 := Aside0.mk (HF14.out.step hk (apart_symm D_S_F14.out)); replace HX15 := Aside0.mk (HX15.out.step hk (apart_symm D_S_X15.out)); replace HS := Aside0.mk (LI.new HS.out hi); replace HB := Aside0.mk hb; clear hi hb hk hkb; (try clear hxX15_0 hfX15_0 hxX15_1 hfX15_1 hxX15_2 hfX15_2); have hxX15_0 := (HX15.out.cell 0).trans (show _ = some (.int .i64 1) from rfl); have hfX15_0 := HX15.out.frozen 0; have hxX15_1 := (HX15.out.cell 1).trans (show _ = some (.slice BF14 t3.length DF14) from rfl); have hfX15_1 := HX15.out.frozen 1; have hxX15_2 := (HX15.out.cell 2).trans (show _ = some (.string ⟨#[]⟩) from rfl); have hfX15_2 := HX15.out.frozen 2) | ((with_reducible refine gate_callee (f := 51) rfl ?_); refine goesL_ (some 36) rfl rfl Try.func51 (by kernel_rfl) rfl #[.pointer (some ⟨g, 0, none⟩), .int .i64 6] rfl (by (try simp only [List.map_toArray, List.map_cons, List.map_nil]); first | done | rfl) ?_; (with_reducible refine (spec_l00Src_next.calls g s0_0 a5 b5 6 t6 a6 b6 w _ HS.out.is HB.out E7.out).mono ?_); rintro e w2 ⟨rfl, hi, hb, hkb⟩; refine ⟨_, rfl, ?_⟩; have hk := LI.kept HS.out hkb; replace H3 := Aside0.mk (H3.out.step hk (apart_symm D_S_3.out)); replace HF14 := Aside0.mk (HF14.out.step hk (apart_symm D_S_F14.out)); replace HX15 := Aside0.mk (HX15.out.step hk (apart_symm D_S_X15.out)); replace HS := Aside0.mk (LI.new HS.out hi); replace HB := Aside0.mk hb; clear hi hb hk hkb; (try clear hxX15_0 hfX15_0 hxX15_1 hfX15_1 hxX15_2 hfX15_2); have hxX15_0 := (HX15.out.cell 0).trans (show _ = some (.int .i64 1) from rfl); have hfX15_0 := HX15.out.frozen 0; have hxX15_1 := (HX15.out.cell 1).trans (show _ = some (.slice BF14 t3.length DF14) from rfl); have hfX15_1 := HX15.out.frozen 1; have hxX15_2 := (HX15.out.cell 2).trans (show _ = some (.string ⟨#[]⟩) from rfl); have hfX15_2 := HX15.out.frozen 2) | ((with_reducible refine gate_callee (f := 51) rfl ?_); refine goesL_ (some 38) rfl rfl Try.func51 (by kernel_rfl) rfl #[.pointer (some ⟨g, 0, none⟩), .int .i64 2] rfl (by (try simp only [List.map_toArray, List.map_cons, List.map_nil]); first | done | rfl) ?_; (with_reducible refine (spec_l00Src_next.calls g s0_0 a6 b6 2 t7 a7 b7 w _ HS.out.is HB.out E8.out).mono ?_); rintro e w2 ⟨rfl, hi, hb, hkb⟩; refine ⟨_, rfl, ?_⟩; have hk := LI.kept HS.out hkb; replace H3 := Aside0.mk (H3.out.step hk (apart_symm D_S_3.out)); replace HF14 := Aside0.mk (HF14.out.step hk (apart_symm D_S_F14.out)); replace HX15 := Aside0.mk (HX15.out.step hk (apart_symm D_S_X15.out)); replace HS := Aside0.mk (LI.new HS.out hi); replace HB := Aside0.mk hb; clear hi hb hk hkb; (try clear hxX15_0 hfX15_0 hxX15_1 hfX15_1 hxX15_2 hfX15_2); have hxX15_0 := (HX15.out.cell 0).trans (show _ = some (.int .i64 1) from rfl); have hfX15_0 := HX15.out.frozen 0; have hxX15_1 := (HX15.out.cell 1).trans (show _ = some (.slice BF14 t3.length DF14) from rfl); have hfX15_1 := HX15.out.frozen 1; have hxX15_2 := (HX15.out.cell 2).trans (show _ = some (.string ⟨#[]⟩) from rfl); have hfX15_2 := HX15.out.frozen 2) | ((with_reducible refine gate_dst (N := 40) rfl ?_); refine Kd.R_make (Kd.int .u8) _ 5 rfl (N := 40) rfl 22 _ _ rfl (wrap64 (2000 + t7)) rfl rfl Try.underlying22 (.int .u8 0) 1 info5 rfl (by decide) (by omega) 0 (ok := fun _ => True) (okp := fun _ => True) rfl (fun _ hk => hk) trivial (by rw [hwm]; exact HM_.out.1) (by rw [hwm]; have := HM_.out; omega) (Below.refl _ _) (Nat.le_refl _) ?_; intro vF16 w2 hrF16 hb hg_ hnew_; clear hg_ hnew_; rw [hwm, ← Nzs.out] at hrF16; have hk := kept_below hb; obtain ⟨PF16, hPF16, HLF16⟩ := LR.fresh rfl HB.out hrF16; have HF16 := Aside0.mk HLF16; clear HLF16 hrF16; have D_S_F16 := Aside0.mk (new_apart HS.out.lt hPF16); have D_3_F16 := Aside0.mk (new_apart H3.out.lt hPF16); have D_F14_F16 := Aside0.mk (new_apart HF14.out.lt hPF16); have D_X15_F16 := Aside0.mk (new_apart HX15.out.lt hPF16); have RRF16 := Aside0.mk (show ∀ k_, PF16 k_ → (fun _ => False) k_ ∨ w.heap.size ≤ k_ from fun k_ h_ => .inr (Nat.le_trans HB.out.size (hPF16 k_ h_).1)); replace HS := Aside0.mk (HS.out.step hk no_S); replace H3 := Aside0.mk (H3.out.step hk no_S); replace HF14 := Aside0.mk (HF14.out.step hk no_S); replace HX15 := Aside0.mk (HX15.out.step hk no_S); clear hPF16; obtain ⟨BF16, DF16, e_F16⟩ := HF16.out.val; subst e_F16; replace HB := Aside0.mk (below_step HB.out hb); clear hb hk; (try clear hxX15_0 hfX15_0 hxX15_1 hfX15_1 hxX15_2 hfX15_2); have hxX15_0 := (HX15.out.cell 0).trans (show _ = some (.int .i64 1) from rfl); have hfX15_0 := HX15.out.frozen 0; have hxX15_1 := (HX15.out.cell 1).trans (show _ = some (.slice BF14 t3.length DF14) from rfl); have hfX15_1 := HX15.out.frozen 1; have hxX15_2 := (HX15.out.cell 2).trans (show _ = some (.string ⟨#[]⟩) from rfl); have hfX15_2 := HX15.out.frozen 2) | ((with_reducible refine gate_store (t := 61) (p := 5) rfl ?_); refine LB.storedW HX15.out HB.out GEX15.out [.int .i64 t6, .slice BF16 zs.length DF16, .string ⟨#[110, 111, 110, 101]⟩] rfl rfl (t := 61) (p := 5) rfl rfl ?hr_17 ?_; (case hr_17 => first | (go_simp; done) | (go_simp; simp only [World.setCells, Nat.reduceAdd, Nat.zero_add]; done)); intro w2 hx hk hb; replace HS := Aside0.mk (HS.out.step hk D_S_X15.out); replace H3 := Aside0.mk (H3.out.step hk D_3_X15.out); replace HF14 := Aside0.mk (HF14.out.step hk D_F14_X15.out); replace HF16 := Aside0.mk (HF16.out.step hk (apart_symm D_X15_F16.out)); replace HB := Aside0.mk hb; replace HX15 := Aside0.mk (show LB w2 PX15 gX15 61 #[.int .i64 t6, .slice BF16 zs.length DF16, .string ⟨#[110, 111, 110, 101]⟩] from hx); clear hk hx hb; (try clear hxX15_0 hfX15_0 hxX15_1 hfX15_1 hxX15_2 hfX15_2); have hxX15_0 := (HX15.out.cell 0).trans (show _ = some (.int .i64 t6) from rfl); have hfX15_0 := HX15.out.frozen 0; have hxX15_1 := (HX15.out.cell 1).trans (show _ = some (.slice BF16 zs.length DF16) from rfl); have hfX15_1 := HX15.out.frozen 1; have hxX15_2 := (HX15.out.cell 2).trans (show _ = some (.string ⟨#[110, 111, 110, 101]⟩) from rfl); have hfX15_2 := HX15.out.frozen 2) | ((with_reducible refine gate_builtin (b := .append) (xs := #[.tmp 42, .tmp 44]) rfl ?_); at_builtin; refine LM.append1 k61 (w0 := w) rfl (.tmp 42) (.tmp 44) 27 61 (.agg #[.int .i64 0, .slice none 0 0, .string ⟨#[]⟩]) 48 rfl Try.underlying27 info61 rfl (by decide) (by omega) (.slice B3 x3.length D3) x3 (⟨t6, zs, ⟨#[110, 111, 110, 101]⟩⟩ : S61) [.int .i64 t6, .slice BF16 zs.length DF16, .string ⟨#[110, 111, 110, 101]⟩] rfl rfl (by simp) H3.out (show Kd.FK k61 _ PF16 (⟨t6, zs, ⟨#[110, 111, 110, 101]⟩⟩ : S61) _ from fun W_ hW_ => k61_mk W_ (⟨t6, zs, ⟨#[110, 111, 110, 101]⟩⟩ : S61) HF16.out.room (Kd.V_F (Kd.N_V (base' := 0) (Kd.R_N HF16.out.1)) W_ hW_)) D_3_F16.out HB.out ?aL_18 ?_; (case aL_18 => have := LM_.out; omega); intro PF17 v_ w2 HL hb hk hR; have D_S_F17 := Aside0.mk (apart_app hR HS.out.lt (apart_or D_S_3.out D_S_F16.out)); have D_F14_F17 := Aside0.mk (apart_app hR HF14.out.lt (apart_or (apart_symm D_3_F14.out) D_F14_F16.out)); have D_X15_F17 := Aside0.mk (apart_app hR HX15.out.lt (apart_or (apart_symm D_3_X15.out) D_X15_F16.out)); have RRF17 := Aside0.mk (show ∀ k_, PF17 k_ → (fun _ => False) k_ ∨ w.heap.size ≤ k_ from rr_app hR HB.out.size (rr_or RR3.out RRF16.out)); replace HS := Aside0.mk (HS.out.step hk D_S_3.out); replace HF14 := Aside0.mk (HF14.out.step hk (apart_symm D_3_F14.out)); replace HX15 := Aside0.mk (HX15.out.step hk (apart_symm D_3_X15.out)); rw [← Ny1.out] at HL; have HF17 := Aside0.mk HL; replace HB := Aside0.mk hb; clear hR HL hb hk; clear H3; clear HF16; obtain ⟨BF17, DF17, e_F17⟩ := HF17.out.val; subst e_F17; (try clear hxX15_0 hfX15_0 hxX15_1 hfX15_1 hxX15_2 hfX15_2); have hxX15_0 := (HX15.out.cell 0).trans (show _ = some (.int .i64 t6) from rfl); have hfX15_0 := HX15.out.frozen 0; have hxX15_1 := (HX15.out.cell 1).trans (show _ = some (.slice BF16 zs.length DF16) from rfl); have hfX15_1 := HX15.out.frozen 1; have hxX15_2 := (HX15.out.cell 2).trans (show _ = some (.string ⟨#[110, 111, 110, 101]⟩) from rfl); have hfX15_2 := HX15.out.frozen 2))
                      go_roundg k1
                      case measure => have := HK1.out; omega
                      case rel => exact ⟨y1, wrap64 (x4 - 1), a7, b7, PF17, rfl, H', ⟨by have := HK1.out; omega⟩, HF17, HS, D_S_F17, RRF17, HB⟩
                    · rw [if_neg c7] at e5
                      exact absurd e5 (by simp)
                  | false =>
                    rw [if_neg (by decide)] at e5
                    simp only [Option.some.injEq, Prod.mk.injEq] at e5
                    obtain ⟨rfl, rfl, rfl⟩ := e5
                    go_wp2_with (first | ((with_reducible refine gate_callee (f := 53) rfl ?_); refine goesL_ (some 17) rfl rfl Try.func53 (by kernel_rfl) rfl #[.pointer (some ⟨g, 0, none⟩)] rfl (by (try simp only [List.map_toArray, List.map_cons, List.map_nil]); first | done | rfl) ?_; (with_reducible refine (spec_l00Src_blob.own g s0_0 a b  t3 a3 b3 w _ HS.out.is HB.out E3.out).mono ?_); rintro e w2 ⟨vF18, rfl, hrF18, hi, hb, hkb⟩; refine ⟨_, rfl, ?_⟩; have hk := LI.kept HS.out hkb; obtain ⟨PF18, hPF18, HLF18⟩ := LV.fresh HB.out hrF18 (fun _ hk_ => hk_); have HF18 := Aside0.mk HLF18; clear HLF18 hrF18; have D_S_F18 := Aside0.mk (new_apart HS.out.lt hPF18); have D_3_F18 := Aside0.mk (new_apart H3.out.lt hPF18); have RRF18 := Aside0.mk (show ∀ k_, PF18 k_ → (fun _ => False) k_ ∨ w.heap.size ≤ k_ from fun k_ h_ => .inr (Nat.le_trans HB.out.size (hPF18 k_ h_).1)); replace H3 := Aside0.mk (H3.out.step hk (apart_symm D_S_3.out)); replace HS := Aside0.mk (LI.new HS.out hi); replace HB := Aside0.mk hb; clear hi hb hk hkb; clear hPF18; obtain ⟨BF18, DF18, e_F18⟩ := HF18.out.val; subst e_F18) | ((with_reducible refine gate_dst (N := 5) rfl ?_); refine box_event ?hg_19 (N := 5) ?hd_19 (cs := #[.int .i64 0, .slice none 0 0, .string ByteArray.empty]) (t := 61) ?hr_19 ?_; (case hd_19 => rfl); (case hg_19 => rfl); (case hr_19 => first | (go_simp; done) | (go_simp; rfl)); intro gX19 hg w2 hbox hb; have hk := kept_below hb; obtain ⟨PX19, hPX19, HLX19⟩ := LB.fresh hg hbox; have HX19 := Aside0.mk HLX19; clear HLX19; have GEX19 := Aside0.mk (show w.heap.size ≤ gX19 from (by rw [hg]; exact HB.out.size)); have D_S_X19 := Aside0.mk (new_apart HS.out.lt hPX19); have D_3_X19 := Aside0.mk (new_apart H3.out.lt hPX19); have D_F18_X19 := Aside0.mk (new_apart HF18.out.lt hPX19); have RRX19 := Aside0.mk (show ∀ k_, PX19 k_ → (fun _ => False) k_ ∨ w.heap.size ≤ k_ from fun k_ h_ => .inr (Nat.le_trans HB.out.size (hPX19 k_ h_).1)); replace HS := Aside0.mk (HS.out.step hk no_S); replace H3 := Aside0.mk (H3.out.step hk no_S); replace HF18 := Aside0.mk (HF18.out.step hk no_S); replace HB := Aside0.mk (below_step HB.out hb); clear hb hk hbox hg hPX19; (try clear hxX19_0 hfX19_0 hxX19_1 hfX19_1 hxX19_2 hfX19_2); have hxX19_0 := (HX19.out.cell 0).trans (show _ = some (.int .i64 0) from rfl); have hfX19_0 := HX19.out.frozen 0; have hxX19_1 := (HX19.out.cell 1).trans (show _ = some (.slice none 0 0) from rfl); have hfX19_1 := HX19.out.frozen 1; have hxX19_2 := (HX19.out.cell 2).trans (show _ = some (.string ByteArray.empty) from rfl); have hfX19_2 := HX19.out.frozen 2) | ((with_reducible refine gate_store (t := 61) (p := 5) rfl ?_); refine LB.storedW HX19.out HB.out GEX19.out [.int .i64 1, .slice BF18 t3.length DF18, .string ⟨#[]⟩] rfl rfl (t := 61) (p := 5) rfl rfl ?hr_20 ?_; (case hr_20 => first | (go_simp; done) | (go_simp; simp only [World.setCells, Nat.reduceAdd, Nat.zero_add]; done)); intro w2 hx hk hb; replace HS := Aside0.mk (HS.out.step hk D_S_X19.out); replace H3 := Aside0.mk (H3.out.step hk D_3_X19.out); replace HF18 := Aside0.mk (HF18.out.step hk D_F18_X19.out); replace HB := Aside0.mk hb; replace HX19 := Aside0.mk (show LB w2 PX19 gX19 61 #[.int .i64 1, .slice BF18 t3.length DF18, .string ⟨#[]⟩] from hx); clear hk hx hb; (try clear hxX19_0 hfX19_0 hxX19_1 hfX19_1 hxX19_2 hfX19_2); have hxX19_0 := (HX19.out.cell 0).trans (show _ = some (.int .i64 1) from rfl); have hfX19_0 := HX19.out.frozen 0; have hxX19_1 := (HX19.out.cell 1).trans (show _ = some (.slice BF18 t3.length DF18) from rfl); have hfX19_1 := HX19.out.frozen 1; have hxX19_2 := (HX19.out.cell 2).trans (show _ = some (.string ⟨#[]⟩) from rfl); have hfX19_2 := HX19.out.frozen 2) | ((with_reducible refine gate_callee (f := 51) rfl ?_); refine goesL_ (some 20) rfl rfl Try.func51 (by kernel_rfl) rfl #[.pointer (some ⟨g, 0, none⟩), .int .i64 6] rfl (by (try simp only [List.map_toArray, List.map_cons, List.map_nil]); first | done | rfl) ?_; (with_reducible refine (spec_l00Src_next.calls g s0_0 a3 b3 6 t4 a4 b4 w _ HS.out.is HB.out E4.out).mono ?_); rintro e w2 ⟨rfl, hi, hb, hkb⟩; refine ⟨_, rfl, ?_⟩; have hk := LI.kept HS.out hkb; replace H3 := Aside0.mk (H3.out.step hk (apart_symm D_S_3.out)); replace HF18 := Aside0.mk (HF18.out.step hk (apart_symm D_S_F18.out)); replace HX19 := Aside0.mk (HX19.out.step hk (apart_symm D_S_X19.out)); replace HS := Aside0.mk (LI.new HS.out hi); replace HB := Aside0.mk hb; clear hi hb hk hkb; (try clear hxX19_0 hfX19_0 hxX19_1 hfX19_1 hxX19_2 hfX19_2); have hxX19_0 := (HX19.out.cell 0).trans (show _ = some (.int .i64 1) from rfl); have hfX19_0 := HX19.out.frozen 0; have hxX19_1 := (HX19.out.cell 1).trans (show _ = some (.slice BF18 t3.length DF18) from rfl); have hfX19_1 := HX19.out.frozen 1; have hxX19_2 := (HX19.out.cell 2).trans (show _ = some (.string ⟨#[]⟩) from rfl); have hfX19_2 := HX19.out.frozen 2) | ((with_reducible refine gate_callee (f := 54) rfl ?_); refine goesL_ (some 34) rfl rfl Try.func54 (by kernel_rfl) rfl #[.pointer (some ⟨g, 0, none⟩), .int .i64 3] rfl (by (try simp only [List.map_toArray, List.map_cons, List.map_nil]); first | done | rfl) ?_; (with_reducible refine (spec_l00Src_chance.calls g s0_0 a4 b4 3 false a5 b5 w _ HS.out.is HB.out E6.out).mono ?_); rintro e w2 ⟨rfl, hi, hb, hkb⟩; refine ⟨_, rfl, ?_⟩; have hk := LI.kept HS.out hkb; replace H3 := Aside0.mk (H3.out.step hk (apart_symm D_S_3.out)); replace HF18 := Aside0.mk (HF18.out.step hk (apart_symm D_S_F18.out)); replace HX19 := Aside0.mk (HX19.out.step hk (apart_symm D_S_X19.out)); replace HS := Aside0.mk (LI.new HS.out hi); replace HB := Aside0.mk hb; clear hi hb hk hkb; (try clear hxX19_0 hfX19_0 hxX19_1 hfX19_1 hxX19_2 hfX19_2); have hxX19_0 := (HX19.out.cell 0).trans (show _ = some (.int .i64 1) from rfl); have hfX19_0 := HX19.out.frozen 0; have hxX19_1 := (HX19.out.cell 1).trans (show _ = some (.slice BF18 t3.length DF18) from rfl); have hfX19_1 := HX19.out.frozen 1; have hxX19_2 := (HX19.out.cell 2).trans (show _ = some (.string ⟨#[]⟩) from rfl); have hfX19_2 := HX19.out.frozen 2) | ((with_reducible refine gate_builtin (b := .append) (xs := #[.tmp 42, .tmp 44]) rfl ?_); at_builtin; refine LM.append1 k61 (w0 := w) rfl (.tmp 42) (.tmp 44) 27 61 (.agg #[.int .i64 0, .slice none 0 0, .string ⟨#[]⟩]) 48 rfl Try.underlying27 info61 rfl (by decide) (by omega) (.slice B3 x3.length D3) x3 (⟨1, t3, ⟨#[]⟩⟩ : S61) [.int .i64 1, .slice BF18 t3.length DF18, .string ⟨#[]⟩] rfl rfl (by simp) H3.out (show Kd.FK k61 _ PF18 (⟨1, t3, ⟨#[]⟩⟩ : S61) _ from fun W_ hW_ => k61_mk W_ (⟨1, t3, ⟨#[]⟩⟩ : S61) HF18.out.room (Kd.V_F HF18.out.1 W_ hW_)) D_3_F18.out HB.out ?aL_21 ?_; (case aL_21 => have := LM_.out; omega); intro PF20 v_ w2 HL hb hk hR; have D_S_F20 := Aside0.mk (apart_app hR HS.out.lt (apart_or D_S_3.out D_S_F18.out)); have D_X19_F20 := Aside0.mk (apart_app hR HX19.out.lt (apart_or (apart_symm D_3_X19.out) (apart_symm D_F18_X19.out))); have RRF20 := Aside0.mk (show ∀ k_, PF20 k_ → (fun _ => False) k_ ∨ w.heap.size ≤ k_ from rr_app hR HB.out.size (rr_or RR3.out RRF18.out)); replace HS := Aside0.mk (HS.out.step hk D_S_3.out); replace HX19 := Aside0.mk (HX19.out.step hk (apart_symm D_3_X19.out)); rw [← Ny1.out] at HL; have HF20 := Aside0.mk HL; replace HB := Aside0.mk hb; clear hR HL hb hk; clear H3; clear HF18; obtain ⟨BF20, DF20, e_F20⟩ := HF20.out.val; subst e_F20; (try clear hxX19_0 hfX19_0 hxX19_1 hfX19_1 hxX19_2 hfX19_2); have hxX19_0 := (HX19.out.cell 0).trans (show _ = some (.int .i64 1) from rfl); have hfX19_0 := HX19.out.frozen 0; have hxX19_1 := (HX19.out.cell 1).trans (show _ = some (.slice BF18 t3.length DF18) from rfl); have hfX19_1 := HX19.out.frozen 1; have hxX19_2 := (HX19.out.cell 2).trans (show _ = some (.string ⟨#[]⟩) from rfl); have hfX19_2 := HX19.out.frozen 2))
                    go_roundg k1
                    case measure => have := HK1.out; omega
                    case rel => exact ⟨y1, wrap64 (x4 - 1), a5, b5, PF20, rfl, H', ⟨by have := HK1.out; omega⟩, HF20, HS, D_S_F20, RRF20, HB⟩
                · rw [if_neg d3] at e5
                  have cq3 : (t4 == 3) = false := beq_eq_false_iff_ne.mpr d3
                  simp only [Option.some.injEq, Prod.mk.injEq] at e5
                  obtain ⟨rfl, rfl, rfl⟩ := e5
                  go_wp2_with (first | ((with_reducible refine gate_callee (f := 53) rfl ?_); refine goesL_ (some 17) rfl rfl Try.func53 (by kernel_rfl) rfl #[.pointer (some ⟨g, 0, none⟩)] rfl (by (try simp only [List.map_toArray, List.map_cons, List.map_nil]); first | done | rfl) ?_; (with_reducible refine (spec_l00Src_blob.own g s0_0 a b  t3 a3 b3 w _ HS.out.is HB.out E3.out).mono ?_); rintro e w2 ⟨vF21, rfl, hrF21, hi, hb, hkb⟩; refine ⟨_, rfl, ?_⟩; have hk := LI.kept HS.out hkb; obtain ⟨PF21, hPF21, HLF21⟩ := LV.fresh HB.out hrF21 (fun _ hk_ => hk_); have HF21 := Aside0.mk HLF21; clear HLF21 hrF21; have D_S_F21 := Aside0.mk (new_apart HS.out.lt hPF21); have D_3_F21 := Aside0.mk (new_apart H3.out.lt hPF21); have RRF21 := Aside0.mk (show ∀ k_, PF21 k_ → (fun _ => False) k_ ∨ w.heap.size ≤ k_ from fun k_ h_ => .inr (Nat.le_trans HB.out.size (hPF21 k_ h_).1)); replace H3 := Aside0.mk (H3.out.step hk (apart_symm D_S_3.out)); replace HS := Aside0.mk (LI.new HS.out hi); replace HB := Aside0.mk hb; clear hi hb hk hkb; clear hPF21; obtain ⟨BF21, DF21, e_F21⟩ := HF21.out.val; subst e_F21) | ((with_reducible refine gate_dst (N := 5) rfl ?_); refine box_event ?hg_22 (N := 5) ?hd_22 (cs := #[.int .i64 0, .slice none 0 0, .string ByteArray.empty]) (t := 61) ?hr_22 ?_; (case hd_22 => rfl); (case hg_22 => rfl); (case hr_22 => first | (go_simp; done) | (go_simp; rfl)); intro gX22 hg w2 hbox hb; have hk := kept_below hb; obtain ⟨PX22, hPX22, HLX22⟩ := LB.fresh hg hbox; have HX22 := Aside0.mk HLX22; clear HLX22; have GEX22 := Aside0.mk (show w.heap.size ≤ gX22 from (by rw [hg]; exact HB.out.size)); have D_S_X22 := Aside0.mk (new_apart HS.out.lt hPX22); have D_3_X22 := Aside0.mk (new_apart H3.out.lt hPX22); have D_F21_X22 := Aside0.mk (new_apart HF21.out.lt hPX22); have RRX22 := Aside0.mk (show ∀ k_, PX22 k_ → (fun _ => False) k_ ∨ w.heap.size ≤ k_ from fun k_ h_ => .inr (Nat.le_trans HB.out.size (hPX22 k_ h_).1)); replace HS := Aside0.mk (HS.out.step hk no_S); replace H3 := Aside0.mk (H3.out.step hk no_S); replace HF21 := Aside0.mk (HF21.out.step hk no_S); replace HB := Aside0.mk (below_step HB.out hb); clear hb hk hbox hg hPX22; (try clear hxX22_0 hfX22_0 hxX22_1 hfX22_1 hxX22_2 hfX22_2); have hxX22_0 := (HX22.out.cell 0).trans (show _ = some (.int .i64 0) from rfl); have hfX22_0 := HX22.out.frozen 0; have hxX22_1 := (HX22.out.cell 1).trans (show _ = some (.slice none 0 0) from rfl); have hfX22_1 := HX22.out.frozen 1; have hxX22_2 := (HX22.out.cell 2).trans (show _ = some (.string ByteArray.empty) from rfl); have hfX22_2 := HX22.out.frozen 2) | ((with_reducible refine gate_store (t := 61) (p := 5) rfl ?_); refine LB.storedW HX22.out HB.out GEX22.out [.int .i64 1, .slice BF21 t3.length DF21, .string ⟨#[]⟩] rfl rfl (t := 61) (p := 5) rfl rfl ?hr_23 ?_; (case hr_23 => first | (go_simp; done) | (go_simp; simp only [World.setCells, Nat.reduceAdd, Nat.zero_add]; done)); intro w2 hx hk hb; replace HS := Aside0.mk (HS.out.step hk D_S_X22.out); replace H3 := Aside0.mk (H3.out.step hk D_3_X22.out); replace HF21 := Aside0.mk (HF21.out.step hk D_F21_X22.out); replace HB := Aside0.mk hb; replace HX22 := Aside0.mk (show LB w2 PX22 gX22 61 #[.int .i64 1, .slice BF21 t3.length DF21, .string ⟨#[]⟩] from hx); clear hk hx hb; (try clear hxX22_0 hfX22_0 hxX22_1 hfX22_1 hxX22_2 hfX22_2); have hxX22_0 := (HX22.out.cell 0).trans (show _ = some (.int .i64 1) from rfl); have hfX22_0 := HX22.out.frozen 0; have hxX22_1 := (HX22.out.cell 1).trans (show _ = some (.slice BF21 t3.length DF21) from rfl); have hfX22_1 := HX22.out.frozen 1; have hxX22_2 := (HX22.out.cell 2).trans (show _ = some (.string ⟨#[]⟩) from rfl); have hfX22_2 := HX22.out.frozen 2) | ((with_reducible refine gate_callee (f := 51) rfl ?_); refine goesL_ (some 20) rfl rfl Try.func51 (by kernel_rfl) rfl #[.pointer (some ⟨g, 0, none⟩), .int .i64 6] rfl (by (try simp only [List.map_toArray, List.map_cons, List.map_nil]); first | done | rfl) ?_; (with_reducible refine (spec_l00Src_next.calls g s0_0 a3 b3 6 t4 a4 b4 w _ HS.out.is HB.out E4.out).mono ?_); rintro e w2 ⟨rfl, hi, hb, hkb⟩; refine ⟨_, rfl, ?_⟩; have hk := LI.kept HS.out hkb; replace H3 := Aside0.mk (H3.out.step hk (apart_symm D_S_3.out)); replace HF21 := Aside0.mk (HF21.out.step hk (apart_symm D_S_F21.out)); replace HX22 := Aside0.mk (HX22.out.step hk (apart_symm D_S_X22.out)); replace HS := Aside0.mk (LI.new HS.out hi); replace HB := Aside0.mk hb; clear hi hb hk hkb; (try clear hxX22_0 hfX22_0 hxX22_1 hfX22_1 hxX22_2 hfX22_2); have hxX22_0 := (HX22.out.cell 0).trans (show _ = some (.int .i64 1) from rfl); have hfX22_0 := HX22.out.frozen 0; have hxX22_1 := (HX22.out.cell 1).trans (show _ = some (.slice BF21 t3.length DF21) from rfl); have hfX22_1 := HX22.out.frozen 1; have hxX22_2 := (HX22.out.cell 2).trans (show _ = some (.string ⟨#[]⟩) from rfl); have hfX22_2 := HX22.out.frozen 2) | ((with_reducible refine gate_builtin (b := .append) (xs := #[.tmp 42, .tmp 44]) rfl ?_); at_builtin; refine LM.append1 k61 (w0 := w) rfl (.tmp 42) (.tmp 44) 27 61 (.agg #[.int .i64 0, .slice none 0 0, .string ⟨#[]⟩]) 48 rfl Try.underlying27 info61 rfl (by decide) (by omega) (.slice B3 x3.length D3) x3 (⟨1, t3, ⟨#[]⟩⟩ : S61) [.int .i64 1, .slice BF21 t3.length DF21, .string ⟨#[]⟩] rfl rfl (by simp) H3.out (show Kd.FK k61 _ PF21 (⟨1, t3, ⟨#[]⟩⟩ : S61) _ from fun W_ hW_ => k61_mk W_ (⟨1, t3, ⟨#[]⟩⟩ : S61) HF21.out.room (Kd.V_F HF21.out.1 W_ hW_)) D_3_F21.out HB.out ?aL_24 ?_; (case aL_24 => have := LM_.out; omega); intro PF23 v_ w2 HL hb hk hR; have D_S_F23 := Aside0.mk (apart_app hR HS.out.lt (apart_or D_S_3.out D_S_F21.out)); have D_X22_F23 := Aside0.mk (apart_app hR HX22.out.lt (apart_or (apart_symm D_3_X22.out) (apart_symm D_F21_X22.out))); have RRF23 := Aside0.mk (show ∀ k_, PF23 k_ → (fun _ => False) k_ ∨ w.heap.size ≤ k_ from rr_app hR HB.out.size (rr_or RR3.out RRF21.out)); replace HS := Aside0.mk (HS.out.step hk D_S_3.out); replace HX22 := Aside0.mk (HX22.out.step hk (apart_symm D_3_X22.out)); rw [← Ny1.out] at HL; have HF23 := Aside0.mk HL; replace HB := Aside0.mk hb; clear hR HL hb hk; clear H3; clear HF21; obtain ⟨BF23, DF23, e_F23⟩ := HF23.out.val; subst e_F23; (try clear hxX22_0 hfX22_0 hxX22_1 hfX22_1 hxX22_2 hfX22_2); have hxX22_0 := (HX22.out.cell 0).trans (show _ = some (.int .i64 1) from rfl); have hfX22_0 := HX22.out.frozen 0; have hxX22_1 := (HX22.out.cell 1).trans (show _ = some (.slice BF21 t3.length DF21) from rfl); have hfX22_1 := HX22.out.frozen 1; have hxX22_2 := (HX22.out.cell 2).trans (show _ = some (.string ⟨#[]⟩) from rfl); have hfX22_2 := HX22.out.frozen 2))
                  go_roundg k1
                  case measure => have := HK1.out; omega
                  case rel => exact ⟨y1, wrap64 (x4 - 1), a4, b4, PF23, rfl, H', ⟨by have := HK1.out; omega⟩, HF23, HS, D_S_F23, RRF23, HB⟩
        · rw [if_neg cl] at H
          exact absurd H (by simp)
      · rw [if_neg c1] at H
        have cb1 : decide (0 < x4) = false := decide_eq_false c1
        clear c1
        simp only [Option.some.injEq, Prod.mk.injEq] at H
        obtain ⟨rfl, rfl, rfl⟩ := H
        go_wp2
        go_ret
        exact ⟨_, rfl, Kd.V_mono (Kd.N_V H3.out.1) (fun k_ h_ => (RR3.out k_ h_).elim (fun h => h.elim) id), HS.out.1, HB.out⟩
def spec_BlobActsOf.f (k : Nat) (l0 : List Int) : Option (List S61) := (spec_l00Source.f l0).bind fun t1 => (spec_l00Src_blobActs.f k t1.1 t1.2.1 t1.2.2).bind fun t2 => some t2.1
set_option maxHeartbeats 8000000 in
set_option maxRecDepth 100000 in
theorem spec_BlobActsOf.own (k : Nat) (A0 : Option Addr) (c0 : Nat) (l0 : List Int) (r : List S61) (w : World) (hr0 : Kd.C (Kd.int .u8) w A0 l0.length l0) (hc0 : l0.length ≤ c0) (h : spec_BlobActsOf.f k l0 = some r) :
    Calls Try.prog 10 #[.slice A0 l0.length c0] w fun e w' => ∃ v0_ : Value, e = .returned (v0_) ∧ Kd.V k61 61 w' w.heap.size (fun k_ => (w.heap.size ≤ k_)) v0_ r ∧ Below w.heap.size w w' := by
  have HR0 := Aside0.mk hr0
  have HC0 := Aside0.mk hc0
  have HB := Aside0.mk (Below.refl w.heap.size w)
  unfold spec_BlobActsOf.f at h
  obtain ⟨⟨t1, t2, t3⟩, e1, h⟩ := Option.bind_eq_some_iff.1 h
  obtain ⟨⟨t4, t5, t6⟩, e2, h⟩ := Option.bind_eq_some_iff.1 h
  have A2 := Aside0.mk e1
  have A3 := Aside0.mk e2
  clear hr0 hc0 e1 e2
  obtain rfl := Option.some.inj h
  go_enter Try.func10, Try.ntmps10
  go_wp2_with (first | ((with_reducible refine gate_callee (f := 30) rfl ?_); refine goesL_ (some 4) rfl rfl Try.func30 (by kernel_rfl) rfl #[.slice A0 l0.length c0] rfl (by (try simp only [List.map_toArray, List.map_cons, List.map_nil]); first | done | rfl) ?_; (with_reducible refine (spec_l00Source.calls _ _ l0 t1 t2 t3 w _ HB.out HR0.out HC0.out A2.out).mono ?_); rintro e w4 ⟨gS, rfl, hi, hb, hb2⟩; refine ⟨_, rfl, ?_⟩; have HI := Aside0.mk hi; replace HB := Aside0.mk hb; clear hi hb hb2) | ((with_reducible refine gate_callee (f := 31) rfl ?_); refine goesL_ (some 5) rfl rfl Try.func31 (by kernel_rfl) rfl #[.pointer (some ⟨gS, 0, none⟩)] rfl (by (try simp only [List.map_toArray, List.map_cons, List.map_nil]); first | done | rfl) ?_; (with_reducible refine (spec_l00Src_blobActs.own k gS t1 t2 t3 t4 t5 t6 w _ HI.out HB.out A3.out).mono ?_); rintro e w5 ⟨v5, rfl, hs, hi, hb⟩; refine ⟨_, rfl, ?_⟩; have HV := Aside0.mk hs; replace HB := Aside0.mk hb; clear hi hb hs HI))
  go_ret
  exact ⟨_, rfl, HV.out, HB.out⟩
end
end Go.Proofs.Ytcgkfijigjcmpaa.PFnBlobs
