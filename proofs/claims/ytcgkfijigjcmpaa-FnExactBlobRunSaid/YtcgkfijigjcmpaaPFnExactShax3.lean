-- written by a program of this session (a copy of the print, widened: wip/patchprint.py)
import Derived.Test.YtcgkfijigjcmpaaPFnExactShax0
import Derived.Test.YtcgkfijigjcmpaaPFnExactShax2
namespace Go.Proofs.Ytcgkfijigjcmpaa.PFnExactSha
open Go.RowKit Go.Proofs.YtcgkfijigjcmpaaW.PrintWords Go.Proofs.YtcgkfijigjcmpaaW.PrintLast Go.Proofs.YtcgkfijigjcmpaaW.PrintMore
attribute [local go_sem] max2_int min2_int max_two min_two max_three min_three max_four min_four   -- for this text's walks alone
set_option linter.unusedVariables false
set_option linter.unusedSimpArgs false

abbrev tt : Bool := true
abbrev ff : Bool := false
theorem sA {α : Type} {l : List α} {i : Nat} {a : α} : l.toArray.setIfInBounds i a = (l.set i a).toArray := List.setIfInBounds_toArray l i a
theorem sB {α : Type} {x : α} {xs : List α} {a : α} : (x :: xs).set 0 a = a :: xs := List.set_cons_zero
theorem sC {α : Type} {x : α} {xs : List α} {n : Nat} {a : α} : (x :: xs).set (n + 1) a = x :: xs.set n a := List.set_cons_succ
/-! ### spec_l04Block: function 49 -/
mutual
def spec_l04Block.l0 : Nat → List Int → List Int → List Int → List Int → Int → Option (List Int)
 | 0, _, _, _, _, _ => none
 | k + 1, x0, x1, x2, x7, x8 => if x8 < 16 then (if 0 ≤ (wrap64 (4 * x8)) then (if (wrap64 (4 * x8)) < (x2.length : Int) then (if 0 ≤ (wrap64 ((wrap64 (4 * x8)) + 1)) then (if (wrap64 ((wrap64 (4 * x8)) + 1)) < (x2.length : Int) then (if 0 ≤ (wrap64 ((wrap64 (4 * x8)) + 2)) then (if (wrap64 ((wrap64 (4 * x8)) + 2)) < (x2.length : Int) then (if 0 ≤ (wrap64 ((wrap64 (4 * x8)) + 3)) then (if (wrap64 ((wrap64 (4 * x8)) + 3)) < (x2.length : Int) then (if 0 ≤ x8 then (if x8 < (x7.length : Int) then (spec_l04Block.l0 k x0 x1 x2 (x7.set (x8 : Int).toNat (Go.bits .or .i64 (Go.bits .or .i64 (Go.bits .or .i64 (wrap64 ((wrap64 (rd x2 (wrap64 (4 * x8)))) * 16777216)) (wrap64 ((wrap64 (rd x2 (wrap64 ((wrap64 (4 * x8)) + 1)))) * 65536))) (wrap64 ((wrap64 (rd x2 (wrap64 ((wrap64 (4 * x8)) + 2)))) * 256))) (wrap64 (rd x2 (wrap64 ((wrap64 (4 * x8)) + 3)))))) (wrap64 (x8 + 1))) else (none)) else (none)) else (none)) else (none)) else (none)) else (none)) else (none)) else (none)) else (none)) else (none)) else (spec_l04Block.l1 k x0 x1 x7 16)
def spec_l04Block.l1 : Nat → List Int → List Int → List Int → Int → Option (List Int)
 | 0, _, _, _, _ => none
 | k + 1, x0, x1, x7, x9 => if x9 < 64 then (if 0 ≤ (wrap64 (x9 - 15)) then (if (wrap64 (x9 - 15)) < (x7.length : Int) then ((spec_l04Turn.f (rd x7 (wrap64 (x9 - 15))) 7).bind fun t154 => ((spec_l04Turn.f (rd x7 (wrap64 (x9 - 15))) 18).bind fun t156 => (if 0 ≤ (wrap64 (x9 - 2)) then (if (wrap64 (x9 - 2)) < (x7.length : Int) then ((spec_l04Turn.f (rd x7 (wrap64 (x9 - 2))) 17).bind fun t159 => ((spec_l04Turn.f (rd x7 (wrap64 (x9 - 2))) 19).bind fun t161 => (if 0 ≤ (wrap64 (x9 - 16)) then (if (wrap64 (x9 - 16)) < (x7.length : Int) then (if 0 ≤ (wrap64 (x9 - 7)) then (if (wrap64 (x9 - 7)) < (x7.length : Int) then (if 0 ≤ x9 then (if x9 < (x7.length : Int) then (spec_l04Block.l1 k x0 x1 (x7.set (x9 : Int).toNat (Go.bits .and .i64 (wrap64 ((wrap64 ((wrap64 ((rd x7 (wrap64 (x9 - 16))) + (Go.bits .xor .i64 (Go.bits .xor .i64 t154 t156) ((rd x7 (wrap64 (x9 - 15))) / 8)))) + (rd x7 (wrap64 (x9 - 7))))) + (Go.bits .xor .i64 (Go.bits .xor .i64 t159 t161) ((rd x7 (wrap64 (x9 - 2))) / 1024)))) 4294967295)) (wrap64 (x9 + 1))) else (none)) else (none)) else (none)) else (none)) else (none)) else (none)))) else (none)) else (none)))) else (none)) else (none)) else ((some (([] : List Int) : List Int)).bind fun y166 => (if y166.length + x0.length < 17592186044416 then (spec_l04Block.l2 k x0 x1 x7 (y166 ++ x0) 0) else (none)))
def spec_l04Block.l2 : Nat → List Int → List Int → List Int → List Int → Int → Option (List Int)
 | 0, _, _, _, _, _ => none
 | k + 1, x0, x1, x7, x12, x13 => if x13 < 64 then (if 4 < (x12.length : Int) then ((spec_l04Turn.f (rd x12 4) 6).bind fun t173 => ((spec_l04Turn.f (rd x12 4) 11).bind fun t174 => ((spec_l04Turn.f (rd x12 4) 25).bind fun t175 => (if 5 < (x12.length : Int) then (if 6 < (x12.length : Int) then (if 7 < (x12.length : Int) then (if 0 ≤ x13 then (if x13 < (x1.length : Int) then (if x13 < (x7.length : Int) then (if 0 < (x12.length : Int) then ((spec_l04Turn.f (rd x12 0) 2).bind fun t182 => ((spec_l04Turn.f (rd x12 0) 13).bind fun t184 => ((spec_l04Turn.f (rd x12 0) 22).bind fun t186 => (if 1 < (x12.length : Int) then (if 2 < (x12.length : Int) then (if 3 < (x12.length : Int) then (spec_l04Block.l2 k x0 x1 x7 (([Go.bits .and .i64 (wrap64 ((wrap64 ((wrap64 ((wrap64 ((wrap64 ((rd x12 7) + (Go.bits .xor .i64 (Go.bits .xor .i64 t173 t174) t175))) + (Go.bits .xor .i64 (Go.bits .and .i64 (rd x12 4) (rd x12 5)) (Go.bits .and .i64 (Go.bits .xor .i64 (rd x12 4) 4294967295) (rd x12 6))))) + (rd x1 x13))) + (rd x7 x13))) + (wrap64 ((Go.bits .xor .i64 (Go.bits .xor .i64 t182 t184) t186) + (Go.bits .xor .i64 (Go.bits .xor .i64 (Go.bits .and .i64 (rd x12 0) (rd x12 1)) (Go.bits .and .i64 (rd x12 0) (rd x12 2))) (Go.bits .and .i64 (rd x12 1) (rd x12 2))))))) 4294967295, rd x12 0, rd x12 1, rd x12 2, Go.bits .and .i64 (wrap64 ((rd x12 3) + (wrap64 ((wrap64 ((wrap64 ((wrap64 ((rd x12 7) + (Go.bits .xor .i64 (Go.bits .xor .i64 t173 t174) t175))) + (Go.bits .xor .i64 (Go.bits .and .i64 (rd x12 4) (rd x12 5)) (Go.bits .and .i64 (Go.bits .xor .i64 (rd x12 4) 4294967295) (rd x12 6))))) + (rd x1 x13))) + (rd x7 x13))))) 4294967295, rd x12 4, rd x12 5, rd x12 6] : List Int)) (wrap64 (x13 + 1))) else (none)) else (none)) else (none))))) else (none)) else (none)) else (none)) else (none)) else (none)) else (none)) else (none))))) else (none)) else (spec_l04Block.l3 k x0 x12 (([] : List Int)) 0)
def spec_l04Block.l3 : Nat → List Int → List Int → List Int → Int → Option (List Int)
 | 0, _, _, _, _ => none
 | k + 1, x0, x12, x21, x22 => if x22 < 8 then (if 0 ≤ x22 then (if x22 < (x0.length : Int) then (if x22 < (x12.length : Int) then (if x21.length < 17592186044416 then (spec_l04Block.l3 k x0 x12 (x21 ++ [Go.bits .and .i64 (wrap64 ((rd x0 x22) + (rd x12 x22))) 4294967295]) (wrap64 (x22 + 1))) else (none)) else (none)) else (none)) else (none)) else (some x21)
end
def spec_l04Block.f (k : Nat) (l0 : List Int) (l1 : List Int) (l2 : List Int) : Option (List Int) := if 64 ≤ 35184372088832 then (spec_l04Block.l0 k l0 l1 l2 (List.replicate 64 0) 0) else (none)
def spec_l04Block.T5 : Bool × List (List Nat × List Nat) := (true, [([], []), ([], []), ([], []), ([], []), ([3], [3]), ([2, 4], [2, 4]), ([5], [5]), ([6], [6]), ([7], [7]), ([], []), ([], []), ([10], [10]), ([11], [11]), ([9, 12], [9, 12]), ([13], [13]), ([14], [14]), ([15], [15]), ([8, 16], [8, 16]), ([], []), ([], []), ([19], [19]), ([20], [20]), ([18, 21], [18, 21]), ([22], [22]), ([23], [23]), ([24], [24]), ([17, 25], [17, 25]), ([], []), ([], []), ([28], [28]), ([29], [29]), ([27, 30], [27, 30]), ([31], [31]), ([32], [32]), ([26, 33], [26, 33]), ([0, 1, 0, 1, 2, 3, 4, 5, 6, 7, 8, 9, 10, 11, 12, 13, 14, 15, 16, 17, 18, 19, 20, 21, 22, 23, 24, 25, 26, 27, 28, 29, 30, 31, 32, 33, 34], [0, 1]), ([35, 34, 0, 1, 2, 3, 4, 5, 6, 7, 8, 9, 10, 11, 12, 13, 14, 15, 16, 17, 18, 19, 20, 21, 22, 23, 24, 25, 26, 27, 28, 29, 30, 31, 32, 33, 34], [34, 35])])
def spec_l04Block.B5 : List Nat := [0, 0, 0, 0, 8, 28, 60, 124, 252, 0, 0, 1024, 3072, 7680, 15872, 32256, 65024, 131068, 0, 0, 524288, 1572864, 3932160, 8126464, 16515072, 33292288, 67108860, 0, 0, 268435456, 805306368, 2013265920, 4160749568, 8455716864, 17179869180, 34359738367, 68719476735]
theorem spec_l04Block.tab5 : rtab .any (opsOf Try.f49 5) = spec_l04Block.T5 := by kernel_rfl
theorem spec_l04Block.bits5 : waitsOk spec_l04Block.T5.2 spec_l04Block.B5 = true := by kernel_rfl
def spec_l04Block.T9 : Bool × List (List Nat × List Nat) := (true, [([], []), ([], []), ([1], [1]), ([0, 2], [0, 2]), ([3], [3]), ([4], [4]), ([], []), ([], []), ([7], [7]), ([6, 8], [6, 8]), ([9], [9]), ([10, 5], [10]), ([5, 11], [5, 11]), ([], []), ([], []), ([14], [14]), ([13, 15], [13, 15]), ([16], [16]), ([17], [17]), ([12, 18], [12, 18]), ([19, 11, 0, 1, 2, 3, 4, 5, 6, 7, 8, 9, 10, 11, 12, 13, 14, 15, 16, 17, 18, 19], [19])])
def spec_l04Block.B9 : List Nat := [0, 0, 2, 7, 15, 31, 0, 0, 128, 448, 960, 2047, 4095, 0, 0, 16384, 57344, 122880, 253952, 524287, 1048575]
theorem spec_l04Block.tab9 : rtab .any (opsOf Try.f49 9) = spec_l04Block.T9 := by kernel_rfl
theorem spec_l04Block.bits9 : waitsOk spec_l04Block.T9.2 spec_l04Block.B9 = true := by kernel_rfl
def spec_l04Block.T10 : Bool × List (List Nat × List Nat) := (true, [([], []), ([], []), ([1], [1]), ([0, 2], [0, 2]), ([3], [3]), ([4], [4]), ([], []), ([], []), ([7], [7]), ([6, 8], [6, 8]), ([9], [9]), ([10, 5], [10]), ([5, 11], [5, 11]), ([], []), ([], []), ([14], [14]), ([13, 15], [13, 15]), ([16], [16]), ([17], [17]), ([12, 18], [12, 18]), ([19, 11, 0, 1, 2, 3, 4, 5, 6, 7, 8, 9, 10, 11, 12, 13, 14, 15, 16, 17, 18, 19], [19])])
def spec_l04Block.B10 : List Nat := [0, 0, 2, 7, 15, 31, 0, 0, 128, 448, 960, 2047, 4095, 0, 0, 16384, 57344, 122880, 253952, 524287, 1048575]
theorem spec_l04Block.tab10 : rtab .any (opsOf Try.f49 10) = spec_l04Block.T10 := by kernel_rfl
theorem spec_l04Block.bits10 : waitsOk spec_l04Block.T10.2 spec_l04Block.B10 = true := by kernel_rfl
def spec_l04Block.T11 : Bool × List (List Nat × List Nat) := (true, [([], []), ([], []), ([], []), ([], []), ([3], [3]), ([2, 4], [2, 4]), ([5], [5]), ([], []), ([6, 7], [6, 7]), ([], []), ([], []), ([10], [10]), ([9, 11], [9, 11]), ([12], [12]), ([8, 13], [8, 13]), ([], []), ([14, 15], [14, 15]), ([16], [16]), ([0, 1, 0, 1, 2, 3, 4, 5, 6, 7, 8, 9, 10, 11, 12, 13, 14, 15, 16, 17], [0, 1]), ([18, 17, 0, 1, 2, 3, 4, 5, 6, 7, 8, 9, 10, 11, 12, 13, 14, 15, 16, 17], [17, 18])])
def spec_l04Block.B11 : List Nat := [0, 0, 0, 0, 8, 28, 60, 0, 252, 0, 0, 1024, 3584, 7680, 16380, 0, 65532, 131068, 262143, 524287]
theorem spec_l04Block.tab11 : rtab .any (opsOf Try.f49 11) = spec_l04Block.T11 := by kernel_rfl
theorem spec_l04Block.bits11 : waitsOk spec_l04Block.T11.2 spec_l04Block.B11 = true := by kernel_rfl
def spec_l04Block.T18 : Bool × List (List Nat × List Nat) := (true, [([], []), ([], []), ([1], [1]), ([2], [2]), ([0, 3], [0, 3]), ([], []), ([5], [5]), ([], []), ([7], [7]), ([8], [8]), ([6, 9], [6, 9]), ([4, 10], [4, 10]), ([11, 0, 1, 2, 3, 4, 5, 6, 7, 8, 9, 10, 11], [11])])
def spec_l04Block.B18 : List Nat := [0, 0, 2, 6, 15, 0, 32, 0, 128, 384, 992, 2047, 4095]
theorem spec_l04Block.tab18 : rtab .any (opsOf Try.f49 18) = spec_l04Block.T18 := by kernel_rfl
theorem spec_l04Block.bits18 : waitsOk spec_l04Block.T18.2 spec_l04Block.B18 = true := by kernel_rfl
def spec_l04Block.T19 : Bool × List (List Nat × List Nat) := (true, [([], []), ([0], [0]), ([1], [1]), ([], []), ([2, 3], [2, 3]), ([], []), ([4, 5], [4, 5]), ([], []), ([], []), ([7, 8], [7, 8]), ([9], [9]), ([6, 10], [6, 10]), ([], []), ([], []), ([12, 13], [12, 13]), ([14], [14]), ([11, 15], [11, 15]), ([16, 0, 1, 2, 3, 4, 5, 6, 7, 8, 9, 10, 11, 12, 13, 14, 15, 16], [16])])
def spec_l04Block.B19 : List Nat := [0, 1, 3, 0, 15, 0, 63, 0, 0, 384, 896, 2047, 0, 0, 12288, 28672, 65535, 131071]
theorem spec_l04Block.tab19 : rtab .any (opsOf Try.f49 19) = spec_l04Block.T19 := by kernel_rfl
theorem spec_l04Block.bits19 : waitsOk spec_l04Block.T19.2 spec_l04Block.B19 = true := by kernel_rfl
def spec_l04Block.T20 : Bool × List (List Nat × List Nat) := (true, [([], []), ([0], [0]), ([1], [1]), ([2], [2]), ([], []), ([4], [4]), ([5], [5]), ([6, 3], [6]), ([3, 7], [3, 7]), ([], []), ([9], [9]), ([10], [10]), ([11, 7], [11]), ([8, 12], [8, 12]), ([13, 12, 0, 1, 2, 3, 4, 5, 6, 7, 8, 9, 10, 11, 12, 13], [13])])
def spec_l04Block.B20 : List Nat := [0, 1, 3, 7, 0, 16, 48, 127, 255, 0, 512, 1536, 3839, 8191, 16383]
theorem spec_l04Block.tab20 : rtab .any (opsOf Try.f49 20) = spec_l04Block.T20 := by kernel_rfl
theorem spec_l04Block.bits20 : waitsOk spec_l04Block.T20.2 spec_l04Block.B20 = true := by kernel_rfl
def spec_l04Block.T21 : Bool × List (List Nat × List Nat) := (true, [([], []), ([0], [0]), ([1], [1]), ([], []), ([3], [3]), ([4], [4]), ([2, 5], [2, 5]), ([], []), ([7], [7]), ([8], [8]), ([], []), ([10], [10]), ([11], [11]), ([9, 12], [9, 12]), ([6, 13], [6, 13]), ([], []), ([15], [15]), ([16], [16]), ([], []), ([18], [18]), ([19], [19]), ([17, 20], [17, 20]), ([14, 21], [14, 21]), ([22, 0, 1, 2, 3, 4, 5, 6, 7, 8, 9, 10, 11, 12, 13, 14, 15, 16, 17, 18, 19, 20, 21, 22], [22])])
def spec_l04Block.B21 : List Nat := [0, 1, 3, 0, 8, 24, 63, 0, 128, 384, 0, 1024, 3072, 8064, 16383, 0, 32768, 98304, 0, 262144, 786432, 2064384, 4194303, 8388607]
theorem spec_l04Block.tab21 : rtab .any (opsOf Try.f49 21) = spec_l04Block.T21 := by kernel_rfl
theorem spec_l04Block.bits21 : waitsOk spec_l04Block.T21.2 spec_l04Block.B21 = true := by kernel_rfl
def spec_l04Block.T23 : Bool × List (List Nat × List Nat) := (true, [([], []), ([], []), ([0, 1], [0, 1]), ([2], [2]), ([], []), ([4], [4]), ([5], [5]), ([], []), ([7], [7]), ([8], [8]), ([], []), ([10], [10]), ([11], [11]), ([], []), ([13], [13]), ([14], [14]), ([], []), ([15, 16], [15, 16]), ([17], [17]), ([], []), ([19], [19]), ([20], [20]), ([], []), ([22], [22]), ([23], [23]), ([], []), ([25], [25]), ([26], [26]), ([3, 6, 9, 12, 18, 21, 24, 27], [3, 6, 9, 12, 18, 21, 24, 27]), ([28, 0, 1, 2, 3, 4, 5, 6, 7, 8, 9, 10, 11, 12, 13, 14, 15, 16, 17, 18, 19, 20, 21, 22, 23, 24, 25, 26, 27, 28], [4, 7, 10, 13, 19, 22, 25, 28])])
def spec_l04Block.B23 : List Nat := [0, 0, 3, 7, 0, 16, 48, 0, 128, 384, 0, 1024, 3072, 0, 8192, 24576, 0, 122880, 253952, 0, 524288, 1572864, 0, 4194304, 12582912, 0, 33554432, 100663296, 268435455, 536870911]
theorem spec_l04Block.tab23 : rtab .any (opsOf Try.f49 23) = spec_l04Block.T23 := by kernel_rfl
theorem spec_l04Block.bits23 : waitsOk spec_l04Block.T23.2 spec_l04Block.B23 = true := by kernel_rfl
def spec_l04Block.T28 : Bool × List (List Nat × List Nat) := (true, [([], []), ([], []), ([], []), ([1, 2], [1, 2]), ([3], [3]), ([], []), ([], []), ([5, 6], [5, 6]), ([7], [7]), ([4, 8], [4, 8]), ([9], [9]), ([10], [10]), ([0, 11], [0, 11]), ([12, 12, 0, 1, 2, 3, 4, 5, 6, 7, 8, 9, 10, 11, 12], [0, 12])])
def spec_l04Block.B28 : List Nat := [0, 0, 0, 6, 14, 0, 0, 96, 224, 510, 1022, 2046, 4095, 8191]
theorem spec_l04Block.tab28 : rtab .any (opsOf Try.f49 28) = spec_l04Block.T28 := by kernel_rfl
theorem spec_l04Block.bits28 : waitsOk spec_l04Block.T28.2 spec_l04Block.B28 = true := by kernel_rfl
set_option maxHeartbeats 8000000 in
set_option maxRecDepth 100000 in
theorem spec_l04Block.calls (k : Nat) (A0 : Option Addr) (c0 : Nat) (l0 : List Int) (A1 : Option Addr) (c1 : Nat) (l1 : List Int) (A2 : Option Addr) (c2 : Nat) (l2 : List Int) (r : List Int) (w : World) (hr0 : Kd.C (Kd.int .i64) w A0 l0.length l0) (hc0 : l0.length ≤ c0) (hr1 : Kd.C (Kd.int .i64) w A1 l1.length l1) (hc1 : l1.length ≤ c1) (hr2 : Kd.C (Kd.int .u8) w A2 l2.length l2) (hc2 : l2.length ≤ c2) (h : spec_l04Block.f k l0 l1 l2 = some r) :
  Calls Try.prog 49 #[.slice A0 l0.length c0, .slice A1 l1.length c1, .slice A2 l2.length c2] w fun e w' => ∃ v0_ : Value, e = .returned (v0_) ∧ Kd.R (Kd.int .i64) 3 w' w.heap.size (fun _ => True) v0_ r ∧ Below w.heap.size w w' := by
 have HR0 := Aside0.mk hr0
 have HC0 := Aside0.mk hc0
 clear hr0 hc0
 have HR1 := Aside0.mk hr1
 have HC1 := Aside0.mk hc1
 clear hr1 hc1
 have HR2 := Aside0.mk hr2
 have HC2 := Aside0.mk hc2
 clear hr2 hc2
 have HB := Aside0.mk (Below.refl w.heap.size w)
 have H : (if 64 ≤ 35184372088832 then (spec_l04Block.l0 k l0 l1 l2 (List.replicate 64 0) 0) else (none)) = some r := h
 clear h
 by_cases c4 : 64 ≤ 35184372088832
 ·
  rw [if_pos c4] at H
  have c4b0 := eq_true c4
  have c4b1 : decide (64 ≤ 35184372088832) = true := decide_eq_true c4
  clear c4
  obtain ⟨y145, hy145⟩ : ∃ y_ : List Int, y_ = (List.replicate 64 0) := ⟨_, rfl⟩
  replace H : (spec_l04Block.l0 k l0 l1 l2 y145 0) = some r := by first | (rw [hy145]; with_reducible exact H) | (have H2_ := (Option.bind_some _ _).symm.trans H; rw [hy145]; with_reducible exact H2_) | (have H2_ := (Option.bind_some _ _).symm.trans H; with_reducible exact H2_) | with_reducible exact H | (rw [hy145]; exact H) | exact H
  have Ny145 := Aside0.mk hy145
  clear hy145
  have H' := Aside0.mk H
  clear H
  go_enter Try.func49, Try.ntmps49
  go_wp2_with (first | ((with_reducible refine gate_dst (N := 23) rfl ?_); refine Kd.R_make (Kd.int .i64) _ 3 rfl (N := 23) rfl 29 _ _ rfl 64 rfl rfl Try.underlying29 (.int .i64 0) 8 info3 rfl (by decide) (by omega) 0 (ok := fun _ => True) (okp := fun _ => True) rfl (fun _ hk => hk) trivial (by omega) (by omega) (Below.refl _ _) (Nat.le_refl _) ?_; intro v146 w5 ho6 hb hg_ hnew_; clear hg_ hnew_; (first | rw [← Ny145.out] at ho6 | (simp only [Int.reduceToNat] at ho6; rw [← Ny145.out] at ho6)); have n0_ := Aside0.mk (Kd.R_lower ho6 (below_size (by repeat (first | (with_reducible first | exact HB.out | apply below_alloc | apply pw_below_drewN | apply below_drew1) | exact HB.out)))); have n1_ := Aside0.mk (below_step (by repeat (first | (with_reducible first | exact HB.out | apply below_alloc | apply pw_below_drewN | apply below_drew1) | exact HB.out)) hb); clear HB; have HO147 := n0_; have HB := n1_; clear n0_ n1_; clear hb ho6))
  go_loopg [8] k (fun kq v8 w' => ∃ (x7_1 : List Int) (x8_1 : Int), v8 = .int .i64 x8_1 ∧ Aside0 (spec_l04Block.l0 kq l0 l1 l2 x7_1 x8_1 = some r) ∧ Aside0 (kq ≤ k) ∧ Aside0 (Kd.R (Kd.int .i64) 3 w' w.heap.size (fun _ => True) v146 x7_1) ∧ Aside0 (Below w.heap.size w w'))
  case atStart => exact ⟨(y145), (0), (by first | rfl | (simp; done) | (simp [*]; done)), H', ⟨Nat.le_refl _⟩, ⟨by (with_reducible repeat (first | apply Kd.R_alloc | apply Kd.R_drewN | apply Kd.R_drew)); exact HO147.out⟩, ⟨by repeat (first | (with_reducible first | exact HB.out | apply below_alloc | apply pw_below_drewN | apply below_drew1) | exact HB.out)⟩⟩
  case round =>
   clear H'
   try clear c1
   try clear c2
   try clear p2
   try clear c4
   try clear c4b0
   try clear c4b1
   obtain ⟨x7_1, x8_1, rfl, HA, HK1, HO_7, HB⟩ := hrel
   cases gk with
   | zero => exact absurd HA.out (by simp [spec_l04Block.l0])
   | succ k1 =>
    have H := HA.out
    clear HA
    simp only [spec_l04Block.l0] at H
    by_cases c7 : x8_1 < 16
    ·
     rw [if_pos c7] at H
     have c7b0 : decide (x8_1 < 16) = true := decide_eq_true c7
     clear c7
     obtain ⟨ji8, hji8⟩ : ∃ j_ : Int, (wrap64 (4 * x8_1)) = j_ := ⟨_, rfl⟩
     replace H : (if 0 ≤ (ji8) then (if (ji8) < (l2.length : Int) then (if 0 ≤ (wrap64 ((ji8) + 1)) then (if (wrap64 ((ji8) + 1)) < (l2.length : Int) then (if 0 ≤ (wrap64 ((ji8) + 2)) then (if (wrap64 ((ji8) + 2)) < (l2.length : Int) then (if 0 ≤ (wrap64 ((ji8) + 3)) then (if (wrap64 ((ji8) + 3)) < (l2.length : Int) then (if 0 ≤ x8_1 then (if x8_1 < (x7_1.length : Int) then (spec_l04Block.l0 k1 l0 l1 l2 (x7_1.set (x8_1 : Int).toNat (Go.bits .or .i64 (Go.bits .or .i64 (Go.bits .or .i64 (wrap64 ((wrap64 (rd l2 (ji8))) * 16777216)) (wrap64 ((wrap64 (rd l2 (wrap64 ((ji8) + 1)))) * 65536))) (wrap64 ((wrap64 (rd l2 (wrap64 ((ji8) + 2)))) * 256))) (wrap64 (rd l2 (wrap64 ((ji8) + 3)))))) (wrap64 (x8_1 + 1))) else (none)) else (none)) else (none)) else (none)) else (none)) else (none)) else (none)) else (none)) else (none)) else (none)) = some r := by first | (rw [hji8] at H; exact H) | (simp only [hji8] at H ⊢; exact H)
     have hji8w : (IntKind.i64.wrap (4 * x8_1)) = ji8 := (i64_w _).trans hji8
     by_cases c9 : 0 ≤ (ji8)
     ·
      rw [if_pos c9] at H
      have c9b0 : decide (0 ≤ (ji8)) = true := decide_eq_true c9
      clear c9
      by_cases c10 : (ji8) < (l2.length : Int)
      ·
       rw [if_pos c10] at H
       have c10b0 : decide ((ji8) < (l2.length : Int)) = true := decide_eq_true c10
       clear c10
       obtain ⟨ji11, hji11⟩ : ∃ j_ : Int, (wrap64 ((ji8) + 1)) = j_ := ⟨_, rfl⟩
       replace H : (if 0 ≤ (ji11) then (if (ji11) < (l2.length : Int) then (if 0 ≤ (wrap64 ((ji8) + 2)) then (if (wrap64 ((ji8) + 2)) < (l2.length : Int) then (if 0 ≤ (wrap64 ((ji8) + 3)) then (if (wrap64 ((ji8) + 3)) < (l2.length : Int) then (if 0 ≤ x8_1 then (if x8_1 < (x7_1.length : Int) then (spec_l04Block.l0 k1 l0 l1 l2 (x7_1.set (x8_1 : Int).toNat (Go.bits .or .i64 (Go.bits .or .i64 (Go.bits .or .i64 (wrap64 ((wrap64 (rd l2 (ji8))) * 16777216)) (wrap64 ((wrap64 (rd l2 (ji11))) * 65536))) (wrap64 ((wrap64 (rd l2 (wrap64 ((ji8) + 2)))) * 256))) (wrap64 (rd l2 (wrap64 ((ji8) + 3)))))) (wrap64 (x8_1 + 1))) else (none)) else (none)) else (none)) else (none)) else (none)) else (none)) else (none)) else (none)) = some r := by first | (rw [hji11] at H; exact H) | (simp only [hji11] at H ⊢; exact H)
       have hji11w : (IntKind.i64.wrap ((ji8) + 1)) = ji11 := (i64_w _).trans hji11
       by_cases c12 : 0 ≤ (ji11)
       ·
        rw [if_pos c12] at H
        have c12b0 : decide (0 ≤ (ji11)) = true := decide_eq_true c12
        clear c12
        by_cases c13 : (ji11) < (l2.length : Int)
        ·
         rw [if_pos c13] at H
         have c13b0 : decide ((ji11) < (l2.length : Int)) = true := decide_eq_true c13
         clear c13
         obtain ⟨ji14, hji14⟩ : ∃ j_ : Int, (wrap64 ((ji8) + 2)) = j_ := ⟨_, rfl⟩
         replace H : (if 0 ≤ (ji14) then (if (ji14) < (l2.length : Int) then (if 0 ≤ (wrap64 ((ji8) + 3)) then (if (wrap64 ((ji8) + 3)) < (l2.length : Int) then (if 0 ≤ x8_1 then (if x8_1 < (x7_1.length : Int) then (spec_l04Block.l0 k1 l0 l1 l2 (x7_1.set (x8_1 : Int).toNat (Go.bits .or .i64 (Go.bits .or .i64 (Go.bits .or .i64 (wrap64 ((wrap64 (rd l2 (ji8))) * 16777216)) (wrap64 ((wrap64 (rd l2 (ji11))) * 65536))) (wrap64 ((wrap64 (rd l2 (ji14))) * 256))) (wrap64 (rd l2 (wrap64 ((ji8) + 3)))))) (wrap64 (x8_1 + 1))) else (none)) else (none)) else (none)) else (none)) else (none)) else (none)) = some r := by first | (rw [hji14] at H; exact H) | (simp only [hji14] at H ⊢; exact H)
         have hji14w : (IntKind.i64.wrap ((ji8) + 2)) = ji14 := (i64_w _).trans hji14
         by_cases c15 : 0 ≤ (ji14)
         ·
          rw [if_pos c15] at H
          have c15b0 : decide (0 ≤ (ji14)) = true := decide_eq_true c15
          clear c15
          by_cases c16 : (ji14) < (l2.length : Int)
          ·
           rw [if_pos c16] at H
           have c16b0 : decide ((ji14) < (l2.length : Int)) = true := decide_eq_true c16
           clear c16
           obtain ⟨ji17, hji17⟩ : ∃ j_ : Int, (wrap64 ((ji8) + 3)) = j_ := ⟨_, rfl⟩
           replace H : (if 0 ≤ (ji17) then (if (ji17) < (l2.length : Int) then (if 0 ≤ x8_1 then (if x8_1 < (x7_1.length : Int) then (spec_l04Block.l0 k1 l0 l1 l2 (x7_1.set (x8_1 : Int).toNat (Go.bits .or .i64 (Go.bits .or .i64 (Go.bits .or .i64 (wrap64 ((wrap64 (rd l2 (ji8))) * 16777216)) (wrap64 ((wrap64 (rd l2 (ji11))) * 65536))) (wrap64 ((wrap64 (rd l2 (ji14))) * 256))) (wrap64 (rd l2 (ji17))))) (wrap64 (x8_1 + 1))) else (none)) else (none)) else (none)) else (none)) = some r := by first | (rw [hji17] at H; exact H) | (simp only [hji17] at H ⊢; exact H)
           have hji17w : (IntKind.i64.wrap ((ji8) + 3)) = ji17 := (i64_w _).trans hji17
           by_cases c18 : 0 ≤ (ji17)
           ·
            rw [if_pos c18] at H
            have c18b0 : decide (0 ≤ (ji17)) = true := decide_eq_true c18
            clear c18
            by_cases c19 : (ji17) < (l2.length : Int)
            ·
             rw [if_pos c19] at H
             have c19b0 : decide ((ji17) < (l2.length : Int)) = true := decide_eq_true c19
             clear c19
             by_cases c20 : 0 ≤ x8_1
             ·
              rw [if_pos c20] at H
              have c20b0 : decide (0 ≤ x8_1) = true := decide_eq_true c20
              clear c20
              by_cases c21 : x8_1 < (x7_1.length : Int)
              ·
               rw [if_pos c21] at H
               have c21b0 : decide (x8_1 < (x7_1.length : Int)) = true := decide_eq_true c21
               clear c21
               obtain ⟨y152, hy152⟩ : ∃ y_ : List Int, y_ = (x7_1.set (x8_1 : Int).toNat (Go.bits .or .i64 (Go.bits .or .i64 (Go.bits .or .i64 (wrap64 ((wrap64 (rd l2 (ji8))) * 16777216)) (wrap64 ((wrap64 (rd l2 (ji11))) * 65536))) (wrap64 ((wrap64 (rd l2 (ji14))) * 256))) (wrap64 (rd l2 (ji17))))) := ⟨_, rfl⟩
               replace H : (spec_l04Block.l0 k1 l0 l1 l2 y152 (wrap64 (x8_1 + 1))) = some r := by first | (rw [hy152]; with_reducible exact H) | (have H2_ := (Option.bind_some _ _).symm.trans H; rw [hy152]; with_reducible exact H2_) | (have H2_ := (Option.bind_some _ _).symm.trans H; with_reducible exact H2_) | with_reducible exact H | (rw [hy152]; exact H) | exact H
               have Ny152 := Aside0.mk hy152
               clear hy152
               have H' := Aside0.mk H
               clear H
               try go_wp2
               have n0_ := Aside0.mk (Kd.R_drew HO_7.out)
               have n1_ := Aside0.mk (below_drew1 HB.out)
               clear HO_7
               clear HB
               have HO_7 := n0_
               have HB := n1_
               clear n0_ n1_
               have p148 : 0 ≤ ((ji8) : Int) := of_decide_eq_true (by first | (with_reducible assumption) | assumption)
               have q148 : (ji8) < (l2.length : Int) := of_decide_eq_true (by first | (with_reducible assumption) | assumption)
               obtain ⟨ad148, e148, hx148_0⟩ := Kd.at_int HR2.out (ji8) p148 q148
               have hw148_0 := hx148_0
               cases e148
               replace hx148_0 := (HB.out.cell (World.block_lt_of_cell? w _ hx148_0)).trans hx148_0
               replace p148 := eq_true p148
               replace q148 := eq_true q148
               have p149 : 0 ≤ ((ji11) : Int) := of_decide_eq_true (by first | (with_reducible assumption) | assumption)
               have q149 : (ji11) < (l2.length : Int) := of_decide_eq_true (by first | (with_reducible assumption) | assumption)
               obtain ⟨ad149, e149, hx149_0⟩ := Kd.at_int HR2.out (ji11) p149 q149
               have hw149_0 := hx149_0
               obtain rfl : ad148 = ad149 := (by injection e149)
               replace hx149_0 := (HB.out.cell (World.block_lt_of_cell? w _ hx149_0)).trans hx149_0
               replace p149 := eq_true p149
               replace q149 := eq_true q149
               have p150 : 0 ≤ ((ji14) : Int) := of_decide_eq_true (by first | (with_reducible assumption) | assumption)
               have q150 : (ji14) < (l2.length : Int) := of_decide_eq_true (by first | (with_reducible assumption) | assumption)
               obtain ⟨ad150, e150, hx150_0⟩ := Kd.at_int HR2.out (ji14) p150 q150
               have hw150_0 := hx150_0
               obtain rfl : ad148 = ad150 := (by injection e150)
               replace hx150_0 := (HB.out.cell (World.block_lt_of_cell? w _ hx150_0)).trans hx150_0
               replace p150 := eq_true p150
               replace q150 := eq_true q150
               have p151 : 0 ≤ ((ji17) : Int) := of_decide_eq_true (by first | (with_reducible assumption) | assumption)
               have q151 : (ji17) < (l2.length : Int) := of_decide_eq_true (by first | (with_reducible assumption) | assumption)
               obtain ⟨ad151, e151, hx151_0⟩ := Kd.at_int HR2.out (ji17) p151 q151
               have hw151_0 := hx151_0
               obtain rfl : ad148 = ad151 := (by injection e151)
               replace hx151_0 := (HB.out.cell (World.block_lt_of_cell? w _ hx151_0)).trans hx151_0
               replace p151 := eq_true p151
               replace q151 := eq_true q151
               have p22 : 0 ≤ (x8_1 : Int) := of_decide_eq_true (by first | (with_reducible assumption) | assumption)
               have q22 : (x8_1 : Int) < ((x7_1.length : Int) : Int) := of_decide_eq_true (by first | (with_reducible assumption) | assumption)
               obtain ⟨go22, co22, eo22, gb22, gl22, cl22, HG22⟩ := Kd.R_form HO_7.out (by omega)
               (first | cases eo22 | (injection eo22 with ea_ en_ ec_; (first | subst ea_ | (injection ea_ with ea_; subst ea_)); subst ec_; clear en_))
               have GB22 := Aside0.mk gb22
               have GG22 := Aside0.mk HG22
               clear gb22 gl22 HG22
               obtain ⟨hx22_0, hf22_0⟩ := Kd.R_celln 0 HO_7.out (x8_1 : Int) p22 q22
               replace p22 := eq_true p22
               replace q22 := eq_true q22
               have HP24 := Kd.R_putn HO_7.out (x8_1 : Int) (Go.bits .or .i64 (Go.bits .or .i64 (Go.bits .or .i64 (wrap64 ((wrap64 (rd l2 (ji8))) * 16777216)) (wrap64 ((wrap64 (rd l2 (ji11))) * 65536))) (wrap64 ((wrap64 (rd l2 (ji14))) * 256))) (wrap64 (rd l2 (ji17))))
               rw [← Ny152.out] at HP24
               have HQ24 := Aside0.mk HP24
               clear HP24
               refine start_ (n := 37) (S := fun w' => w'.cell? (ad148.add ((ji8)).toNat) = some (.int .u8 (rd l2 (ji8))) ∧ w'.cell? (ad148.add ((ji11)).toNat) = some (.int .u8 (rd l2 (ji11))) ∧ w'.cell? (ad148.add ((ji14)).toNat) = some (.int .u8 (rd l2 (ji14))) ∧ w'.cell? (ad148.add ((ji17)).toNat) = some (.int .u8 (rd l2 (ji17)))) (ds := [36]) #[ff,ff,ff,ff,ff,ff,ff,ff,ff,ff,ff,ff,ff,ff,ff,ff,ff,ff,ff,ff,ff,ff,ff,ff,ff,ff,ff,ff,ff,ff,ff,ff,ff,ff,ff,ff,ff] (by kernel_rfl) rfl rfl ⟨((HB.out.cell (World.block_lt_of_cell? w _ hw148_0)).trans hw148_0), ((HB.out.cell (World.block_lt_of_cell? w _ hw149_0)).trans hw149_0), ((HB.out.cell (World.block_lt_of_cell? w _ hw150_0)).trans hw150_0), ((HB.out.cell (World.block_lt_of_cell? w _ hw151_0)).trans hw151_0)⟩ (fun hHeld => ?_); refine with_tabW spec_l04Block.tab5 spec_l04Block.bits5 (fun HT_ HW_ => ?_)
               generalize wr.drew = w23 at HO_7 HB GG22 HQ24 hf22_0 hx148_0 hx149_0 hx150_0 hx151_0 hx22_0 hHeld ⊢
               refine pure_ (i := 0) (N := some 28) (v := ?_) (a' := ?_) #[tt,ff,ff,ff,ff,ff,ff,ff,ff,ff,ff,ff,ff,ff,ff,ff,ff,ff,ff,ff,ff,ff,ff,ff,ff,ff,ff,ff,ff,ff,ff,ff,ff,ff,ff,ff,ff] rfl rfl (any_of HT_.out (by kernel_rfl)) (fun _ _ _ h => h) (Or.inl ⟨by rfl, ?_⟩) ?_ ?_
               rotate_left; focus (intro w'; go_simp; with_reducible rfl)
               rotate_left; focus (simp only [Act.put, sA, sB, sC, i64_w, i32_w]; rfl)
               refine pure_ (i := 1) (N := some 29) (v := ?_) (a' := ?_) #[tt,tt,ff,ff,ff,ff,ff,ff,ff,ff,ff,ff,ff,ff,ff,ff,ff,ff,ff,ff,ff,ff,ff,ff,ff,ff,ff,ff,ff,ff,ff,ff,ff,ff,ff,ff,ff] rfl rfl (any_of HT_.out (by kernel_rfl)) (fun _ _ _ h => h) (Or.inl ⟨by rfl, ?_⟩) ?_ ?_
               rotate_left; focus (intro w'; go_simp; with_reducible rfl)
               rotate_left; focus (simp only [Act.put, sA, sB, sC, i64_w, i32_w]; rfl)
               refine pure_ (i := 2) (N := some 30) (v := ?_) (a' := ?_) #[tt,tt,tt,ff,ff,ff,ff,ff,ff,ff,ff,ff,ff,ff,ff,ff,ff,ff,ff,ff,ff,ff,ff,ff,ff,ff,ff,ff,ff,ff,ff,ff,ff,ff,ff,ff,ff] rfl rfl (any_of HT_.out (by kernel_rfl)) (fun _ _ _ h => h) (Or.inl ⟨by rfl, ?_⟩) ?_ ?_
               rotate_left; focus (intro w'; go_simp; with_reducible rfl)
               rotate_left; focus (simp only [Act.put, sA, sB, sC, i64_w, i32_w]; rfl)
               refine pure_ (i := 3) (N := some 31) (v := ?_) (a' := ?_) #[tt,tt,tt,tt,ff,ff,ff,ff,ff,ff,ff,ff,ff,ff,ff,ff,ff,ff,ff,ff,ff,ff,ff,ff,ff,ff,ff,ff,ff,ff,ff,ff,ff,ff,ff,ff,ff] rfl rfl (any_of HT_.out (by kernel_rfl)) (fun _ _ _ h => h) (Or.inl ⟨by rfl, ?_⟩) ?_ ?_
               rotate_left; focus (intro w'; go_simp; with_reducible rfl)
               rotate_left; focus (simp only [Act.put, sA, sB, sC, i64_w, i32_w]; rfl)
               refine pure_ (i := 4) (N := some 32) (v := ?_) (a' := ?_) #[tt,tt,tt,tt,tt,ff,ff,ff,ff,ff,ff,ff,ff,ff,ff,ff,ff,ff,ff,ff,ff,ff,ff,ff,ff,ff,ff,ff,ff,ff,ff,ff,ff,ff,ff,ff,ff] rfl rfl (any_of HT_.out (by kernel_rfl)) (fun _ _ _ h => h) (Or.inl ⟨by rfl, ?_⟩) ?_ ?_
               rotate_left; focus (intro w'; go_simp; with_reducible rfl)
               rotate_left; focus (simp only [Act.put, sA, sB, sC, i64_w, i32_w]; rfl)
               refine pure_ (i := 5) (N := some 33) (v := ?_) (a' := ?_) #[tt,tt,tt,tt,tt,tt,ff,ff,ff,ff,ff,ff,ff,ff,ff,ff,ff,ff,ff,ff,ff,ff,ff,ff,ff,ff,ff,ff,ff,ff,ff,ff,ff,ff,ff,ff,ff] rfl rfl (any_of HT_.out (by kernel_rfl)) (fun _ _ _ h => h) (Or.inl ⟨by rfl, ?_⟩) ?_ ?_
               rotate_left; focus (intro w'; go_simp; with_reducible rfl)
               rotate_left; focus (simp only [Act.put, sA, sB, sC, i64_w, i32_w]; rfl)
               refine pure_ (i := 9) (N := some 37) (v := ?_) (a' := ?_) #[tt,tt,tt,tt,tt,tt,ff,ff,ff,tt,ff,ff,ff,ff,ff,ff,ff,ff,ff,ff,ff,ff,ff,ff,ff,ff,ff,ff,ff,ff,ff,ff,ff,ff,ff,ff,ff] rfl rfl (any_of HT_.out (by kernel_rfl)) (fun _ _ _ h => h) (Or.inl ⟨by rfl, ?_⟩) ?_ ?_
               rotate_left; focus (intro w'; go_simp; with_reducible rfl)
               rotate_left; focus (simp only [Act.put, sA, sB, sC, i64_w, i32_w]; rfl)
               refine pure_ (i := 10) (N := some 38) (v := ?_) (a' := ?_) #[tt,tt,tt,tt,tt,tt,ff,ff,ff,tt,tt,ff,ff,ff,ff,ff,ff,ff,ff,ff,ff,ff,ff,ff,ff,ff,ff,ff,ff,ff,ff,ff,ff,ff,ff,ff,ff] rfl rfl (any_of HT_.out (by kernel_rfl)) (fun _ _ _ h => h) (Or.inl ⟨by rfl, ?_⟩) ?_ ?_
               rotate_left; focus (intro w'; go_simp; with_reducible rfl)
               rotate_left; focus (simp only [Act.put, sA, sB, sC, i64_w, i32_w]; rfl)
               refine pure_ (i := 11) (N := some 39) (v := ?_) (a' := ?_) #[tt,tt,tt,tt,tt,tt,ff,ff,ff,tt,tt,tt,ff,ff,ff,ff,ff,ff,ff,ff,ff,ff,ff,ff,ff,ff,ff,ff,ff,ff,ff,ff,ff,ff,ff,ff,ff] rfl rfl (any_of HT_.out (by kernel_rfl)) (fun _ _ _ h => h) (Or.inl ⟨by rfl, ?_⟩) ?_ ?_
               rotate_left; focus (intro w'; go_simp; with_reducible rfl)
               rotate_left; focus (simp only [Act.put, sA, sB, sC, i64_w, i32_w]; rfl)
               refine pure_ (i := 12) (N := some 40) (v := ?_) (a' := ?_) #[tt,tt,tt,tt,tt,tt,ff,ff,ff,tt,tt,tt,tt,ff,ff,ff,ff,ff,ff,ff,ff,ff,ff,ff,ff,ff,ff,ff,ff,ff,ff,ff,ff,ff,ff,ff,ff] rfl rfl (any_of HT_.out (by kernel_rfl)) (fun _ _ _ h => h) (Or.inl ⟨by rfl, ?_⟩) ?_ ?_
               rotate_left; focus (intro w'; go_simp; with_reducible rfl)
               rotate_left; focus (simp only [Act.put, sA, sB, sC, i64_w, i32_w]; rfl)
               refine pure_ (i := 13) (N := some 41) (v := ?_) (a' := ?_) #[tt,tt,tt,tt,tt,tt,ff,ff,ff,tt,tt,tt,tt,tt,ff,ff,ff,ff,ff,ff,ff,ff,ff,ff,ff,ff,ff,ff,ff,ff,ff,ff,ff,ff,ff,ff,ff] rfl rfl (any_of HT_.out (by kernel_rfl)) (fun _ _ _ h => h) (Or.inl ⟨by rfl, ?_⟩) ?_ ?_
               rotate_left; focus (intro w'; go_simp; with_reducible rfl)
               rotate_left; focus (simp only [Act.put, sA, sB, sC, i64_w, i32_w]; rfl)
               refine pure_ (i := 18) (N := some 46) (v := ?_) (a' := ?_) #[tt,tt,tt,tt,tt,tt,ff,ff,ff,tt,tt,tt,tt,tt,ff,ff,ff,ff,tt,ff,ff,ff,ff,ff,ff,ff,ff,ff,ff,ff,ff,ff,ff,ff,ff,ff,ff] rfl rfl (any_of HT_.out (by kernel_rfl)) (fun _ _ _ h => h) (Or.inl ⟨by rfl, ?_⟩) ?_ ?_
               rotate_left; focus (intro w'; go_simp; with_reducible rfl)
               rotate_left; focus (simp only [Act.put, sA, sB, sC, i64_w, i32_w]; rfl)
               refine pure_ (i := 19) (N := some 47) (v := ?_) (a' := ?_) #[tt,tt,tt,tt,tt,tt,ff,ff,ff,tt,tt,tt,tt,tt,ff,ff,ff,ff,tt,tt,ff,ff,ff,ff,ff,ff,ff,ff,ff,ff,ff,ff,ff,ff,ff,ff,ff] rfl rfl (any_of HT_.out (by kernel_rfl)) (fun _ _ _ h => h) (Or.inl ⟨by rfl, ?_⟩) ?_ ?_
               rotate_left; focus (intro w'; go_simp; with_reducible rfl)
               rotate_left; focus (simp only [Act.put, sA, sB, sC, i64_w, i32_w]; rfl)
               refine pure_ (i := 20) (N := some 48) (v := ?_) (a' := ?_) #[tt,tt,tt,tt,tt,tt,ff,ff,ff,tt,tt,tt,tt,tt,ff,ff,ff,ff,tt,tt,tt,ff,ff,ff,ff,ff,ff,ff,ff,ff,ff,ff,ff,ff,ff,ff,ff] rfl rfl (any_of HT_.out (by kernel_rfl)) (fun _ _ _ h => h) (Or.inl ⟨by rfl, ?_⟩) ?_ ?_
               rotate_left; focus (intro w'; go_simp; with_reducible rfl)
               rotate_left; focus (simp only [Act.put, sA, sB, sC, i64_w, i32_w]; rfl)
               refine pure_ (i := 21) (N := some 49) (v := ?_) (a' := ?_) #[tt,tt,tt,tt,tt,tt,ff,ff,ff,tt,tt,tt,tt,tt,ff,ff,ff,ff,tt,tt,tt,tt,ff,ff,ff,ff,ff,ff,ff,ff,ff,ff,ff,ff,ff,ff,ff] rfl rfl (any_of HT_.out (by kernel_rfl)) (fun _ _ _ h => h) (Or.inl ⟨by rfl, ?_⟩) ?_ ?_
               rotate_left; focus (intro w'; go_simp; with_reducible rfl)
               rotate_left; focus (simp only [Act.put, sA, sB, sC, i64_w, i32_w]; rfl)
               refine pure_ (i := 22) (N := some 50) (v := ?_) (a' := ?_) #[tt,tt,tt,tt,tt,tt,ff,ff,ff,tt,tt,tt,tt,tt,ff,ff,ff,ff,tt,tt,tt,tt,tt,ff,ff,ff,ff,ff,ff,ff,ff,ff,ff,ff,ff,ff,ff] rfl rfl (any_of HT_.out (by kernel_rfl)) (fun _ _ _ h => h) (Or.inl ⟨by rfl, ?_⟩) ?_ ?_
               rotate_left; focus (intro w'; go_simp; with_reducible rfl)
               rotate_left; focus (simp only [Act.put, sA, sB, sC, i64_w, i32_w]; rfl)
               refine pure_ (i := 27) (N := some 55) (v := ?_) (a' := ?_) #[tt,tt,tt,tt,tt,tt,ff,ff,ff,tt,tt,tt,tt,tt,ff,ff,ff,ff,tt,tt,tt,tt,tt,ff,ff,ff,ff,tt,ff,ff,ff,ff,ff,ff,ff,ff,ff] rfl rfl (any_of HT_.out (by kernel_rfl)) (fun _ _ _ h => h) (Or.inl ⟨by rfl, ?_⟩) ?_ ?_
               rotate_left; focus (intro w'; go_simp; with_reducible rfl)
               rotate_left; focus (simp only [Act.put, sA, sB, sC, i64_w, i32_w]; rfl)
               refine pure_ (i := 28) (N := some 56) (v := ?_) (a' := ?_) #[tt,tt,tt,tt,tt,tt,ff,ff,ff,tt,tt,tt,tt,tt,ff,ff,ff,ff,tt,tt,tt,tt,tt,ff,ff,ff,ff,tt,tt,ff,ff,ff,ff,ff,ff,ff,ff] rfl rfl (any_of HT_.out (by kernel_rfl)) (fun _ _ _ h => h) (Or.inl ⟨by rfl, ?_⟩) ?_ ?_
               rotate_left; focus (intro w'; go_simp; with_reducible rfl)
               rotate_left; focus (simp only [Act.put, sA, sB, sC, i64_w, i32_w]; rfl)
               refine pure_ (i := 29) (N := some 57) (v := ?_) (a' := ?_) #[tt,tt,tt,tt,tt,tt,ff,ff,ff,tt,tt,tt,tt,tt,ff,ff,ff,ff,tt,tt,tt,tt,tt,ff,ff,ff,ff,tt,tt,tt,ff,ff,ff,ff,ff,ff,ff] rfl rfl (any_of HT_.out (by kernel_rfl)) (fun _ _ _ h => h) (Or.inl ⟨by rfl, ?_⟩) ?_ ?_
               rotate_left; focus (intro w'; go_simp; with_reducible rfl)
               rotate_left; focus (simp only [Act.put, sA, sB, sC, i64_w, i32_w]; rfl)
               refine pure_ (i := 30) (N := some 58) (v := ?_) (a' := ?_) #[tt,tt,tt,tt,tt,tt,ff,ff,ff,tt,tt,tt,tt,tt,ff,ff,ff,ff,tt,tt,tt,tt,tt,ff,ff,ff,ff,tt,tt,tt,tt,ff,ff,ff,ff,ff,ff] rfl rfl (any_of HT_.out (by kernel_rfl)) (fun _ _ _ h => h) (Or.inl ⟨by rfl, ?_⟩) ?_ ?_
               rotate_left; focus (intro w'; go_simp; with_reducible rfl)
               rotate_left; focus (simp only [Act.put, sA, sB, sC, i64_w, i32_w]; rfl)
               refine pure_ (i := 31) (N := some 59) (v := ?_) (a' := ?_) #[tt,tt,tt,tt,tt,tt,ff,ff,ff,tt,tt,tt,tt,tt,ff,ff,ff,ff,tt,tt,tt,tt,tt,ff,ff,ff,ff,tt,tt,tt,tt,tt,ff,ff,ff,ff,ff] rfl rfl (any_of HT_.out (by kernel_rfl)) (fun _ _ _ h => h) (Or.inl ⟨by rfl, ?_⟩) ?_ ?_
               rotate_left; focus (intro w'; go_simp; with_reducible rfl)
               rotate_left; focus (simp only [Act.put, sA, sB, sC, i64_w, i32_w]; rfl)
               refine take_ (i := 6) (N := some 34) (v := ?_) (a' := ?_) #[tt,tt,tt,tt,tt,tt,tt,ff,ff,tt,tt,tt,tt,tt,ff,ff,ff,ff,tt,tt,tt,tt,tt,ff,ff,ff,ff,tt,tt,tt,tt,tt,ff,ff,ff,ff,ff] rfl rfl (take_ofW HT_.out HW_.out (by kernel_rfl)) (fun _ _ _ h => h) (Or.inl ⟨by rfl, ?_⟩) hHeld ?_ ?_
               rotate_left; focus (rintro w' ⟨s0, s1, s2, s3⟩; go_simp; with_reducible rfl)
               rotate_left; focus (simp only [Act.put, sA, sB, sC, i64_w, i32_w]; rfl)
               refine pure_ (i := 7) (N := some 35) (v := ?_) (a' := ?_) #[tt,tt,tt,tt,tt,tt,tt,tt,ff,tt,tt,tt,tt,tt,ff,ff,ff,ff,tt,tt,tt,tt,tt,ff,ff,ff,ff,tt,tt,tt,tt,tt,ff,ff,ff,ff,ff] rfl rfl (any_of HT_.out (by kernel_rfl)) (fun _ _ _ h => h) (Or.inl ⟨by rfl, ?_⟩) ?_ ?_
               rotate_left; focus (intro w'; go_simp; with_reducible rfl)
               rotate_left; focus (simp only [Act.put, sA, sB, sC, i64_w, i32_w]; rfl)
               refine pure_ (i := 8) (N := some 36) (v := ?_) (a' := ?_) #[tt,tt,tt,tt,tt,tt,tt,tt,tt,tt,tt,tt,tt,tt,ff,ff,ff,ff,tt,tt,tt,tt,tt,ff,ff,ff,ff,tt,tt,tt,tt,tt,ff,ff,ff,ff,ff] rfl rfl (any_of HT_.out (by kernel_rfl)) (fun _ _ _ h => h) (Or.inl ⟨by rfl, ?_⟩) ?_ ?_
               rotate_left; focus (intro w'; go_simp; with_reducible rfl)
               rotate_left; focus (simp only [Act.put, sA, sB, sC, i64_w, i32_w]; rfl)
               refine take_ (i := 14) (N := some 42) (v := ?_) (a' := ?_) #[tt,tt,tt,tt,tt,tt,tt,tt,tt,tt,tt,tt,tt,tt,tt,ff,ff,ff,tt,tt,tt,tt,tt,ff,ff,ff,ff,tt,tt,tt,tt,tt,ff,ff,ff,ff,ff] rfl rfl (take_ofW HT_.out HW_.out (by kernel_rfl)) (fun _ _ _ h => h) (Or.inl ⟨by rfl, ?_⟩) hHeld ?_ ?_
               rotate_left; focus (rintro w' ⟨s0, s1, s2, s3⟩; go_simp; with_reducible rfl)
               rotate_left; focus (simp only [Act.put, sA, sB, sC, i64_w, i32_w]; rfl)
               refine pure_ (i := 15) (N := some 43) (v := ?_) (a' := ?_) #[tt,tt,tt,tt,tt,tt,tt,tt,tt,tt,tt,tt,tt,tt,tt,tt,ff,ff,tt,tt,tt,tt,tt,ff,ff,ff,ff,tt,tt,tt,tt,tt,ff,ff,ff,ff,ff] rfl rfl (any_of HT_.out (by kernel_rfl)) (fun _ _ _ h => h) (Or.inl ⟨by rfl, ?_⟩) ?_ ?_
               rotate_left; focus (intro w'; go_simp; with_reducible rfl)
               rotate_left; focus (simp only [Act.put, sA, sB, sC, i64_w, i32_w]; rfl)
               refine pure_ (i := 16) (N := some 44) (v := ?_) (a' := ?_) #[tt,tt,tt,tt,tt,tt,tt,tt,tt,tt,tt,tt,tt,tt,tt,tt,tt,ff,tt,tt,tt,tt,tt,ff,ff,ff,ff,tt,tt,tt,tt,tt,ff,ff,ff,ff,ff] rfl rfl (any_of HT_.out (by kernel_rfl)) (fun _ _ _ h => h) (Or.inl ⟨by rfl, ?_⟩) ?_ ?_
               rotate_left; focus (intro w'; go_simp; with_reducible rfl)
               rotate_left; focus (simp only [Act.put, sA, sB, sC, i64_w, i32_w]; rfl)
               refine pure_ (i := 17) (N := some 45) (v := ?_) (a' := ?_) #[tt,tt,tt,tt,tt,tt,tt,tt,tt,tt,tt,tt,tt,tt,tt,tt,tt,tt,tt,tt,tt,tt,tt,ff,ff,ff,ff,tt,tt,tt,tt,tt,ff,ff,ff,ff,ff] rfl rfl (any_of HT_.out (by kernel_rfl)) (fun _ _ _ h => h) (Or.inl ⟨by rfl, ?_⟩) ?_ ?_
               rotate_left; focus (intro w'; go_simp; with_reducible rfl)
               rotate_left; focus (simp only [Act.put, sA, sB, sC, i64_w, i32_w]; rfl)
               refine take_ (i := 23) (N := some 51) (v := ?_) (a' := ?_) #[tt,tt,tt,tt,tt,tt,tt,tt,tt,tt,tt,tt,tt,tt,tt,tt,tt,tt,tt,tt,tt,tt,tt,tt,ff,ff,ff,tt,tt,tt,tt,tt,ff,ff,ff,ff,ff] rfl rfl (take_ofW HT_.out HW_.out (by kernel_rfl)) (fun _ _ _ h => h) (Or.inl ⟨by rfl, ?_⟩) hHeld ?_ ?_
               rotate_left; focus (rintro w' ⟨s0, s1, s2, s3⟩; go_simp; with_reducible rfl)
               rotate_left; focus (simp only [Act.put, sA, sB, sC, i64_w, i32_w]; rfl)
               refine pure_ (i := 24) (N := some 52) (v := ?_) (a' := ?_) #[tt,tt,tt,tt,tt,tt,tt,tt,tt,tt,tt,tt,tt,tt,tt,tt,tt,tt,tt,tt,tt,tt,tt,tt,tt,ff,ff,tt,tt,tt,tt,tt,ff,ff,ff,ff,ff] rfl rfl (any_of HT_.out (by kernel_rfl)) (fun _ _ _ h => h) (Or.inl ⟨by rfl, ?_⟩) ?_ ?_
               rotate_left; focus (intro w'; go_simp; with_reducible rfl)
               rotate_left; focus (simp only [Act.put, sA, sB, sC, i64_w, i32_w]; rfl)
               refine pure_ (i := 25) (N := some 53) (v := ?_) (a' := ?_) #[tt,tt,tt,tt,tt,tt,tt,tt,tt,tt,tt,tt,tt,tt,tt,tt,tt,tt,tt,tt,tt,tt,tt,tt,tt,tt,ff,tt,tt,tt,tt,tt,ff,ff,ff,ff,ff] rfl rfl (any_of HT_.out (by kernel_rfl)) (fun _ _ _ h => h) (Or.inl ⟨by rfl, ?_⟩) ?_ ?_
               rotate_left; focus (intro w'; go_simp; with_reducible rfl)
               rotate_left; focus (simp only [Act.put, sA, sB, sC, i64_w, i32_w]; rfl)
               refine pure_ (i := 26) (N := some 54) (v := ?_) (a' := ?_) #[tt,tt,tt,tt,tt,tt,tt,tt,tt,tt,tt,tt,tt,tt,tt,tt,tt,tt,tt,tt,tt,tt,tt,tt,tt,tt,tt,tt,tt,tt,tt,tt,ff,ff,ff,ff,ff] rfl rfl (any_of HT_.out (by kernel_rfl)) (fun _ _ _ h => h) (Or.inl ⟨by rfl, ?_⟩) ?_ ?_
               rotate_left; focus (intro w'; go_simp; with_reducible rfl)
               rotate_left; focus (simp only [Act.put, sA, sB, sC, i64_w, i32_w]; rfl)
               refine take_ (i := 32) (N := some 60) (v := ?_) (a' := ?_) #[tt,tt,tt,tt,tt,tt,tt,tt,tt,tt,tt,tt,tt,tt,tt,tt,tt,tt,tt,tt,tt,tt,tt,tt,tt,tt,tt,tt,tt,tt,tt,tt,tt,ff,ff,ff,ff] rfl rfl (take_ofW HT_.out HW_.out (by kernel_rfl)) (fun _ _ _ h => h) (Or.inl ⟨by rfl, ?_⟩) hHeld ?_ ?_
               rotate_left; focus (rintro w' ⟨s0, s1, s2, s3⟩; go_simp; with_reducible rfl)
               rotate_left; focus (simp only [Act.put, sA, sB, sC, i64_w, i32_w]; rfl)
               refine pure_ (i := 33) (N := some 61) (v := ?_) (a' := ?_) #[tt,tt,tt,tt,tt,tt,tt,tt,tt,tt,tt,tt,tt,tt,tt,tt,tt,tt,tt,tt,tt,tt,tt,tt,tt,tt,tt,tt,tt,tt,tt,tt,tt,tt,ff,ff,ff] rfl rfl (any_of HT_.out (by kernel_rfl)) (fun _ _ _ h => h) (Or.inl ⟨by rfl, ?_⟩) ?_ ?_
               rotate_left; focus (intro w'; go_simp; with_reducible rfl)
               rotate_left; focus (simp only [Act.put, sA, sB, sC, i64_w, i32_w]; rfl)
               refine pure_ (i := 34) (N := some 62) (v := ?_) (a' := ?_) #[tt,tt,tt,tt,tt,tt,tt,tt,tt,tt,tt,tt,tt,tt,tt,tt,tt,tt,tt,tt,tt,tt,tt,tt,tt,tt,tt,tt,tt,tt,tt,tt,tt,tt,tt,ff,ff] rfl rfl (any_of HT_.out (by kernel_rfl)) (fun _ _ _ h => h) (Or.inl ⟨by rfl, ?_⟩) ?_ ?_
               rotate_left; focus (intro w'; go_simp; with_reducible rfl)
               rotate_left; focus (simp only [Act.put, sA, sB, sC, i64_w, i32_w]; rfl)
               refine pure_ (i := 35) (N := some 63) (v := ?_) (a' := ?_) #[tt,tt,tt,tt,tt,tt,tt,tt,tt,tt,tt,tt,tt,tt,tt,tt,tt,tt,tt,tt,tt,tt,tt,tt,tt,tt,tt,tt,tt,tt,tt,tt,tt,tt,tt,tt,ff] rfl rfl (any_of HT_.out (by kernel_rfl)) (fun _ _ _ h => h) (Or.inl ⟨by rfl, ?_⟩) ?_ ?_
               rotate_left; focus (intro w'; go_simp; with_reducible rfl)
               rotate_left; focus (simp only [Act.put, sA, sB, sC, i64_w, i32_w]; rfl)
               refine last_ (i := 36) (N := none) #[tt,tt,tt,tt,tt,tt,tt,tt,tt,tt,tt,tt,tt,tt,tt,tt,tt,tt,tt,tt,tt,tt,tt,tt,tt,tt,tt,tt,tt,tt,tt,tt,tt,tt,tt,tt,tt] rfl rfl (one_of HT_.out (by kernel_rfl)) (by decide) (fun K hK => ?_)
               refine skip_ (w1 := ?_) (by rfl) rfl ?_ ?_
               rotate_left
               ·
                go_simp
                rfl
               refine hK.out _ _ ?_
               clear hK K
               refine done_ (done_of HT_.out (by kernel_rfl)) ?_
               try go_wp2
               go_roundg k1
               case measure => have := HK1.out; omega
               case rel => exact ⟨(y152), (wrap64 (x8_1 + 1)), (by first | rfl | (simp; done) | (simp [*]; done)), H', ⟨by have := HK1.out; omega⟩, ⟨by (with_reducible repeat (first | apply Kd.R_alloc | apply Kd.R_drewN | apply Kd.R_drew)); exact HQ24.out⟩, ⟨by repeat (first | (with_reducible first | exact HB.out | apply below_alloc | apply pw_below_drewN | apply below_drew1 | refine below_set ?_ GB22.out) | exact HB.out)⟩⟩
              ·
               rw [if_neg c21] at H
               exact absurd H (by simp)
             ·
              rw [if_neg c20] at H
              exact absurd H (by simp)
            ·
             rw [if_neg c19] at H
             exact absurd H (by simp)
           ·
            rw [if_neg c18] at H
            exact absurd H (by simp)
          ·
           rw [if_neg c16] at H
           exact absurd H (by simp)
         ·
          rw [if_neg c15] at H
          exact absurd H (by simp)
        ·
         rw [if_neg c13] at H
         exact absurd H (by simp)
       ·
        rw [if_neg c12] at H
        exact absurd H (by simp)
      ·
       rw [if_neg c10] at H
       exact absurd H (by simp)
     ·
      rw [if_neg c9] at H
      exact absurd H (by simp)
    ·
     rw [if_neg c7] at H
     have c7b0 : decide (x8_1 < 16) = false := decide_eq_false c7
     clear c7
     have H' := Aside0.mk H
     clear H
     go_wp2
     go_loopg [9] k1 (fun kq v9 w' => ∃ (x7_2 : List Int) (x9_2 : Int), v9 = .int .i64 x9_2 ∧ Aside0 (spec_l04Block.l1 kq l0 l1 x7_2 x9_2 = some r) ∧ Aside0 (kq ≤ k1) ∧ Aside0 (Kd.R (Kd.int .i64) 3 w' w.heap.size (fun _ => True) v146 x7_2) ∧ Aside0 (Below w.heap.size w w'))
     case atStart => exact ⟨(x7_1), (16), (by first | rfl | (simp; done) | (simp [*]; done)), H', ⟨Nat.le_refl _⟩, ⟨by (with_reducible repeat (first | apply Kd.R_alloc | apply Kd.R_drewN | apply Kd.R_drew)); exact HO_7.out⟩, ⟨by repeat (first | (with_reducible first | exact HB.out | apply below_alloc | apply pw_below_drewN | apply below_drew1) | exact HB.out)⟩⟩
     case round =>
      clear H'
      try clear c1
      try clear p1
      try clear q1
      try clear hx1
      try clear c2
      try clear p2
      try clear q2
      try clear hx2
      try clear c4
      try clear c4b0
      try clear c4b1
      try clear p6
      try clear c7
      try clear c7b0
      try clear c9
      try clear c9b0
      try clear c10
      try clear c10b0
      try clear c12
      try clear c12b0
      try clear c13
      try clear c13b0
      try clear p14
      try clear q14
      try clear hx14
      try clear c15
      try clear c15b0
      try clear p15
      try clear q15
      try clear hx15
      try clear c16
      try clear c16b0
      try clear c18
      try clear c18b0
      try clear c19
      try clear c19b0
      try clear c20
      try clear c20b0
      try clear c21
      try clear c21b0
      try clear p22
      try clear q22
      try clear hx22
      try clear hf22
      try clear hx148_0
      try clear hx149_0
      try clear hx150_0
      try clear hx151_0
      try clear hx22_0
      try clear p148
      try clear p149
      try clear p150
      try clear p151
      try clear p2
      try clear p22
      try clear q148
      try clear q149
      try clear q150
      try clear q151
      try clear q22
      obtain ⟨x7_2, x9_2, rfl, HA, HK2, HO_7, HB⟩ := hrel
      cases gk with
      | zero => exact absurd HA.out (by simp [spec_l04Block.l1])
      | succ k2 =>
       have H := HA.out
       clear HA
       simp only [spec_l04Block.l1] at H
       by_cases c25 : x9_2 < 64
       ·
        rw [if_pos c25] at H
        have c25b0 : decide (x9_2 < 64) = true := decide_eq_true c25
        clear c25
        obtain ⟨ji26, hji26⟩ : ∃ j_ : Int, (wrap64 (x9_2 - 15)) = j_ := ⟨_, rfl⟩
        replace H : (if 0 ≤ (ji26) then (if (ji26) < (x7_2.length : Int) then ((spec_l04Turn.f (rd x7_2 (ji26)) 7).bind fun t154 => ((spec_l04Turn.f (rd x7_2 (ji26)) 18).bind fun t156 => (if 0 ≤ (wrap64 (x9_2 - 2)) then (if (wrap64 (x9_2 - 2)) < (x7_2.length : Int) then ((spec_l04Turn.f (rd x7_2 (wrap64 (x9_2 - 2))) 17).bind fun t159 => ((spec_l04Turn.f (rd x7_2 (wrap64 (x9_2 - 2))) 19).bind fun t161 => (if 0 ≤ (wrap64 (x9_2 - 16)) then (if (wrap64 (x9_2 - 16)) < (x7_2.length : Int) then (if 0 ≤ (wrap64 (x9_2 - 7)) then (if (wrap64 (x9_2 - 7)) < (x7_2.length : Int) then (if 0 ≤ x9_2 then (if x9_2 < (x7_2.length : Int) then (spec_l04Block.l1 k2 l0 l1 (x7_2.set (x9_2 : Int).toNat (Go.bits .and .i64 (wrap64 ((wrap64 ((wrap64 ((rd x7_2 (wrap64 (x9_2 - 16))) + (Go.bits .xor .i64 (Go.bits .xor .i64 t154 t156) ((rd x7_2 (ji26)) / 8)))) + (rd x7_2 (wrap64 (x9_2 - 7))))) + (Go.bits .xor .i64 (Go.bits .xor .i64 t159 t161) ((rd x7_2 (wrap64 (x9_2 - 2))) / 1024)))) 4294967295)) (wrap64 (x9_2 + 1))) else (none)) else (none)) else (none)) else (none)) else (none)) else (none)))) else (none)) else (none)))) else (none)) else (none)) = some r := by first | (rw [hji26] at H; exact H) | (simp only [hji26] at H ⊢; exact H)
        have hji26w : (IntKind.i64.wrap (x9_2 - 15)) = ji26 := (i64_w _).trans hji26
        by_cases c27 : 0 ≤ (ji26)
        ·
         rw [if_pos c27] at H
         have c27b0 : decide (0 ≤ (ji26)) = true := decide_eq_true c27
         clear c27
         by_cases c28 : (ji26) < (x7_2.length : Int)
         ·
          rw [if_pos c28] at H
          have c28b0 : decide ((ji26) < (x7_2.length : Int)) = true := decide_eq_true c28
          clear c28
          replace H := Option.bind_eq_some_iff.mp H
          obtain ⟨t154, A290, H⟩ := H
          replace H : ((spec_l04Turn.f (rd x7_2 (ji26)) 18).bind fun t156 => (if 0 ≤ (wrap64 (x9_2 - 2)) then (if (wrap64 (x9_2 - 2)) < (x7_2.length : Int) then ((spec_l04Turn.f (rd x7_2 (wrap64 (x9_2 - 2))) 17).bind fun t159 => ((spec_l04Turn.f (rd x7_2 (wrap64 (x9_2 - 2))) 19).bind fun t161 => (if 0 ≤ (wrap64 (x9_2 - 16)) then (if (wrap64 (x9_2 - 16)) < (x7_2.length : Int) then (if 0 ≤ (wrap64 (x9_2 - 7)) then (if (wrap64 (x9_2 - 7)) < (x7_2.length : Int) then (if 0 ≤ x9_2 then (if x9_2 < (x7_2.length : Int) then (spec_l04Block.l1 k2 l0 l1 (x7_2.set (x9_2 : Int).toNat (Go.bits .and .i64 (wrap64 ((wrap64 ((wrap64 ((rd x7_2 (wrap64 (x9_2 - 16))) + (Go.bits .xor .i64 (Go.bits .xor .i64 t154 t156) ((rd x7_2 (ji26)) / 8)))) + (rd x7_2 (wrap64 (x9_2 - 7))))) + (Go.bits .xor .i64 (Go.bits .xor .i64 t159 t161) ((rd x7_2 (wrap64 (x9_2 - 2))) / 1024)))) 4294967295)) (wrap64 (x9_2 + 1))) else (none)) else (none)) else (none)) else (none)) else (none)) else (none)))) else (none)) else (none))) = some r := H
          have A29 := Aside0.mk A290
          clear A290
          replace H := Option.bind_eq_some_iff.mp H
          obtain ⟨t156, A300, H⟩ := H
          replace H : (if 0 ≤ (wrap64 (x9_2 - 2)) then (if (wrap64 (x9_2 - 2)) < (x7_2.length : Int) then ((spec_l04Turn.f (rd x7_2 (wrap64 (x9_2 - 2))) 17).bind fun t159 => ((spec_l04Turn.f (rd x7_2 (wrap64 (x9_2 - 2))) 19).bind fun t161 => (if 0 ≤ (wrap64 (x9_2 - 16)) then (if (wrap64 (x9_2 - 16)) < (x7_2.length : Int) then (if 0 ≤ (wrap64 (x9_2 - 7)) then (if (wrap64 (x9_2 - 7)) < (x7_2.length : Int) then (if 0 ≤ x9_2 then (if x9_2 < (x7_2.length : Int) then (spec_l04Block.l1 k2 l0 l1 (x7_2.set (x9_2 : Int).toNat (Go.bits .and .i64 (wrap64 ((wrap64 ((wrap64 ((rd x7_2 (wrap64 (x9_2 - 16))) + (Go.bits .xor .i64 (Go.bits .xor .i64 t154 t156) ((rd x7_2 (ji26)) / 8)))) + (rd x7_2 (wrap64 (x9_2 - 7))))) + (Go.bits .xor .i64 (Go.bits .xor .i64 t159 t161) ((rd x7_2 (wrap64 (x9_2 - 2))) / 1024)))) 4294967295)) (wrap64 (x9_2 + 1))) else (none)) else (none)) else (none)) else (none)) else (none)) else (none)))) else (none)) else (none)) = some r := H
          have A30 := Aside0.mk A300
          clear A300
          obtain ⟨ji31, hji31⟩ : ∃ j_ : Int, (wrap64 (x9_2 - 2)) = j_ := ⟨_, rfl⟩
          replace H : (if 0 ≤ (ji31) then (if (ji31) < (x7_2.length : Int) then ((spec_l04Turn.f (rd x7_2 (ji31)) 17).bind fun t159 => ((spec_l04Turn.f (rd x7_2 (ji31)) 19).bind fun t161 => (if 0 ≤ (wrap64 (x9_2 - 16)) then (if (wrap64 (x9_2 - 16)) < (x7_2.length : Int) then (if 0 ≤ (wrap64 (x9_2 - 7)) then (if (wrap64 (x9_2 - 7)) < (x7_2.length : Int) then (if 0 ≤ x9_2 then (if x9_2 < (x7_2.length : Int) then (spec_l04Block.l1 k2 l0 l1 (x7_2.set (x9_2 : Int).toNat (Go.bits .and .i64 (wrap64 ((wrap64 ((wrap64 ((rd x7_2 (wrap64 (x9_2 - 16))) + (Go.bits .xor .i64 (Go.bits .xor .i64 t154 t156) ((rd x7_2 (ji26)) / 8)))) + (rd x7_2 (wrap64 (x9_2 - 7))))) + (Go.bits .xor .i64 (Go.bits .xor .i64 t159 t161) ((rd x7_2 (ji31)) / 1024)))) 4294967295)) (wrap64 (x9_2 + 1))) else (none)) else (none)) else (none)) else (none)) else (none)) else (none)))) else (none)) else (none)) = some r := by first | (rw [hji31] at H; exact H) | (simp only [hji31] at H ⊢; exact H)
          (try rw [hji31] at A29)
          (try rw [hji31] at A30)
          have hji31w : (IntKind.i64.wrap (x9_2 - 2)) = ji31 := (i64_w _).trans hji31
          by_cases c32 : 0 ≤ (ji31)
          ·
           rw [if_pos c32] at H
           have c32b0 : decide (0 ≤ (ji31)) = true := decide_eq_true c32
           clear c32
           by_cases c33 : (ji31) < (x7_2.length : Int)
           ·
            rw [if_pos c33] at H
            have c33b0 : decide ((ji31) < (x7_2.length : Int)) = true := decide_eq_true c33
            clear c33
            replace H := Option.bind_eq_some_iff.mp H
            obtain ⟨t159, A340, H⟩ := H
            replace H : ((spec_l04Turn.f (rd x7_2 (ji31)) 19).bind fun t161 => (if 0 ≤ (wrap64 (x9_2 - 16)) then (if (wrap64 (x9_2 - 16)) < (x7_2.length : Int) then (if 0 ≤ (wrap64 (x9_2 - 7)) then (if (wrap64 (x9_2 - 7)) < (x7_2.length : Int) then (if 0 ≤ x9_2 then (if x9_2 < (x7_2.length : Int) then (spec_l04Block.l1 k2 l0 l1 (x7_2.set (x9_2 : Int).toNat (Go.bits .and .i64 (wrap64 ((wrap64 ((wrap64 ((rd x7_2 (wrap64 (x9_2 - 16))) + (Go.bits .xor .i64 (Go.bits .xor .i64 t154 t156) ((rd x7_2 (ji26)) / 8)))) + (rd x7_2 (wrap64 (x9_2 - 7))))) + (Go.bits .xor .i64 (Go.bits .xor .i64 t159 t161) ((rd x7_2 (ji31)) / 1024)))) 4294967295)) (wrap64 (x9_2 + 1))) else (none)) else (none)) else (none)) else (none)) else (none)) else (none))) = some r := H
            have A34 := Aside0.mk A340
            clear A340
            replace H := Option.bind_eq_some_iff.mp H
            obtain ⟨t161, A350, H⟩ := H
            replace H : (if 0 ≤ (wrap64 (x9_2 - 16)) then (if (wrap64 (x9_2 - 16)) < (x7_2.length : Int) then (if 0 ≤ (wrap64 (x9_2 - 7)) then (if (wrap64 (x9_2 - 7)) < (x7_2.length : Int) then (if 0 ≤ x9_2 then (if x9_2 < (x7_2.length : Int) then (spec_l04Block.l1 k2 l0 l1 (x7_2.set (x9_2 : Int).toNat (Go.bits .and .i64 (wrap64 ((wrap64 ((wrap64 ((rd x7_2 (wrap64 (x9_2 - 16))) + (Go.bits .xor .i64 (Go.bits .xor .i64 t154 t156) ((rd x7_2 (ji26)) / 8)))) + (rd x7_2 (wrap64 (x9_2 - 7))))) + (Go.bits .xor .i64 (Go.bits .xor .i64 t159 t161) ((rd x7_2 (ji31)) / 1024)))) 4294967295)) (wrap64 (x9_2 + 1))) else (none)) else (none)) else (none)) else (none)) else (none)) else (none)) = some r := H
            have A35 := Aside0.mk A350
            clear A350
            obtain ⟨ji36, hji36⟩ : ∃ j_ : Int, (wrap64 (x9_2 - 16)) = j_ := ⟨_, rfl⟩
            replace H : (if 0 ≤ (ji36) then (if (ji36) < (x7_2.length : Int) then (if 0 ≤ (wrap64 (x9_2 - 7)) then (if (wrap64 (x9_2 - 7)) < (x7_2.length : Int) then (if 0 ≤ x9_2 then (if x9_2 < (x7_2.length : Int) then (spec_l04Block.l1 k2 l0 l1 (x7_2.set (x9_2 : Int).toNat (Go.bits .and .i64 (wrap64 ((wrap64 ((wrap64 ((rd x7_2 (ji36)) + (Go.bits .xor .i64 (Go.bits .xor .i64 t154 t156) ((rd x7_2 (ji26)) / 8)))) + (rd x7_2 (wrap64 (x9_2 - 7))))) + (Go.bits .xor .i64 (Go.bits .xor .i64 t159 t161) ((rd x7_2 (ji31)) / 1024)))) 4294967295)) (wrap64 (x9_2 + 1))) else (none)) else (none)) else (none)) else (none)) else (none)) else (none)) = some r := by first | (rw [hji36] at H; exact H) | (simp only [hji36] at H ⊢; exact H)
            (try rw [hji36] at A29)
            (try rw [hji36] at A30)
            (try rw [hji36] at A34)
            (try rw [hji36] at A35)
            have hji36w : (IntKind.i64.wrap (x9_2 - 16)) = ji36 := (i64_w _).trans hji36
            by_cases c37 : 0 ≤ (ji36)
            ·
             rw [if_pos c37] at H
             have c37b0 : decide (0 ≤ (ji36)) = true := decide_eq_true c37
             clear c37
             by_cases c38 : (ji36) < (x7_2.length : Int)
             ·
              rw [if_pos c38] at H
              have c38b0 : decide ((ji36) < (x7_2.length : Int)) = true := decide_eq_true c38
              clear c38
              obtain ⟨ji39, hji39⟩ : ∃ j_ : Int, (wrap64 (x9_2 - 7)) = j_ := ⟨_, rfl⟩
              replace H : (if 0 ≤ (ji39) then (if (ji39) < (x7_2.length : Int) then (if 0 ≤ x9_2 then (if x9_2 < (x7_2.length : Int) then (spec_l04Block.l1 k2 l0 l1 (x7_2.set (x9_2 : Int).toNat (Go.bits .and .i64 (wrap64 ((wrap64 ((wrap64 ((rd x7_2 (ji36)) + (Go.bits .xor .i64 (Go.bits .xor .i64 t154 t156) ((rd x7_2 (ji26)) / 8)))) + (rd x7_2 (ji39)))) + (Go.bits .xor .i64 (Go.bits .xor .i64 t159 t161) ((rd x7_2 (ji31)) / 1024)))) 4294967295)) (wrap64 (x9_2 + 1))) else (none)) else (none)) else (none)) else (none)) = some r := by first | (rw [hji39] at H; exact H) | (simp only [hji39] at H ⊢; exact H)
              (try rw [hji39] at A29)
              (try rw [hji39] at A30)
              (try rw [hji39] at A34)
              (try rw [hji39] at A35)
              have hji39w : (IntKind.i64.wrap (x9_2 - 7)) = ji39 := (i64_w _).trans hji39
              by_cases c40 : 0 ≤ (ji39)
              ·
               rw [if_pos c40] at H
               have c40b0 : decide (0 ≤ (ji39)) = true := decide_eq_true c40
               clear c40
               by_cases c41 : (ji39) < (x7_2.length : Int)
               ·
                rw [if_pos c41] at H
                have c41b0 : decide ((ji39) < (x7_2.length : Int)) = true := decide_eq_true c41
                clear c41
                by_cases c42 : 0 ≤ x9_2
                ·
                 rw [if_pos c42] at H
                 have c42b0 : decide (0 ≤ x9_2) = true := decide_eq_true c42
                 clear c42
                 by_cases c43 : x9_2 < (x7_2.length : Int)
                 ·
                  rw [if_pos c43] at H
                  have c43b0 : decide (x9_2 < (x7_2.length : Int)) = true := decide_eq_true c43
                  clear c43
                  obtain ⟨y165, hy165⟩ : ∃ y_ : List Int, y_ = (x7_2.set (x9_2 : Int).toNat (Go.bits .and .i64 (wrap64 ((wrap64 ((wrap64 ((rd x7_2 (ji36)) + (Go.bits .xor .i64 (Go.bits .xor .i64 t154 t156) ((rd x7_2 (ji26)) / 8)))) + (rd x7_2 (ji39)))) + (Go.bits .xor .i64 (Go.bits .xor .i64 t159 t161) ((rd x7_2 (ji31)) / 1024)))) 4294967295)) := ⟨_, rfl⟩
                  replace H : (spec_l04Block.l1 k2 l0 l1 y165 (wrap64 (x9_2 + 1))) = some r := by first | (rw [hy165]; with_reducible exact H) | (have H2_ := (Option.bind_some _ _).symm.trans H; rw [hy165]; with_reducible exact H2_) | (have H2_ := (Option.bind_some _ _).symm.trans H; with_reducible exact H2_) | with_reducible exact H | (rw [hy165]; exact H) | exact H
                  have Ny165 := Aside0.mk hy165
                  clear hy165
                  have H' := Aside0.mk H
                  clear H
                  try go_wp2
                  have n0_ := Aside0.mk (Kd.R_drew HO_7.out)
                  have n1_ := Aside0.mk (below_drew1 HB.out)
                  clear HO_7
                  clear HB
                  have HO_7 := n0_
                  have HB := n1_
                  clear n0_ n1_
                  obtain ⟨Ao46, co46, eo46⟩ := Kd.R_slice HO_7.out
                  (first | subst eo46 | (injection eo46 with f1_ f2_ f3_; have f4_ := f1_.symm; have f5_ := f3_.symm; clear f1_ f2_ f3_; subst f4_; subst f5_))
                  have p153 : 0 ≤ ((ji26) : Int) := of_decide_eq_true (by first | (with_reducible assumption) | assumption)
                  have q153 : (ji26) < (x7_2.length : Int) := of_decide_eq_true (by first | (with_reducible assumption) | assumption)
                  obtain ⟨ad153, e153, hx153_0⟩ := Kd.at_int (Kd.R_reads' HO_7.out).2.2 (ji26) p153 q153
                  cases e153
                  replace p153 := eq_true p153
                  replace q153 := eq_true q153
                  have p155 : 0 ≤ ((ji26) : Int) := of_decide_eq_true (by first | (with_reducible assumption) | assumption)
                  have q155 : (ji26) < (x7_2.length : Int) := of_decide_eq_true (by first | (with_reducible assumption) | assumption)
                  obtain ⟨ad155, e155, hx155_0⟩ := Kd.at_int (Kd.R_reads' HO_7.out).2.2 (ji26) p155 q155
                  obtain rfl : ad153 = ad155 := (by injection e155)
                  replace p155 := eq_true p155
                  replace q155 := eq_true q155
                  have p157 : 0 ≤ ((ji26) : Int) := of_decide_eq_true (by first | (with_reducible assumption) | assumption)
                  have q157 : (ji26) < (x7_2.length : Int) := of_decide_eq_true (by first | (with_reducible assumption) | assumption)
                  obtain ⟨ad157, e157, hx157_0⟩ := Kd.at_int (Kd.R_reads' HO_7.out).2.2 (ji26) p157 q157
                  obtain rfl : ad153 = ad157 := (by injection e157)
                  replace p157 := eq_true p157
                  replace q157 := eq_true q157
                  refine start_ (n := 21) (S := fun w' => w'.cell? (ad153.add ((ji26)).toNat) = some (.int .i64 (rd x7_2 (ji26))) ∧ w'.cell? (ad153.add ((ji26)).toNat) = some (.int .i64 (rd x7_2 (ji26))) ∧ w'.cell? (ad153.add ((ji26)).toNat) = some (.int .i64 (rd x7_2 (ji26)))) (ds := []) #[ff,ff,ff,ff,ff,ff,ff,ff,ff,ff,ff,ff,ff,ff,ff,ff,ff,ff,ff,ff,ff] (by kernel_rfl) rfl rfl ⟨hx153_0, hx155_0, hx157_0⟩ (fun hHeld => ?_); refine with_tabW spec_l04Block.tab9 spec_l04Block.bits9 (fun HT_ HW_ => ?_)
                  generalize wr.drew = w45 at HO_7 HB hx153_0 hx155_0 hx157_0 hHeld ⊢
                  refine pure_ (i := 0) (N := some 68) (v := ?_) (a' := ?_) #[tt,ff,ff,ff,ff,ff,ff,ff,ff,ff,ff,ff,ff,ff,ff,ff,ff,ff,ff,ff,ff] rfl rfl (any_of HT_.out (by kernel_rfl)) (fun _ _ _ h => h) (Or.inl ⟨by rfl, ?_⟩) ?_ ?_
                  rotate_left; focus (intro w'; go_simp; with_reducible rfl)
                  rotate_left; focus (simp only [Act.put, sA, sB, sC, i64_w, i32_w]; rfl)
                  refine pure_ (i := 1) (N := some 69) (v := ?_) (a' := ?_) #[tt,tt,ff,ff,ff,ff,ff,ff,ff,ff,ff,ff,ff,ff,ff,ff,ff,ff,ff,ff,ff] rfl rfl (any_of HT_.out (by kernel_rfl)) (fun _ _ _ h => h) (Or.inl ⟨by rfl, ?_⟩) ?_ ?_
                  rotate_left; focus (intro w'; go_simp; with_reducible rfl)
                  rotate_left; focus (simp only [Act.put, sA, sB, sC, i64_w, i32_w]; rfl)
                  refine pure_ (i := 2) (N := some 70) (v := ?_) (a' := ?_) #[tt,tt,tt,ff,ff,ff,ff,ff,ff,ff,ff,ff,ff,ff,ff,ff,ff,ff,ff,ff,ff] rfl rfl (any_of HT_.out (by kernel_rfl)) (fun _ _ _ h => h) (Or.inl ⟨by rfl, ?_⟩) ?_ ?_
                  rotate_left; focus (intro w'; go_simp; with_reducible rfl)
                  rotate_left; focus (simp only [Act.put, sA, sB, sC, i64_w, i32_w]; rfl)
                  refine pure_ (i := 3) (N := some 71) (v := ?_) (a' := ?_) #[tt,tt,tt,tt,ff,ff,ff,ff,ff,ff,ff,ff,ff,ff,ff,ff,ff,ff,ff,ff,ff] rfl rfl (any_of HT_.out (by kernel_rfl)) (fun _ _ _ h => h) (Or.inl ⟨by rfl, ?_⟩) ?_ ?_
                  rotate_left; focus (intro w'; go_simp; with_reducible rfl)
                  rotate_left; focus (simp only [Act.put, sA, sB, sC, i64_w, i32_w]; rfl)
                  refine pure_ (i := 6) (N := some 74) (v := ?_) (a' := ?_) #[tt,tt,tt,tt,ff,ff,tt,ff,ff,ff,ff,ff,ff,ff,ff,ff,ff,ff,ff,ff,ff] rfl rfl (any_of HT_.out (by kernel_rfl)) (fun _ _ _ h => h) (Or.inl ⟨by rfl, ?_⟩) ?_ ?_
                  rotate_left; focus (intro w'; go_simp; with_reducible rfl)
                  rotate_left; focus (simp only [Act.put, sA, sB, sC, i64_w, i32_w]; rfl)
                  refine pure_ (i := 7) (N := some 75) (v := ?_) (a' := ?_) #[tt,tt,tt,tt,ff,ff,tt,tt,ff,ff,ff,ff,ff,ff,ff,ff,ff,ff,ff,ff,ff] rfl rfl (any_of HT_.out (by kernel_rfl)) (fun _ _ _ h => h) (Or.inl ⟨by rfl, ?_⟩) ?_ ?_
                  rotate_left; focus (intro w'; go_simp; with_reducible rfl)
                  rotate_left; focus (simp only [Act.put, sA, sB, sC, i64_w, i32_w]; rfl)
                  refine pure_ (i := 8) (N := some 76) (v := ?_) (a' := ?_) #[tt,tt,tt,tt,ff,ff,tt,tt,tt,ff,ff,ff,ff,ff,ff,ff,ff,ff,ff,ff,ff] rfl rfl (any_of HT_.out (by kernel_rfl)) (fun _ _ _ h => h) (Or.inl ⟨by rfl, ?_⟩) ?_ ?_
                  rotate_left; focus (intro w'; go_simp; with_reducible rfl)
                  rotate_left; focus (simp only [Act.put, sA, sB, sC, i64_w, i32_w]; rfl)
                  refine pure_ (i := 9) (N := some 77) (v := ?_) (a' := ?_) #[tt,tt,tt,tt,ff,ff,tt,tt,tt,tt,ff,ff,ff,ff,ff,ff,ff,ff,ff,ff,ff] rfl rfl (any_of HT_.out (by kernel_rfl)) (fun _ _ _ h => h) (Or.inl ⟨by rfl, ?_⟩) ?_ ?_
                  rotate_left; focus (intro w'; go_simp; with_reducible rfl)
                  rotate_left; focus (simp only [Act.put, sA, sB, sC, i64_w, i32_w]; rfl)
                  refine pure_ (i := 13) (N := some 81) (v := ?_) (a' := ?_) #[tt,tt,tt,tt,ff,ff,tt,tt,tt,tt,ff,ff,ff,tt,ff,ff,ff,ff,ff,ff,ff] rfl rfl (any_of HT_.out (by kernel_rfl)) (fun _ _ _ h => h) (Or.inl ⟨by rfl, ?_⟩) ?_ ?_
                  rotate_left; focus (intro w'; go_simp; with_reducible rfl)
                  rotate_left; focus (simp only [Act.put, sA, sB, sC, i64_w, i32_w]; rfl)
                  refine pure_ (i := 14) (N := some 82) (v := ?_) (a' := ?_) #[tt,tt,tt,tt,ff,ff,tt,tt,tt,tt,ff,ff,ff,tt,tt,ff,ff,ff,ff,ff,ff] rfl rfl (any_of HT_.out (by kernel_rfl)) (fun _ _ _ h => h) (Or.inl ⟨by rfl, ?_⟩) ?_ ?_
                  rotate_left; focus (intro w'; go_simp; with_reducible rfl)
                  rotate_left; focus (simp only [Act.put, sA, sB, sC, i64_w, i32_w]; rfl)
                  refine pure_ (i := 15) (N := some 83) (v := ?_) (a' := ?_) #[tt,tt,tt,tt,ff,ff,tt,tt,tt,tt,ff,ff,ff,tt,tt,tt,ff,ff,ff,ff,ff] rfl rfl (any_of HT_.out (by kernel_rfl)) (fun _ _ _ h => h) (Or.inl ⟨by rfl, ?_⟩) ?_ ?_
                  rotate_left; focus (intro w'; go_simp; with_reducible rfl)
                  rotate_left; focus (simp only [Act.put, sA, sB, sC, i64_w, i32_w]; rfl)
                  refine pure_ (i := 16) (N := some 84) (v := ?_) (a' := ?_) #[tt,tt,tt,tt,ff,ff,tt,tt,tt,tt,ff,ff,ff,tt,tt,tt,tt,ff,ff,ff,ff] rfl rfl (any_of HT_.out (by kernel_rfl)) (fun _ _ _ h => h) (Or.inl ⟨by rfl, ?_⟩) ?_ ?_
                  rotate_left; focus (intro w'; go_simp; with_reducible rfl)
                  rotate_left; focus (simp only [Act.put, sA, sB, sC, i64_w, i32_w]; rfl)
                  refine take_ (i := 4) (N := some 72) (v := ?_) (a' := ?_) #[tt,tt,tt,tt,tt,ff,tt,tt,tt,tt,ff,ff,ff,tt,tt,tt,tt,ff,ff,ff,ff] rfl rfl (take_ofW HT_.out HW_.out (by kernel_rfl)) (fun _ _ _ h => h) (Or.inl ⟨by rfl, ?_⟩) hHeld ?_ ?_
                  rotate_left; focus (rintro w' ⟨s0, s1, s2⟩; go_simp; with_reducible rfl)
                  rotate_left; focus (simp only [Act.put, sA, sB, sC, i64_w, i32_w]; rfl)
                  refine take_ (i := 10) (N := some 78) (v := ?_) (a' := ?_) #[tt,tt,tt,tt,tt,ff,tt,tt,tt,tt,tt,ff,ff,tt,tt,tt,tt,ff,ff,ff,ff] rfl rfl (take_ofW HT_.out HW_.out (by kernel_rfl)) (fun _ _ _ h => h) (Or.inl ⟨by rfl, ?_⟩) hHeld ?_ ?_
                  rotate_left; focus (rintro w' ⟨s0, s1, s2⟩; go_simp; with_reducible rfl)
                  rotate_left; focus (simp only [Act.put, sA, sB, sC, i64_w, i32_w]; rfl)
                  refine take_ (i := 17) (N := some 85) (v := ?_) (a' := ?_) #[tt,tt,tt,tt,tt,ff,tt,tt,tt,tt,tt,ff,ff,tt,tt,tt,tt,tt,ff,ff,ff] rfl rfl (take_ofW HT_.out HW_.out (by kernel_rfl)) (fun _ _ _ h => h) (Or.inl ⟨by rfl, ?_⟩) hHeld ?_ ?_
                  rotate_left; focus (rintro w' ⟨s0, s1, s2⟩; go_simp; with_reducible rfl)
                  rotate_left; focus (simp only [Act.put, sA, sB, sC, i64_w, i32_w]; rfl)
                  refine pure_ (i := 18) (N := some 86) (v := ?_) (a' := ?_) #[tt,tt,tt,tt,tt,ff,tt,tt,tt,tt,tt,ff,ff,tt,tt,tt,tt,tt,tt,ff,ff] rfl rfl (any_of HT_.out (by kernel_rfl)) (fun _ _ _ h => h) (Or.inl ⟨by rfl, ?_⟩) ?_ ?_
                  rotate_left; focus (intro w'; go_simp; with_reducible rfl)
                  rotate_left; focus (simp only [Act.put, sA, sB, sC, i64_w, i32_w]; rfl)
                  refine one_ (i := 5) (N := some 73) #[tt,tt,tt,tt,tt,tt,tt,tt,tt,tt,tt,ff,ff,tt,tt,tt,tt,tt,tt,ff,ff] rfl rfl (one_of HT_.out (by kernel_rfl)) (by decide) (fun K hK => ?_)
                  refine goes_ Try.func60 (by kernel_rfl) rfl #[.int .i64 (rd x7_2 (ji26)), .int .i64 7] (by rfl) rfl rfl (by (try simp only [List.map_toArray, List.map_cons, List.map_nil]); first | done | (simp only [hji26]; rfl) | rfl | (simp only [List.length_drop, List.length_take]; rfl)) ?_
                  with_reducible refine (spec_l04Turn.calls (rd x7_2 (ji26)) 7 t154 _ A29.out).mono ?_
                  rintro e w' ⟨rfl, ⟨nd, rfl⟩⟩
                  refine ⟨_, rfl, ?_⟩
                  refine hK.out _ _ ⟨hHeld.1, hHeld.2.1, hHeld.2.2⟩ (fun hHeld => ?_)
                  clear hK K
                  refine norm_ (a' := ?_) ?_ ?_
                  rotate_left
                  ·
                   show Act.put _ (some 73) _ = _
                   simp only [Act.put, sA, sB, sC, i64_w, i32_w]
                   rfl
                  refine one_ (i := 11) (N := some 79) #[tt,tt,tt,tt,tt,tt,tt,tt,tt,tt,tt,tt,ff,tt,tt,tt,tt,tt,tt,ff,ff] rfl rfl (one_of HT_.out (by kernel_rfl)) (by decide) (fun K hK => ?_)
                  refine goes_ Try.func60 (by kernel_rfl) rfl #[.int .i64 (rd x7_2 (ji26)), .int .i64 18] (by rfl) rfl rfl (by (try simp only [List.map_toArray, List.map_cons, List.map_nil]); first | done | (simp only [hji26]; rfl) | rfl | (simp only [List.length_drop, List.length_take]; rfl)) ?_
                  with_reducible refine (spec_l04Turn.calls (rd x7_2 (ji26)) 18 t156 _ A30.out).mono ?_
                  rintro e w' ⟨rfl, ⟨nd, rfl⟩⟩
                  refine ⟨_, rfl, ?_⟩
                  refine hK.out _ _ ⟨hHeld.1, hHeld.2.1, hHeld.2.2⟩ (fun hHeld => ?_)
                  clear hK K
                  refine norm_ (a' := ?_) ?_ ?_
                  rotate_left
                  ·
                   show Act.put _ (some 79) _ = _
                   simp only [Act.put, sA, sB, sC, i64_w, i32_w]
                   rfl
                  refine pure_ (i := 12) (N := some 80) (v := ?_) (a' := ?_) #[tt,tt,tt,tt,tt,tt,tt,tt,tt,tt,tt,tt,tt,tt,tt,tt,tt,tt,tt,ff,ff] rfl rfl (any_of HT_.out (by kernel_rfl)) (fun _ _ _ h => h) (Or.inl ⟨by rfl, ?_⟩) ?_ ?_
                  rotate_left; focus (intro w'; go_simp; with_reducible rfl)
                  rotate_left; focus (simp only [Act.put, sA, sB, sC, i64_w, i32_w]; rfl)
                  refine pure_ (i := 19) (N := some 87) (v := ?_) (a' := ?_) #[tt,tt,tt,tt,tt,tt,tt,tt,tt,tt,tt,tt,tt,tt,tt,tt,tt,tt,tt,tt,ff] rfl rfl (any_of HT_.out (by kernel_rfl)) (fun _ _ _ h => h) (Or.inl ⟨by rfl, ?_⟩) ?_ ?_
                  rotate_left; focus (intro w'; go_simp; with_reducible rfl)
                  rotate_left; focus (simp only [Act.put, sA, sB, sC, i64_w, i32_w]; rfl)
                  refine pure_ (i := 20) (N := some 10) (v := ?_) (a' := ?_) #[tt,tt,tt,tt,tt,tt,tt,tt,tt,tt,tt,tt,tt,tt,tt,tt,tt,tt,tt,tt,tt] rfl rfl (any_of HT_.out (by kernel_rfl)) (fun _ _ _ h => h) (Or.inl ⟨by rfl, ?_⟩) ?_ ?_
                  rotate_left; focus (intro w'; go_simp; with_reducible rfl)
                  rotate_left; focus (simp only [Act.put, sA, sB, sC, i64_w, i32_w]; rfl)
                  refine done_ (done_of HT_.out (by kernel_rfl)) ?_
                  try go_wp2
                  (try (rw [drewN_self w45]; generalize hq_ : World.drewN w45 _ = w45; have n0_ : Aside0 (Kd.R (Kd.int .i64) 3 w45 w.heap.size (fun _ => True) (.slice (some ad153) x7_2.length co46) x7_2) := ⟨by rw [← hq_]; exact (by (with_reducible repeat (first | apply Kd.R_alloc | apply Kd.R_drewN | apply Kd.R_drew)); exact HO_7.out)⟩; have n1_ : Aside0 (Below w.heap.size w w45) := ⟨by rw [← hq_]; exact (by repeat (first | (with_reducible first | exact HB.out | apply below_alloc | apply pw_below_drewN | apply below_drew1) | exact HB.out))⟩; clear HO_7 HB hq_; have HO_7 := n0_; have HB := n1_; clear n0_ n1_))
                  have n0_ := Aside0.mk (Kd.R_drew HO_7.out)
                  have n1_ := Aside0.mk (below_drew1 HB.out)
                  clear HO_7
                  clear HB
                  have HO_7 := n0_
                  have HB := n1_
                  clear n0_ n1_
                  have p158 : 0 ≤ ((ji31) : Int) := of_decide_eq_true (by first | (with_reducible assumption) | assumption)
                  have q158 : (ji31) < (x7_2.length : Int) := of_decide_eq_true (by first | (with_reducible assumption) | assumption)
                  obtain ⟨ad158, e158, hx158_0⟩ := Kd.at_int (Kd.R_reads' HO_7.out).2.2 (ji31) p158 q158
                  obtain rfl : ad153 = ad158 := (by injection e158)
                  replace p158 := eq_true p158
                  replace q158 := eq_true q158
                  have p160 : 0 ≤ ((ji31) : Int) := of_decide_eq_true (by first | (with_reducible assumption) | assumption)
                  have q160 : (ji31) < (x7_2.length : Int) := of_decide_eq_true (by first | (with_reducible assumption) | assumption)
                  obtain ⟨ad160, e160, hx160_0⟩ := Kd.at_int (Kd.R_reads' HO_7.out).2.2 (ji31) p160 q160
                  obtain rfl : ad153 = ad160 := (by injection e160)
                  replace p160 := eq_true p160
                  replace q160 := eq_true q160
                  have p162 : 0 ≤ ((ji31) : Int) := of_decide_eq_true (by first | (with_reducible assumption) | assumption)
                  have q162 : (ji31) < (x7_2.length : Int) := of_decide_eq_true (by first | (with_reducible assumption) | assumption)
                  obtain ⟨ad162, e162, hx162_0⟩ := Kd.at_int (Kd.R_reads' HO_7.out).2.2 (ji31) p162 q162
                  obtain rfl : ad153 = ad162 := (by injection e162)
                  replace p162 := eq_true p162
                  replace q162 := eq_true q162
                  refine start_ (n := 21) (S := fun w' => w'.cell? (ad153.add ((ji31)).toNat) = some (.int .i64 (rd x7_2 (ji31))) ∧ w'.cell? (ad153.add ((ji31)).toNat) = some (.int .i64 (rd x7_2 (ji31))) ∧ w'.cell? (ad153.add ((ji31)).toNat) = some (.int .i64 (rd x7_2 (ji31)))) (ds := []) #[ff,ff,ff,ff,ff,ff,ff,ff,ff,ff,ff,ff,ff,ff,ff,ff,ff,ff,ff,ff,ff] (by kernel_rfl) rfl rfl ⟨hx158_0, hx160_0, hx162_0⟩ (fun hHeld => ?_); refine with_tabW spec_l04Block.tab10 spec_l04Block.bits10 (fun HT_ HW_ => ?_)
                  generalize w45.drew = w47 at HO_7 HB hx158_0 hx160_0 hx162_0 hHeld ⊢
                  refine pure_ (i := 0) (N := some 88) (v := ?_) (a' := ?_) #[tt,ff,ff,ff,ff,ff,ff,ff,ff,ff,ff,ff,ff,ff,ff,ff,ff,ff,ff,ff,ff] rfl rfl (any_of HT_.out (by kernel_rfl)) (fun _ _ _ h => h) (Or.inl ⟨by rfl, ?_⟩) ?_ ?_
                  rotate_left; focus (intro w'; go_simp; with_reducible rfl)
                  rotate_left; focus (simp only [Act.put, sA, sB, sC, i64_w, i32_w]; rfl)
                  refine pure_ (i := 1) (N := some 89) (v := ?_) (a' := ?_) #[tt,tt,ff,ff,ff,ff,ff,ff,ff,ff,ff,ff,ff,ff,ff,ff,ff,ff,ff,ff,ff] rfl rfl (any_of HT_.out (by kernel_rfl)) (fun _ _ _ h => h) (Or.inl ⟨by rfl, ?_⟩) ?_ ?_
                  rotate_left; focus (intro w'; go_simp; with_reducible rfl)
                  rotate_left; focus (simp only [Act.put, sA, sB, sC, i64_w, i32_w]; rfl)
                  refine pure_ (i := 2) (N := some 90) (v := ?_) (a' := ?_) #[tt,tt,tt,ff,ff,ff,ff,ff,ff,ff,ff,ff,ff,ff,ff,ff,ff,ff,ff,ff,ff] rfl rfl (any_of HT_.out (by kernel_rfl)) (fun _ _ _ h => h) (Or.inl ⟨by rfl, ?_⟩) ?_ ?_
                  rotate_left; focus (intro w'; go_simp; with_reducible rfl)
                  rotate_left; focus (simp only [Act.put, sA, sB, sC, i64_w, i32_w]; rfl)
                  refine pure_ (i := 3) (N := some 91) (v := ?_) (a' := ?_) #[tt,tt,tt,tt,ff,ff,ff,ff,ff,ff,ff,ff,ff,ff,ff,ff,ff,ff,ff,ff,ff] rfl rfl (any_of HT_.out (by kernel_rfl)) (fun _ _ _ h => h) (Or.inl ⟨by rfl, ?_⟩) ?_ ?_
                  rotate_left; focus (intro w'; go_simp; with_reducible rfl)
                  rotate_left; focus (simp only [Act.put, sA, sB, sC, i64_w, i32_w]; rfl)
                  refine pure_ (i := 6) (N := some 94) (v := ?_) (a' := ?_) #[tt,tt,tt,tt,ff,ff,tt,ff,ff,ff,ff,ff,ff,ff,ff,ff,ff,ff,ff,ff,ff] rfl rfl (any_of HT_.out (by kernel_rfl)) (fun _ _ _ h => h) (Or.inl ⟨by rfl, ?_⟩) ?_ ?_
                  rotate_left; focus (intro w'; go_simp; with_reducible rfl)
                  rotate_left; focus (simp only [Act.put, sA, sB, sC, i64_w, i32_w]; rfl)
                  refine pure_ (i := 7) (N := some 95) (v := ?_) (a' := ?_) #[tt,tt,tt,tt,ff,ff,tt,tt,ff,ff,ff,ff,ff,ff,ff,ff,ff,ff,ff,ff,ff] rfl rfl (any_of HT_.out (by kernel_rfl)) (fun _ _ _ h => h) (Or.inl ⟨by rfl, ?_⟩) ?_ ?_
                  rotate_left; focus (intro w'; go_simp; with_reducible rfl)
                  rotate_left; focus (simp only [Act.put, sA, sB, sC, i64_w, i32_w]; rfl)
                  refine pure_ (i := 8) (N := some 96) (v := ?_) (a' := ?_) #[tt,tt,tt,tt,ff,ff,tt,tt,tt,ff,ff,ff,ff,ff,ff,ff,ff,ff,ff,ff,ff] rfl rfl (any_of HT_.out (by kernel_rfl)) (fun _ _ _ h => h) (Or.inl ⟨by rfl, ?_⟩) ?_ ?_
                  rotate_left; focus (intro w'; go_simp; with_reducible rfl)
                  rotate_left; focus (simp only [Act.put, sA, sB, sC, i64_w, i32_w]; rfl)
                  refine pure_ (i := 9) (N := some 97) (v := ?_) (a' := ?_) #[tt,tt,tt,tt,ff,ff,tt,tt,tt,tt,ff,ff,ff,ff,ff,ff,ff,ff,ff,ff,ff] rfl rfl (any_of HT_.out (by kernel_rfl)) (fun _ _ _ h => h) (Or.inl ⟨by rfl, ?_⟩) ?_ ?_
                  rotate_left; focus (intro w'; go_simp; with_reducible rfl)
                  rotate_left; focus (simp only [Act.put, sA, sB, sC, i64_w, i32_w]; rfl)
                  refine pure_ (i := 13) (N := some 101) (v := ?_) (a' := ?_) #[tt,tt,tt,tt,ff,ff,tt,tt,tt,tt,ff,ff,ff,tt,ff,ff,ff,ff,ff,ff,ff] rfl rfl (any_of HT_.out (by kernel_rfl)) (fun _ _ _ h => h) (Or.inl ⟨by rfl, ?_⟩) ?_ ?_
                  rotate_left; focus (intro w'; go_simp; with_reducible rfl)
                  rotate_left; focus (simp only [Act.put, sA, sB, sC, i64_w, i32_w]; rfl)
                  refine pure_ (i := 14) (N := some 102) (v := ?_) (a' := ?_) #[tt,tt,tt,tt,ff,ff,tt,tt,tt,tt,ff,ff,ff,tt,tt,ff,ff,ff,ff,ff,ff] rfl rfl (any_of HT_.out (by kernel_rfl)) (fun _ _ _ h => h) (Or.inl ⟨by rfl, ?_⟩) ?_ ?_
                  rotate_left; focus (intro w'; go_simp; with_reducible rfl)
                  rotate_left; focus (simp only [Act.put, sA, sB, sC, i64_w, i32_w]; rfl)
                  refine pure_ (i := 15) (N := some 103) (v := ?_) (a' := ?_) #[tt,tt,tt,tt,ff,ff,tt,tt,tt,tt,ff,ff,ff,tt,tt,tt,ff,ff,ff,ff,ff] rfl rfl (any_of HT_.out (by kernel_rfl)) (fun _ _ _ h => h) (Or.inl ⟨by rfl, ?_⟩) ?_ ?_
                  rotate_left; focus (intro w'; go_simp; with_reducible rfl)
                  rotate_left; focus (simp only [Act.put, sA, sB, sC, i64_w, i32_w]; rfl)
                  refine pure_ (i := 16) (N := some 104) (v := ?_) (a' := ?_) #[tt,tt,tt,tt,ff,ff,tt,tt,tt,tt,ff,ff,ff,tt,tt,tt,tt,ff,ff,ff,ff] rfl rfl (any_of HT_.out (by kernel_rfl)) (fun _ _ _ h => h) (Or.inl ⟨by rfl, ?_⟩) ?_ ?_
                  rotate_left; focus (intro w'; go_simp; with_reducible rfl)
                  rotate_left; focus (simp only [Act.put, sA, sB, sC, i64_w, i32_w]; rfl)
                  refine take_ (i := 4) (N := some 92) (v := ?_) (a' := ?_) #[tt,tt,tt,tt,tt,ff,tt,tt,tt,tt,ff,ff,ff,tt,tt,tt,tt,ff,ff,ff,ff] rfl rfl (take_ofW HT_.out HW_.out (by kernel_rfl)) (fun _ _ _ h => h) (Or.inl ⟨by rfl, ?_⟩) hHeld ?_ ?_
                  rotate_left; focus (rintro w' ⟨s0, s1, s2⟩; go_simp; with_reducible rfl)
                  rotate_left; focus (simp only [Act.put, sA, sB, sC, i64_w, i32_w]; rfl)
                  refine take_ (i := 10) (N := some 98) (v := ?_) (a' := ?_) #[tt,tt,tt,tt,tt,ff,tt,tt,tt,tt,tt,ff,ff,tt,tt,tt,tt,ff,ff,ff,ff] rfl rfl (take_ofW HT_.out HW_.out (by kernel_rfl)) (fun _ _ _ h => h) (Or.inl ⟨by rfl, ?_⟩) hHeld ?_ ?_
                  rotate_left; focus (rintro w' ⟨s0, s1, s2⟩; go_simp; with_reducible rfl)
                  rotate_left; focus (simp only [Act.put, sA, sB, sC, i64_w, i32_w]; rfl)
                  refine take_ (i := 17) (N := some 105) (v := ?_) (a' := ?_) #[tt,tt,tt,tt,tt,ff,tt,tt,tt,tt,tt,ff,ff,tt,tt,tt,tt,tt,ff,ff,ff] rfl rfl (take_ofW HT_.out HW_.out (by kernel_rfl)) (fun _ _ _ h => h) (Or.inl ⟨by rfl, ?_⟩) hHeld ?_ ?_
                  rotate_left; focus (rintro w' ⟨s0, s1, s2⟩; go_simp; with_reducible rfl)
                  rotate_left; focus (simp only [Act.put, sA, sB, sC, i64_w, i32_w]; rfl)
                  refine pure_ (i := 18) (N := some 106) (v := ?_) (a' := ?_) #[tt,tt,tt,tt,tt,ff,tt,tt,tt,tt,tt,ff,ff,tt,tt,tt,tt,tt,tt,ff,ff] rfl rfl (any_of HT_.out (by kernel_rfl)) (fun _ _ _ h => h) (Or.inl ⟨by rfl, ?_⟩) ?_ ?_
                  rotate_left; focus (intro w'; go_simp; with_reducible rfl)
                  rotate_left; focus (simp only [Act.put, sA, sB, sC, i64_w, i32_w]; rfl)
                  refine one_ (i := 5) (N := some 93) #[tt,tt,tt,tt,tt,tt,tt,tt,tt,tt,tt,ff,ff,tt,tt,tt,tt,tt,tt,ff,ff] rfl rfl (one_of HT_.out (by kernel_rfl)) (by decide) (fun K hK => ?_)
                  refine goes_ Try.func60 (by kernel_rfl) rfl #[.int .i64 (rd x7_2 (ji31)), .int .i64 17] (by rfl) rfl rfl (by (try simp only [List.map_toArray, List.map_cons, List.map_nil]); first | done | (simp only [hji31]; rfl) | rfl | (simp only [List.length_drop, List.length_take]; rfl)) ?_
                  with_reducible refine (spec_l04Turn.calls (rd x7_2 (ji31)) 17 t159 _ A34.out).mono ?_
                  rintro e w' ⟨rfl, ⟨nd, rfl⟩⟩
                  refine ⟨_, rfl, ?_⟩
                  refine hK.out _ _ ⟨hHeld.1, hHeld.2.1, hHeld.2.2⟩ (fun hHeld => ?_)
                  clear hK K
                  refine norm_ (a' := ?_) ?_ ?_
                  rotate_left
                  ·
                   show Act.put _ (some 93) _ = _
                   simp only [Act.put, sA, sB, sC, i64_w, i32_w]
                   rfl
                  refine one_ (i := 11) (N := some 99) #[tt,tt,tt,tt,tt,tt,tt,tt,tt,tt,tt,tt,ff,tt,tt,tt,tt,tt,tt,ff,ff] rfl rfl (one_of HT_.out (by kernel_rfl)) (by decide) (fun K hK => ?_)
                  refine goes_ Try.func60 (by kernel_rfl) rfl #[.int .i64 (rd x7_2 (ji31)), .int .i64 19] (by rfl) rfl rfl (by (try simp only [List.map_toArray, List.map_cons, List.map_nil]); first | done | (simp only [hji31]; rfl) | rfl | (simp only [List.length_drop, List.length_take]; rfl)) ?_
                  with_reducible refine (spec_l04Turn.calls (rd x7_2 (ji31)) 19 t161 _ A35.out).mono ?_
                  rintro e w' ⟨rfl, ⟨nd, rfl⟩⟩
                  refine ⟨_, rfl, ?_⟩
                  refine hK.out _ _ ⟨hHeld.1, hHeld.2.1, hHeld.2.2⟩ (fun hHeld => ?_)
                  clear hK K
                  refine norm_ (a' := ?_) ?_ ?_
                  rotate_left
                  ·
                   show Act.put _ (some 99) _ = _
                   simp only [Act.put, sA, sB, sC, i64_w, i32_w]
                   rfl
                  refine pure_ (i := 12) (N := some 100) (v := ?_) (a' := ?_) #[tt,tt,tt,tt,tt,tt,tt,tt,tt,tt,tt,tt,tt,tt,tt,tt,tt,tt,tt,ff,ff] rfl rfl (any_of HT_.out (by kernel_rfl)) (fun _ _ _ h => h) (Or.inl ⟨by rfl, ?_⟩) ?_ ?_
                  rotate_left; focus (intro w'; go_simp; with_reducible rfl)
                  rotate_left; focus (simp only [Act.put, sA, sB, sC, i64_w, i32_w]; rfl)
                  refine pure_ (i := 19) (N := some 107) (v := ?_) (a' := ?_) #[tt,tt,tt,tt,tt,tt,tt,tt,tt,tt,tt,tt,tt,tt,tt,tt,tt,tt,tt,tt,ff] rfl rfl (any_of HT_.out (by kernel_rfl)) (fun _ _ _ h => h) (Or.inl ⟨by rfl, ?_⟩) ?_ ?_
                  rotate_left; focus (intro w'; go_simp; with_reducible rfl)
                  rotate_left; focus (simp only [Act.put, sA, sB, sC, i64_w, i32_w]; rfl)
                  refine pure_ (i := 20) (N := some 11) (v := ?_) (a' := ?_) #[tt,tt,tt,tt,tt,tt,tt,tt,tt,tt,tt,tt,tt,tt,tt,tt,tt,tt,tt,tt,tt] rfl rfl (any_of HT_.out (by kernel_rfl)) (fun _ _ _ h => h) (Or.inl ⟨by rfl, ?_⟩) ?_ ?_
                  rotate_left; focus (intro w'; go_simp; with_reducible rfl)
                  rotate_left; focus (simp only [Act.put, sA, sB, sC, i64_w, i32_w]; rfl)
                  refine done_ (done_of HT_.out (by kernel_rfl)) ?_
                  try go_wp2
                  (try (rw [drewN_self w47]; generalize hq_ : World.drewN w47 _ = w47; have n0_ : Aside0 (Kd.R (Kd.int .i64) 3 w47 w.heap.size (fun _ => True) (.slice (some ad153) x7_2.length co46) x7_2) := ⟨by rw [← hq_]; exact (by (with_reducible repeat (first | apply Kd.R_alloc | apply Kd.R_drewN | apply Kd.R_drew)); exact HO_7.out)⟩; have n1_ : Aside0 (Below w.heap.size w w47) := ⟨by rw [← hq_]; exact (by repeat (first | (with_reducible first | exact HB.out | apply below_alloc | apply pw_below_drewN | apply below_drew1) | exact HB.out))⟩; clear HO_7 HB hq_; have HO_7 := n0_; have HB := n1_; clear n0_ n1_))
                  have n0_ := Aside0.mk (Kd.R_drew HO_7.out)
                  have n1_ := Aside0.mk (below_drew1 HB.out)
                  clear HO_7
                  clear HB
                  have HO_7 := n0_
                  have HB := n1_
                  clear n0_ n1_
                  have p163 : 0 ≤ ((ji36) : Int) := of_decide_eq_true (by first | (with_reducible assumption) | assumption)
                  have q163 : (ji36) < (x7_2.length : Int) := of_decide_eq_true (by first | (with_reducible assumption) | assumption)
                  obtain ⟨ad163, e163, hx163_0⟩ := Kd.at_int (Kd.R_reads' HO_7.out).2.2 (ji36) p163 q163
                  obtain rfl : ad153 = ad163 := (by injection e163)
                  replace p163 := eq_true p163
                  replace q163 := eq_true q163
                  have p164 : 0 ≤ ((ji39) : Int) := of_decide_eq_true (by first | (with_reducible assumption) | assumption)
                  have q164 : (ji39) < (x7_2.length : Int) := of_decide_eq_true (by first | (with_reducible assumption) | assumption)
                  obtain ⟨ad164, e164, hx164_0⟩ := Kd.at_int (Kd.R_reads' HO_7.out).2.2 (ji39) p164 q164
                  obtain rfl : ad153 = ad164 := (by injection e164)
                  replace p164 := eq_true p164
                  replace q164 := eq_true q164
                  have p44 : 0 ≤ (x9_2 : Int) := of_decide_eq_true (by first | (with_reducible assumption) | assumption)
                  have q44 : (x9_2 : Int) < ((x7_2.length : Int) : Int) := of_decide_eq_true (by first | (with_reducible assumption) | assumption)
                  obtain ⟨go44, co44, eo44, gb44, gl44, cl44, HG44⟩ := Kd.R_form HO_7.out (by omega)
                  (first | cases eo44 | (injection eo44 with ea_ en_ ec_; (first | subst ea_ | (injection ea_ with ea_; subst ea_)); subst ec_; clear en_))
                  have GB44 := Aside0.mk gb44
                  have GG44 := Aside0.mk HG44
                  clear gb44 gl44 HG44
                  (first | simp only [add_plain] at hx153_0 | skip)
                  (first | simp only [add_plain] at hx155_0 | skip)
                  (first | simp only [add_plain] at hx157_0 | skip)
                  (first | simp only [add_plain] at hx158_0 | skip)
                  (first | simp only [add_plain] at hx160_0 | skip)
                  (first | simp only [add_plain] at hx162_0 | skip)
                  (first | simp only [add_plain] at hx163_0 | skip)
                  (first | simp only [add_plain] at hx164_0 | skip)
                  obtain ⟨hx44_0, hf44_0⟩ := Kd.R_celln 0 HO_7.out (x9_2 : Int) p44 q44
                  replace p44 := eq_true p44
                  replace q44 := eq_true q44
                  have HP49 := Kd.R_putn HO_7.out (x9_2 : Int) (Go.bits .and .i64 (wrap64 ((wrap64 ((wrap64 ((rd x7_2 (ji36)) + (Go.bits .xor .i64 (Go.bits .xor .i64 t154 t156) ((rd x7_2 (ji26)) / 8)))) + (rd x7_2 (ji39)))) + (Go.bits .xor .i64 (Go.bits .xor .i64 t159 t161) ((rd x7_2 (ji31)) / 1024)))) 4294967295)
                  rw [← Ny165.out] at HP49
                  have HQ49 := Aside0.mk HP49
                  clear HP49
                  refine start_ (n := 20) (S := fun w' => w'.cell? ⟨go44, ((ji36)).toNat, none⟩ = some (.int .i64 (rd x7_2 (ji36))) ∧ w'.cell? ⟨go44, ((ji39)).toNat, none⟩ = some (.int .i64 (rd x7_2 (ji39)))) (ds := [19]) #[ff,ff,ff,ff,ff,ff,ff,ff,ff,ff,ff,ff,ff,ff,ff,ff,ff,ff,ff,ff] (by kernel_rfl) rfl rfl ⟨hx163_0, hx164_0⟩ (fun hHeld => ?_); refine with_tabW spec_l04Block.tab11 spec_l04Block.bits11 (fun HT_ HW_ => ?_)
                  generalize w47.drew = w48 at HO_7 HB GG44 HQ49 hf44_0 hx153_0 hx155_0 hx157_0 hx158_0 hx160_0 hx162_0 hx163_0 hx164_0 hx44_0 hHeld ⊢
                  refine pure_ (i := 0) (N := some 108) (v := ?_) (a' := ?_) #[tt,ff,ff,ff,ff,ff,ff,ff,ff,ff,ff,ff,ff,ff,ff,ff,ff,ff,ff,ff] rfl rfl (any_of HT_.out (by kernel_rfl)) (fun _ _ _ h => h) (Or.inl ⟨by rfl, ?_⟩) ?_ ?_
                  rotate_left; focus (intro w'; go_simp; with_reducible rfl)
                  rotate_left; focus (simp only [Act.put, sA, sB, sC, i64_w, i32_w]; rfl)
                  refine pure_ (i := 1) (N := some 109) (v := ?_) (a' := ?_) #[tt,tt,ff,ff,ff,ff,ff,ff,ff,ff,ff,ff,ff,ff,ff,ff,ff,ff,ff,ff] rfl rfl (any_of HT_.out (by kernel_rfl)) (fun _ _ _ h => h) (Or.inl ⟨by rfl, ?_⟩) ?_ ?_
                  rotate_left; focus (intro w'; go_simp; with_reducible rfl)
                  rotate_left; focus (simp only [Act.put, sA, sB, sC, i64_w, i32_w]; rfl)
                  refine pure_ (i := 2) (N := some 110) (v := ?_) (a' := ?_) #[tt,tt,tt,ff,ff,ff,ff,ff,ff,ff,ff,ff,ff,ff,ff,ff,ff,ff,ff,ff] rfl rfl (any_of HT_.out (by kernel_rfl)) (fun _ _ _ h => h) (Or.inl ⟨by rfl, ?_⟩) ?_ ?_
                  rotate_left; focus (intro w'; go_simp; with_reducible rfl)
                  rotate_left; focus (simp only [Act.put, sA, sB, sC, i64_w, i32_w]; rfl)
                  refine pure_ (i := 3) (N := some 111) (v := ?_) (a' := ?_) #[tt,tt,tt,tt,ff,ff,ff,ff,ff,ff,ff,ff,ff,ff,ff,ff,ff,ff,ff,ff] rfl rfl (any_of HT_.out (by kernel_rfl)) (fun _ _ _ h => h) (Or.inl ⟨by rfl, ?_⟩) ?_ ?_
                  rotate_left; focus (intro w'; go_simp; with_reducible rfl)
                  rotate_left; focus (simp only [Act.put, sA, sB, sC, i64_w, i32_w]; rfl)
                  refine pure_ (i := 4) (N := some 112) (v := ?_) (a' := ?_) #[tt,tt,tt,tt,tt,ff,ff,ff,ff,ff,ff,ff,ff,ff,ff,ff,ff,ff,ff,ff] rfl rfl (any_of HT_.out (by kernel_rfl)) (fun _ _ _ h => h) (Or.inl ⟨by rfl, ?_⟩) ?_ ?_
                  rotate_left; focus (intro w'; go_simp; with_reducible rfl)
                  rotate_left; focus (simp only [Act.put, sA, sB, sC, i64_w, i32_w]; rfl)
                  refine pure_ (i := 5) (N := some 113) (v := ?_) (a' := ?_) #[tt,tt,tt,tt,tt,tt,ff,ff,ff,ff,ff,ff,ff,ff,ff,ff,ff,ff,ff,ff] rfl rfl (any_of HT_.out (by kernel_rfl)) (fun _ _ _ h => h) (Or.inl ⟨by rfl, ?_⟩) ?_ ?_
                  rotate_left; focus (intro w'; go_simp; with_reducible rfl)
                  rotate_left; focus (simp only [Act.put, sA, sB, sC, i64_w, i32_w]; rfl)
                  refine pure_ (i := 7) (N := some 115) (v := ?_) (a' := ?_) #[tt,tt,tt,tt,tt,tt,ff,tt,ff,ff,ff,ff,ff,ff,ff,ff,ff,ff,ff,ff] rfl rfl (any_of HT_.out (by kernel_rfl)) (fun _ _ _ h => h) (Or.inl ⟨by rfl, ?_⟩) ?_ ?_
                  rotate_left; focus (intro w'; go_simp; with_reducible rfl)
                  rotate_left; focus (simp only [Act.put, sA, sB, sC, i64_w, i32_w]; rfl)
                  refine pure_ (i := 9) (N := some 117) (v := ?_) (a' := ?_) #[tt,tt,tt,tt,tt,tt,ff,tt,ff,tt,ff,ff,ff,ff,ff,ff,ff,ff,ff,ff] rfl rfl (any_of HT_.out (by kernel_rfl)) (fun _ _ _ h => h) (Or.inl ⟨by rfl, ?_⟩) ?_ ?_
                  rotate_left; focus (intro w'; go_simp; with_reducible rfl)
                  rotate_left; focus (simp only [Act.put, sA, sB, sC, i64_w, i32_w]; rfl)
                  refine pure_ (i := 10) (N := some 118) (v := ?_) (a' := ?_) #[tt,tt,tt,tt,tt,tt,ff,tt,ff,tt,tt,ff,ff,ff,ff,ff,ff,ff,ff,ff] rfl rfl (any_of HT_.out (by kernel_rfl)) (fun _ _ _ h => h) (Or.inl ⟨by rfl, ?_⟩) ?_ ?_
                  rotate_left; focus (intro w'; go_simp; with_reducible rfl)
                  rotate_left; focus (simp only [Act.put, sA, sB, sC, i64_w, i32_w]; rfl)
                  refine pure_ (i := 11) (N := some 119) (v := ?_) (a' := ?_) #[tt,tt,tt,tt,tt,tt,ff,tt,ff,tt,tt,tt,ff,ff,ff,ff,ff,ff,ff,ff] rfl rfl (any_of HT_.out (by kernel_rfl)) (fun _ _ _ h => h) (Or.inl ⟨by rfl, ?_⟩) ?_ ?_
                  rotate_left; focus (intro w'; go_simp; with_reducible rfl)
                  rotate_left; focus (simp only [Act.put, sA, sB, sC, i64_w, i32_w]; rfl)
                  refine pure_ (i := 12) (N := some 120) (v := ?_) (a' := ?_) #[tt,tt,tt,tt,tt,tt,ff,tt,ff,tt,tt,tt,tt,ff,ff,ff,ff,ff,ff,ff] rfl rfl (any_of HT_.out (by kernel_rfl)) (fun _ _ _ h => h) (Or.inl ⟨by rfl, ?_⟩) ?_ ?_
                  rotate_left; focus (intro w'; go_simp; with_reducible rfl)
                  rotate_left; focus (simp only [Act.put, sA, sB, sC, i64_w, i32_w]; rfl)
                  refine pure_ (i := 15) (N := some 123) (v := ?_) (a' := ?_) #[tt,tt,tt,tt,tt,tt,ff,tt,ff,tt,tt,tt,tt,ff,ff,tt,ff,ff,ff,ff] rfl rfl (any_of HT_.out (by kernel_rfl)) (fun _ _ _ h => h) (Or.inl ⟨by rfl, ?_⟩) ?_ ?_
                  rotate_left; focus (intro w'; go_simp; with_reducible rfl)
                  rotate_left; focus (simp only [Act.put, sA, sB, sC, i64_w, i32_w]; rfl)
                  refine take_ (i := 6) (N := some 114) (v := ?_) (a' := ?_) #[tt,tt,tt,tt,tt,tt,tt,tt,ff,tt,tt,tt,tt,ff,ff,tt,ff,ff,ff,ff] rfl rfl (take_ofW HT_.out HW_.out (by kernel_rfl)) (fun _ _ _ h => h) (Or.inl ⟨by rfl, ?_⟩) hHeld ?_ ?_
                  rotate_left; focus (rintro w' ⟨s0, s1⟩; go_simp; with_reducible rfl)
                  rotate_left; focus (simp only [Act.put, sA, sB, sC, i64_w, i32_w]; rfl)
                  refine pure_ (i := 8) (N := some 116) (v := ?_) (a' := ?_) #[tt,tt,tt,tt,tt,tt,tt,tt,tt,tt,tt,tt,tt,ff,ff,tt,ff,ff,ff,ff] rfl rfl (any_of HT_.out (by kernel_rfl)) (fun _ _ _ h => h) (Or.inl ⟨by rfl, ?_⟩) ?_ ?_
                  rotate_left; focus (intro w'; go_simp; with_reducible rfl)
                  rotate_left; focus (simp only [Act.put, sA, sB, sC, i64_w, i32_w]; rfl)
                  refine take_ (i := 13) (N := some 121) (v := ?_) (a' := ?_) #[tt,tt,tt,tt,tt,tt,tt,tt,tt,tt,tt,tt,tt,tt,ff,tt,ff,ff,ff,ff] rfl rfl (take_ofW HT_.out HW_.out (by kernel_rfl)) (fun _ _ _ h => h) (Or.inl ⟨by rfl, ?_⟩) hHeld ?_ ?_
                  rotate_left; focus (rintro w' ⟨s0, s1⟩; go_simp; with_reducible rfl)
                  rotate_left; focus (simp only [Act.put, sA, sB, sC, i64_w, i32_w]; rfl)
                  refine pure_ (i := 14) (N := some 122) (v := ?_) (a' := ?_) #[tt,tt,tt,tt,tt,tt,tt,tt,tt,tt,tt,tt,tt,tt,tt,tt,ff,ff,ff,ff] rfl rfl (any_of HT_.out (by kernel_rfl)) (fun _ _ _ h => h) (Or.inl ⟨by rfl, ?_⟩) ?_ ?_
                  rotate_left; focus (intro w'; go_simp; with_reducible rfl)
                  rotate_left; focus (simp only [Act.put, sA, sB, sC, i64_w, i32_w]; rfl)
                  refine pure_ (i := 16) (N := some 124) (v := ?_) (a' := ?_) #[tt,tt,tt,tt,tt,tt,tt,tt,tt,tt,tt,tt,tt,tt,tt,tt,tt,ff,ff,ff] rfl rfl (any_of HT_.out (by kernel_rfl)) (fun _ _ _ h => h) (Or.inl ⟨by rfl, ?_⟩) ?_ ?_
                  rotate_left; focus (intro w'; go_simp; with_reducible rfl)
                  rotate_left; focus (simp only [Act.put, sA, sB, sC, i64_w, i32_w]; rfl)
                  refine pure_ (i := 17) (N := some 125) (v := ?_) (a' := ?_) #[tt,tt,tt,tt,tt,tt,tt,tt,tt,tt,tt,tt,tt,tt,tt,tt,tt,tt,ff,ff] rfl rfl (any_of HT_.out (by kernel_rfl)) (fun _ _ _ h => h) (Or.inl ⟨by rfl, ?_⟩) ?_ ?_
                  rotate_left; focus (intro w'; go_simp; with_reducible rfl)
                  rotate_left; focus (simp only [Act.put, sA, sB, sC, i64_w, i32_w]; rfl)
                  refine pure_ (i := 18) (N := some 126) (v := ?_) (a' := ?_) #[tt,tt,tt,tt,tt,tt,tt,tt,tt,tt,tt,tt,tt,tt,tt,tt,tt,tt,tt,ff] rfl rfl (any_of HT_.out (by kernel_rfl)) (fun _ _ _ h => h) (Or.inl ⟨by rfl, ?_⟩) ?_ ?_
                  rotate_left; focus (intro w'; go_simp; with_reducible rfl)
                  rotate_left; focus (simp only [Act.put, sA, sB, sC, i64_w, i32_w]; rfl)
                  refine last_ (i := 19) (N := none) #[tt,tt,tt,tt,tt,tt,tt,tt,tt,tt,tt,tt,tt,tt,tt,tt,tt,tt,tt,tt] rfl rfl (one_of HT_.out (by kernel_rfl)) (by decide) (fun K hK => ?_)
                  refine skip_ (w1 := ?_) (by rfl) rfl ?_ ?_
                  rotate_left
                  ·
                   go_simp
                   rfl
                  refine hK.out _ _ ?_
                  clear hK K
                  refine done_ (done_of HT_.out (by kernel_rfl)) ?_
                  try go_wp2
                  go_roundg k2
                  case measure => have := HK1.out; have := HK2.out; omega
                  case rel => exact ⟨(y165), (wrap64 (x9_2 + 1)), (by first | rfl | (simp; done) | (simp [*]; done)), H', ⟨by have := HK1.out; have := HK2.out; omega⟩, ⟨by (with_reducible repeat (first | apply Kd.R_alloc | apply Kd.R_drewN | apply Kd.R_drew)); exact HQ49.out⟩, ⟨by repeat (first | (with_reducible first | exact HB.out | apply below_alloc | apply pw_below_drewN | apply below_drew1 | refine below_set ?_ GB44.out) | exact HB.out)⟩⟩
                 ·
                  rw [if_neg c43] at H
                  exact absurd H (by simp)
                ·
                 rw [if_neg c42] at H
                 exact absurd H (by simp)
               ·
                rw [if_neg c41] at H
                exact absurd H (by simp)
              ·
               rw [if_neg c40] at H
               exact absurd H (by simp)
             ·
              rw [if_neg c38] at H
              exact absurd H (by simp)
            ·
             rw [if_neg c37] at H
             exact absurd H (by simp)
           ·
            rw [if_neg c33] at H
            exact absurd H (by simp)
          ·
           rw [if_neg c32] at H
           exact absurd H (by simp)
         ·
          rw [if_neg c28] at H
          exact absurd H (by simp)
        ·
         rw [if_neg c27] at H
         exact absurd H (by simp)
       ·
        rw [if_neg c25] at H
        have c25b0 : decide (x9_2 < 64) = false := decide_eq_false c25
        clear c25
        obtain ⟨y166, hy166⟩ : ∃ y_ : List Int, y_ = (([] : List Int)) := ⟨_, rfl⟩
        replace H : (if y166.length + l0.length < 17592186044416 then (spec_l04Block.l2 k2 l0 l1 x7_2 (y166 ++ l0) 0) else (none)) = some r := by first | (rw [hy166]; with_reducible exact H) | (have H2_ := (Option.bind_some _ _).symm.trans H; rw [hy166]; with_reducible exact H2_) | (have H2_ := (Option.bind_some _ _).symm.trans H; with_reducible exact H2_) | with_reducible exact H | (rw [hy166]; exact H) | exact H
        have Ny166 := Aside0.mk hy166
        clear hy166
        by_cases c50 : y166.length + l0.length < 17592186044416
        ·
         rw [if_pos c50] at H
         have LMc50 := Aside0.mk c50
         clear c50
         obtain ⟨y169, hy169⟩ : ∃ y_ : List Int, y_ = (y166 ++ l0) := ⟨_, rfl⟩
         replace H : (spec_l04Block.l2 k2 l0 l1 x7_2 y169 0) = some r := by first | (rw [hy169]; with_reducible exact H) | (have H2_ := (Option.bind_some _ _).symm.trans H; rw [hy169]; with_reducible exact H2_) | (have H2_ := (Option.bind_some _ _).symm.trans H; with_reducible exact H2_) | with_reducible exact H | (rw [hy169]; exact H) | exact H
         have Ny169 := Aside0.mk hy169
         clear hy169
         have H' := Aside0.mk H
         clear H
         go_wp2_with (first | ((with_reducible refine gate_dst (N := 127) rfl ?_); refine Kd.R_lit (Kd.int .i64) _ 3 ?hg (N := 127) ?hd (xs := ([] : List Int)) (inner := []) (ok := fun _ => True) (okp := fun _ => True) ?hr ?hp (fun _ hk => hk) trivial (Below.refl _ _) (Nat.le_refl _) (by simp) ?_; (case hd => rfl); (case hg => rfl); (case hr => first | (go_simp; done) | (go_simp; rfl)); (case hp => exact (Reps.none _ _)); intro v167 w51 ho52 hb hg_ hnew_; clear hg_ hnew_; (first | rw [← Ny166.out] at ho52 | (simp only [Int.reduceToNat] at ho52; rw [← Ny166.out] at ho52)); have n0_ := Aside0.mk (Kd.R_elder' (by (with_reducible repeat (first | apply Kd.R_alloc | apply Kd.R_drewN | apply Kd.R_drew)); exact HO_7.out) (Kd.R_base ho52) hb); have n1_ := Aside0.mk (Kd.R_lower (Kd.R_new' ho52 (Kd.R_lt (by (with_reducible repeat (first | apply Kd.R_alloc | apply Kd.R_drewN | apply Kd.R_drew)); exact HO_7.out))) (below_size (by repeat (first | (with_reducible first | exact HB.out | apply below_alloc | apply pw_below_drewN | apply below_drew1) | exact HB.out)))); have n2_ := Aside0.mk (below_step (by repeat (first | (with_reducible first | exact HB.out | apply below_alloc | apply pw_below_drewN | apply below_drew1) | exact HB.out)) hb); clear HO_7; clear HB; have HO_7 := n0_; have HO168 := n1_; have HB := n2_; clear n0_ n1_ n2_; clear hb ho52) | ((with_reducible refine gate_builtin (b := .append) (xs := #[.tmp 127, .tmp 128]) rfl ?_); at_builtin; refine Kd.R_append_rows (Kd.int .i64) (w0 := w) w.heap.size rfl (.tmp 127) (.tmp 128) 29 3 (.int .i64 0) 8 rfl Try.underlying29 info3 rfl (by decide) (by omega) v167 y166 l0 _ _ _ (fun k_ => some k_ ≠ (v146 : Value).ownBlock) (fun _ => False) rfl rfl ?aO ?aR (fun _ _ h => h) (fun _ h => h.elim) ?aF ?aB ?aS ?aL ?_; (case aR => repeat (first | exact (Kd.C_below HR0.out HB.out) | (with_reducible refine Kd.C_alloc ?_ _) | (with_reducible refine Kd.C_drewN ?_ _) | (with_reducible refine Kd.C_drew ?_))); (case aB => exact (by repeat (first | (with_reducible first | exact HB.out | apply below_alloc | apply pw_below_drewN | apply below_drew1) | exact HB.out))); (case aF => exact (fun k_ hk => Kd.fresh' (Kd.R_lt (by (with_reducible repeat (first | apply Kd.R_alloc | apply Kd.R_drewN | apply Kd.R_drew)); exact HO_7.out)) k_ hk)); (case aO => exact (by (with_reducible repeat (first | apply Kd.R_alloc | apply Kd.R_drewN | apply Kd.R_drew)); exact Kd.R_mono HO168.out (fun _ hk => hk.2))); (case aS => exact (below_size (by repeat (first | (with_reducible first | exact HB.out | apply below_alloc | apply pw_below_drewN | apply below_drew1) | exact HB.out)))); (case aL => have := LMc50.out; omega); intro v170 w53 ho hb hg hat; rw [← Ny169.out] at ho; have n0_ := Aside0.mk (Kd.R_after (ok := (fun _ => True)) (by (with_reducible repeat (first | apply Kd.R_alloc | apply Kd.R_drewN | apply Kd.R_drew)); exact HO_7.out) hg hat); have n1_ := Aside0.mk (hb); have n2_ := Aside0.mk (ho); clear HO_7; clear HB; clear HO168; have HO_7 := n0_; have HB := n1_; have HO171 := n2_; clear n0_ n1_ n2_; clear ho hb hg hat))
         go_loopg [12, 13] k2 (fun kq v12 v13 w' => ∃ (x12_3 : List Int) (x13_3 : Int), v13 = .int .i64 x13_3 ∧ Aside0 (spec_l04Block.l2 kq l0 l1 x7_2 x12_3 x13_3 = some r) ∧ Aside0 (kq ≤ k2) ∧ Aside0 (Kd.R (Kd.int .i64) 3 w' w.heap.size (fun k_ => some k_ ≠ (v12 : Value).ownBlock) v146 x7_2) ∧ Aside0 (Kd.R (Kd.int .i64) 3 w' w.heap.size (fun k_ => some k_ ≠ (v146 : Value).ownBlock) v12 x12_3) ∧ Aside0 (Below w.heap.size w w'))
         case atStart => exact ⟨(y169), (0), (by first | rfl | (simp; done) | (simp [*]; done)), H', ⟨Nat.le_refl _⟩, ⟨by (with_reducible repeat (first | apply Kd.R_alloc | apply Kd.R_drewN | apply Kd.R_drew)); exact Kd.R_mono HO_7.out (fun _ hk => hk.2)⟩, ⟨by (with_reducible repeat (first | apply Kd.R_alloc | apply Kd.R_drewN | apply Kd.R_drew)); exact HO171.out⟩, ⟨by repeat (first | (with_reducible first | exact HB.out | apply below_alloc | apply pw_below_drewN | apply below_drew1) | exact HB.out)⟩⟩
         case round =>
          clear H'
          try clear p1
          try clear q1
          try clear hx1
          try clear c2
          try clear p2
          try clear c3
          try clear c4
          try clear p4
          try clear q4
          try clear hx4
          try clear hf4
          try clear c5
          try clear c6
          try clear p6
          try clear p15
          try clear q15
          try clear hx15
          try clear p16
          try clear q16
          try clear hx16
          try clear c25
          try clear c25b0
          try clear c27
          try clear c28
          try clear c32
          try clear c33
          try clear c37
          try clear c38
          try clear c40
          try clear c41
          try clear c42
          try clear c43
          try clear p44
          try clear q44
          try clear hx44
          try clear hf44
          try clear c50
          try clear hx153_0
          try clear hx155_0
          try clear hx157_0
          try clear hx158_0
          try clear hx160_0
          try clear hx162_0
          try clear hx163_0
          try clear hx164_0
          try clear hx44_0
          try clear p158
          try clear p160
          try clear p162
          try clear p163
          try clear p164
          try clear p44
          try clear q158
          try clear q160
          try clear q162
          try clear q163
          try clear q164
          try clear q44
          obtain ⟨x12_3, x13_3, rfl, HA, HK3, HO_7, HO_12, HB⟩ := hrel
          cases gk with
          | zero => exact absurd HA.out (by simp [spec_l04Block.l2])
          | succ k3 =>
           have H := HA.out
           clear HA
           simp only [spec_l04Block.l2] at H
           by_cases c54 : x13_3 < 64
           ·
            rw [if_pos c54] at H
            have c54b0 : decide (x13_3 < 64) = true := decide_eq_true c54
            clear c54
            by_cases c55 : 4 < (x12_3.length : Int)
            ·
             rw [if_pos c55] at H
             have c55b0 : decide (4 < (x12_3.length : Int)) = true := decide_eq_true c55
             have c55b1 : decide (4 < x12_3.length) = true := decide_eq_true (by omega)
             clear c55
             replace H := Option.bind_eq_some_iff.mp H
             obtain ⟨t173, A560, H⟩ := H
             replace H : ((spec_l04Turn.f (rd x12_3 4) 11).bind fun t174 => ((spec_l04Turn.f (rd x12_3 4) 25).bind fun t175 => (if 5 < (x12_3.length : Int) then (if 6 < (x12_3.length : Int) then (if 7 < (x12_3.length : Int) then (if 0 ≤ x13_3 then (if x13_3 < (l1.length : Int) then (if x13_3 < (x7_2.length : Int) then (if 0 < (x12_3.length : Int) then ((spec_l04Turn.f (rd x12_3 0) 2).bind fun t182 => ((spec_l04Turn.f (rd x12_3 0) 13).bind fun t184 => ((spec_l04Turn.f (rd x12_3 0) 22).bind fun t186 => (if 1 < (x12_3.length : Int) then (if 2 < (x12_3.length : Int) then (if 3 < (x12_3.length : Int) then (spec_l04Block.l2 k3 l0 l1 x7_2 (([Go.bits .and .i64 (wrap64 ((wrap64 ((wrap64 ((wrap64 ((wrap64 ((rd x12_3 7) + (Go.bits .xor .i64 (Go.bits .xor .i64 t173 t174) t175))) + (Go.bits .xor .i64 (Go.bits .and .i64 (rd x12_3 4) (rd x12_3 5)) (Go.bits .and .i64 (Go.bits .xor .i64 (rd x12_3 4) 4294967295) (rd x12_3 6))))) + (rd l1 x13_3))) + (rd x7_2 x13_3))) + (wrap64 ((Go.bits .xor .i64 (Go.bits .xor .i64 t182 t184) t186) + (Go.bits .xor .i64 (Go.bits .xor .i64 (Go.bits .and .i64 (rd x12_3 0) (rd x12_3 1)) (Go.bits .and .i64 (rd x12_3 0) (rd x12_3 2))) (Go.bits .and .i64 (rd x12_3 1) (rd x12_3 2))))))) 4294967295, rd x12_3 0, rd x12_3 1, rd x12_3 2, Go.bits .and .i64 (wrap64 ((rd x12_3 3) + (wrap64 ((wrap64 ((wrap64 ((wrap64 ((rd x12_3 7) + (Go.bits .xor .i64 (Go.bits .xor .i64 t173 t174) t175))) + (Go.bits .xor .i64 (Go.bits .and .i64 (rd x12_3 4) (rd x12_3 5)) (Go.bits .and .i64 (Go.bits .xor .i64 (rd x12_3 4) 4294967295) (rd x12_3 6))))) + (rd l1 x13_3))) + (rd x7_2 x13_3))))) 4294967295, rd x12_3 4, rd x12_3 5, rd x12_3 6] : List Int)) (wrap64 (x13_3 + 1))) else (none)) else (none)) else (none))))) else (none)) else (none)) else (none)) else (none)) else (none)) else (none)) else (none)))) = some r := H
             have A56 := Aside0.mk A560
             clear A560
             replace H := Option.bind_eq_some_iff.mp H
             obtain ⟨t174, A570, H⟩ := H
             replace H : ((spec_l04Turn.f (rd x12_3 4) 25).bind fun t175 => (if 5 < (x12_3.length : Int) then (if 6 < (x12_3.length : Int) then (if 7 < (x12_3.length : Int) then (if 0 ≤ x13_3 then (if x13_3 < (l1.length : Int) then (if x13_3 < (x7_2.length : Int) then (if 0 < (x12_3.length : Int) then ((spec_l04Turn.f (rd x12_3 0) 2).bind fun t182 => ((spec_l04Turn.f (rd x12_3 0) 13).bind fun t184 => ((spec_l04Turn.f (rd x12_3 0) 22).bind fun t186 => (if 1 < (x12_3.length : Int) then (if 2 < (x12_3.length : Int) then (if 3 < (x12_3.length : Int) then (spec_l04Block.l2 k3 l0 l1 x7_2 (([Go.bits .and .i64 (wrap64 ((wrap64 ((wrap64 ((wrap64 ((wrap64 ((rd x12_3 7) + (Go.bits .xor .i64 (Go.bits .xor .i64 t173 t174) t175))) + (Go.bits .xor .i64 (Go.bits .and .i64 (rd x12_3 4) (rd x12_3 5)) (Go.bits .and .i64 (Go.bits .xor .i64 (rd x12_3 4) 4294967295) (rd x12_3 6))))) + (rd l1 x13_3))) + (rd x7_2 x13_3))) + (wrap64 ((Go.bits .xor .i64 (Go.bits .xor .i64 t182 t184) t186) + (Go.bits .xor .i64 (Go.bits .xor .i64 (Go.bits .and .i64 (rd x12_3 0) (rd x12_3 1)) (Go.bits .and .i64 (rd x12_3 0) (rd x12_3 2))) (Go.bits .and .i64 (rd x12_3 1) (rd x12_3 2))))))) 4294967295, rd x12_3 0, rd x12_3 1, rd x12_3 2, Go.bits .and .i64 (wrap64 ((rd x12_3 3) + (wrap64 ((wrap64 ((wrap64 ((wrap64 ((rd x12_3 7) + (Go.bits .xor .i64 (Go.bits .xor .i64 t173 t174) t175))) + (Go.bits .xor .i64 (Go.bits .and .i64 (rd x12_3 4) (rd x12_3 5)) (Go.bits .and .i64 (Go.bits .xor .i64 (rd x12_3 4) 4294967295) (rd x12_3 6))))) + (rd l1 x13_3))) + (rd x7_2 x13_3))))) 4294967295, rd x12_3 4, rd x12_3 5, rd x12_3 6] : List Int)) (wrap64 (x13_3 + 1))) else (none)) else (none)) else (none))))) else (none)) else (none)) else (none)) else (none)) else (none)) else (none)) else (none))) = some r := H
             have A57 := Aside0.mk A570
             clear A570
             replace H := Option.bind_eq_some_iff.mp H
             obtain ⟨t175, A580, H⟩ := H
             replace H : (if 5 < (x12_3.length : Int) then (if 6 < (x12_3.length : Int) then (if 7 < (x12_3.length : Int) then (if 0 ≤ x13_3 then (if x13_3 < (l1.length : Int) then (if x13_3 < (x7_2.length : Int) then (if 0 < (x12_3.length : Int) then ((spec_l04Turn.f (rd x12_3 0) 2).bind fun t182 => ((spec_l04Turn.f (rd x12_3 0) 13).bind fun t184 => ((spec_l04Turn.f (rd x12_3 0) 22).bind fun t186 => (if 1 < (x12_3.length : Int) then (if 2 < (x12_3.length : Int) then (if 3 < (x12_3.length : Int) then (spec_l04Block.l2 k3 l0 l1 x7_2 (([Go.bits .and .i64 (wrap64 ((wrap64 ((wrap64 ((wrap64 ((wrap64 ((rd x12_3 7) + (Go.bits .xor .i64 (Go.bits .xor .i64 t173 t174) t175))) + (Go.bits .xor .i64 (Go.bits .and .i64 (rd x12_3 4) (rd x12_3 5)) (Go.bits .and .i64 (Go.bits .xor .i64 (rd x12_3 4) 4294967295) (rd x12_3 6))))) + (rd l1 x13_3))) + (rd x7_2 x13_3))) + (wrap64 ((Go.bits .xor .i64 (Go.bits .xor .i64 t182 t184) t186) + (Go.bits .xor .i64 (Go.bits .xor .i64 (Go.bits .and .i64 (rd x12_3 0) (rd x12_3 1)) (Go.bits .and .i64 (rd x12_3 0) (rd x12_3 2))) (Go.bits .and .i64 (rd x12_3 1) (rd x12_3 2))))))) 4294967295, rd x12_3 0, rd x12_3 1, rd x12_3 2, Go.bits .and .i64 (wrap64 ((rd x12_3 3) + (wrap64 ((wrap64 ((wrap64 ((wrap64 ((rd x12_3 7) + (Go.bits .xor .i64 (Go.bits .xor .i64 t173 t174) t175))) + (Go.bits .xor .i64 (Go.bits .and .i64 (rd x12_3 4) (rd x12_3 5)) (Go.bits .and .i64 (Go.bits .xor .i64 (rd x12_3 4) 4294967295) (rd x12_3 6))))) + (rd l1 x13_3))) + (rd x7_2 x13_3))))) 4294967295, rd x12_3 4, rd x12_3 5, rd x12_3 6] : List Int)) (wrap64 (x13_3 + 1))) else (none)) else (none)) else (none))))) else (none)) else (none)) else (none)) else (none)) else (none)) else (none)) else (none)) = some r := H
             have A58 := Aside0.mk A580
             clear A580
             by_cases c59 : 5 < (x12_3.length : Int)
             ·
              rw [if_pos c59] at H
              have c59b0 : decide (5 < (x12_3.length : Int)) = true := decide_eq_true c59
              have c59b1 : decide (5 < x12_3.length) = true := decide_eq_true (by omega)
              clear c59
              by_cases c60 : 6 < (x12_3.length : Int)
              ·
               rw [if_pos c60] at H
               have c60b0 : decide (6 < (x12_3.length : Int)) = true := decide_eq_true c60
               have c60b1 : decide (6 < x12_3.length) = true := decide_eq_true (by omega)
               clear c60
               by_cases c61 : 7 < (x12_3.length : Int)
               ·
                rw [if_pos c61] at H
                have c61b0 : decide (7 < (x12_3.length : Int)) = true := decide_eq_true c61
                have c61b1 : decide (7 < x12_3.length) = true := decide_eq_true (by omega)
                clear c61
                by_cases c62 : 0 ≤ x13_3
                ·
                 rw [if_pos c62] at H
                 have c62b0 : decide (0 ≤ x13_3) = true := decide_eq_true c62
                 clear c62
                 by_cases c63 : x13_3 < (l1.length : Int)
                 ·
                  rw [if_pos c63] at H
                  have c63b0 : decide (x13_3 < (l1.length : Int)) = true := decide_eq_true c63
                  clear c63
                  by_cases c64 : x13_3 < (x7_2.length : Int)
                  ·
                   rw [if_pos c64] at H
                   have c64b0 : decide (x13_3 < (x7_2.length : Int)) = true := decide_eq_true c64
                   clear c64
                   by_cases c65 : 0 < (x12_3.length : Int)
                   ·
                    rw [if_pos c65] at H
                    have c65b0 : decide (0 < (x12_3.length : Int)) = true := decide_eq_true c65
                    have c65b1 : decide (0 < x12_3.length) = true := decide_eq_true (by omega)
                    clear c65
                    replace H := Option.bind_eq_some_iff.mp H
                    obtain ⟨t182, A660, H⟩ := H
                    replace H : ((spec_l04Turn.f (rd x12_3 0) 13).bind fun t184 => ((spec_l04Turn.f (rd x12_3 0) 22).bind fun t186 => (if 1 < (x12_3.length : Int) then (if 2 < (x12_3.length : Int) then (if 3 < (x12_3.length : Int) then (spec_l04Block.l2 k3 l0 l1 x7_2 (([Go.bits .and .i64 (wrap64 ((wrap64 ((wrap64 ((wrap64 ((wrap64 ((rd x12_3 7) + (Go.bits .xor .i64 (Go.bits .xor .i64 t173 t174) t175))) + (Go.bits .xor .i64 (Go.bits .and .i64 (rd x12_3 4) (rd x12_3 5)) (Go.bits .and .i64 (Go.bits .xor .i64 (rd x12_3 4) 4294967295) (rd x12_3 6))))) + (rd l1 x13_3))) + (rd x7_2 x13_3))) + (wrap64 ((Go.bits .xor .i64 (Go.bits .xor .i64 t182 t184) t186) + (Go.bits .xor .i64 (Go.bits .xor .i64 (Go.bits .and .i64 (rd x12_3 0) (rd x12_3 1)) (Go.bits .and .i64 (rd x12_3 0) (rd x12_3 2))) (Go.bits .and .i64 (rd x12_3 1) (rd x12_3 2))))))) 4294967295, rd x12_3 0, rd x12_3 1, rd x12_3 2, Go.bits .and .i64 (wrap64 ((rd x12_3 3) + (wrap64 ((wrap64 ((wrap64 ((wrap64 ((rd x12_3 7) + (Go.bits .xor .i64 (Go.bits .xor .i64 t173 t174) t175))) + (Go.bits .xor .i64 (Go.bits .and .i64 (rd x12_3 4) (rd x12_3 5)) (Go.bits .and .i64 (Go.bits .xor .i64 (rd x12_3 4) 4294967295) (rd x12_3 6))))) + (rd l1 x13_3))) + (rd x7_2 x13_3))))) 4294967295, rd x12_3 4, rd x12_3 5, rd x12_3 6] : List Int)) (wrap64 (x13_3 + 1))) else (none)) else (none)) else (none)))) = some r := H
                    have A66 := Aside0.mk A660
                    clear A660
                    replace H := Option.bind_eq_some_iff.mp H
                    obtain ⟨t184, A670, H⟩ := H
                    replace H : ((spec_l04Turn.f (rd x12_3 0) 22).bind fun t186 => (if 1 < (x12_3.length : Int) then (if 2 < (x12_3.length : Int) then (if 3 < (x12_3.length : Int) then (spec_l04Block.l2 k3 l0 l1 x7_2 (([Go.bits .and .i64 (wrap64 ((wrap64 ((wrap64 ((wrap64 ((wrap64 ((rd x12_3 7) + (Go.bits .xor .i64 (Go.bits .xor .i64 t173 t174) t175))) + (Go.bits .xor .i64 (Go.bits .and .i64 (rd x12_3 4) (rd x12_3 5)) (Go.bits .and .i64 (Go.bits .xor .i64 (rd x12_3 4) 4294967295) (rd x12_3 6))))) + (rd l1 x13_3))) + (rd x7_2 x13_3))) + (wrap64 ((Go.bits .xor .i64 (Go.bits .xor .i64 t182 t184) t186) + (Go.bits .xor .i64 (Go.bits .xor .i64 (Go.bits .and .i64 (rd x12_3 0) (rd x12_3 1)) (Go.bits .and .i64 (rd x12_3 0) (rd x12_3 2))) (Go.bits .and .i64 (rd x12_3 1) (rd x12_3 2))))))) 4294967295, rd x12_3 0, rd x12_3 1, rd x12_3 2, Go.bits .and .i64 (wrap64 ((rd x12_3 3) + (wrap64 ((wrap64 ((wrap64 ((wrap64 ((rd x12_3 7) + (Go.bits .xor .i64 (Go.bits .xor .i64 t173 t174) t175))) + (Go.bits .xor .i64 (Go.bits .and .i64 (rd x12_3 4) (rd x12_3 5)) (Go.bits .and .i64 (Go.bits .xor .i64 (rd x12_3 4) 4294967295) (rd x12_3 6))))) + (rd l1 x13_3))) + (rd x7_2 x13_3))))) 4294967295, rd x12_3 4, rd x12_3 5, rd x12_3 6] : List Int)) (wrap64 (x13_3 + 1))) else (none)) else (none)) else (none))) = some r := H
                    have A67 := Aside0.mk A670
                    clear A670
                    replace H := Option.bind_eq_some_iff.mp H
                    obtain ⟨t186, A680, H⟩ := H
                    replace H : (if 1 < (x12_3.length : Int) then (if 2 < (x12_3.length : Int) then (if 3 < (x12_3.length : Int) then (spec_l04Block.l2 k3 l0 l1 x7_2 (([Go.bits .and .i64 (wrap64 ((wrap64 ((wrap64 ((wrap64 ((wrap64 ((rd x12_3 7) + (Go.bits .xor .i64 (Go.bits .xor .i64 t173 t174) t175))) + (Go.bits .xor .i64 (Go.bits .and .i64 (rd x12_3 4) (rd x12_3 5)) (Go.bits .and .i64 (Go.bits .xor .i64 (rd x12_3 4) 4294967295) (rd x12_3 6))))) + (rd l1 x13_3))) + (rd x7_2 x13_3))) + (wrap64 ((Go.bits .xor .i64 (Go.bits .xor .i64 t182 t184) t186) + (Go.bits .xor .i64 (Go.bits .xor .i64 (Go.bits .and .i64 (rd x12_3 0) (rd x12_3 1)) (Go.bits .and .i64 (rd x12_3 0) (rd x12_3 2))) (Go.bits .and .i64 (rd x12_3 1) (rd x12_3 2))))))) 4294967295, rd x12_3 0, rd x12_3 1, rd x12_3 2, Go.bits .and .i64 (wrap64 ((rd x12_3 3) + (wrap64 ((wrap64 ((wrap64 ((wrap64 ((rd x12_3 7) + (Go.bits .xor .i64 (Go.bits .xor .i64 t173 t174) t175))) + (Go.bits .xor .i64 (Go.bits .and .i64 (rd x12_3 4) (rd x12_3 5)) (Go.bits .and .i64 (Go.bits .xor .i64 (rd x12_3 4) 4294967295) (rd x12_3 6))))) + (rd l1 x13_3))) + (rd x7_2 x13_3))))) 4294967295, rd x12_3 4, rd x12_3 5, rd x12_3 6] : List Int)) (wrap64 (x13_3 + 1))) else (none)) else (none)) else (none)) = some r := H
                    have A68 := Aside0.mk A680
                    clear A680
                    by_cases c69 : 1 < (x12_3.length : Int)
                    ·
                     rw [if_pos c69] at H
                     have c69b0 : decide (1 < (x12_3.length : Int)) = true := decide_eq_true c69
                     have c69b1 : decide (1 < x12_3.length) = true := decide_eq_true (by omega)
                     clear c69
                     by_cases c70 : 2 < (x12_3.length : Int)
                     ·
                      rw [if_pos c70] at H
                      have c70b0 : decide (2 < (x12_3.length : Int)) = true := decide_eq_true c70
                      have c70b1 : decide (2 < x12_3.length) = true := decide_eq_true (by omega)
                      clear c70
                      by_cases c71 : 3 < (x12_3.length : Int)
                      ·
                       rw [if_pos c71] at H
                       have c71b0 : decide (3 < (x12_3.length : Int)) = true := decide_eq_true c71
                       have c71b1 : decide (3 < x12_3.length) = true := decide_eq_true (by omega)
                       clear c71
                       obtain ⟨y200, hy200⟩ : ∃ y_ : List Int, y_ = (([Go.bits .and .i64 (wrap64 ((wrap64 ((wrap64 ((wrap64 ((wrap64 ((rd x12_3 7) + (Go.bits .xor .i64 (Go.bits .xor .i64 t173 t174) t175))) + (Go.bits .xor .i64 (Go.bits .and .i64 (rd x12_3 4) (rd x12_3 5)) (Go.bits .and .i64 (Go.bits .xor .i64 (rd x12_3 4) 4294967295) (rd x12_3 6))))) + (rd l1 x13_3))) + (rd x7_2 x13_3))) + (wrap64 ((Go.bits .xor .i64 (Go.bits .xor .i64 t182 t184) t186) + (Go.bits .xor .i64 (Go.bits .xor .i64 (Go.bits .and .i64 (rd x12_3 0) (rd x12_3 1)) (Go.bits .and .i64 (rd x12_3 0) (rd x12_3 2))) (Go.bits .and .i64 (rd x12_3 1) (rd x12_3 2))))))) 4294967295, rd x12_3 0, rd x12_3 1, rd x12_3 2, Go.bits .and .i64 (wrap64 ((rd x12_3 3) + (wrap64 ((wrap64 ((wrap64 ((wrap64 ((rd x12_3 7) + (Go.bits .xor .i64 (Go.bits .xor .i64 t173 t174) t175))) + (Go.bits .xor .i64 (Go.bits .and .i64 (rd x12_3 4) (rd x12_3 5)) (Go.bits .and .i64 (Go.bits .xor .i64 (rd x12_3 4) 4294967295) (rd x12_3 6))))) + (rd l1 x13_3))) + (rd x7_2 x13_3))))) 4294967295, rd x12_3 4, rd x12_3 5, rd x12_3 6] : List Int)) := ⟨_, rfl⟩
                       replace H : (spec_l04Block.l2 k3 l0 l1 x7_2 y200 (wrap64 (x13_3 + 1))) = some r := by first | (rw [hy200]; with_reducible exact H) | (have H2_ := (Option.bind_some _ _).symm.trans H; rw [hy200]; with_reducible exact H2_) | (have H2_ := (Option.bind_some _ _).symm.trans H; with_reducible exact H2_) | with_reducible exact H | (rw [hy200]; exact H) | exact H
                       have Ny200 := Aside0.mk hy200
                       clear hy200
                       have H' := Aside0.mk H
                       clear H
                       obtain ⟨Ao72, co72, eo72⟩ := Kd.R_slice HO_12.out
                       subst eo72
                       have p172 : 0 ≤ (4 : Int) := (by omega)
                       have q172 : 4 < (x12_3.length : Int) := of_decide_eq_true (by first | (with_reducible assumption) | assumption)
                       obtain ⟨ad172, e172, hx172_0⟩ := Kd.at_int (Kd.R_reads' HO_12.out).2.2 4 p172 q172
                       cases e172
                       (try simp only [show (4 : Int).toNat = 4 from rfl, Nat.reduceMul, Nat.reduceEqDiff, Go.Addr.add, ↓reduceIte] at hx172_0)
                       have qi172 : (4 < x12_3.length) = True := eq_true (by omega)
                       (try rw [show ((4 : Int)).toNat = 4 from rfl] at hx172_0)
                       replace p172 := eq_true p172
                       replace q172 := eq_true q172
                       try go_wp2_with (first | ((with_reducible refine gate_callee (f := 60) rfl ?_); refine goesL_ (some 138) rfl rfl Try.func60 (by kernel_rfl) rfl #[.int .i64 (rd x12_3 4), .int .i64 6] rfl (by (try simp only [List.map_toArray, List.map_cons, List.map_nil]); first | done | rfl | (simp only [List.length_drop, List.length_take]; rfl)) ?_; (with_reducible refine (spec_l04Turn.calls (rd x12_3 4) 6 t173 _ A56.out).mono ?_); rintro e w' ⟨rfl, ⟨nd, rfl⟩⟩; refine ⟨_, rfl, ?_⟩) | ((with_reducible refine gate_callee (f := 60) rfl ?_); refine goesL_ (some 140) rfl rfl Try.func60 (by kernel_rfl) rfl #[.int .i64 (rd x12_3 4), .int .i64 11] rfl (by (try simp only [List.map_toArray, List.map_cons, List.map_nil]); first | done | rfl | (simp only [List.length_drop, List.length_take]; rfl)) ?_; (with_reducible refine (spec_l04Turn.calls (rd x12_3 4) 11 t174 _ A57.out).mono ?_); rintro e w' ⟨rfl, ⟨nd, rfl⟩⟩; refine ⟨_, rfl, ?_⟩) | ((with_reducible refine gate_callee (f := 60) rfl ?_); refine goesL_ (some 143) rfl rfl Try.func60 (by kernel_rfl) rfl #[.int .i64 (rd x12_3 4), .int .i64 25] rfl (by (try simp only [List.map_toArray, List.map_cons, List.map_nil]); first | done | rfl | (simp only [List.length_drop, List.length_take]; rfl)) ?_; (with_reducible refine (spec_l04Turn.calls (rd x12_3 4) 25 t175 _ A58.out).mono ?_); rintro e w' ⟨rfl, ⟨nd, rfl⟩⟩; refine ⟨_, rfl, ?_⟩))
                       (try (rw [drewN_self wr]; generalize hq_ : World.drewN wr _ = wr; have n0_ : Aside0 (Kd.R (Kd.int .i64) 3 wr w.heap.size (fun k_ => some k_ ≠ (v146 : Value).ownBlock) (.slice (some ad172) x12_3.length co72) x12_3) := ⟨by rw [← hq_]; exact (by (with_reducible repeat (first | apply Kd.R_alloc | apply Kd.R_drewN | apply Kd.R_drew)); exact HO_12.out)⟩; have n1_ : Aside0 (Kd.R (Kd.int .i64) 3 wr w.heap.size (fun k_ => some k_ ≠ (.slice (some ad172) x12_3.length co72 : Value).ownBlock) v146 x7_2) := ⟨by rw [← hq_]; exact (by (with_reducible repeat (first | apply Kd.R_alloc | apply Kd.R_drewN | apply Kd.R_drew)); exact HO_7.out)⟩; have n2_ : Aside0 (Below w.heap.size w wr) := ⟨by rw [← hq_]; exact (by repeat (first | (with_reducible first | exact HB.out | apply below_alloc | apply pw_below_drewN | apply below_drew1) | exact HB.out))⟩; clear HO_12 HO_7 HB hq_; have HO_12 := n0_; have HO_7 := n1_; have HB := n2_; clear n0_ n1_ n2_))
                       have n0_ := Aside0.mk (Kd.R_drew HO_7.out)
                       have n1_ := Aside0.mk (Kd.R_drew HO_12.out)
                       have n2_ := Aside0.mk (below_drew1 HB.out)
                       clear HO_7
                       clear HO_12
                       clear HB
                       have HO_7 := n0_
                       have HO_12 := n1_
                       have HB := n2_
                       clear n0_ n1_ n2_
                       have p176 : 0 ≤ (5 : Int) := (by omega)
                       have q176 : 5 < (x12_3.length : Int) := of_decide_eq_true (by first | (with_reducible assumption) | assumption)
                       obtain ⟨ad176, e176, hx176_0⟩ := Kd.at_int (Kd.R_reads' HO_12.out).2.2 5 p176 q176
                       obtain rfl : ad172 = ad176 := (by injection e176)
                       (try simp only [show (5 : Int).toNat = 5 from rfl, Nat.reduceMul, Nat.reduceEqDiff, Go.Addr.add, ↓reduceIte] at hx176_0)
                       have qi176 : (5 < x12_3.length) = True := eq_true (by omega)
                       (try rw [show ((5 : Int)).toNat = 5 from rfl] at hx176_0)
                       replace p176 := eq_true p176
                       replace q176 := eq_true q176
                       have p177 : 0 ≤ (6 : Int) := (by omega)
                       have q177 : 6 < (x12_3.length : Int) := of_decide_eq_true (by first | (with_reducible assumption) | assumption)
                       obtain ⟨ad177, e177, hx177_0⟩ := Kd.at_int (Kd.R_reads' HO_12.out).2.2 6 p177 q177
                       obtain rfl : ad172 = ad177 := (by injection e177)
                       (try simp only [show (6 : Int).toNat = 6 from rfl, Nat.reduceMul, Nat.reduceEqDiff, Go.Addr.add, ↓reduceIte] at hx177_0)
                       have qi177 : (6 < x12_3.length) = True := eq_true (by omega)
                       (try rw [show ((6 : Int)).toNat = 6 from rfl] at hx177_0)
                       replace p177 := eq_true p177
                       replace q177 := eq_true q177
                       refine start_ (n := 13) (S := fun w' => w'.cell? ⟨ad172.block, ad172.off + 5, none⟩ = some (.int .i64 (rd x12_3 5)) ∧ w'.cell? ⟨ad172.block, ad172.off + 6, none⟩ = some (.int .i64 (rd x12_3 6))) (ds := []) #[ff,ff,ff,ff,ff,ff,ff,ff,ff,ff,ff,ff,ff] (by kernel_rfl) rfl rfl ⟨hx176_0, hx177_0⟩ (fun hHeld => ?_); refine with_tabW spec_l04Block.tab18 spec_l04Block.bits18 (fun HT_ HW_ => ?_)
                       generalize wr.drew = w73 at HO_7 HO_12 HB hx176_0 hx177_0 hHeld ⊢
                       refine pure_ (i := 0) (N := some 145) (v := ?_) (a' := ?_) #[tt,ff,ff,ff,ff,ff,ff,ff,ff,ff,ff,ff,ff] rfl rfl (any_of HT_.out (by kernel_rfl)) (fun _ _ _ h => h) (Or.inl ⟨by rfl, ?_⟩) ?_ ?_
                       rotate_left; focus (intro w'; go_simp; with_reducible rfl)
                       rotate_left; focus (simp only [Act.put, sA, sB, sC, i64_w, i32_w]; rfl)
                       refine pure_ (i := 1) (N := some 146) (v := ?_) (a' := ?_) #[tt,tt,ff,ff,ff,ff,ff,ff,ff,ff,ff,ff,ff] rfl rfl (any_of HT_.out (by kernel_rfl)) (fun _ _ _ h => h) (Or.inl ⟨by rfl, ?_⟩) ?_ ?_
                       rotate_left; focus (intro w'; go_simp; with_reducible rfl)
                       rotate_left; focus (simp only [Act.put, sA, sB, sC, i64_w, i32_w]; rfl)
                       refine pure_ (i := 2) (N := some 147) (v := ?_) (a' := ?_) #[tt,tt,tt,ff,ff,ff,ff,ff,ff,ff,ff,ff,ff] rfl rfl (any_of HT_.out (by kernel_rfl)) (fun _ _ _ h => h) (Or.inl ⟨by rfl, ?_⟩) ?_ ?_
                       rotate_left; focus (intro w'; go_simp; with_reducible rfl)
                       rotate_left; focus (simp only [Act.put, sA, sB, sC, i64_w, i32_w]; rfl)
                       refine pure_ (i := 5) (N := some 150) (v := ?_) (a' := ?_) #[tt,tt,tt,ff,ff,tt,ff,ff,ff,ff,ff,ff,ff] rfl rfl (any_of HT_.out (by kernel_rfl)) (fun _ _ _ h => h) (Or.inl ⟨by rfl, ?_⟩) ?_ ?_
                       rotate_left; focus (intro w'; go_simp; with_reducible rfl)
                       rotate_left; focus (simp only [Act.put, sA, sB, sC, i64_w, i32_w]; rfl)
                       refine pure_ (i := 6) (N := some 151) (v := ?_) (a' := ?_) #[tt,tt,tt,ff,ff,tt,tt,ff,ff,ff,ff,ff,ff] rfl rfl (any_of HT_.out (by kernel_rfl)) (fun _ _ _ h => h) (Or.inl ⟨by rfl, ?_⟩) ?_ ?_
                       rotate_left; focus (intro w'; go_simp; with_reducible rfl)
                       rotate_left; focus (simp only [Act.put, sA, sB, sC, i64_w, i32_w]; rfl)
                       refine pure_ (i := 7) (N := some 152) (v := ?_) (a' := ?_) #[tt,tt,tt,ff,ff,tt,tt,tt,ff,ff,ff,ff,ff] rfl rfl (any_of HT_.out (by kernel_rfl)) (fun _ _ _ h => h) (Or.inl ⟨by rfl, ?_⟩) ?_ ?_
                       rotate_left; focus (intro w'; go_simp; with_reducible rfl)
                       rotate_left; focus (simp only [Act.put, sA, sB, sC, i64_w, i32_w]; rfl)
                       refine pure_ (i := 8) (N := some 153) (v := ?_) (a' := ?_) #[tt,tt,tt,ff,ff,tt,tt,tt,tt,ff,ff,ff,ff] rfl rfl (any_of HT_.out (by kernel_rfl)) (fun _ _ _ h => h) (Or.inl ⟨by rfl, ?_⟩) ?_ ?_
                       rotate_left; focus (intro w'; go_simp; with_reducible rfl)
                       rotate_left; focus (simp only [Act.put, sA, sB, sC, i64_w, i32_w]; rfl)
                       refine take_ (i := 3) (N := some 148) (v := ?_) (a' := ?_) #[tt,tt,tt,tt,ff,tt,tt,tt,tt,ff,ff,ff,ff] rfl rfl (take_ofW HT_.out HW_.out (by kernel_rfl)) (fun _ _ _ h => h) (Or.inl ⟨by rfl, ?_⟩) hHeld ?_ ?_
                       rotate_left; focus (rintro w' ⟨s0, s1⟩; go_simp; with_reducible rfl)
                       rotate_left; focus (simp only [Act.put, sA, sB, sC, i64_w, i32_w]; rfl)
                       refine pure_ (i := 4) (N := some 149) (v := ?_) (a' := ?_) #[tt,tt,tt,tt,tt,tt,tt,tt,tt,ff,ff,ff,ff] rfl rfl (any_of HT_.out (by kernel_rfl)) (fun _ _ _ h => h) (Or.inl ⟨by rfl, ?_⟩) ?_ ?_
                       rotate_left; focus (intro w'; go_simp; with_reducible rfl)
                       rotate_left; focus (simp only [Act.put, sA, sB, sC, i64_w, i32_w]; rfl)
                       refine take_ (i := 9) (N := some 154) (v := ?_) (a' := ?_) #[tt,tt,tt,tt,tt,tt,tt,tt,tt,tt,ff,ff,ff] rfl rfl (take_ofW HT_.out HW_.out (by kernel_rfl)) (fun _ _ _ h => h) (Or.inl ⟨by rfl, ?_⟩) hHeld ?_ ?_
                       rotate_left; focus (rintro w' ⟨s0, s1⟩; go_simp; with_reducible rfl)
                       rotate_left; focus (simp only [Act.put, sA, sB, sC, i64_w, i32_w]; rfl)
                       refine pure_ (i := 10) (N := some 155) (v := ?_) (a' := ?_) #[tt,tt,tt,tt,tt,tt,tt,tt,tt,tt,tt,ff,ff] rfl rfl (any_of HT_.out (by kernel_rfl)) (fun _ _ _ h => h) (Or.inl ⟨by rfl, ?_⟩) ?_ ?_
                       rotate_left; focus (intro w'; go_simp; with_reducible rfl)
                       rotate_left; focus (simp only [Act.put, sA, sB, sC, i64_w, i32_w]; rfl)
                       refine pure_ (i := 11) (N := some 156) (v := ?_) (a' := ?_) #[tt,tt,tt,tt,tt,tt,tt,tt,tt,tt,tt,tt,ff] rfl rfl (any_of HT_.out (by kernel_rfl)) (fun _ _ _ h => h) (Or.inl ⟨by rfl, ?_⟩) ?_ ?_
                       rotate_left; focus (intro w'; go_simp; with_reducible rfl)
                       rotate_left; focus (simp only [Act.put, sA, sB, sC, i64_w, i32_w]; rfl)
                       refine pure_ (i := 12) (N := some 16) (v := ?_) (a' := ?_) #[tt,tt,tt,tt,tt,tt,tt,tt,tt,tt,tt,tt,tt] rfl rfl (any_of HT_.out (by kernel_rfl)) (fun _ _ _ h => h) (Or.inl ⟨by rfl, ?_⟩) ?_ ?_
                       rotate_left; focus (intro w'; go_simp; with_reducible rfl)
                       rotate_left; focus (simp only [Act.put, sA, sB, sC, i64_w, i32_w]; rfl)
                       refine done_ (done_of HT_.out (by kernel_rfl)) ?_
                       try go_wp2
                       have n0_ := Aside0.mk (Kd.R_drew HO_7.out)
                       have n1_ := Aside0.mk (Kd.R_drew HO_12.out)
                       have n2_ := Aside0.mk (below_drew1 HB.out)
                       clear HO_7
                       clear HO_12
                       clear HB
                       have HO_7 := n0_
                       have HO_12 := n1_
                       have HB := n2_
                       clear n0_ n1_ n2_
                       have p178 : 0 ≤ (7 : Int) := (by omega)
                       have q178 : 7 < (x12_3.length : Int) := of_decide_eq_true (by first | (with_reducible assumption) | assumption)
                       obtain ⟨ad178, e178, hx178_0⟩ := Kd.at_int (Kd.R_reads' HO_12.out).2.2 7 p178 q178
                       obtain rfl : ad172 = ad178 := (by injection e178)
                       (try simp only [show (7 : Int).toNat = 7 from rfl, Nat.reduceMul, Nat.reduceEqDiff, Go.Addr.add, ↓reduceIte] at hx178_0)
                       have qi178 : (7 < x12_3.length) = True := eq_true (by omega)
                       (try rw [show ((7 : Int)).toNat = 7 from rfl] at hx178_0)
                       replace p178 := eq_true p178
                       replace q178 := eq_true q178
                       have p179 : 0 ≤ (x13_3 : Int) := of_decide_eq_true (by first | (with_reducible assumption) | assumption)
                       have q179 : x13_3 < (l1.length : Int) := of_decide_eq_true (by first | (with_reducible assumption) | assumption)
                       obtain ⟨ad179, e179, hx179_0⟩ := Kd.at_int HR1.out x13_3 p179 q179
                       have hw179_0 := hx179_0
                       cases e179
                       replace hx179_0 := (HB.out.cell (World.block_lt_of_cell? w _ hx179_0)).trans hx179_0
                       replace p179 := eq_true p179
                       replace q179 := eq_true q179
                       obtain ⟨Ao75, co75, eo75⟩ := Kd.R_slice HO_7.out
                       (first | subst eo75 | (injection eo75 with f1_ f2_ f3_; have f4_ := f1_.symm; have f5_ := f3_.symm; clear f1_ f2_ f3_; subst f4_; subst f5_))
                       have p180 : 0 ≤ (x13_3 : Int) := of_decide_eq_true (by first | (with_reducible assumption) | assumption)
                       have q180 : x13_3 < (x7_2.length : Int) := of_decide_eq_true (by first | (with_reducible assumption) | assumption)
                       obtain ⟨ad180, e180, hx180_0⟩ := Kd.at_int (Kd.R_reads' HO_7.out).2.2 x13_3 p180 q180
                       cases e180
                       replace p180 := eq_true p180
                       replace q180 := eq_true q180
                       refine start_ (n := 18) (S := fun w' => w'.cell? ⟨ad172.block, ad172.off + 7, none⟩ = some (.int .i64 (rd x12_3 7)) ∧ w'.cell? (ad179.add (x13_3).toNat) = some (.int .i64 (rd l1 x13_3)) ∧ w'.cell? (ad180.add (x13_3).toNat) = some (.int .i64 (rd x7_2 x13_3))) (ds := []) #[ff,ff,ff,ff,ff,ff,ff,ff,ff,ff,ff,ff,ff,ff,ff,ff,ff,ff] (by kernel_rfl) rfl rfl ⟨hx178_0, ((HB.out.cell (World.block_lt_of_cell? w _ hw179_0)).trans hw179_0), hx180_0⟩ (fun hHeld => ?_); refine with_tabW spec_l04Block.tab19 spec_l04Block.bits19 (fun HT_ HW_ => ?_)
                       generalize w73.drew = w74 at HO_7 HO_12 HB hx178_0 hx179_0 hx180_0 hHeld ⊢
                       refine pure_ (i := 0) (N := some 157) (v := ?_) (a' := ?_) #[tt,ff,ff,ff,ff,ff,ff,ff,ff,ff,ff,ff,ff,ff,ff,ff,ff,ff] rfl rfl (any_of HT_.out (by kernel_rfl)) (fun _ _ _ h => h) (Or.inl ⟨by rfl, ?_⟩) ?_ ?_
                       rotate_left; focus (intro w'; go_simp; with_reducible rfl)
                       rotate_left; focus (simp only [Act.put, sA, sB, sC, i64_w, i32_w]; rfl)
                       refine pure_ (i := 1) (N := some 158) (v := ?_) (a' := ?_) #[tt,tt,ff,ff,ff,ff,ff,ff,ff,ff,ff,ff,ff,ff,ff,ff,ff,ff] rfl rfl (any_of HT_.out (by kernel_rfl)) (fun _ _ _ h => h) (Or.inl ⟨by rfl, ?_⟩) ?_ ?_
                       rotate_left; focus (intro w'; go_simp; with_reducible rfl)
                       rotate_left; focus (simp only [Act.put, sA, sB, sC, i64_w, i32_w]; rfl)
                       refine pure_ (i := 3) (N := some 160) (v := ?_) (a' := ?_) #[tt,tt,ff,tt,ff,ff,ff,ff,ff,ff,ff,ff,ff,ff,ff,ff,ff,ff] rfl rfl (any_of HT_.out (by kernel_rfl)) (fun _ _ _ h => h) (Or.inl ⟨by rfl, ?_⟩) ?_ ?_
                       rotate_left; focus (intro w'; go_simp; with_reducible rfl)
                       rotate_left; focus (simp only [Act.put, sA, sB, sC, i64_w, i32_w]; rfl)
                       refine pure_ (i := 5) (N := some 162) (v := ?_) (a' := ?_) #[tt,tt,ff,tt,ff,tt,ff,ff,ff,ff,ff,ff,ff,ff,ff,ff,ff,ff] rfl rfl (any_of HT_.out (by kernel_rfl)) (fun _ _ _ h => h) (Or.inl ⟨by rfl, ?_⟩) ?_ ?_
                       rotate_left; focus (intro w'; go_simp; with_reducible rfl)
                       rotate_left; focus (simp only [Act.put, sA, sB, sC, i64_w, i32_w]; rfl)
                       refine pure_ (i := 7) (N := some 164) (v := ?_) (a' := ?_) #[tt,tt,ff,tt,ff,tt,ff,tt,ff,ff,ff,ff,ff,ff,ff,ff,ff,ff] rfl rfl (any_of HT_.out (by kernel_rfl)) (fun _ _ _ h => h) (Or.inl ⟨by rfl, ?_⟩) ?_ ?_
                       rotate_left; focus (intro w'; go_simp; with_reducible rfl)
                       rotate_left; focus (simp only [Act.put, sA, sB, sC, i64_w, i32_w]; rfl)
                       refine pure_ (i := 8) (N := some 165) (v := ?_) (a' := ?_) #[tt,tt,ff,tt,ff,tt,ff,tt,tt,ff,ff,ff,ff,ff,ff,ff,ff,ff] rfl rfl (any_of HT_.out (by kernel_rfl)) (fun _ _ _ h => h) (Or.inl ⟨by rfl, ?_⟩) ?_ ?_
                       rotate_left; focus (intro w'; go_simp; with_reducible rfl)
                       rotate_left; focus (simp only [Act.put, sA, sB, sC, i64_w, i32_w]; rfl)
                       refine pure_ (i := 9) (N := some 166) (v := ?_) (a' := ?_) #[tt,tt,ff,tt,ff,tt,ff,tt,tt,tt,ff,ff,ff,ff,ff,ff,ff,ff] rfl rfl (any_of HT_.out (by kernel_rfl)) (fun _ _ _ h => h) (Or.inl ⟨by rfl, ?_⟩) ?_ ?_
                       rotate_left; focus (intro w'; go_simp; with_reducible rfl)
                       rotate_left; focus (simp only [Act.put, sA, sB, sC, i64_w, i32_w]; rfl)
                       refine pure_ (i := 12) (N := some 169) (v := ?_) (a' := ?_) #[tt,tt,ff,tt,ff,tt,ff,tt,tt,tt,ff,ff,tt,ff,ff,ff,ff,ff] rfl rfl (any_of HT_.out (by kernel_rfl)) (fun _ _ _ h => h) (Or.inl ⟨by rfl, ?_⟩) ?_ ?_
                       rotate_left; focus (intro w'; go_simp; with_reducible rfl)
                       rotate_left; focus (simp only [Act.put, sA, sB, sC, i64_w, i32_w]; rfl)
                       refine pure_ (i := 13) (N := some 170) (v := ?_) (a' := ?_) #[tt,tt,ff,tt,ff,tt,ff,tt,tt,tt,ff,ff,tt,tt,ff,ff,ff,ff] rfl rfl (any_of HT_.out (by kernel_rfl)) (fun _ _ _ h => h) (Or.inl ⟨by rfl, ?_⟩) ?_ ?_
                       rotate_left; focus (intro w'; go_simp; with_reducible rfl)
                       rotate_left; focus (simp only [Act.put, sA, sB, sC, i64_w, i32_w]; rfl)
                       refine pure_ (i := 14) (N := some 171) (v := ?_) (a' := ?_) #[tt,tt,ff,tt,ff,tt,ff,tt,tt,tt,ff,ff,tt,tt,tt,ff,ff,ff] rfl rfl (any_of HT_.out (by kernel_rfl)) (fun _ _ _ h => h) (Or.inl ⟨by rfl, ?_⟩) ?_ ?_
                       rotate_left; focus (intro w'; go_simp; with_reducible rfl)
                       rotate_left; focus (simp only [Act.put, sA, sB, sC, i64_w, i32_w]; rfl)
                       refine take_ (i := 2) (N := some 159) (v := ?_) (a' := ?_) #[tt,tt,tt,tt,ff,tt,ff,tt,tt,tt,ff,ff,tt,tt,tt,ff,ff,ff] rfl rfl (take_ofW HT_.out HW_.out (by kernel_rfl)) (fun _ _ _ h => h) (Or.inl ⟨by rfl, ?_⟩) hHeld ?_ ?_
                       rotate_left; focus (rintro w' ⟨s0, s1, s2⟩; go_simp; with_reducible rfl)
                       rotate_left; focus (simp only [Act.put, sA, sB, sC, i64_w, i32_w]; rfl)
                       refine pure_ (i := 4) (N := some 161) (v := ?_) (a' := ?_) #[tt,tt,tt,tt,tt,tt,ff,tt,tt,tt,ff,ff,tt,tt,tt,ff,ff,ff] rfl rfl (any_of HT_.out (by kernel_rfl)) (fun _ _ _ h => h) (Or.inl ⟨by rfl, ?_⟩) ?_ ?_
                       rotate_left; focus (intro w'; go_simp; with_reducible rfl)
                       rotate_left; focus (simp only [Act.put, sA, sB, sC, i64_w, i32_w]; rfl)
                       refine pure_ (i := 6) (N := some 163) (v := ?_) (a' := ?_) #[tt,tt,tt,tt,tt,tt,tt,tt,tt,tt,ff,ff,tt,tt,tt,ff,ff,ff] rfl rfl (any_of HT_.out (by kernel_rfl)) (fun _ _ _ h => h) (Or.inl ⟨by rfl, ?_⟩) ?_ ?_
                       rotate_left; focus (intro w'; go_simp; with_reducible rfl)
                       rotate_left; focus (simp only [Act.put, sA, sB, sC, i64_w, i32_w]; rfl)
                       refine take_ (i := 10) (N := some 167) (v := ?_) (a' := ?_) #[tt,tt,tt,tt,tt,tt,tt,tt,tt,tt,tt,ff,tt,tt,tt,ff,ff,ff] rfl rfl (take_ofW HT_.out HW_.out (by kernel_rfl)) (fun _ _ _ h => h) (Or.inl ⟨by rfl, ?_⟩) hHeld ?_ ?_
                       rotate_left; focus (rintro w' ⟨s0, s1, s2⟩; go_simp; with_reducible rfl)
                       rotate_left; focus (simp only [Act.put, sA, sB, sC, i64_w, i32_w]; rfl)
                       refine pure_ (i := 11) (N := some 168) (v := ?_) (a' := ?_) #[tt,tt,tt,tt,tt,tt,tt,tt,tt,tt,tt,tt,tt,tt,tt,ff,ff,ff] rfl rfl (any_of HT_.out (by kernel_rfl)) (fun _ _ _ h => h) (Or.inl ⟨by rfl, ?_⟩) ?_ ?_
                       rotate_left; focus (intro w'; go_simp; with_reducible rfl)
                       rotate_left; focus (simp only [Act.put, sA, sB, sC, i64_w, i32_w]; rfl)
                       refine take_ (i := 15) (N := some 172) (v := ?_) (a' := ?_) #[tt,tt,tt,tt,tt,tt,tt,tt,tt,tt,tt,tt,tt,tt,tt,tt,ff,ff] rfl rfl (take_ofW HT_.out HW_.out (by kernel_rfl)) (fun _ _ _ h => h) (Or.inl ⟨by rfl, ?_⟩) hHeld ?_ ?_
                       rotate_left; focus (rintro w' ⟨s0, s1, s2⟩; go_simp; with_reducible rfl)
                       rotate_left; focus (simp only [Act.put, sA, sB, sC, i64_w, i32_w]; rfl)
                       refine pure_ (i := 16) (N := some 173) (v := ?_) (a' := ?_) #[tt,tt,tt,tt,tt,tt,tt,tt,tt,tt,tt,tt,tt,tt,tt,tt,tt,ff] rfl rfl (any_of HT_.out (by kernel_rfl)) (fun _ _ _ h => h) (Or.inl ⟨by rfl, ?_⟩) ?_ ?_
                       rotate_left; focus (intro w'; go_simp; with_reducible rfl)
                       rotate_left; focus (simp only [Act.put, sA, sB, sC, i64_w, i32_w]; rfl)
                       refine pure_ (i := 17) (N := some 17) (v := ?_) (a' := ?_) #[tt,tt,tt,tt,tt,tt,tt,tt,tt,tt,tt,tt,tt,tt,tt,tt,tt,tt] rfl rfl (any_of HT_.out (by kernel_rfl)) (fun _ _ _ h => h) (Or.inl ⟨by rfl, ?_⟩) ?_ ?_
                       rotate_left; focus (intro w'; go_simp; with_reducible rfl)
                       rotate_left; focus (simp only [Act.put, sA, sB, sC, i64_w, i32_w]; rfl)
                       refine done_ (done_of HT_.out (by kernel_rfl)) ?_
                       try go_wp2
                       have n0_ := Aside0.mk (Kd.R_drew HO_7.out)
                       have n1_ := Aside0.mk (Kd.R_drew HO_12.out)
                       have n2_ := Aside0.mk (below_drew1 HB.out)
                       clear HO_7
                       clear HO_12
                       clear HB
                       have HO_7 := n0_
                       have HO_12 := n1_
                       have HB := n2_
                       clear n0_ n1_ n2_
                       have p181 : 0 ≤ (0 : Int) := (by omega)
                       have q181 : 0 < (x12_3.length : Int) := of_decide_eq_true (by first | (with_reducible assumption) | assumption)
                       obtain ⟨ad181, e181, hx181_0⟩ := Kd.at_int (Kd.R_reads' HO_12.out).2.2 0 p181 q181
                       obtain rfl : ad172 = ad181 := (by injection e181)
                       have qi181 : (0 < x12_3.length) = True := eq_true (by omega)
                       (try rw [show ((0 : Int)).toNat = 0 from rfl] at hx181_0)
                       (try rw [Addr.add_zero'] at hx181_0)
                       replace p181 := eq_true p181
                       replace q181 := eq_true q181
                       have p183 : 0 ≤ (0 : Int) := (by omega)
                       have q183 : 0 < (x12_3.length : Int) := of_decide_eq_true (by first | (with_reducible assumption) | assumption)
                       obtain ⟨ad183, e183, hx183_0⟩ := Kd.at_int (Kd.R_reads' HO_12.out).2.2 0 p183 q183
                       obtain rfl : ad172 = ad183 := (by injection e183)
                       have qi183 : (0 < x12_3.length) = True := eq_true (by omega)
                       (try rw [show ((0 : Int)).toNat = 0 from rfl] at hx183_0)
                       (try rw [Addr.add_zero'] at hx183_0)
                       replace p183 := eq_true p183
                       replace q183 := eq_true q183
                       have p185 : 0 ≤ (0 : Int) := (by omega)
                       have q185 : 0 < (x12_3.length : Int) := of_decide_eq_true (by first | (with_reducible assumption) | assumption)
                       obtain ⟨ad185, e185, hx185_0⟩ := Kd.at_int (Kd.R_reads' HO_12.out).2.2 0 p185 q185
                       obtain rfl : ad172 = ad185 := (by injection e185)
                       have qi185 : (0 < x12_3.length) = True := eq_true (by omega)
                       (try rw [show ((0 : Int)).toNat = 0 from rfl] at hx185_0)
                       (try rw [Addr.add_zero'] at hx185_0)
                       replace p185 := eq_true p185
                       replace q185 := eq_true q185
                       refine start_ (n := 15) (S := fun w' => w'.cell? ad172 = some (.int .i64 (rd x12_3 0)) ∧ w'.cell? ad172 = some (.int .i64 (rd x12_3 0)) ∧ w'.cell? ad172 = some (.int .i64 (rd x12_3 0))) (ds := []) #[ff,ff,ff,ff,ff,ff,ff,ff,ff,ff,ff,ff,ff,ff,ff] (by kernel_rfl) rfl rfl ⟨hx181_0, hx183_0, hx185_0⟩ (fun hHeld => ?_); refine with_tabW spec_l04Block.tab20 spec_l04Block.bits20 (fun HT_ HW_ => ?_)
                       generalize w74.drew = w76 at HO_7 HO_12 HB hx181_0 hx183_0 hx185_0 hHeld ⊢
                       refine pure_ (i := 0) (N := some 174) (v := ?_) (a' := ?_) #[tt,ff,ff,ff,ff,ff,ff,ff,ff,ff,ff,ff,ff,ff,ff] rfl rfl (any_of HT_.out (by kernel_rfl)) (fun _ _ _ h => h) (Or.inl ⟨by rfl, ?_⟩) ?_ ?_
                       rotate_left; focus (intro w'; go_simp; with_reducible rfl)
                       rotate_left; focus (simp only [Act.put, sA, sB, sC, i64_w, i32_w]; rfl)
                       refine pure_ (i := 1) (N := some 175) (v := ?_) (a' := ?_) #[tt,tt,ff,ff,ff,ff,ff,ff,ff,ff,ff,ff,ff,ff,ff] rfl rfl (any_of HT_.out (by kernel_rfl)) (fun _ _ _ h => h) (Or.inl ⟨by rfl, ?_⟩) ?_ ?_
                       rotate_left; focus (intro w'; go_simp; with_reducible rfl)
                       rotate_left; focus (simp only [Act.put, sA, sB, sC, i64_w, i32_w]; rfl)
                       refine pure_ (i := 4) (N := some 178) (v := ?_) (a' := ?_) #[tt,tt,ff,ff,tt,ff,ff,ff,ff,ff,ff,ff,ff,ff,ff] rfl rfl (any_of HT_.out (by kernel_rfl)) (fun _ _ _ h => h) (Or.inl ⟨by rfl, ?_⟩) ?_ ?_
                       rotate_left; focus (intro w'; go_simp; with_reducible rfl)
                       rotate_left; focus (simp only [Act.put, sA, sB, sC, i64_w, i32_w]; rfl)
                       refine pure_ (i := 5) (N := some 179) (v := ?_) (a' := ?_) #[tt,tt,ff,ff,tt,tt,ff,ff,ff,ff,ff,ff,ff,ff,ff] rfl rfl (any_of HT_.out (by kernel_rfl)) (fun _ _ _ h => h) (Or.inl ⟨by rfl, ?_⟩) ?_ ?_
                       rotate_left; focus (intro w'; go_simp; with_reducible rfl)
                       rotate_left; focus (simp only [Act.put, sA, sB, sC, i64_w, i32_w]; rfl)
                       refine pure_ (i := 9) (N := some 183) (v := ?_) (a' := ?_) #[tt,tt,ff,ff,tt,tt,ff,ff,ff,tt,ff,ff,ff,ff,ff] rfl rfl (any_of HT_.out (by kernel_rfl)) (fun _ _ _ h => h) (Or.inl ⟨by rfl, ?_⟩) ?_ ?_
                       rotate_left; focus (intro w'; go_simp; with_reducible rfl)
                       rotate_left; focus (simp only [Act.put, sA, sB, sC, i64_w, i32_w]; rfl)
                       refine pure_ (i := 10) (N := some 184) (v := ?_) (a' := ?_) #[tt,tt,ff,ff,tt,tt,ff,ff,ff,tt,tt,ff,ff,ff,ff] rfl rfl (any_of HT_.out (by kernel_rfl)) (fun _ _ _ h => h) (Or.inl ⟨by rfl, ?_⟩) ?_ ?_
                       rotate_left; focus (intro w'; go_simp; with_reducible rfl)
                       rotate_left; focus (simp only [Act.put, sA, sB, sC, i64_w, i32_w]; rfl)
                       refine take_ (i := 2) (N := some 176) (v := ?_) (a' := ?_) #[tt,tt,tt,ff,tt,tt,ff,ff,ff,tt,tt,ff,ff,ff,ff] rfl rfl (take_ofW HT_.out HW_.out (by kernel_rfl)) (fun _ _ _ h => h) (Or.inl ⟨by rfl, ?_⟩) hHeld ?_ ?_
                       rotate_left; focus (rintro w' ⟨s0, s1, s2⟩; go_simp; with_reducible rfl)
                       rotate_left; focus (simp only [Act.put, sA, sB, sC, i64_w, i32_w]; rfl)
                       refine take_ (i := 6) (N := some 180) (v := ?_) (a' := ?_) #[tt,tt,tt,ff,tt,tt,tt,ff,ff,tt,tt,ff,ff,ff,ff] rfl rfl (take_ofW HT_.out HW_.out (by kernel_rfl)) (fun _ _ _ h => h) (Or.inl ⟨by rfl, ?_⟩) hHeld ?_ ?_
                       rotate_left; focus (rintro w' ⟨s0, s1, s2⟩; go_simp; with_reducible rfl)
                       rotate_left; focus (simp only [Act.put, sA, sB, sC, i64_w, i32_w]; rfl)
                       refine take_ (i := 11) (N := some 185) (v := ?_) (a' := ?_) #[tt,tt,tt,ff,tt,tt,tt,ff,ff,tt,tt,tt,ff,ff,ff] rfl rfl (take_ofW HT_.out HW_.out (by kernel_rfl)) (fun _ _ _ h => h) (Or.inl ⟨by rfl, ?_⟩) hHeld ?_ ?_
                       rotate_left; focus (rintro w' ⟨s0, s1, s2⟩; go_simp; with_reducible rfl)
                       rotate_left; focus (simp only [Act.put, sA, sB, sC, i64_w, i32_w]; rfl)
                       refine one_ (i := 3) (N := some 177) #[tt,tt,tt,tt,tt,tt,tt,ff,ff,tt,tt,tt,ff,ff,ff] rfl rfl (one_of HT_.out (by kernel_rfl)) (by decide) (fun K hK => ?_)
                       refine goes_ Try.func60 (by kernel_rfl) rfl #[.int .i64 (rd x12_3 0), .int .i64 2] (by rfl) rfl rfl (by (try simp only [List.map_toArray, List.map_cons, List.map_nil]); first | done | rfl | (simp only [List.length_drop, List.length_take]; rfl)) ?_
                       with_reducible refine (spec_l04Turn.calls (rd x12_3 0) 2 t182 _ A66.out).mono ?_
                       rintro e w' ⟨rfl, ⟨nd, rfl⟩⟩
                       refine ⟨_, rfl, ?_⟩
                       refine hK.out _ _ ⟨hHeld.1, hHeld.2.1, hHeld.2.2⟩ (fun hHeld => ?_)
                       clear hK K
                       refine norm_ (a' := ?_) ?_ ?_
                       rotate_left
                       ·
                        show Act.put _ (some 177) _ = _
                        simp only [Act.put, sA, sB, sC, i64_w, i32_w]
                        rfl
                       refine one_ (i := 7) (N := some 181) #[tt,tt,tt,tt,tt,tt,tt,tt,ff,tt,tt,tt,ff,ff,ff] rfl rfl (one_of HT_.out (by kernel_rfl)) (by decide) (fun K hK => ?_)
                       refine goes_ Try.func60 (by kernel_rfl) rfl #[.int .i64 (rd x12_3 0), .int .i64 13] (by rfl) rfl rfl (by (try simp only [List.map_toArray, List.map_cons, List.map_nil]); first | done | rfl | (simp only [List.length_drop, List.length_take]; rfl)) ?_
                       with_reducible refine (spec_l04Turn.calls (rd x12_3 0) 13 t184 _ A67.out).mono ?_
                       rintro e w' ⟨rfl, ⟨nd, rfl⟩⟩
                       refine ⟨_, rfl, ?_⟩
                       refine hK.out _ _ ⟨hHeld.1, hHeld.2.1, hHeld.2.2⟩ (fun hHeld => ?_)
                       clear hK K
                       refine norm_ (a' := ?_) ?_ ?_
                       rotate_left
                       ·
                        show Act.put _ (some 181) _ = _
                        simp only [Act.put, sA, sB, sC, i64_w, i32_w]
                        rfl
                       refine pure_ (i := 8) (N := some 182) (v := ?_) (a' := ?_) #[tt,tt,tt,tt,tt,tt,tt,tt,tt,tt,tt,tt,ff,ff,ff] rfl rfl (any_of HT_.out (by kernel_rfl)) (fun _ _ _ h => h) (Or.inl ⟨by rfl, ?_⟩) ?_ ?_
                       rotate_left; focus (intro w'; go_simp; with_reducible rfl)
                       rotate_left; focus (simp only [Act.put, sA, sB, sC, i64_w, i32_w]; rfl)
                       refine one_ (i := 12) (N := some 186) #[tt,tt,tt,tt,tt,tt,tt,tt,tt,tt,tt,tt,tt,ff,ff] rfl rfl (one_of HT_.out (by kernel_rfl)) (by decide) (fun K hK => ?_)
                       refine goes_ Try.func60 (by kernel_rfl) rfl #[.int .i64 (rd x12_3 0), .int .i64 22] (by rfl) rfl rfl (by (try simp only [List.map_toArray, List.map_cons, List.map_nil]); first | done | rfl | (simp only [List.length_drop, List.length_take]; rfl)) ?_
                       with_reducible refine (spec_l04Turn.calls (rd x12_3 0) 22 t186 _ A68.out).mono ?_
                       rintro e w' ⟨rfl, ⟨nd, rfl⟩⟩
                       refine ⟨_, rfl, ?_⟩
                       refine hK.out _ _ ⟨hHeld.1, hHeld.2.1, hHeld.2.2⟩ (fun hHeld => ?_)
                       clear hK K
                       refine norm_ (a' := ?_) ?_ ?_
                       rotate_left
                       ·
                        show Act.put _ (some 186) _ = _
                        simp only [Act.put, sA, sB, sC, i64_w, i32_w]
                        rfl
                       refine pure_ (i := 13) (N := some 187) (v := ?_) (a' := ?_) #[tt,tt,tt,tt,tt,tt,tt,tt,tt,tt,tt,tt,tt,tt,ff] rfl rfl (any_of HT_.out (by kernel_rfl)) (fun _ _ _ h => h) (Or.inl ⟨by rfl, ?_⟩) ?_ ?_
                       rotate_left; focus (intro w'; go_simp; with_reducible rfl)
                       rotate_left; focus (simp only [Act.put, sA, sB, sC, i64_w, i32_w]; rfl)
                       refine pure_ (i := 14) (N := some 18) (v := ?_) (a' := ?_) #[tt,tt,tt,tt,tt,tt,tt,tt,tt,tt,tt,tt,tt,tt,tt] rfl rfl (any_of HT_.out (by kernel_rfl)) (fun _ _ _ h => h) (Or.inl ⟨by rfl, ?_⟩) ?_ ?_
                       rotate_left; focus (intro w'; go_simp; with_reducible rfl)
                       rotate_left; focus (simp only [Act.put, sA, sB, sC, i64_w, i32_w]; rfl)
                       refine done_ (done_of HT_.out (by kernel_rfl)) ?_
                       try go_wp2
                       (try (rw [drewN_self w76]; generalize hq_ : World.drewN w76 _ = w76; have n0_ : Aside0 (Kd.R (Kd.int .i64) 3 w76 w.heap.size (fun k_ => some k_ ≠ (.slice (some ad180) x7_2.length co75 : Value).ownBlock) (.slice (some ad172) x12_3.length co72) x12_3) := ⟨by rw [← hq_]; exact (by (with_reducible repeat (first | apply Kd.R_alloc | apply Kd.R_drewN | apply Kd.R_drew)); exact HO_12.out)⟩; have n1_ : Aside0 (Kd.R (Kd.int .i64) 3 w76 w.heap.size (fun k_ => some k_ ≠ (.slice (some ad172) x12_3.length co72 : Value).ownBlock) (.slice (some ad180) x7_2.length co75) x7_2) := ⟨by rw [← hq_]; exact (by (with_reducible repeat (first | apply Kd.R_alloc | apply Kd.R_drewN | apply Kd.R_drew)); exact HO_7.out)⟩; have n2_ : Aside0 (Below w.heap.size w w76) := ⟨by rw [← hq_]; exact (by repeat (first | (with_reducible first | exact HB.out | apply below_alloc | apply pw_below_drewN | apply below_drew1) | exact HB.out))⟩; clear HO_12 HO_7 HB hq_; have HO_12 := n0_; have HO_7 := n1_; have HB := n2_; clear n0_ n1_ n2_))
                       have n0_ := Aside0.mk (Kd.R_drew HO_7.out)
                       have n1_ := Aside0.mk (Kd.R_drew HO_12.out)
                       have n2_ := Aside0.mk (below_drew1 HB.out)
                       clear HO_7
                       clear HO_12
                       clear HB
                       have HO_7 := n0_
                       have HO_12 := n1_
                       have HB := n2_
                       clear n0_ n1_ n2_
                       have p187 : 0 ≤ (0 : Int) := (by omega)
                       have q187 : 0 < (x12_3.length : Int) := of_decide_eq_true (by first | (with_reducible assumption) | assumption)
                       obtain ⟨ad187, e187, hx187_0⟩ := Kd.at_int (Kd.R_reads' HO_12.out).2.2 0 p187 q187
                       obtain rfl : ad172 = ad187 := (by injection e187)
                       have qi187 : (0 < x12_3.length) = True := eq_true (by omega)
                       (try rw [show ((0 : Int)).toNat = 0 from rfl] at hx187_0)
                       (try rw [Addr.add_zero'] at hx187_0)
                       replace p187 := eq_true p187
                       replace q187 := eq_true q187
                       have p188 : 0 ≤ (1 : Int) := (by omega)
                       have q188 : 1 < (x12_3.length : Int) := of_decide_eq_true (by first | (with_reducible assumption) | assumption)
                       obtain ⟨ad188, e188, hx188_0⟩ := Kd.at_int (Kd.R_reads' HO_12.out).2.2 1 p188 q188
                       obtain rfl : ad172 = ad188 := (by injection e188)
                       (try simp only [show (1 : Int).toNat = 1 from rfl, Nat.reduceMul, Nat.reduceEqDiff, Go.Addr.add, ↓reduceIte] at hx188_0)
                       have qi188 : (1 < x12_3.length) = True := eq_true (by omega)
                       (try rw [show ((1 : Int)).toNat = 1 from rfl] at hx188_0)
                       replace p188 := eq_true p188
                       replace q188 := eq_true q188
                       have p189 : 0 ≤ (0 : Int) := (by omega)
                       have q189 : 0 < (x12_3.length : Int) := of_decide_eq_true (by first | (with_reducible assumption) | assumption)
                       obtain ⟨ad189, e189, hx189_0⟩ := Kd.at_int (Kd.R_reads' HO_12.out).2.2 0 p189 q189
                       obtain rfl : ad172 = ad189 := (by injection e189)
                       have qi189 : (0 < x12_3.length) = True := eq_true (by omega)
                       (try rw [show ((0 : Int)).toNat = 0 from rfl] at hx189_0)
                       (try rw [Addr.add_zero'] at hx189_0)
                       replace p189 := eq_true p189
                       replace q189 := eq_true q189
                       have p190 : 0 ≤ (2 : Int) := (by omega)
                       have q190 : 2 < (x12_3.length : Int) := of_decide_eq_true (by first | (with_reducible assumption) | assumption)
                       obtain ⟨ad190, e190, hx190_0⟩ := Kd.at_int (Kd.R_reads' HO_12.out).2.2 2 p190 q190
                       obtain rfl : ad172 = ad190 := (by injection e190)
                       (try simp only [show (2 : Int).toNat = 2 from rfl, Nat.reduceMul, Nat.reduceEqDiff, Go.Addr.add, ↓reduceIte] at hx190_0)
                       have qi190 : (2 < x12_3.length) = True := eq_true (by omega)
                       (try rw [show ((2 : Int)).toNat = 2 from rfl] at hx190_0)
                       replace p190 := eq_true p190
                       replace q190 := eq_true q190
                       have p191 : 0 ≤ (1 : Int) := (by omega)
                       have q191 : 1 < (x12_3.length : Int) := of_decide_eq_true (by first | (with_reducible assumption) | assumption)
                       obtain ⟨ad191, e191, hx191_0⟩ := Kd.at_int (Kd.R_reads' HO_12.out).2.2 1 p191 q191
                       obtain rfl : ad172 = ad191 := (by injection e191)
                       (try simp only [show (1 : Int).toNat = 1 from rfl, Nat.reduceMul, Nat.reduceEqDiff, Go.Addr.add, ↓reduceIte] at hx191_0)
                       have qi191 : (1 < x12_3.length) = True := eq_true (by omega)
                       (try rw [show ((1 : Int)).toNat = 1 from rfl] at hx191_0)
                       replace p191 := eq_true p191
                       replace q191 := eq_true q191
                       have p192 : 0 ≤ (2 : Int) := (by omega)
                       have q192 : 2 < (x12_3.length : Int) := of_decide_eq_true (by first | (with_reducible assumption) | assumption)
                       obtain ⟨ad192, e192, hx192_0⟩ := Kd.at_int (Kd.R_reads' HO_12.out).2.2 2 p192 q192
                       obtain rfl : ad172 = ad192 := (by injection e192)
                       (try simp only [show (2 : Int).toNat = 2 from rfl, Nat.reduceMul, Nat.reduceEqDiff, Go.Addr.add, ↓reduceIte] at hx192_0)
                       have qi192 : (2 < x12_3.length) = True := eq_true (by omega)
                       (try rw [show ((2 : Int)).toNat = 2 from rfl] at hx192_0)
                       replace p192 := eq_true p192
                       replace q192 := eq_true q192
                       refine start_ (n := 24) (S := fun w' => w'.cell? ad172 = some (.int .i64 (rd x12_3 0)) ∧ w'.cell? ⟨ad172.block, ad172.off + 1, none⟩ = some (.int .i64 (rd x12_3 1)) ∧ w'.cell? ad172 = some (.int .i64 (rd x12_3 0)) ∧ w'.cell? ⟨ad172.block, ad172.off + 2, none⟩ = some (.int .i64 (rd x12_3 2)) ∧ w'.cell? ⟨ad172.block, ad172.off + 1, none⟩ = some (.int .i64 (rd x12_3 1)) ∧ w'.cell? ⟨ad172.block, ad172.off + 2, none⟩ = some (.int .i64 (rd x12_3 2))) (ds := []) #[ff,ff,ff,ff,ff,ff,ff,ff,ff,ff,ff,ff,ff,ff,ff,ff,ff,ff,ff,ff,ff,ff,ff,ff] (by kernel_rfl) rfl rfl ⟨hx187_0, hx188_0, hx189_0, hx190_0, hx191_0, hx192_0⟩ (fun hHeld => ?_); refine with_tabW spec_l04Block.tab21 spec_l04Block.bits21 (fun HT_ HW_ => ?_)
                       generalize w76.drew = w77 at HO_7 HO_12 HB hx187_0 hx188_0 hx189_0 hx190_0 hx191_0 hx192_0 hHeld ⊢
                       refine pure_ (i := 0) (N := some 188) (v := ?_) (a' := ?_) #[tt,ff,ff,ff,ff,ff,ff,ff,ff,ff,ff,ff,ff,ff,ff,ff,ff,ff,ff,ff,ff,ff,ff,ff] rfl rfl (any_of HT_.out (by kernel_rfl)) (fun _ _ _ h => h) (Or.inl ⟨by rfl, ?_⟩) ?_ ?_
                       rotate_left; focus (intro w'; go_simp; with_reducible rfl)
                       rotate_left; focus (simp only [Act.put, sA, sB, sC, i64_w, i32_w]; rfl)
                       refine pure_ (i := 1) (N := some 189) (v := ?_) (a' := ?_) #[tt,tt,ff,ff,ff,ff,ff,ff,ff,ff,ff,ff,ff,ff,ff,ff,ff,ff,ff,ff,ff,ff,ff,ff] rfl rfl (any_of HT_.out (by kernel_rfl)) (fun _ _ _ h => h) (Or.inl ⟨by rfl, ?_⟩) ?_ ?_
                       rotate_left; focus (intro w'; go_simp; with_reducible rfl)
                       rotate_left; focus (simp only [Act.put, sA, sB, sC, i64_w, i32_w]; rfl)
                       refine pure_ (i := 3) (N := some 191) (v := ?_) (a' := ?_) #[tt,tt,ff,tt,ff,ff,ff,ff,ff,ff,ff,ff,ff,ff,ff,ff,ff,ff,ff,ff,ff,ff,ff,ff] rfl rfl (any_of HT_.out (by kernel_rfl)) (fun _ _ _ h => h) (Or.inl ⟨by rfl, ?_⟩) ?_ ?_
                       rotate_left; focus (intro w'; go_simp; with_reducible rfl)
                       rotate_left; focus (simp only [Act.put, sA, sB, sC, i64_w, i32_w]; rfl)
                       refine pure_ (i := 4) (N := some 192) (v := ?_) (a' := ?_) #[tt,tt,ff,tt,tt,ff,ff,ff,ff,ff,ff,ff,ff,ff,ff,ff,ff,ff,ff,ff,ff,ff,ff,ff] rfl rfl (any_of HT_.out (by kernel_rfl)) (fun _ _ _ h => h) (Or.inl ⟨by rfl, ?_⟩) ?_ ?_
                       rotate_left; focus (intro w'; go_simp; with_reducible rfl)
                       rotate_left; focus (simp only [Act.put, sA, sB, sC, i64_w, i32_w]; rfl)
                       refine pure_ (i := 7) (N := some 195) (v := ?_) (a' := ?_) #[tt,tt,ff,tt,tt,ff,ff,tt,ff,ff,ff,ff,ff,ff,ff,ff,ff,ff,ff,ff,ff,ff,ff,ff] rfl rfl (any_of HT_.out (by kernel_rfl)) (fun _ _ _ h => h) (Or.inl ⟨by rfl, ?_⟩) ?_ ?_
                       rotate_left; focus (intro w'; go_simp; with_reducible rfl)
                       rotate_left; focus (simp only [Act.put, sA, sB, sC, i64_w, i32_w]; rfl)
                       refine pure_ (i := 8) (N := some 196) (v := ?_) (a' := ?_) #[tt,tt,ff,tt,tt,ff,ff,tt,tt,ff,ff,ff,ff,ff,ff,ff,ff,ff,ff,ff,ff,ff,ff,ff] rfl rfl (any_of HT_.out (by kernel_rfl)) (fun _ _ _ h => h) (Or.inl ⟨by rfl, ?_⟩) ?_ ?_
                       rotate_left; focus (intro w'; go_simp; with_reducible rfl)
                       rotate_left; focus (simp only [Act.put, sA, sB, sC, i64_w, i32_w]; rfl)
                       refine pure_ (i := 10) (N := some 198) (v := ?_) (a' := ?_) #[tt,tt,ff,tt,tt,ff,ff,tt,tt,ff,tt,ff,ff,ff,ff,ff,ff,ff,ff,ff,ff,ff,ff,ff] rfl rfl (any_of HT_.out (by kernel_rfl)) (fun _ _ _ h => h) (Or.inl ⟨by rfl, ?_⟩) ?_ ?_
                       rotate_left; focus (intro w'; go_simp; with_reducible rfl)
                       rotate_left; focus (simp only [Act.put, sA, sB, sC, i64_w, i32_w]; rfl)
                       refine pure_ (i := 11) (N := some 199) (v := ?_) (a' := ?_) #[tt,tt,ff,tt,tt,ff,ff,tt,tt,ff,tt,tt,ff,ff,ff,ff,ff,ff,ff,ff,ff,ff,ff,ff] rfl rfl (any_of HT_.out (by kernel_rfl)) (fun _ _ _ h => h) (Or.inl ⟨by rfl, ?_⟩) ?_ ?_
                       rotate_left; focus (intro w'; go_simp; with_reducible rfl)
                       rotate_left; focus (simp only [Act.put, sA, sB, sC, i64_w, i32_w]; rfl)
                       refine pure_ (i := 15) (N := some 203) (v := ?_) (a' := ?_) #[tt,tt,ff,tt,tt,ff,ff,tt,tt,ff,tt,tt,ff,ff,ff,tt,ff,ff,ff,ff,ff,ff,ff,ff] rfl rfl (any_of HT_.out (by kernel_rfl)) (fun _ _ _ h => h) (Or.inl ⟨by rfl, ?_⟩) ?_ ?_
                       rotate_left; focus (intro w'; go_simp; with_reducible rfl)
                       rotate_left; focus (simp only [Act.put, sA, sB, sC, i64_w, i32_w]; rfl)
                       refine pure_ (i := 16) (N := some 204) (v := ?_) (a' := ?_) #[tt,tt,ff,tt,tt,ff,ff,tt,tt,ff,tt,tt,ff,ff,ff,tt,tt,ff,ff,ff,ff,ff,ff,ff] rfl rfl (any_of HT_.out (by kernel_rfl)) (fun _ _ _ h => h) (Or.inl ⟨by rfl, ?_⟩) ?_ ?_
                       rotate_left; focus (intro w'; go_simp; with_reducible rfl)
                       rotate_left; focus (simp only [Act.put, sA, sB, sC, i64_w, i32_w]; rfl)
                       refine pure_ (i := 18) (N := some 206) (v := ?_) (a' := ?_) #[tt,tt,ff,tt,tt,ff,ff,tt,tt,ff,tt,tt,ff,ff,ff,tt,tt,ff,tt,ff,ff,ff,ff,ff] rfl rfl (any_of HT_.out (by kernel_rfl)) (fun _ _ _ h => h) (Or.inl ⟨by rfl, ?_⟩) ?_ ?_
                       rotate_left; focus (intro w'; go_simp; with_reducible rfl)
                       rotate_left; focus (simp only [Act.put, sA, sB, sC, i64_w, i32_w]; rfl)
                       refine pure_ (i := 19) (N := some 207) (v := ?_) (a' := ?_) #[tt,tt,ff,tt,tt,ff,ff,tt,tt,ff,tt,tt,ff,ff,ff,tt,tt,ff,tt,tt,ff,ff,ff,ff] rfl rfl (any_of HT_.out (by kernel_rfl)) (fun _ _ _ h => h) (Or.inl ⟨by rfl, ?_⟩) ?_ ?_
                       rotate_left; focus (intro w'; go_simp; with_reducible rfl)
                       rotate_left; focus (simp only [Act.put, sA, sB, sC, i64_w, i32_w]; rfl)
                       refine take_ (i := 2) (N := some 190) (v := ?_) (a' := ?_) #[tt,tt,tt,tt,tt,ff,ff,tt,tt,ff,tt,tt,ff,ff,ff,tt,tt,ff,tt,tt,ff,ff,ff,ff] rfl rfl (take_ofW HT_.out HW_.out (by kernel_rfl)) (fun _ _ _ h => h) (Or.inl ⟨by rfl, ?_⟩) hHeld ?_ ?_
                       rotate_left; focus (rintro w' ⟨s0, s1, s2, s3, s4, s5⟩; go_simp; with_reducible rfl)
                       rotate_left; focus (simp only [Act.put, sA, sB, sC, i64_w, i32_w]; rfl)
                       refine take_ (i := 5) (N := some 193) (v := ?_) (a' := ?_) #[tt,tt,tt,tt,tt,tt,ff,tt,tt,ff,tt,tt,ff,ff,ff,tt,tt,ff,tt,tt,ff,ff,ff,ff] rfl rfl (take_ofW HT_.out HW_.out (by kernel_rfl)) (fun _ _ _ h => h) (Or.inl ⟨by rfl, ?_⟩) hHeld ?_ ?_
                       rotate_left; focus (rintro w' ⟨s0, s1, s2, s3, s4, s5⟩; go_simp; with_reducible rfl)
                       rotate_left; focus (simp only [Act.put, sA, sB, sC, i64_w, i32_w]; rfl)
                       refine pure_ (i := 6) (N := some 194) (v := ?_) (a' := ?_) #[tt,tt,tt,tt,tt,tt,tt,tt,tt,ff,tt,tt,ff,ff,ff,tt,tt,ff,tt,tt,ff,ff,ff,ff] rfl rfl (any_of HT_.out (by kernel_rfl)) (fun _ _ _ h => h) (Or.inl ⟨by rfl, ?_⟩) ?_ ?_
                       rotate_left; focus (intro w'; go_simp; with_reducible rfl)
                       rotate_left; focus (simp only [Act.put, sA, sB, sC, i64_w, i32_w]; rfl)
                       refine take_ (i := 9) (N := some 197) (v := ?_) (a' := ?_) #[tt,tt,tt,tt,tt,tt,tt,tt,tt,tt,tt,tt,ff,ff,ff,tt,tt,ff,tt,tt,ff,ff,ff,ff] rfl rfl (take_ofW HT_.out HW_.out (by kernel_rfl)) (fun _ _ _ h => h) (Or.inl ⟨by rfl, ?_⟩) hHeld ?_ ?_
                       rotate_left; focus (rintro w' ⟨s0, s1, s2, s3, s4, s5⟩; go_simp; with_reducible rfl)
                       rotate_left; focus (simp only [Act.put, sA, sB, sC, i64_w, i32_w]; rfl)
                       refine take_ (i := 12) (N := some 200) (v := ?_) (a' := ?_) #[tt,tt,tt,tt,tt,tt,tt,tt,tt,tt,tt,tt,tt,ff,ff,tt,tt,ff,tt,tt,ff,ff,ff,ff] rfl rfl (take_ofW HT_.out HW_.out (by kernel_rfl)) (fun _ _ _ h => h) (Or.inl ⟨by rfl, ?_⟩) hHeld ?_ ?_
                       rotate_left; focus (rintro w' ⟨s0, s1, s2, s3, s4, s5⟩; go_simp; with_reducible rfl)
                       rotate_left; focus (simp only [Act.put, sA, sB, sC, i64_w, i32_w]; rfl)
                       refine pure_ (i := 13) (N := some 201) (v := ?_) (a' := ?_) #[tt,tt,tt,tt,tt,tt,tt,tt,tt,tt,tt,tt,tt,tt,ff,tt,tt,ff,tt,tt,ff,ff,ff,ff] rfl rfl (any_of HT_.out (by kernel_rfl)) (fun _ _ _ h => h) (Or.inl ⟨by rfl, ?_⟩) ?_ ?_
                       rotate_left; focus (intro w'; go_simp; with_reducible rfl)
                       rotate_left; focus (simp only [Act.put, sA, sB, sC, i64_w, i32_w]; rfl)
                       refine pure_ (i := 14) (N := some 202) (v := ?_) (a' := ?_) #[tt,tt,tt,tt,tt,tt,tt,tt,tt,tt,tt,tt,tt,tt,tt,tt,tt,ff,tt,tt,ff,ff,ff,ff] rfl rfl (any_of HT_.out (by kernel_rfl)) (fun _ _ _ h => h) (Or.inl ⟨by rfl, ?_⟩) ?_ ?_
                       rotate_left; focus (intro w'; go_simp; with_reducible rfl)
                       rotate_left; focus (simp only [Act.put, sA, sB, sC, i64_w, i32_w]; rfl)
                       refine take_ (i := 17) (N := some 205) (v := ?_) (a' := ?_) #[tt,tt,tt,tt,tt,tt,tt,tt,tt,tt,tt,tt,tt,tt,tt,tt,tt,tt,tt,tt,ff,ff,ff,ff] rfl rfl (take_ofW HT_.out HW_.out (by kernel_rfl)) (fun _ _ _ h => h) (Or.inl ⟨by rfl, ?_⟩) hHeld ?_ ?_
                       rotate_left; focus (rintro w' ⟨s0, s1, s2, s3, s4, s5⟩; go_simp; with_reducible rfl)
                       rotate_left; focus (simp only [Act.put, sA, sB, sC, i64_w, i32_w]; rfl)
                       refine take_ (i := 20) (N := some 208) (v := ?_) (a' := ?_) #[tt,tt,tt,tt,tt,tt,tt,tt,tt,tt,tt,tt,tt,tt,tt,tt,tt,tt,tt,tt,tt,ff,ff,ff] rfl rfl (take_ofW HT_.out HW_.out (by kernel_rfl)) (fun _ _ _ h => h) (Or.inl ⟨by rfl, ?_⟩) hHeld ?_ ?_
                       rotate_left; focus (rintro w' ⟨s0, s1, s2, s3, s4, s5⟩; go_simp; with_reducible rfl)
                       rotate_left; focus (simp only [Act.put, sA, sB, sC, i64_w, i32_w]; rfl)
                       refine pure_ (i := 21) (N := some 209) (v := ?_) (a' := ?_) #[tt,tt,tt,tt,tt,tt,tt,tt,tt,tt,tt,tt,tt,tt,tt,tt,tt,tt,tt,tt,tt,tt,ff,ff] rfl rfl (any_of HT_.out (by kernel_rfl)) (fun _ _ _ h => h) (Or.inl ⟨by rfl, ?_⟩) ?_ ?_
                       rotate_left; focus (intro w'; go_simp; with_reducible rfl)
                       rotate_left; focus (simp only [Act.put, sA, sB, sC, i64_w, i32_w]; rfl)
                       refine pure_ (i := 22) (N := some 210) (v := ?_) (a' := ?_) #[tt,tt,tt,tt,tt,tt,tt,tt,tt,tt,tt,tt,tt,tt,tt,tt,tt,tt,tt,tt,tt,tt,tt,ff] rfl rfl (any_of HT_.out (by kernel_rfl)) (fun _ _ _ h => h) (Or.inl ⟨by rfl, ?_⟩) ?_ ?_
                       rotate_left; focus (intro w'; go_simp; with_reducible rfl)
                       rotate_left; focus (simp only [Act.put, sA, sB, sC, i64_w, i32_w]; rfl)
                       refine pure_ (i := 23) (N := some 19) (v := ?_) (a' := ?_) #[tt,tt,tt,tt,tt,tt,tt,tt,tt,tt,tt,tt,tt,tt,tt,tt,tt,tt,tt,tt,tt,tt,tt,tt] rfl rfl (any_of HT_.out (by kernel_rfl)) (fun _ _ _ h => h) (Or.inl ⟨by rfl, ?_⟩) ?_ ?_
                       rotate_left; focus (intro w'; go_simp; with_reducible rfl)
                       rotate_left; focus (simp only [Act.put, sA, sB, sC, i64_w, i32_w]; rfl)
                       refine done_ (done_of HT_.out (by kernel_rfl)) ?_
                       try go_wp2
                       have n0_ := Aside0.mk (Kd.R_drew HO_7.out)
                       have n1_ := Aside0.mk (Kd.R_drew HO_12.out)
                       have n2_ := Aside0.mk (below_drew1 HB.out)
                       clear HO_7
                       clear HO_12
                       clear HB
                       have HO_7 := n0_
                       have HO_12 := n1_
                       have HB := n2_
                       clear n0_ n1_ n2_
                       have p193 : 0 ≤ (0 : Int) := (by omega)
                       have q193 : 0 < (x12_3.length : Int) := of_decide_eq_true (by first | (with_reducible assumption) | assumption)
                       obtain ⟨ad193, e193, hx193_0⟩ := Kd.at_int (Kd.R_reads' HO_12.out).2.2 0 p193 q193
                       obtain rfl : ad172 = ad193 := (by injection e193)
                       have qi193 : (0 < x12_3.length) = True := eq_true (by omega)
                       (try rw [show ((0 : Int)).toNat = 0 from rfl] at hx193_0)
                       (try rw [Addr.add_zero'] at hx193_0)
                       replace p193 := eq_true p193
                       replace q193 := eq_true q193
                       have p194 : 0 ≤ (1 : Int) := (by omega)
                       have q194 : 1 < (x12_3.length : Int) := of_decide_eq_true (by first | (with_reducible assumption) | assumption)
                       obtain ⟨ad194, e194, hx194_0⟩ := Kd.at_int (Kd.R_reads' HO_12.out).2.2 1 p194 q194
                       obtain rfl : ad172 = ad194 := (by injection e194)
                       (try simp only [show (1 : Int).toNat = 1 from rfl, Nat.reduceMul, Nat.reduceEqDiff, Go.Addr.add, ↓reduceIte] at hx194_0)
                       have qi194 : (1 < x12_3.length) = True := eq_true (by omega)
                       (try rw [show ((1 : Int)).toNat = 1 from rfl] at hx194_0)
                       replace p194 := eq_true p194
                       replace q194 := eq_true q194
                       have p195 : 0 ≤ (2 : Int) := (by omega)
                       have q195 : 2 < (x12_3.length : Int) := of_decide_eq_true (by first | (with_reducible assumption) | assumption)
                       obtain ⟨ad195, e195, hx195_0⟩ := Kd.at_int (Kd.R_reads' HO_12.out).2.2 2 p195 q195
                       obtain rfl : ad172 = ad195 := (by injection e195)
                       (try simp only [show (2 : Int).toNat = 2 from rfl, Nat.reduceMul, Nat.reduceEqDiff, Go.Addr.add, ↓reduceIte] at hx195_0)
                       have qi195 : (2 < x12_3.length) = True := eq_true (by omega)
                       (try rw [show ((2 : Int)).toNat = 2 from rfl] at hx195_0)
                       replace p195 := eq_true p195
                       replace q195 := eq_true q195
                       have p196 : 0 ≤ (3 : Int) := (by omega)
                       have q196 : 3 < (x12_3.length : Int) := of_decide_eq_true (by first | (with_reducible assumption) | assumption)
                       obtain ⟨ad196, e196, hx196_0⟩ := Kd.at_int (Kd.R_reads' HO_12.out).2.2 3 p196 q196
                       obtain rfl : ad172 = ad196 := (by injection e196)
                       (try simp only [show (3 : Int).toNat = 3 from rfl, Nat.reduceMul, Nat.reduceEqDiff, Go.Addr.add, ↓reduceIte] at hx196_0)
                       have qi196 : (3 < x12_3.length) = True := eq_true (by omega)
                       (try rw [show ((3 : Int)).toNat = 3 from rfl] at hx196_0)
                       replace p196 := eq_true p196
                       replace q196 := eq_true q196
                       have p197 : 0 ≤ (4 : Int) := (by omega)
                       have q197 : 4 < (x12_3.length : Int) := of_decide_eq_true (by first | (with_reducible assumption) | assumption)
                       obtain ⟨ad197, e197, hx197_0⟩ := Kd.at_int (Kd.R_reads' HO_12.out).2.2 4 p197 q197
                       obtain rfl : ad172 = ad197 := (by injection e197)
                       (try simp only [show (4 : Int).toNat = 4 from rfl, Nat.reduceMul, Nat.reduceEqDiff, Go.Addr.add, ↓reduceIte] at hx197_0)
                       have qi197 : (4 < x12_3.length) = True := eq_true (by omega)
                       (try rw [show ((4 : Int)).toNat = 4 from rfl] at hx197_0)
                       replace p197 := eq_true p197
                       replace q197 := eq_true q197
                       have p198 : 0 ≤ (5 : Int) := (by omega)
                       have q198 : 5 < (x12_3.length : Int) := of_decide_eq_true (by first | (with_reducible assumption) | assumption)
                       obtain ⟨ad198, e198, hx198_0⟩ := Kd.at_int (Kd.R_reads' HO_12.out).2.2 5 p198 q198
                       obtain rfl : ad172 = ad198 := (by injection e198)
                       (try simp only [show (5 : Int).toNat = 5 from rfl, Nat.reduceMul, Nat.reduceEqDiff, Go.Addr.add, ↓reduceIte] at hx198_0)
                       have qi198 : (5 < x12_3.length) = True := eq_true (by omega)
                       (try rw [show ((5 : Int)).toNat = 5 from rfl] at hx198_0)
                       replace p198 := eq_true p198
                       replace q198 := eq_true q198
                       have p199 : 0 ≤ (6 : Int) := (by omega)
                       have q199 : 6 < (x12_3.length : Int) := of_decide_eq_true (by first | (with_reducible assumption) | assumption)
                       obtain ⟨ad199, e199, hx199_0⟩ := Kd.at_int (Kd.R_reads' HO_12.out).2.2 6 p199 q199
                       obtain rfl : ad172 = ad199 := (by injection e199)
                       (try simp only [show (6 : Int).toNat = 6 from rfl, Nat.reduceMul, Nat.reduceEqDiff, Go.Addr.add, ↓reduceIte] at hx199_0)
                       have qi199 : (6 < x12_3.length) = True := eq_true (by omega)
                       (try rw [show ((6 : Int)).toNat = 6 from rfl] at hx199_0)
                       replace p199 := eq_true p199
                       replace q199 := eq_true q199
                       refine start_ (n := 30) (S := fun w' => w'.cell? ad172 = some (.int .i64 (rd x12_3 0)) ∧ w'.cell? ⟨ad172.block, ad172.off + 1, none⟩ = some (.int .i64 (rd x12_3 1)) ∧ w'.cell? ⟨ad172.block, ad172.off + 2, none⟩ = some (.int .i64 (rd x12_3 2)) ∧ w'.cell? ⟨ad172.block, ad172.off + 3, none⟩ = some (.int .i64 (rd x12_3 3)) ∧ w'.cell? ⟨ad172.block, ad172.off + 4, none⟩ = some (.int .i64 (rd x12_3 4)) ∧ w'.cell? ⟨ad172.block, ad172.off + 5, none⟩ = some (.int .i64 (rd x12_3 5)) ∧ w'.cell? ⟨ad172.block, ad172.off + 6, none⟩ = some (.int .i64 (rd x12_3 6))) (ds := []) #[ff,ff,ff,ff,ff,ff,ff,ff,ff,ff,ff,ff,ff,ff,ff,ff,ff,ff,ff,ff,ff,ff,ff,ff,ff,ff,ff,ff,ff,ff] (by kernel_rfl) rfl rfl ⟨hx193_0, hx194_0, hx195_0, hx196_0, hx197_0, hx198_0, hx199_0⟩ (fun hHeld => ?_); refine with_tabW spec_l04Block.tab23 spec_l04Block.bits23 (fun HT_ HW_ => ?_)
                       generalize w77.drew = w78 at HO_7 HO_12 HB hx193_0 hx194_0 hx195_0 hx196_0 hx197_0 hx198_0 hx199_0 hHeld ⊢
                       refine pure_ (i := 0) (N := some 214) (v := ?_) (a' := ?_) #[tt,ff,ff,ff,ff,ff,ff,ff,ff,ff,ff,ff,ff,ff,ff,ff,ff,ff,ff,ff,ff,ff,ff,ff,ff,ff,ff,ff,ff,ff] rfl rfl (any_of HT_.out (by kernel_rfl)) (fun _ _ _ h => h) (Or.inl ⟨by rfl, ?_⟩) ?_ ?_
                       rotate_left; focus (intro w'; go_simp; with_reducible rfl)
                       rotate_left; focus (simp only [Act.put, sA, sB, sC, i64_w, i32_w]; rfl)
                       refine pure_ (i := 1) (N := some 215) (v := ?_) (a' := ?_) #[tt,tt,ff,ff,ff,ff,ff,ff,ff,ff,ff,ff,ff,ff,ff,ff,ff,ff,ff,ff,ff,ff,ff,ff,ff,ff,ff,ff,ff,ff] rfl rfl (any_of HT_.out (by kernel_rfl)) (fun _ _ _ h => h) (Or.inl ⟨by rfl, ?_⟩) ?_ ?_
                       rotate_left; focus (intro w'; go_simp; with_reducible rfl)
                       rotate_left; focus (simp only [Act.put, sA, sB, sC, i64_w, i32_w]; rfl)
                       refine pure_ (i := 2) (N := some 216) (v := ?_) (a' := ?_) #[tt,tt,tt,ff,ff,ff,ff,ff,ff,ff,ff,ff,ff,ff,ff,ff,ff,ff,ff,ff,ff,ff,ff,ff,ff,ff,ff,ff,ff,ff] rfl rfl (any_of HT_.out (by kernel_rfl)) (fun _ _ _ h => h) (Or.inl ⟨by rfl, ?_⟩) ?_ ?_
                       rotate_left; focus (intro w'; go_simp; with_reducible rfl)
                       rotate_left; focus (simp only [Act.put, sA, sB, sC, i64_w, i32_w]; rfl)
                       refine pure_ (i := 3) (N := some 217) (v := ?_) (a' := ?_) #[tt,tt,tt,tt,ff,ff,ff,ff,ff,ff,ff,ff,ff,ff,ff,ff,ff,ff,ff,ff,ff,ff,ff,ff,ff,ff,ff,ff,ff,ff] rfl rfl (any_of HT_.out (by kernel_rfl)) (fun _ _ _ h => h) (Or.inl ⟨by rfl, ?_⟩) ?_ ?_
                       rotate_left; focus (intro w'; go_simp; with_reducible rfl)
                       rotate_left; focus (simp only [Act.put, sA, sB, sC, i64_w, i32_w]; rfl)
                       refine pure_ (i := 4) (N := some 218) (v := ?_) (a' := ?_) #[tt,tt,tt,tt,tt,ff,ff,ff,ff,ff,ff,ff,ff,ff,ff,ff,ff,ff,ff,ff,ff,ff,ff,ff,ff,ff,ff,ff,ff,ff] rfl rfl (any_of HT_.out (by kernel_rfl)) (fun _ _ _ h => h) (Or.inl ⟨by rfl, ?_⟩) ?_ ?_
                       rotate_left; focus (intro w'; go_simp; with_reducible rfl)
                       rotate_left; focus (simp only [Act.put, sA, sB, sC, i64_w, i32_w]; rfl)
                       refine pure_ (i := 5) (N := some 219) (v := ?_) (a' := ?_) #[tt,tt,tt,tt,tt,tt,ff,ff,ff,ff,ff,ff,ff,ff,ff,ff,ff,ff,ff,ff,ff,ff,ff,ff,ff,ff,ff,ff,ff,ff] rfl rfl (any_of HT_.out (by kernel_rfl)) (fun _ _ _ h => h) (Or.inl ⟨by rfl, ?_⟩) ?_ ?_
                       rotate_left; focus (intro w'; go_simp; with_reducible rfl)
                       rotate_left; focus (simp only [Act.put, sA, sB, sC, i64_w, i32_w]; rfl)
                       refine pure_ (i := 7) (N := some 221) (v := ?_) (a' := ?_) #[tt,tt,tt,tt,tt,tt,ff,tt,ff,ff,ff,ff,ff,ff,ff,ff,ff,ff,ff,ff,ff,ff,ff,ff,ff,ff,ff,ff,ff,ff] rfl rfl (any_of HT_.out (by kernel_rfl)) (fun _ _ _ h => h) (Or.inl ⟨by rfl, ?_⟩) ?_ ?_
                       rotate_left; focus (intro w'; go_simp; with_reducible rfl)
                       rotate_left; focus (simp only [Act.put, sA, sB, sC, i64_w, i32_w]; rfl)
                       refine pure_ (i := 8) (N := some 222) (v := ?_) (a' := ?_) #[tt,tt,tt,tt,tt,tt,ff,tt,tt,ff,ff,ff,ff,ff,ff,ff,ff,ff,ff,ff,ff,ff,ff,ff,ff,ff,ff,ff,ff,ff] rfl rfl (any_of HT_.out (by kernel_rfl)) (fun _ _ _ h => h) (Or.inl ⟨by rfl, ?_⟩) ?_ ?_
                       rotate_left; focus (intro w'; go_simp; with_reducible rfl)
                       rotate_left; focus (simp only [Act.put, sA, sB, sC, i64_w, i32_w]; rfl)
                       refine pure_ (i := 10) (N := some 224) (v := ?_) (a' := ?_) #[tt,tt,tt,tt,tt,tt,ff,tt,tt,ff,tt,ff,ff,ff,ff,ff,ff,ff,ff,ff,ff,ff,ff,ff,ff,ff,ff,ff,ff,ff] rfl rfl (any_of HT_.out (by kernel_rfl)) (fun _ _ _ h => h) (Or.inl ⟨by rfl, ?_⟩) ?_ ?_
                       rotate_left; focus (intro w'; go_simp; with_reducible rfl)
                       rotate_left; focus (simp only [Act.put, sA, sB, sC, i64_w, i32_w]; rfl)
                       refine pure_ (i := 11) (N := some 225) (v := ?_) (a' := ?_) #[tt,tt,tt,tt,tt,tt,ff,tt,tt,ff,tt,tt,ff,ff,ff,ff,ff,ff,ff,ff,ff,ff,ff,ff,ff,ff,ff,ff,ff,ff] rfl rfl (any_of HT_.out (by kernel_rfl)) (fun _ _ _ h => h) (Or.inl ⟨by rfl, ?_⟩) ?_ ?_
                       rotate_left; focus (intro w'; go_simp; with_reducible rfl)
                       rotate_left; focus (simp only [Act.put, sA, sB, sC, i64_w, i32_w]; rfl)
                       refine pure_ (i := 13) (N := some 227) (v := ?_) (a' := ?_) #[tt,tt,tt,tt,tt,tt,ff,tt,tt,ff,tt,tt,ff,tt,ff,ff,ff,ff,ff,ff,ff,ff,ff,ff,ff,ff,ff,ff,ff,ff] rfl rfl (any_of HT_.out (by kernel_rfl)) (fun _ _ _ h => h) (Or.inl ⟨by rfl, ?_⟩) ?_ ?_
                       rotate_left; focus (intro w'; go_simp; with_reducible rfl)
                       rotate_left; focus (simp only [Act.put, sA, sB, sC, i64_w, i32_w]; rfl)
                       refine pure_ (i := 14) (N := some 228) (v := ?_) (a' := ?_) #[tt,tt,tt,tt,tt,tt,ff,tt,tt,ff,tt,tt,ff,tt,tt,ff,ff,ff,ff,ff,ff,ff,ff,ff,ff,ff,ff,ff,ff,ff] rfl rfl (any_of HT_.out (by kernel_rfl)) (fun _ _ _ h => h) (Or.inl ⟨by rfl, ?_⟩) ?_ ?_
                       rotate_left; focus (intro w'; go_simp; with_reducible rfl)
                       rotate_left; focus (simp only [Act.put, sA, sB, sC, i64_w, i32_w]; rfl)
                       refine pure_ (i := 16) (N := some 230) (v := ?_) (a' := ?_) #[tt,tt,tt,tt,tt,tt,ff,tt,tt,ff,tt,tt,ff,tt,tt,ff,tt,ff,ff,ff,ff,ff,ff,ff,ff,ff,ff,ff,ff,ff] rfl rfl (any_of HT_.out (by kernel_rfl)) (fun _ _ _ h => h) (Or.inl ⟨by rfl, ?_⟩) ?_ ?_
                       rotate_left; focus (intro w'; go_simp; with_reducible rfl)
                       rotate_left; focus (simp only [Act.put, sA, sB, sC, i64_w, i32_w]; rfl)
                       refine pure_ (i := 19) (N := some 233) (v := ?_) (a' := ?_) #[tt,tt,tt,tt,tt,tt,ff,tt,tt,ff,tt,tt,ff,tt,tt,ff,tt,ff,ff,tt,ff,ff,ff,ff,ff,ff,ff,ff,ff,ff] rfl rfl (any_of HT_.out (by kernel_rfl)) (fun _ _ _ h => h) (Or.inl ⟨by rfl, ?_⟩) ?_ ?_
                       rotate_left; focus (intro w'; go_simp; with_reducible rfl)
                       rotate_left; focus (simp only [Act.put, sA, sB, sC, i64_w, i32_w]; rfl)
                       refine pure_ (i := 20) (N := some 234) (v := ?_) (a' := ?_) #[tt,tt,tt,tt,tt,tt,ff,tt,tt,ff,tt,tt,ff,tt,tt,ff,tt,ff,ff,tt,tt,ff,ff,ff,ff,ff,ff,ff,ff,ff] rfl rfl (any_of HT_.out (by kernel_rfl)) (fun _ _ _ h => h) (Or.inl ⟨by rfl, ?_⟩) ?_ ?_
                       rotate_left; focus (intro w'; go_simp; with_reducible rfl)
                       rotate_left; focus (simp only [Act.put, sA, sB, sC, i64_w, i32_w]; rfl)
                       refine pure_ (i := 22) (N := some 236) (v := ?_) (a' := ?_) #[tt,tt,tt,tt,tt,tt,ff,tt,tt,ff,tt,tt,ff,tt,tt,ff,tt,ff,ff,tt,tt,ff,tt,ff,ff,ff,ff,ff,ff,ff] rfl rfl (any_of HT_.out (by kernel_rfl)) (fun _ _ _ h => h) (Or.inl ⟨by rfl, ?_⟩) ?_ ?_
                       rotate_left; focus (intro w'; go_simp; with_reducible rfl)
                       rotate_left; focus (simp only [Act.put, sA, sB, sC, i64_w, i32_w]; rfl)
                       refine pure_ (i := 23) (N := some 237) (v := ?_) (a' := ?_) #[tt,tt,tt,tt,tt,tt,ff,tt,tt,ff,tt,tt,ff,tt,tt,ff,tt,ff,ff,tt,tt,ff,tt,tt,ff,ff,ff,ff,ff,ff] rfl rfl (any_of HT_.out (by kernel_rfl)) (fun _ _ _ h => h) (Or.inl ⟨by rfl, ?_⟩) ?_ ?_
                       rotate_left; focus (intro w'; go_simp; with_reducible rfl)
                       rotate_left; focus (simp only [Act.put, sA, sB, sC, i64_w, i32_w]; rfl)
                       refine pure_ (i := 25) (N := some 239) (v := ?_) (a' := ?_) #[tt,tt,tt,tt,tt,tt,ff,tt,tt,ff,tt,tt,ff,tt,tt,ff,tt,ff,ff,tt,tt,ff,tt,tt,ff,tt,ff,ff,ff,ff] rfl rfl (any_of HT_.out (by kernel_rfl)) (fun _ _ _ h => h) (Or.inl ⟨by rfl, ?_⟩) ?_ ?_
                       rotate_left; focus (intro w'; go_simp; with_reducible rfl)
                       rotate_left; focus (simp only [Act.put, sA, sB, sC, i64_w, i32_w]; rfl)
                       refine pure_ (i := 26) (N := some 240) (v := ?_) (a' := ?_) #[tt,tt,tt,tt,tt,tt,ff,tt,tt,ff,tt,tt,ff,tt,tt,ff,tt,ff,ff,tt,tt,ff,tt,tt,ff,tt,tt,ff,ff,ff] rfl rfl (any_of HT_.out (by kernel_rfl)) (fun _ _ _ h => h) (Or.inl ⟨by rfl, ?_⟩) ?_ ?_
                       rotate_left; focus (intro w'; go_simp; with_reducible rfl)
                       rotate_left; focus (simp only [Act.put, sA, sB, sC, i64_w, i32_w]; rfl)
                       refine take_ (i := 6) (N := some 220) (v := ?_) (a' := ?_) #[tt,tt,tt,tt,tt,tt,tt,tt,tt,ff,tt,tt,ff,tt,tt,ff,tt,ff,ff,tt,tt,ff,tt,tt,ff,tt,tt,ff,ff,ff] rfl rfl (take_ofW HT_.out HW_.out (by kernel_rfl)) (fun _ _ _ h => h) (Or.inl ⟨by rfl, ?_⟩) hHeld ?_ ?_
                       rotate_left; focus (rintro w' ⟨s0, s1, s2, s3, s4, s5, s6⟩; go_simp; with_reducible rfl)
                       rotate_left; focus (simp only [Act.put, sA, sB, sC, i64_w, i32_w]; rfl)
                       refine take_ (i := 9) (N := some 223) (v := ?_) (a' := ?_) #[tt,tt,tt,tt,tt,tt,tt,tt,tt,tt,tt,tt,ff,tt,tt,ff,tt,ff,ff,tt,tt,ff,tt,tt,ff,tt,tt,ff,ff,ff] rfl rfl (take_ofW HT_.out HW_.out (by kernel_rfl)) (fun _ _ _ h => h) (Or.inl ⟨by rfl, ?_⟩) hHeld ?_ ?_
                       rotate_left; focus (rintro w' ⟨s0, s1, s2, s3, s4, s5, s6⟩; go_simp; with_reducible rfl)
                       rotate_left; focus (simp only [Act.put, sA, sB, sC, i64_w, i32_w]; rfl)
                       refine take_ (i := 12) (N := some 226) (v := ?_) (a' := ?_) #[tt,tt,tt,tt,tt,tt,tt,tt,tt,tt,tt,tt,tt,tt,tt,ff,tt,ff,ff,tt,tt,ff,tt,tt,ff,tt,tt,ff,ff,ff] rfl rfl (take_ofW HT_.out HW_.out (by kernel_rfl)) (fun _ _ _ h => h) (Or.inl ⟨by rfl, ?_⟩) hHeld ?_ ?_
                       rotate_left; focus (rintro w' ⟨s0, s1, s2, s3, s4, s5, s6⟩; go_simp; with_reducible rfl)
                       rotate_left; focus (simp only [Act.put, sA, sB, sC, i64_w, i32_w]; rfl)
                       refine take_ (i := 15) (N := some 229) (v := ?_) (a' := ?_) #[tt,tt,tt,tt,tt,tt,tt,tt,tt,tt,tt,tt,tt,tt,tt,tt,tt,ff,ff,tt,tt,ff,tt,tt,ff,tt,tt,ff,ff,ff] rfl rfl (take_ofW HT_.out HW_.out (by kernel_rfl)) (fun _ _ _ h => h) (Or.inl ⟨by rfl, ?_⟩) hHeld ?_ ?_
                       rotate_left; focus (rintro w' ⟨s0, s1, s2, s3, s4, s5, s6⟩; go_simp; with_reducible rfl)
                       rotate_left; focus (simp only [Act.put, sA, sB, sC, i64_w, i32_w]; rfl)
                       refine pure_ (i := 17) (N := some 231) (v := ?_) (a' := ?_) #[tt,tt,tt,tt,tt,tt,tt,tt,tt,tt,tt,tt,tt,tt,tt,tt,tt,tt,ff,tt,tt,ff,tt,tt,ff,tt,tt,ff,ff,ff] rfl rfl (any_of HT_.out (by kernel_rfl)) (fun _ _ _ h => h) (Or.inl ⟨by rfl, ?_⟩) ?_ ?_
                       rotate_left; focus (intro w'; go_simp; with_reducible rfl)
                       rotate_left; focus (simp only [Act.put, sA, sB, sC, i64_w, i32_w]; rfl)
                       refine pure_ (i := 18) (N := some 232) (v := ?_) (a' := ?_) #[tt,tt,tt,tt,tt,tt,tt,tt,tt,tt,tt,tt,tt,tt,tt,tt,tt,tt,tt,tt,tt,ff,tt,tt,ff,tt,tt,ff,ff,ff] rfl rfl (any_of HT_.out (by kernel_rfl)) (fun _ _ _ h => h) (Or.inl ⟨by rfl, ?_⟩) ?_ ?_
                       rotate_left; focus (intro w'; go_simp; with_reducible rfl)
                       rotate_left; focus (simp only [Act.put, sA, sB, sC, i64_w, i32_w]; rfl)
                       refine take_ (i := 21) (N := some 235) (v := ?_) (a' := ?_) #[tt,tt,tt,tt,tt,tt,tt,tt,tt,tt,tt,tt,tt,tt,tt,tt,tt,tt,tt,tt,tt,tt,tt,tt,ff,tt,tt,ff,ff,ff] rfl rfl (take_ofW HT_.out HW_.out (by kernel_rfl)) (fun _ _ _ h => h) (Or.inl ⟨by rfl, ?_⟩) hHeld ?_ ?_
                       rotate_left; focus (rintro w' ⟨s0, s1, s2, s3, s4, s5, s6⟩; go_simp; with_reducible rfl)
                       rotate_left; focus (simp only [Act.put, sA, sB, sC, i64_w, i32_w]; rfl)
                       refine take_ (i := 24) (N := some 238) (v := ?_) (a' := ?_) #[tt,tt,tt,tt,tt,tt,tt,tt,tt,tt,tt,tt,tt,tt,tt,tt,tt,tt,tt,tt,tt,tt,tt,tt,tt,tt,tt,ff,ff,ff] rfl rfl (take_ofW HT_.out HW_.out (by kernel_rfl)) (fun _ _ _ h => h) (Or.inl ⟨by rfl, ?_⟩) hHeld ?_ ?_
                       rotate_left; focus (rintro w' ⟨s0, s1, s2, s3, s4, s5, s6⟩; go_simp; with_reducible rfl)
                       rotate_left; focus (simp only [Act.put, sA, sB, sC, i64_w, i32_w]; rfl)
                       refine take_ (i := 27) (N := some 241) (v := ?_) (a' := ?_) #[tt,tt,tt,tt,tt,tt,tt,tt,tt,tt,tt,tt,tt,tt,tt,tt,tt,tt,tt,tt,tt,tt,tt,tt,tt,tt,tt,tt,ff,ff] rfl rfl (take_ofW HT_.out HW_.out (by kernel_rfl)) (fun _ _ _ h => h) (Or.inl ⟨by rfl, ?_⟩) hHeld ?_ ?_
                       rotate_left; focus (rintro w' ⟨s0, s1, s2, s3, s4, s5, s6⟩; go_simp; with_reducible rfl)
                       rotate_left; focus (simp only [Act.put, sA, sB, sC, i64_w, i32_w]; rfl)
                       refine one_ (i := 28) (N := some 242) #[tt,tt,tt,tt,tt,tt,tt,tt,tt,tt,tt,tt,tt,tt,tt,tt,tt,tt,tt,tt,tt,tt,tt,tt,tt,tt,tt,tt,tt,ff] rfl rfl (one_of HT_.out (by kernel_rfl)) (by decide) (fun K hK => ?_)
                       refine Kd.R_lit_step (Kd.int .i64) _ 3 ?hg (N := 242) ?hd (xs := ([Go.bits .and .i64 (wrap64 ((wrap64 ((wrap64 ((wrap64 ((wrap64 ((rd x12_3 7) + (Go.bits .xor .i64 (Go.bits .xor .i64 t173 t174) t175))) + (Go.bits .xor .i64 (Go.bits .and .i64 (rd x12_3 4) (rd x12_3 5)) (Go.bits .and .i64 (Go.bits .xor .i64 (rd x12_3 4) 4294967295) (rd x12_3 6))))) + (rd l1 x13_3))) + (rd x7_2 x13_3))) + (wrap64 ((Go.bits .xor .i64 (Go.bits .xor .i64 t182 t184) t186) + (Go.bits .xor .i64 (Go.bits .xor .i64 (Go.bits .and .i64 (rd x12_3 0) (rd x12_3 1)) (Go.bits .and .i64 (rd x12_3 0) (rd x12_3 2))) (Go.bits .and .i64 (rd x12_3 1) (rd x12_3 2))))))) 4294967295, rd x12_3 0, rd x12_3 1, rd x12_3 2, Go.bits .and .i64 (wrap64 ((rd x12_3 3) + (wrap64 ((wrap64 ((wrap64 ((wrap64 ((rd x12_3 7) + (Go.bits .xor .i64 (Go.bits .xor .i64 t173 t174) t175))) + (Go.bits .xor .i64 (Go.bits .and .i64 (rd x12_3 4) (rd x12_3 5)) (Go.bits .and .i64 (Go.bits .xor .i64 (rd x12_3 4) 4294967295) (rd x12_3 6))))) + (rd l1 x13_3))) + (rd x7_2 x13_3))))) 4294967295, rd x12_3 4, rd x12_3 5, rd x12_3 6] : List Int)) (inner := [.int .i64 (Go.bits .and .i64 (wrap64 ((wrap64 ((wrap64 ((wrap64 ((wrap64 ((rd x12_3 7) + (Go.bits .xor .i64 (Go.bits .xor .i64 t173 t174) t175))) + (Go.bits .xor .i64 (Go.bits .and .i64 (rd x12_3 4) (rd x12_3 5)) (Go.bits .and .i64 (Go.bits .xor .i64 (rd x12_3 4) 4294967295) (rd x12_3 6))))) + (rd l1 x13_3))) + (rd x7_2 x13_3))) + (wrap64 ((Go.bits .xor .i64 (Go.bits .xor .i64 t182 t184) t186) + (Go.bits .xor .i64 (Go.bits .xor .i64 (Go.bits .and .i64 (rd x12_3 0) (rd x12_3 1)) (Go.bits .and .i64 (rd x12_3 0) (rd x12_3 2))) (Go.bits .and .i64 (rd x12_3 1) (rd x12_3 2))))))) 4294967295), .int .i64 (rd x12_3 0), .int .i64 (rd x12_3 1), .int .i64 (rd x12_3 2), .int .i64 (Go.bits .and .i64 (wrap64 ((rd x12_3 3) + (wrap64 ((wrap64 ((wrap64 ((wrap64 ((rd x12_3 7) + (Go.bits .xor .i64 (Go.bits .xor .i64 t173 t174) t175))) + (Go.bits .xor .i64 (Go.bits .and .i64 (rd x12_3 4) (rd x12_3 5)) (Go.bits .and .i64 (Go.bits .xor .i64 (rd x12_3 4) 4294967295) (rd x12_3 6))))) + (rd l1 x13_3))) + (rd x7_2 x13_3))))) 4294967295), .int .i64 (rd x12_3 4), .int .i64 (rd x12_3 5), .int .i64 (rd x12_3 6)]) (ok := fun _ => True) (okp := fun _ => True) ?hr ?hp (fun _ hk => hk) trivial (Below.refl _ _) (Nat.le_refl _) (by simp) ?_; (case hd => rfl); (case hg => rfl); (case hr => first | (go_simp; done) | (go_simp; rfl)); (case hp => exact (Reps.one (show Kd.M (Kd.int .i64) _ _ _ (Go.bits .and .i64 (wrap64 ((wrap64 ((wrap64 ((wrap64 ((wrap64 ((rd x12_3 7) + (Go.bits .xor .i64 (Go.bits .xor .i64 t173 t174) t175))) + (Go.bits .xor .i64 (Go.bits .and .i64 (rd x12_3 4) (rd x12_3 5)) (Go.bits .and .i64 (Go.bits .xor .i64 (rd x12_3 4) 4294967295) (rd x12_3 6))))) + (rd l1 x13_3))) + (rd x7_2 x13_3))) + (wrap64 ((Go.bits .xor .i64 (Go.bits .xor .i64 t182 t184) t186) + (Go.bits .xor .i64 (Go.bits .xor .i64 (Go.bits .and .i64 (rd x12_3 0) (rd x12_3 1)) (Go.bits .and .i64 (rd x12_3 0) (rd x12_3 2))) (Go.bits .and .i64 (rd x12_3 1) (rd x12_3 2))))))) 4294967295) [.int .i64 (Go.bits .and .i64 (wrap64 ((wrap64 ((wrap64 ((wrap64 ((wrap64 ((rd x12_3 7) + (Go.bits .xor .i64 (Go.bits .xor .i64 t173 t174) t175))) + (Go.bits .xor .i64 (Go.bits .and .i64 (rd x12_3 4) (rd x12_3 5)) (Go.bits .and .i64 (Go.bits .xor .i64 (rd x12_3 4) 4294967295) (rd x12_3 6))))) + (rd l1 x13_3))) + (rd x7_2 x13_3))) + (wrap64 ((Go.bits .xor .i64 (Go.bits .xor .i64 t182 t184) t186) + (Go.bits .xor .i64 (Go.bits .xor .i64 (Go.bits .and .i64 (rd x12_3 0) (rd x12_3 1)) (Go.bits .and .i64 (rd x12_3 0) (rd x12_3 2))) (Go.bits .and .i64 (rd x12_3 1) (rd x12_3 2))))))) 4294967295)] from rfl) (Reps.one (show Kd.M (Kd.int .i64) _ _ _ (rd x12_3 0) [.int .i64 (rd x12_3 0)] from rfl) (Reps.one (show Kd.M (Kd.int .i64) _ _ _ (rd x12_3 1) [.int .i64 (rd x12_3 1)] from rfl) (Reps.one (show Kd.M (Kd.int .i64) _ _ _ (rd x12_3 2) [.int .i64 (rd x12_3 2)] from rfl) (Reps.one (show Kd.M (Kd.int .i64) _ _ _ (Go.bits .and .i64 (wrap64 ((rd x12_3 3) + (wrap64 ((wrap64 ((wrap64 ((wrap64 ((rd x12_3 7) + (Go.bits .xor .i64 (Go.bits .xor .i64 t173 t174) t175))) + (Go.bits .xor .i64 (Go.bits .and .i64 (rd x12_3 4) (rd x12_3 5)) (Go.bits .and .i64 (Go.bits .xor .i64 (rd x12_3 4) 4294967295) (rd x12_3 6))))) + (rd l1 x13_3))) + (rd x7_2 x13_3))))) 4294967295) [.int .i64 (Go.bits .and .i64 (wrap64 ((rd x12_3 3) + (wrap64 ((wrap64 ((wrap64 ((wrap64 ((rd x12_3 7) + (Go.bits .xor .i64 (Go.bits .xor .i64 t173 t174) t175))) + (Go.bits .xor .i64 (Go.bits .and .i64 (rd x12_3 4) (rd x12_3 5)) (Go.bits .and .i64 (Go.bits .xor .i64 (rd x12_3 4) 4294967295) (rd x12_3 6))))) + (rd l1 x13_3))) + (rd x7_2 x13_3))))) 4294967295)] from rfl) (Reps.one (show Kd.M (Kd.int .i64) _ _ _ (rd x12_3 4) [.int .i64 (rd x12_3 4)] from rfl) (Reps.one (show Kd.M (Kd.int .i64) _ _ _ (rd x12_3 5) [.int .i64 (rd x12_3 5)] from rfl) (Reps.one (show Kd.M (Kd.int .i64) _ _ _ (rd x12_3 6) [.int .i64 (rd x12_3 6)] from rfl) (Reps.none _ _))))))))))
                       intro v201 w79 ho80 hb hg_ hnew_
                       have HS0_ := (hb.cell (World.block_lt_of_cell? _ _ (hHeld.1))).trans (hHeld.1)
                       have HS1_ := (hb.cell (World.block_lt_of_cell? _ _ (hHeld.2.1))).trans (hHeld.2.1)
                       have HS2_ := (hb.cell (World.block_lt_of_cell? _ _ (hHeld.2.2.1))).trans (hHeld.2.2.1)
                       have HS3_ := (hb.cell (World.block_lt_of_cell? _ _ (hHeld.2.2.2.1))).trans (hHeld.2.2.2.1)
                       have HS4_ := (hb.cell (World.block_lt_of_cell? _ _ (hHeld.2.2.2.2.1))).trans (hHeld.2.2.2.2.1)
                       have HS5_ := (hb.cell (World.block_lt_of_cell? _ _ (hHeld.2.2.2.2.2.1))).trans (hHeld.2.2.2.2.2.1)
                       have HS6_ := (hb.cell (World.block_lt_of_cell? _ _ (hHeld.2.2.2.2.2.2))).trans (hHeld.2.2.2.2.2.2)
                       clear hg_ hnew_
                       (first | rw [← Ny200.out] at ho80 | (simp only [Int.reduceToNat] at ho80; rw [← Ny200.out] at ho80))
                       have n0_ := Aside0.mk (Kd.R_elder' (by (with_reducible repeat (first | apply Kd.R_alloc | apply Kd.R_drewN | apply Kd.R_drew)); exact HO_7.out) (Kd.R_base ho80) hb)
                       have n1_ := Aside0.mk (Kd.R_elder' (by (with_reducible repeat (first | apply Kd.R_alloc | apply Kd.R_drewN | apply Kd.R_drew)); exact HO_12.out) (Kd.R_base ho80) hb)
                       have n2_ := Aside0.mk (Kd.R_lower (Kd.R_new' (Kd.R_new' ho80 (Kd.R_lt (by (with_reducible repeat (first | apply Kd.R_alloc | apply Kd.R_drewN | apply Kd.R_drew)); exact HO_7.out))) (Kd.R_lt (by (with_reducible repeat (first | apply Kd.R_alloc | apply Kd.R_drewN | apply Kd.R_drew)); exact HO_12.out))) (below_size (by repeat (first | (with_reducible first | exact HB.out | apply below_alloc | apply pw_below_drewN | apply below_drew1) | exact HB.out))))
                       have n3_ := Aside0.mk (below_step (by repeat (first | (with_reducible first | exact HB.out | apply below_alloc | apply pw_below_drewN | apply below_drew1) | exact HB.out)) hb)
                       clear HO_7
                       clear HO_12
                       clear HB
                       have HO_7 := n0_
                       have HO_12 := n1_
                       have HO202 := n2_
                       have HB := n3_
                       clear n0_ n1_ n2_ n3_
                       clear hb ho80
                       refine hK.out _ _ ⟨HS0_, HS1_, HS2_, HS3_, HS4_, HS5_, HS6_⟩ (fun hHeld => ?_)
                       clear hK K
                       refine norm_ (a' := ?_) ?_ ?_
                       rotate_left
                       ·
                        show Act.put _ (some 242) _ = _
                        simp only [Act.put, sA, sB, sC, i64_w, i32_w]
                        rfl
                       refine pure_ (i := 29) (N := some 12) (v := ?_) (a' := ?_) #[tt,tt,tt,tt,tt,tt,tt,tt,tt,tt,tt,tt,tt,tt,tt,tt,tt,tt,tt,tt,tt,tt,tt,tt,tt,tt,tt,tt,tt,tt] rfl rfl (any_of HT_.out (by kernel_rfl)) (fun _ _ _ h => h) (Or.inl ⟨by rfl, ?_⟩) ?_ ?_
                       rotate_left; focus (intro w'; go_simp; with_reducible rfl)
                       rotate_left; focus (simp only [Act.put, sA, sB, sC, i64_w, i32_w]; rfl)
                       refine done_ (done_of HT_.out (by kernel_rfl)) ?_
                       try go_wp2
                       go_roundg k3
                       case measure => have := HK1.out; have := HK2.out; have := HK3.out; omega
                       case rel => exact ⟨(y200), (wrap64 (x13_3 + 1)), (by first | rfl | (simp; done) | (simp [*]; done)), H', ⟨by have := HK1.out; have := HK2.out; have := HK3.out; omega⟩, ⟨by (with_reducible repeat (first | apply Kd.R_alloc | apply Kd.R_drewN | apply Kd.R_drew)); exact Kd.R_mono HO_7.out (fun _ hk => hk.2)⟩, ⟨by (with_reducible repeat (first | apply Kd.R_alloc | apply Kd.R_drewN | apply Kd.R_drew)); exact Kd.R_mono HO202.out (fun _ hk => hk.1.2)⟩, ⟨by repeat (first | (with_reducible first | exact HB.out | apply below_alloc | apply pw_below_drewN | apply below_drew1) | exact HB.out)⟩⟩
                      ·
                       rw [if_neg c71] at H
                       exact absurd H (by simp)
                     ·
                      rw [if_neg c70] at H
                      exact absurd H (by simp)
                    ·
                     rw [if_neg c69] at H
                     exact absurd H (by simp)
                   ·
                    rw [if_neg c65] at H
                    exact absurd H (by simp)
                  ·
                   rw [if_neg c64] at H
                   exact absurd H (by simp)
                 ·
                  rw [if_neg c63] at H
                  exact absurd H (by simp)
                ·
                 rw [if_neg c62] at H
                 exact absurd H (by simp)
               ·
                rw [if_neg c61] at H
                exact absurd H (by simp)
              ·
               rw [if_neg c60] at H
               exact absurd H (by simp)
             ·
              rw [if_neg c59] at H
              exact absurd H (by simp)
            ·
             rw [if_neg c55] at H
             exact absurd H (by simp)
           ·
            rw [if_neg c54] at H
            have c54b0 : decide (x13_3 < 64) = false := decide_eq_false c54
            clear c54
            obtain ⟨y203, hy203⟩ : ∃ y_ : List Int, y_ = (([] : List Int)) := ⟨_, rfl⟩
            replace H : (spec_l04Block.l3 k3 l0 x12_3 y203 0) = some r := by first | (rw [hy203]; with_reducible exact H) | (have H2_ := (Option.bind_some _ _).symm.trans H; rw [hy203]; with_reducible exact H2_) | (have H2_ := (Option.bind_some _ _).symm.trans H; with_reducible exact H2_) | with_reducible exact H | (rw [hy203]; exact H) | exact H
            have Ny203 := Aside0.mk hy203
            clear hy203
            have H' := Aside0.mk H
            clear H
            go_wp2_with (first | ((with_reducible refine gate_dst (N := 243) rfl ?_); refine Kd.R_lit (Kd.int .i64) _ 3 ?hg (N := 243) ?hd (xs := ([] : List Int)) (inner := []) (ok := fun _ => True) (okp := fun _ => True) ?hr ?hp (fun _ hk => hk) trivial (Below.refl _ _) (Nat.le_refl _) (by simp) ?_; (case hd => rfl); (case hg => rfl); (case hr => first | (go_simp; done) | (go_simp; rfl)); (case hp => exact (Reps.none _ _)); intro v204 w81 ho82 hb hg_ hnew_; clear hg_ hnew_; (first | rw [← Ny203.out] at ho82 | (simp only [Int.reduceToNat] at ho82; rw [← Ny203.out] at ho82)); have n0_ := Aside0.mk (Kd.R_elder' (by (with_reducible repeat (first | apply Kd.R_alloc | apply Kd.R_drewN | apply Kd.R_drew)); exact HO_7.out) (Kd.R_base ho82) hb); have n1_ := Aside0.mk (Kd.R_elder' (by (with_reducible repeat (first | apply Kd.R_alloc | apply Kd.R_drewN | apply Kd.R_drew)); exact HO_12.out) (Kd.R_base ho82) hb); have n2_ := Aside0.mk (Kd.R_lower (Kd.R_new' (Kd.R_new' ho82 (Kd.R_lt (by (with_reducible repeat (first | apply Kd.R_alloc | apply Kd.R_drewN | apply Kd.R_drew)); exact HO_7.out))) (Kd.R_lt (by (with_reducible repeat (first | apply Kd.R_alloc | apply Kd.R_drewN | apply Kd.R_drew)); exact HO_12.out))) (below_size (by repeat (first | (with_reducible first | exact HB.out | apply below_alloc | apply pw_below_drewN | apply below_drew1) | exact HB.out)))); have n3_ := Aside0.mk (below_step (by repeat (first | (with_reducible first | exact HB.out | apply below_alloc | apply pw_below_drewN | apply below_drew1) | exact HB.out)) hb); clear HO_7; clear HO_12; clear HB; have HO_7 := n0_; have HO_12 := n1_; have HO205 := n2_; have HB := n3_; clear n0_ n1_ n2_ n3_; clear hb ho82))
            go_loopg [21, 22] k3 (fun kq v21 v22 w' => ∃ (x21_4 : List Int) (x22_4 : Int), v22 = .int .i64 x22_4 ∧ Aside0 (spec_l04Block.l3 kq l0 x12_3 x21_4 x22_4 = some r) ∧ Aside0 (kq ≤ k3) ∧ Aside0 (Kd.R (Kd.int .i64) 3 w' w.heap.size (fun k_ => some k_ ≠ (v21 : Value).ownBlock) u12 x12_3) ∧ Aside0 (Kd.R (Kd.int .i64) 3 w' w.heap.size (fun k_ => some k_ ≠ (u12 : Value).ownBlock) v21 x21_4) ∧ Aside0 (Below w.heap.size w w'))
            case atStart => exact ⟨(y203), (0), (by first | rfl | (simp; done) | (simp [*]; done)), H', ⟨Nat.le_refl _⟩, ⟨by (with_reducible repeat (first | apply Kd.R_alloc | apply Kd.R_drewN | apply Kd.R_drew)); exact Kd.R_mono HO_12.out (fun _ hk => hk.2)⟩, ⟨by (with_reducible repeat (first | apply Kd.R_alloc | apply Kd.R_drewN | apply Kd.R_drew)); exact Kd.R_mono HO205.out (fun _ hk => hk.2)⟩, ⟨by repeat (first | (with_reducible first | exact HB.out | apply below_alloc | apply pw_below_drewN | apply below_drew1) | exact HB.out)⟩⟩
            case round =>
             clear H'
             try clear p1
             try clear q1
             try clear hx1
             try clear qi1
             try clear p2
             try clear c5
             try clear c6
             try clear p6
             try clear c7
             try clear hx18
             try clear p19
             try clear q19
             try clear hx19
             try clear qi19
             try clear c54
             try clear c54b0
             try clear c55
             try clear c59
             try clear c60
             try clear c61
             try clear c62
             try clear c63
             try clear c64
             try clear p64
             try clear c65
             try clear c69
             try clear c70
             try clear c71
             try clear hx187_0
             try clear hx188_0
             try clear hx189_0
             try clear hx190_0
             try clear hx191_0
             try clear hx192_0
             try clear hx193_0
             try clear hx194_0
             try clear hx195_0
             try clear hx196_0
             try clear hx197_0
             try clear hx198_0
             try clear hx199_0
             try clear p190
             try clear p191
             try clear p192
             try clear p193
             try clear p194
             try clear p195
             try clear p196
             try clear p197
             try clear p198
             try clear p199
             try clear q190
             try clear q191
             try clear q192
             try clear q193
             try clear q194
             try clear q195
             try clear q196
             try clear q197
             try clear q198
             try clear q199
             obtain ⟨x21_4, x22_4, rfl, HA, HK4, HO_12, HO_21, HB⟩ := hrel
             cases gk with
             | zero => exact absurd HA.out (by simp [spec_l04Block.l3])
             | succ k4 =>
              have H := HA.out
              clear HA
              simp only [spec_l04Block.l3] at H
              by_cases c83 : x22_4 < 8
              ·
               rw [if_pos c83] at H
               have c83b0 : decide (x22_4 < 8) = true := decide_eq_true c83
               clear c83
               by_cases c84 : 0 ≤ x22_4
               ·
                rw [if_pos c84] at H
                have c84b0 : decide (0 ≤ x22_4) = true := decide_eq_true c84
                clear c84
                by_cases c85 : x22_4 < (l0.length : Int)
                ·
                 rw [if_pos c85] at H
                 have c85b0 : decide (x22_4 < (l0.length : Int)) = true := decide_eq_true c85
                 clear c85
                 by_cases c86 : x22_4 < (x12_3.length : Int)
                 ·
                  rw [if_pos c86] at H
                  have c86b0 : decide (x22_4 < (x12_3.length : Int)) = true := decide_eq_true c86
                  clear c86
                  by_cases c87 : x21_4.length < 17592186044416
                  ·
                   rw [if_pos c87] at H
                   have LMc87 := Aside0.mk c87
                   clear c87
                   obtain ⟨y208, hy208⟩ : ∃ y_ : List Int, y_ = (x21_4 ++ [Go.bits .and .i64 (wrap64 ((rd l0 x22_4) + (rd x12_3 x22_4))) 4294967295]) := ⟨_, rfl⟩
                   replace H : (spec_l04Block.l3 k4 l0 x12_3 y208 (wrap64 (x22_4 + 1))) = some r := by first | (rw [hy208]; with_reducible exact H) | (have H2_ := (Option.bind_some _ _).symm.trans H; rw [hy208]; with_reducible exact H2_) | (have H2_ := (Option.bind_some _ _).symm.trans H; with_reducible exact H2_) | with_reducible exact H | (rw [hy208]; exact H) | exact H
                   have Ny208 := Aside0.mk hy208
                   clear hy208
                   have H' := Aside0.mk H
                   clear H
                   try go_wp2
                   have n0_ := Aside0.mk (Kd.R_drew HO_12.out)
                   have n1_ := Aside0.mk (Kd.R_drew HO_21.out)
                   have n2_ := Aside0.mk (below_drew1 HB.out)
                   clear HO_12
                   clear HO_21
                   clear HB
                   have HO_12 := n0_
                   have HO_21 := n1_
                   have HB := n2_
                   clear n0_ n1_ n2_
                   have p206 : 0 ≤ (x22_4 : Int) := of_decide_eq_true (by first | (with_reducible assumption) | assumption)
                   have q206 : x22_4 < (l0.length : Int) := of_decide_eq_true (by first | (with_reducible assumption) | assumption)
                   obtain ⟨ad206, e206, hx206_0⟩ := Kd.at_int HR0.out x22_4 p206 q206
                   have hw206_0 := hx206_0
                   cases e206
                   replace hx206_0 := (HB.out.cell (World.block_lt_of_cell? w _ hx206_0)).trans hx206_0
                   replace p206 := eq_true p206
                   replace q206 := eq_true q206
                   obtain ⟨Ao89, co89, eo89⟩ := Kd.R_slice HO_12.out
                   (first | subst eo89 | (injection eo89 with f1_ f2_ f3_; have f4_ := f1_.symm; have f5_ := f3_.symm; clear f1_ f2_ f3_; subst f4_; subst f5_))
                   have p207 : 0 ≤ (x22_4 : Int) := of_decide_eq_true (by first | (with_reducible assumption) | assumption)
                   have q207 : x22_4 < (x12_3.length : Int) := of_decide_eq_true (by first | (with_reducible assumption) | assumption)
                   obtain ⟨ad207, e207, hx207_0⟩ := Kd.at_int (Kd.R_reads' HO_12.out).2.2 x22_4 p207 q207
                   cases e207
                   replace p207 := eq_true p207
                   replace q207 := eq_true q207
                   refine start_ (n := 14) (S := fun w' => w'.cell? (ad206.add (x22_4).toNat) = some (.int .i64 (rd l0 x22_4)) ∧ w'.cell? (ad207.add (x22_4).toNat) = some (.int .i64 (rd x12_3 x22_4))) (ds := [11, 12]) #[ff,ff,ff,ff,ff,ff,ff,ff,ff,ff,ff,ff,ff,ff] (by kernel_rfl) rfl rfl ⟨((HB.out.cell (World.block_lt_of_cell? w _ hw206_0)).trans hw206_0), hx207_0⟩ (fun hHeld => ?_); refine with_tabW spec_l04Block.tab28 spec_l04Block.bits28 (fun HT_ HW_ => ?_)
                   generalize wr.drew = w88 at HO_12 HO_21 HB hx206_0 hx207_0 hHeld ⊢
                   refine pure_ (i := 0) (N := some 248) (v := ?_) (a' := ?_) #[tt,ff,ff,ff,ff,ff,ff,ff,ff,ff,ff,ff,ff,ff] rfl rfl (any_of HT_.out (by kernel_rfl)) (fun _ _ _ h => h) (Or.inl ⟨by rfl, ?_⟩) ?_ ?_
                   rotate_left; focus (intro w'; go_simp; with_reducible rfl)
                   rotate_left; focus (simp only [Act.put, sA, sB, sC, i64_w, i32_w]; rfl)
                   refine pure_ (i := 1) (N := some 249) (v := ?_) (a' := ?_) #[tt,tt,ff,ff,ff,ff,ff,ff,ff,ff,ff,ff,ff,ff] rfl rfl (any_of HT_.out (by kernel_rfl)) (fun _ _ _ h => h) (Or.inl ⟨by rfl, ?_⟩) ?_ ?_
                   rotate_left; focus (intro w'; go_simp; with_reducible rfl)
                   rotate_left; focus (simp only [Act.put, sA, sB, sC, i64_w, i32_w]; rfl)
                   refine pure_ (i := 2) (N := some 250) (v := ?_) (a' := ?_) #[tt,tt,tt,ff,ff,ff,ff,ff,ff,ff,ff,ff,ff,ff] rfl rfl (any_of HT_.out (by kernel_rfl)) (fun _ _ _ h => h) (Or.inl ⟨by rfl, ?_⟩) ?_ ?_
                   rotate_left; focus (intro w'; go_simp; with_reducible rfl)
                   rotate_left; focus (simp only [Act.put, sA, sB, sC, i64_w, i32_w]; rfl)
                   refine pure_ (i := 3) (N := some 251) (v := ?_) (a' := ?_) #[tt,tt,tt,tt,ff,ff,ff,ff,ff,ff,ff,ff,ff,ff] rfl rfl (any_of HT_.out (by kernel_rfl)) (fun _ _ _ h => h) (Or.inl ⟨by rfl, ?_⟩) ?_ ?_
                   rotate_left; focus (intro w'; go_simp; with_reducible rfl)
                   rotate_left; focus (simp only [Act.put, sA, sB, sC, i64_w, i32_w]; rfl)
                   refine pure_ (i := 5) (N := some 253) (v := ?_) (a' := ?_) #[tt,tt,tt,tt,ff,tt,ff,ff,ff,ff,ff,ff,ff,ff] rfl rfl (any_of HT_.out (by kernel_rfl)) (fun _ _ _ h => h) (Or.inl ⟨by rfl, ?_⟩) ?_ ?_
                   rotate_left; focus (intro w'; go_simp; with_reducible rfl)
                   rotate_left; focus (simp only [Act.put, sA, sB, sC, i64_w, i32_w]; rfl)
                   refine pure_ (i := 6) (N := some 254) (v := ?_) (a' := ?_) #[tt,tt,tt,tt,ff,tt,tt,ff,ff,ff,ff,ff,ff,ff] rfl rfl (any_of HT_.out (by kernel_rfl)) (fun _ _ _ h => h) (Or.inl ⟨by rfl, ?_⟩) ?_ ?_
                   rotate_left; focus (intro w'; go_simp; with_reducible rfl)
                   rotate_left; focus (simp only [Act.put, sA, sB, sC, i64_w, i32_w]; rfl)
                   refine pure_ (i := 7) (N := some 255) (v := ?_) (a' := ?_) #[tt,tt,tt,tt,ff,tt,tt,tt,ff,ff,ff,ff,ff,ff] rfl rfl (any_of HT_.out (by kernel_rfl)) (fun _ _ _ h => h) (Or.inl ⟨by rfl, ?_⟩) ?_ ?_
                   rotate_left; focus (intro w'; go_simp; with_reducible rfl)
                   rotate_left; focus (simp only [Act.put, sA, sB, sC, i64_w, i32_w]; rfl)
                   refine take_ (i := 4) (N := some 252) (v := ?_) (a' := ?_) #[tt,tt,tt,tt,tt,tt,tt,tt,ff,ff,ff,ff,ff,ff] rfl rfl (take_ofW HT_.out HW_.out (by kernel_rfl)) (fun _ _ _ h => h) (Or.inl ⟨by rfl, ?_⟩) hHeld ?_ ?_
                   rotate_left; focus (rintro w' ⟨s0, s1⟩; go_simp; with_reducible rfl)
                   rotate_left; focus (simp only [Act.put, sA, sB, sC, i64_w, i32_w]; rfl)
                   refine take_ (i := 8) (N := some 256) (v := ?_) (a' := ?_) #[tt,tt,tt,tt,tt,tt,tt,tt,tt,ff,ff,ff,ff,ff] rfl rfl (take_ofW HT_.out HW_.out (by kernel_rfl)) (fun _ _ _ h => h) (Or.inl ⟨by rfl, ?_⟩) hHeld ?_ ?_
                   rotate_left; focus (rintro w' ⟨s0, s1⟩; go_simp; with_reducible rfl)
                   rotate_left; focus (simp only [Act.put, sA, sB, sC, i64_w, i32_w]; rfl)
                   refine pure_ (i := 9) (N := some 257) (v := ?_) (a' := ?_) #[tt,tt,tt,tt,tt,tt,tt,tt,tt,tt,ff,ff,ff,ff] rfl rfl (any_of HT_.out (by kernel_rfl)) (fun _ _ _ h => h) (Or.inl ⟨by rfl, ?_⟩) ?_ ?_
                   rotate_left; focus (intro w'; go_simp; with_reducible rfl)
                   rotate_left; focus (simp only [Act.put, sA, sB, sC, i64_w, i32_w]; rfl)
                   refine pure_ (i := 10) (N := some 258) (v := ?_) (a' := ?_) #[tt,tt,tt,tt,tt,tt,tt,tt,tt,tt,tt,ff,ff,ff] rfl rfl (any_of HT_.out (by kernel_rfl)) (fun _ _ _ h => h) (Or.inl ⟨by rfl, ?_⟩) ?_ ?_
                   rotate_left; focus (intro w'; go_simp; with_reducible rfl)
                   rotate_left; focus (simp only [Act.put, sA, sB, sC, i64_w, i32_w]; rfl)
                   refine last_ (i := 11) (N := some 259) #[tt,tt,tt,tt,tt,tt,tt,tt,tt,tt,tt,tt,ff,ff] rfl rfl (one_of HT_.out (by kernel_rfl)) (by decide) (fun K hK => ?_)
                   refine value_ (w1 := ?_) (v := ?_) (by rfl) rfl ?_ ?_
                   rotate_left 2
                   ·
                    go_simp
                    constructor
                    ·
                     rfl
                    ·
                     rfl
                   refine hK.out _ _ ?_
                   clear hK K
                   refine norm_ (a' := ?_) ?_ ?_
                   rotate_left
                   ·
                    show Act.put _ (some 259) _ = _
                    simp only [Act.put, sA, sB, sC, i64_w, i32_w]
                    rfl
                   refine last_ (i := 12) (N := some 260) #[tt,tt,tt,tt,tt,tt,tt,tt,tt,tt,tt,tt,tt,ff] rfl rfl (one_of HT_.out (by kernel_rfl)) (by decide) (fun K hK => ?_)
                   refine Kd.R_append_step (Kd.int .i64) (w0 := w) w.heap.size (by rfl) (.tmp 248) (.tmp 259) 29 3 (.int .i64 0) 8 rfl Try.underlying29 info3 rfl (by decide) (by omega) u21 x21_4 (Go.bits .and .i64 (wrap64 ((rd l0 x22_4) + (rd x12_3 x22_4))) 4294967295) [.int .i64 (Go.bits .and .i64 (wrap64 ((rd l0 x22_4) + (rd x12_3 x22_4))) 4294967295)] (fun k_ => some k_ ≠ (.slice (some ad207) x12_3.length co89 : Value).ownBlock) (fun _ => False) rfl rfl ?aP (fun _ hk => hk.elim) ?aF ?aO ?aB ?aS ?aL ?_
                   (case aP => exact rfl)
                   (case aB => exact (by repeat (first | (with_reducible first | exact HB.out | apply below_alloc | apply pw_below_drewN | apply below_drew1) | exact HB.out)))
                   (case aF => exact (fun k_ hk => Kd.fresh' (Kd.R_lt (by (with_reducible repeat (first | apply Kd.R_alloc | apply Kd.R_drewN | apply Kd.R_drew)); exact HO_12.out)) k_ hk))
                   (case aO => exact (by (with_reducible repeat (first | apply Kd.R_alloc | apply Kd.R_drewN | apply Kd.R_drew)); exact HO_21.out))
                   (case aS => exact (below_size (by repeat (first | (with_reducible first | exact HB.out | apply below_alloc | apply pw_below_drewN | apply below_drew1) | exact HB.out))))
                   (case aL => have := LMc87.out; omega)
                   intro v209 w90 ho hb hg hat
                   rw [← Ny208.out] at ho
                   have n0_ := Aside0.mk (Kd.R_after (ok := (fun _ => True)) (by (with_reducible repeat (first | apply Kd.R_alloc | apply Kd.R_drewN | apply Kd.R_drew)); exact Kd.R_mono HO_12.out (fun _ hk => ⟨trivial, hk⟩)) hg hat)
                   have n1_ := Aside0.mk (hb)
                   have n2_ := Aside0.mk (ho)
                   clear HO_12
                   clear HB
                   clear HO_21
                   have HO_12 := n0_
                   have HB := n1_
                   have HO210 := n2_
                   clear n0_ n1_ n2_
                   clear ho hb hg hat
                   refine hK.out _ _ ?_
                   clear hK K
                   refine norm_ (a' := ?_) ?_ ?_
                   rotate_left
                   ·
                    show Act.put _ (some 260) _ = _
                    simp only [Act.put, sA, sB, sC, i64_w, i32_w]
                    rfl
                   refine pure_ (i := 13) (N := some 21) (v := ?_) (a' := ?_) #[tt,tt,tt,tt,tt,tt,tt,tt,tt,tt,tt,tt,tt,tt] rfl rfl (any_of HT_.out (by kernel_rfl)) (fun _ _ _ h => h) (Or.inl ⟨by rfl, ?_⟩) ?_ ?_
                   rotate_left; focus (intro w'; go_simp; with_reducible rfl)
                   rotate_left; focus (simp only [Act.put, sA, sB, sC, i64_w, i32_w]; rfl)
                   refine done_ (done_of HT_.out (by kernel_rfl)) ?_
                   try go_wp2
                   go_roundg k4
                   case measure => have := HK1.out; have := HK2.out; have := HK3.out; have := HK4.out; omega
                   case rel => exact ⟨(y208), (wrap64 (x22_4 + 1)), (by first | rfl | (simp; done) | (simp [*]; done)), H', ⟨by have := HK1.out; have := HK2.out; have := HK3.out; have := HK4.out; omega⟩, ⟨by (with_reducible repeat (first | apply Kd.R_alloc | apply Kd.R_drewN | apply Kd.R_drew)); exact Kd.R_mono HO_12.out (fun _ hk => hk.2)⟩, ⟨by (with_reducible repeat (first | apply Kd.R_alloc | apply Kd.R_drewN | apply Kd.R_drew)); exact HO210.out⟩, ⟨by repeat (first | (with_reducible first | exact HB.out | apply below_alloc | apply pw_below_drewN | apply below_drew1) | exact HB.out)⟩⟩
                  ·
                   rw [if_neg c87] at H
                   exact absurd H (by simp)
                 ·
                  rw [if_neg c86] at H
                  exact absurd H (by simp)
                ·
                 rw [if_neg c85] at H
                 exact absurd H (by simp)
               ·
                rw [if_neg c84] at H
                exact absurd H (by simp)
              ·
               rw [if_neg c83] at H
               have c83b0 : decide (x22_4 < 8) = false := decide_eq_false c83
               clear c83
               obtain rfl := Option.some.inj H
               go_wp2
               go_ret
               exact ⟨_, by first | rfl | (simp [errW_none, errW_some] <;> rfl) | (simp [*, errW_none, errW_some] <;> rfl), by (with_reducible repeat (first | apply Kd.R_alloc | apply Kd.R_drewN | apply Kd.R_drew)); exact Kd.R_mono HO_21.out (fun _ hk => trivial), by repeat (first | (with_reducible first | exact HB.out | apply below_alloc | apply pw_below_drewN | apply below_drew1) | exact HB.out)⟩
        ·
         rw [if_neg c50] at H
         exact absurd H (by simp)
 ·
  rw [if_neg c4] at H
  exact absurd H (by simp)

end Go.Proofs.Ytcgkfijigjcmpaa.PFnExactSha
