-- written by a program of this session (a copy of the print, widened: wip/patchprint.py)
import Derived.Test.YtcgkfijigjcmpaaPFnExactShax0
import Derived.Test.YtcgkfijigjcmpaaPFnExactShax5
namespace Go.Proofs.Ytcgkfijigjcmpaa.PFnExactSha
open Go.RowKit Go.Proofs.YtcgkfijigjcmpaaW.PrintWords Go.Proofs.YtcgkfijigjcmpaaW.PrintLast Go.Proofs.YtcgkfijigjcmpaaW.PrintMore
attribute [local go_sem] max2_int min2_int max_two min_two max_three min_three max_four min_four   -- for this text's walks alone
set_option linter.unusedVariables false
set_option linter.unusedSimpArgs false

/-! ### impl_Sha: function 8 -/
section
open Go.Proofs.Ytcgkfijigjcmpaa.Lawful
/-- A word turned to the right. -/
def impl_Sha.rotr (x : Int) (n : Nat) : Int := Go.bits .or .u32 (x * 2 ^ (32 - n) % 4294967296) (x / 2 ^ n)
def impl_Sha.K : List Int := [1116352408, 1899447441, 3049323471, 3921009573, 961987163, 1508970993, 2453635748, 2870763221, 3624381080, 310598401, 607225278, 1426881987, 1925078388, 2162078206, 2614888103, 3248222580, 3835390401, 4022224774, 264347078, 604807628, 770255983, 1249150122, 1555081692, 1996064986, 2554220882, 2821834349, 2952996808, 3210313671, 3336571891, 3584528711, 113926993, 338241895, 666307205, 773529912, 1294757372, 1396182291, 1695183700, 1986661051, 2177026350, 2456956037, 2730485921, 2820302411, 3259730800, 3345764771, 3516065817, 3600352804, 4094571909, 275423344, 430227734, 506948616, 659060556, 883997877, 958139571, 1322822218, 1537002063, 1747873779, 1955562222, 2024104815, 2227730452, 2361852424, 2428436474, 2756734187, 3204031479, 3329325298]
def impl_Sha.H : List Int := [1779033703, 3144134277, 1013904242, 2773480762, 1359893119, 2600822924, 528734635, 1541459225]
def impl_Sha.zeros (n : Nat) : Nat := (119 - n % 64) % 64
def impl_Sha.tail (n : Nat) : List Int := (List.range 8).map fun (j : Nat) => ((n : Int) * 8) / 2 ^ (8 * (7 - j)) % 256
def impl_Sha.pad (l : List Int) : List Int := (l ++ [128]) ++ List.replicate (impl_Sha.zeros l.length) 0 ++ impl_Sha.tail l.length
/-- The i-th word of a block's bytes. -/
def impl_Sha.ld (m : List Int) (i : Nat) : Int := Go.bits .or .u32 (Go.bits .or .u32 (Go.bits .or .u32 (m.getD (4 * i) 0 * 16777216 % 4294967296) (m.getD (4 * i + 1) 0 * 65536 % 4294967296)) (m.getD (4 * i + 2) 0 * 256 % 4294967296)) (m.getD (4 * i + 3) 0)
/-- The i-th word out of those before it. -/
def impl_Sha.nx (x y p q : Int) : Int := (((p + (Go.bits .xor .u32 (Go.bits .xor .u32 (impl_Sha.rotr x 7) (impl_Sha.rotr x 18)) (x / 8))) % 4294967296 + q) % 4294967296 + (Go.bits .xor .u32 (Go.bits .xor .u32 (impl_Sha.rotr y 17) (impl_Sha.rotr y 19)) (y / 1024))) % 4294967296
def impl_Sha.w (m : List Int) : Nat → List Int
 | 0 => List.replicate 64 0
 | i + 1 => (impl_Sha.w m i).set i (if i < 16 then impl_Sha.ld m i else impl_Sha.nx ((impl_Sha.w m i).getD (i - 15) 0) ((impl_Sha.w m i).getD (i - 2) 0) ((impl_Sha.w m i).getD (i - 16) 0) ((impl_Sha.w m i).getD (i - 7) 0))
def impl_Sha.p (v4 v5 v6 v7 k w : Int) : Int := IntKind.u32.wrap (IntKind.u32.wrap (IntKind.u32.wrap (IntKind.u32.wrap (v7 + Go.bits .xor .u32 (Go.bits .xor .u32 (impl_Sha.rotr v4 6) (impl_Sha.rotr v4 11)) (impl_Sha.rotr v4 25)) + Go.bits .or .u32 (Go.bits .and .u32 v4 v5) (Go.bits .and .u32 (Go.bits .xor .u32 (if IntKind.u32.signed = true then -1 else IntKind.u32.max) v4) v6)) + k) + w)
def impl_Sha.q (v0 v1 v2 : Int) : Int := IntKind.u32.wrap (Go.bits .xor .u32 (Go.bits .xor .u32 (impl_Sha.rotr v0 2) (impl_Sha.rotr v0 13)) (impl_Sha.rotr v0 22) + Go.bits .xor .u32 (Go.bits .xor .u32 (Go.bits .and .u32 v0 v1) (Go.bits .and .u32 v0 v2)) (Go.bits .and .u32 v1 v2))
def impl_Sha.rnd (k w : Int) : List Int → List Int
 | [v0, v1, v2, v3, v4, v5, v6, v7] => [(impl_Sha.p v4 v5 v6 v7 k w + impl_Sha.q v0 v1 v2) % 4294967296, v0, v1, v2, (v3 + impl_Sha.p v4 v5 v6 v7 k w) % 4294967296, v4, v5, v6]
 | v => v

set_option maxHeartbeats 0 in
set_option maxRecDepth 100000 in
theorem impl_Sha.rotl (x k : Int) (n : Nat) (w : World) (hs1 : n ≤ 31) (hs0 : 1 ≤ n) (h1 : Go.bits .and .u64 (IntKind.u64.wrap k) 31 = 32 - (n : Int)) :
  Calls Try.prog 29 #[.int .u32 x, .int .i64 k] w fun e w' => e = .returned (.int .u32 (impl_Sha.rotr x n)) ∧ w' = w := by
 obtain ⟨s, hs⟩ : ∃ s_, s_ = 32 - (n : Int) := ⟨_, rfl⟩
 rw [← hs] at h1
 have e1 : s.toNat = 32 - n := by omega
 have e2 : (32 - s).toNat = n := by omega
 have h0 : 0 ≤ s := by omega
 have h31 : s ≤ 31 := by omega
 have HR := Aside0.mk (show Go.bits .or .u32 (x * 2 ^ s.toNat % 4294967296) (x / 2 ^ (32 - s).toNat) = impl_Sha.rotr x n from by rw [e1, e2]; rfl)
 clear hs hs1 hs0 e1 e2
 go_enter Try.func29, Try.ntmps29
 go_wp2
 go_ret
 exact ⟨by rw [← HR.out]; rfl, rfl⟩
set_option maxHeartbeats 0 in
set_option maxRecDepth 100000 in
theorem impl_Sha.turn (x : Int) (n : Nat) (w : World) (hs1 : n ≤ 31) (hs0 : 1 ≤ n) (h1 : Go.bits .and .u64 (IntKind.u64.wrap (-(n : Int))) 31 = 32 - (n : Int)) :
  Calls Try.prog 28 #[.int .u32 x, .int .i64 (n : Int)] w fun e w' => e = .returned (.int .u32 (impl_Sha.rotr x n)) ∧ w' = w := by
 have HC := Aside0.mk (fun w => impl_Sha.rotl x (-(n : Int)) n w hs1 hs0 h1)
 have hw : wrap64 (-(n : Int)) = -(n : Int) := by unfold wrap64; omega
 clear h1
 go_enter Try.func28, Try.ntmps28
 go_wp2_with (go_at_call 29; (with_reducible refine (HC.out _).mono ?_); rintro e w2 ⟨rfl, rfl⟩)
 go_ret
 exact ⟨rfl, rfl⟩
theorem impl_Sha.turn7 (x : Int) (w : World) : Calls Try.prog 28 #[.int .u32 x, .int .i64 7] w fun e w' => e = .returned (.int .u32 (impl_Sha.rotr x 7)) ∧ w' = w := impl_Sha.turn x 7 w (by decide) (by decide) (by kernel_rfl)
theorem impl_Sha.turn18 (x : Int) (w : World) : Calls Try.prog 28 #[.int .u32 x, .int .i64 18] w fun e w' => e = .returned (.int .u32 (impl_Sha.rotr x 18)) ∧ w' = w := impl_Sha.turn x 18 w (by decide) (by decide) (by kernel_rfl)
theorem impl_Sha.turn17 (x : Int) (w : World) : Calls Try.prog 28 #[.int .u32 x, .int .i64 17] w fun e w' => e = .returned (.int .u32 (impl_Sha.rotr x 17)) ∧ w' = w := impl_Sha.turn x 17 w (by decide) (by decide) (by kernel_rfl)
theorem impl_Sha.turn19 (x : Int) (w : World) : Calls Try.prog 28 #[.int .u32 x, .int .i64 19] w fun e w' => e = .returned (.int .u32 (impl_Sha.rotr x 19)) ∧ w' = w := impl_Sha.turn x 19 w (by decide) (by decide) (by kernel_rfl)
theorem impl_Sha.turn6 (x : Int) (w : World) : Calls Try.prog 28 #[.int .u32 x, .int .i64 6] w fun e w' => e = .returned (.int .u32 (impl_Sha.rotr x 6)) ∧ w' = w := impl_Sha.turn x 6 w (by decide) (by decide) (by kernel_rfl)
theorem impl_Sha.turn11 (x : Int) (w : World) : Calls Try.prog 28 #[.int .u32 x, .int .i64 11] w fun e w' => e = .returned (.int .u32 (impl_Sha.rotr x 11)) ∧ w' = w := impl_Sha.turn x 11 w (by decide) (by decide) (by kernel_rfl)
theorem impl_Sha.turn25 (x : Int) (w : World) : Calls Try.prog 28 #[.int .u32 x, .int .i64 25] w fun e w' => e = .returned (.int .u32 (impl_Sha.rotr x 25)) ∧ w' = w := impl_Sha.turn x 25 w (by decide) (by decide) (by kernel_rfl)
theorem impl_Sha.turn2 (x : Int) (w : World) : Calls Try.prog 28 #[.int .u32 x, .int .i64 2] w fun e w' => e = .returned (.int .u32 (impl_Sha.rotr x 2)) ∧ w' = w := impl_Sha.turn x 2 w (by decide) (by decide) (by kernel_rfl)
theorem impl_Sha.turn13 (x : Int) (w : World) : Calls Try.prog 28 #[.int .u32 x, .int .i64 13] w fun e w' => e = .returned (.int .u32 (impl_Sha.rotr x 13)) ∧ w' = w := impl_Sha.turn x 13 w (by decide) (by decide) (by kernel_rfl)
theorem impl_Sha.turn22 (x : Int) (w : World) : Calls Try.prog 28 #[.int .u32 x, .int .i64 22] w fun e w' => e = .returned (.int .u32 (impl_Sha.rotr x 22)) ∧ w' = w := impl_Sha.turn x 22 w (by decide) (by decide) (by kernel_rfl)
def impl_Sha.vs (ws : List Int) (h : List Int) : Nat → List Int
 | 0 => h
 | i + 1 => impl_Sha.rnd (impl_Sha.K.getD i 0) (ws.getD i 0) (impl_Sha.vs ws h i)
def impl_Sha.add (h v : List Int) : Nat → List Int
 | 0 => h
 | i + 1 => (impl_Sha.add h v i).set i (((impl_Sha.add h v i).getD i 0 + v.getD i 0) % 4294967296)
def impl_Sha.block (h m : List Int) : List Int := impl_Sha.add h (impl_Sha.vs (impl_Sha.w m 64) h 64) 8
def impl_Sha.blocks : Nat → List Int → List Int → List Int
 | 0, _, h => h
 | n + 1, m, h => impl_Sha.blocks n (m.drop 64) (impl_Sha.block h m)
/-- The digits of a word, from the first. -/
def impl_Sha.digit (x : Int) (j : Nat) : Int := bt (⟨#[48, 49, 50, 51, 52, 53, 54, 55, 56, 57, 97, 98, 99, 100, 101, 102]⟩ : ByteArray) (Go.bits .and .u32 (x / 2 ^ (28 - 4 * j)) 15)
def impl_Sha.hex (x : Int) : List Int := (List.range 8).map (impl_Sha.digit x)
def impl_Sha.out (l : List Int) : List Int := (impl_Sha.blocks ((impl_Sha.pad l).length / 64) (impl_Sha.pad l) impl_Sha.H).flatMap impl_Sha.hex
def impl_Sha.f (l0 : List Int) : Option ByteArray := if 65536 < l0.length then some (⟨#[]⟩ : ByteArray) else if l0.all (fun x => decide (0 ≤ x ∧ x < 256)) = true then some (strOfNums (impl_Sha.out l0)) else none
theorem impl_Sha.K64 : (impl_Sha.K.map (Value.int .u32)).toArray = #[.int .u32 1116352408, .int .u32 1899447441, .int .u32 3049323471, .int .u32 3921009573, .int .u32 961987163, .int .u32 1508970993, .int .u32 2453635748, .int .u32 2870763221, .int .u32 3624381080, .int .u32 310598401, .int .u32 607225278, .int .u32 1426881987, .int .u32 1925078388, .int .u32 2162078206, .int .u32 2614888103, .int .u32 3248222580, .int .u32 3835390401, .int .u32 4022224774, .int .u32 264347078, .int .u32 604807628, .int .u32 770255983, .int .u32 1249150122, .int .u32 1555081692, .int .u32 1996064986, .int .u32 2554220882, .int .u32 2821834349, .int .u32 2952996808, .int .u32 3210313671, .int .u32 3336571891, .int .u32 3584528711, .int .u32 113926993, .int .u32 338241895, .int .u32 666307205, .int .u32 773529912, .int .u32 1294757372, .int .u32 1396182291, .int .u32 1695183700, .int .u32 1986661051, .int .u32 2177026350, .int .u32 2456956037, .int .u32 2730485921, .int .u32 2820302411, .int .u32 3259730800, .int .u32 3345764771, .int .u32 3516065817, .int .u32 3600352804, .int .u32 4094571909, .int .u32 275423344, .int .u32 430227734, .int .u32 506948616, .int .u32 659060556, .int .u32 883997877, .int .u32 958139571, .int .u32 1322822218, .int .u32 1537002063, .int .u32 1747873779, .int .u32 1955562222, .int .u32 2024104815, .int .u32 2227730452, .int .u32 2361852424, .int .u32 2428436474, .int .u32 2756734187, .int .u32 3204031479, .int .u32 3329325298] := by rfl
theorem impl_Sha.H8 : (impl_Sha.H.map (Value.int .u32)).toArray = #[.int .u32 1779033703, .int .u32 3144134277, .int .u32 1013904242, .int .u32 2773480762, .int .u32 1359893119, .int .u32 2600822924, .int .u32 528734635, .int .u32 1541459225] := by rfl
theorem impl_Sha.byte_at {W : World} {A : Option Addr} {n : Nat} {y : List Int} (h : Kd.C (Kd.int .u8) W A n y) (i : Nat) (hi : i < n) : ∃ ad, A = some ad ∧ W.cell? (ad.add i) = some (.int .u8 (y.getD i 0)) := by
 obtain ⟨ad, c, e, _, hK, hc0⟩ := Kd.C_get h (0 : Int) (i : Int) (by omega) (by omega)
 have hK2 : c = [.int .u8 (y.getD (i : Int).toNat 0)] := hK
 subst hK2
 have hq := hc0 0 _ rfl
 rw [Int.toNat_natCast] at hq
 exact ⟨ad, e, by rwa [show i * (Kd.int .u8).sz + 0 = i from by show i * 1 + 0 = i; omega] at hq⟩
theorem impl_Sha.u8_at {y : List Int} (h : ∀ x ∈ y, 0 ≤ x ∧ x < 256) (i : Nat) (hi : i < y.length) : 0 ≤ y.getD i 0 ∧ y.getD i 0 < 256 := by
 rw [List.getD_eq_getElem?_getD, List.getElem?_eq_getElem hi]
 exact h _ (List.getElem_mem hi)
theorem impl_Sha.w_len (m : List Int) : ∀ i, (impl_Sha.w m i).length = 64
 | 0 => by rw [impl_Sha.w]; simp
 | i + 1 => by rw [impl_Sha.w, List.length_set]; exact impl_Sha.w_len m i
theorem impl_Sha.list8 {l : List Int} (h : l.length = 8) : ∃ a0 a1 a2 a3 a4 a5 a6 a7, l = [a0, a1, a2, a3, a4, a5, a6, a7] := by
 match l, h with
 | [a0, a1, a2, a3, a4, a5, a6, a7], _ => exact ⟨a0, a1, a2, a3, a4, a5, a6, a7, rfl⟩
theorem impl_Sha.rnd_len (k w : Int) (v : List Int) (h : v.length = 8) : (impl_Sha.rnd k w v).length = 8 := by
 obtain ⟨a0, a1, a2, a3, a4, a5, a6, a7, rfl⟩ := impl_Sha.list8 h
 rfl
theorem impl_Sha.vs_len (ws h : List Int) (hh : h.length = 8) : ∀ i, (impl_Sha.vs ws h i).length = 8
 | 0 => hh
 | i + 1 => impl_Sha.rnd_len _ _ _ (impl_Sha.vs_len ws h hh i)
theorem impl_Sha.add_len (h v : List Int) : ∀ i, (impl_Sha.add h v i).length = h.length
 | 0 => rfl
 | i + 1 => by rw [impl_Sha.add, List.length_set]; exact impl_Sha.add_len h v i
theorem impl_Sha.and15 (z : Int) : 0 ≤ Go.bits .and .u32 z 15 ∧ Go.bits .and .u32 z 15 < 16 := by
 have h : (BitVec.ofInt 32 z &&& BitVec.ofInt 32 15).toNat ≤ 15 := by rw [BitVec.toNat_and]; exact Nat.le_trans Nat.and_le_right (by decide)
 have e : Go.bits .and .u32 z 15 = IntKind.u32.wrap ((BitVec.ofInt 32 z &&& BitVec.ofInt 32 15).toNat : Int) := rfl
 rw [e, IntKind.wrap_u32]
 omega
theorem impl_Sha.hexes_len (l : List Int) (i : Nat) : ((l.take i).flatMap impl_Sha.hex).length ≤ 8 * i := by
 have : ∀ l : List Int, (l.flatMap impl_Sha.hex).length = 8 * l.length := by
  intro l
  induction l with
  | nil => rfl
  | cons x l ih => rw [List.flatMap_cons, List.length_append, ih]; simp [impl_Sha.hex]; omega
 rw [this, List.length_take]
 omega
theorem impl_Sha.hex_step (o : List Int) (x : Int) (k : Nat) (hk : k + 1 ≤ 8) : o ++ (impl_Sha.hex x).take (8 - (k + 1)) ++ [impl_Sha.digit x (8 - (k + 1))] = o ++ (impl_Sha.hex x).take (8 - k) := by
 have e : 8 - k = 8 - (k + 1) + 1 := by omega
 have hl : 8 - (k + 1) < (impl_Sha.hex x).length := by unfold impl_Sha.hex; simp; omega
 rw [e, List.take_succ_eq_append_getElem hl, List.append_assoc]
 congr 3
 simp [impl_Sha.hex]
theorem impl_Sha.index8 (h0 h1 h2 h3 h4 h5 h6 h7 : Int) (i : Nat) (hi : i < 8) (W : World) : (Instr.index 50 (.agg #[(.int .u32 h0), (.int .u32 h1), (.int .u32 h2), (.int .u32 h3), (.int .u32 h4), (.int .u32 h5), (.int .u32 h6), (.int .u32 h7)]) (.int .i64 (i : Int))).run Try.prog W = .ok (.int .u32 ([h0, h1, h2, h3, h4, h5, h6, h7].getD i 0)) W := by
 have hc : i = 0 ∨ i = 1 ∨ i = 2 ∨ i = 3 ∨ i = 4 ∨ i = 5 ∨ i = 6 ∨ i = 7 := by omega
 rcases hc with rfl | rfl | rfl | rfl | rfl | rfl | rfl | rfl
 all_goals first | rfl | (show (_ : Result Value) = _; kernel_rfl)
theorem impl_Sha.pad_u8 (l : List Int) (h : ∀ x ∈ l, 0 ≤ x ∧ x < 256) : ∀ x ∈ impl_Sha.pad l, 0 ≤ x ∧ x < 256 := by
 intro x hx
 unfold impl_Sha.pad at hx
 rcases List.mem_append.1 hx with hx | hx
 ·
  rcases List.mem_append.1 hx with hx | hx
  ·
   rcases List.mem_append.1 hx with hx | hx
   ·
    exact h x hx
   ·
    rw [List.mem_singleton.1 hx]; omega
  ·
   rw [(List.mem_replicate.1 hx).2]; omega
 ·
  unfold impl_Sha.tail at hx
  obtain ⟨j, _, rfl⟩ := List.mem_map.1 hx
  omega
theorem impl_Sha.pad_mod (l : List Int) : (impl_Sha.pad l).length % 64 = 0 ∧ (impl_Sha.pad l).length ≤ l.length + 80 := by
 unfold impl_Sha.pad impl_Sha.tail
 simp only [List.length_append, List.length_replicate, List.length_map, List.length_range, List.length_singleton]
 unfold impl_Sha.zeros
 omega
theorem impl_Sha.zeros_lt (n : Nat) : impl_Sha.zeros n < 64 := by unfold impl_Sha.zeros; omega
theorem impl_Sha.tail_step (n : Nat) (z : List Int) (n8 i x : Int) (k : Nat) (h8 : n8 = (n : Int) * 8) (hi : i = (k : Int)) (hk : k + 1 ≤ 8) (hx : n8 / 2 ^ min (8 * i).toNat 64 % 256 = x) : z ++ (impl_Sha.tail n).take (8 - (k + 1)) ++ [x] = z ++ (impl_Sha.tail n).take (8 - k) := by
 subst h8 hi hx
 have e : 8 - k = 8 - (k + 1) + 1 := by omega
 have hl : 8 - (k + 1) < (impl_Sha.tail n).length := by unfold impl_Sha.tail; simp; omega
 rw [e, List.take_succ_eq_append_getElem hl, List.append_assoc]
 congr 2
 have hg : ∀ (j : Nat) (h : j < (impl_Sha.tail n).length), (impl_Sha.tail n)[j] = ((n : Int) * 8) / 2 ^ (8 * (7 - j)) % 256 := fun j h => by simp [impl_Sha.tail]
 rw [hg]
 rw [show min (8 * (k : Int)).toNat 64 = 8 * (7 - (8 - (k + 1))) by omega]
theorem impl_Sha.tail_len (n : Nat) : (impl_Sha.tail n).length = 8 := by unfold impl_Sha.tail; simp
section
variable {P : Program} {ops : Array Oper} {rest : List Oper} {o : Oper} {a : Act} {Q : Exit → Act → World → Prop} {w0 W : World} {P1 : Nat → Prop}
theorem impl_Sha.rowed {g : Nat} {t2 : TypeId} {cs : Array Value} (H : LB W P1 g t2 cs) (hB : Below w0.heap.size w0 W) (hge : w0.heap.size ≤ g) (hgd : o.guard = none) {t : TypeId} {p : Tmp} {x : Operand} (hN : o.dst = none) (ho : o.op = .store t (.tmp p) x)
  {cells : Array Value} (hx : a.eval (.tmp p) = .pointer (some ⟨g, 0, none⟩)) (hy : a.eval x = .agg cells) (hi : (P.info? t).map (·.size) = some cells.size) (hold : cs.size = cells.size) (h1 : cells.all (·.oneCell') = true)
  (h : ∀ w2, LB w2 P1 g t2 cells → Kept W w2 P1 → Below w0.heap.size w0 w2 → wpList P ops Q rest a w2) : wpList P ops Q (o :: rest) a W := by
 refine wpList_store_row hgd t (.tmp p) x ho g cells hx hy t2 cs H.2.1 hi hold h1 ?_
 have hk : Kept W (W.setRow g cells) P1 := ⟨by simp, fun i hi hn => setRow_other W g i cells (fun e => hn ((H.1 i).2 e))⟩
 have hl : LB (W.setRow g cells) P1 g t2 cells := ⟨H.1, setRow_heap W g cs cells t2 (0, 0) H.2.1, fun k hp => by simpa using H.2.2 k hp⟩
 have := h _ hl hk (below_box hB hk hge H ⟨rfl, rfl, rfl⟩)
 rw [hN]
 exact this
theorem impl_Sha.put1 {g : Nat} {t2 : TypeId} {l : List Int} (H : LB W P1 g t2 (l.map (Value.int .u32)).toArray) (hB : Below w0.heap.size w0 W) (hge : w0.heap.size ≤ g) (i : Nat) (x : Int) (hgd : o.guard = none) {t : TypeId} {p : Tmp} {y : Operand} (hN : o.dst = none) (ho : o.op = .store t (.tmp p) y)
  (hrun : (execOp a.eval o).run P W = .ok .skip (W.setCell ⟨g, i, none⟩ (.int .u32 x)))
  (h : ∀ w2, LB w2 P1 g t2 ((l.set i x).map (Value.int .u32)).toArray → Kept W w2 P1 → Below w0.heap.size w0 w2 → wpList P ops Q rest a w2) : wpList P ops Q (o :: rest) a W := by
 have hl := H.put i (.int .u32 x)
 have hk := H.keeps (Kept.refl W P1) i (.int .u32 x)
 refine store_event hgd ho hN hrun (fun w' hw => ?_)
 subst hw
 refine h _ ?_ hk (below_box hB hk hge H ⟨rfl, rfl, rfl⟩)
 rw [List.map_set]
 simpa using hl
theorem impl_Sha.lb_at {g : Nat} {t2 : TypeId} {l : List Int} (H : LB W P1 g t2 (l.map (Value.int .u32)).toArray) (i : Nat) (h : i < l.length) : W.cell? ⟨g, i, none⟩ = some (.int .u32 (l.getD i 0)) := by
 rw [H.cell i]
 simp [List.getD_eq_getElem?_getD, List.getElem?_eq_getElem h, h]
end
set_option maxHeartbeats 0 in
set_option maxRecDepth 100000 in
def impl_Sha.skel : {G : Prop × Prop × Prop × Prop × Prop × Prop // PLift G.1 → PLift G.2.1 → PLift G.2.2.1 → PLift G.2.2.2.1 → PLift G.2.2.2.2.1 → PLift G.2.2.2.2.2 → ∀ (A0 : Option Addr) (c0 : Nat) (l0 : List Int) (r : ByteArray) (w : World) (hr0 : Kd.C (Kd.int .u8) w A0 l0.length l0) (hc0 : l0.length ≤ c0) (h : impl_Sha.f l0 = some r), Calls Try.prog 8 #[.slice A0 l0.length c0] w fun e w' => e = .returned (.string r) ∧ Below w.heap.size w w'} := by
 refine ⟨(?G_first, ?G_A1, ?G_A2, ?G_B, ?G_C, ?G_end), fun g_first g_A1 g_A2 g_B g_C g_end A0 c0 l0 r w hr0 hc0 h => ?_⟩
 rotate_right
 have hu1 := Try.underlying49
 have hu2 := Try.underlying50
 have HB := Aside0.mk (Below.refl w.heap.size w)
 have HR0 := Aside0.mk hr0
 have HC0 := Aside0.mk hc0
 unfold impl_Sha.f at h
 clear hr0 hc0
 by_cases c : 65536 < l0.length
 ·
  rw [if_pos c] at h
  obtain rfl := Option.some.inj h
  have E1 := Aside0.mk (show impl_longBytes.f l0 = some 2 from by unfold impl_longBytes.f impl_unless.f; rw [decide_eq_false (by omega)]; rfl)
  clear c h

  go_enter Try.func8, Try.ntmps8
  go_wp2_with (first | ((with_reducible refine gate_callee (f := 26) rfl ?_); refine goesL_ (some 24) rfl rfl Try.func26 (by kernel_rfl) rfl #[.slice A0 l0.length c0] rfl (by (try simp only [List.map_toArray, List.map_cons, List.map_nil]); first | done | rfl | (simp only [List.length_drop, List.length_take]; rfl)) ?_; (with_reducible refine (impl_longBytes.calls _ _ l0 2 _ (Kd.C_below HR0.out HB.out) HC0.out E1.out).mono ?_); rintro e w2 ⟨rfl, hq⟩; refine ⟨_, rfl, ?_⟩; have hk := kept_drawn hq; replace HB := Aside0.mk (below_drawn HB.out hq); clear hk hq))
  go_ret
  exact ⟨rfl, HB.out⟩
 ·
  rw [if_neg c] at h
  by_cases c2 : l0.all (fun x => decide (0 ≤ x ∧ x < 256)) = true
  ·
   rw [if_pos c2] at h
   have HU0 := Aside0.mk (show ∀ x ∈ l0, 0 ≤ x ∧ x < 256 from by simpa using c2)
   have HLN := Aside0.mk (show l0.length ≤ 65536 by omega)
   have HF := Aside0.mk (Option.some.inj h)
   have E1 := Aside0.mk (show impl_longBytes.f l0 = some 0 from by unfold impl_longBytes.f impl_unless.f; rw [decide_eq_true (by omega)]; rfl)
   have E2 := Aside0.mk (show slices_Clone_byte_byte.f l0 = some l0 from by unfold slices_Clone_byte_byte.f; rw [if_pos (by omega)])
   obtain ⟨y1, hy1⟩ : ∃ y_ : List Int, y_ = l0 ++ [128] := ⟨_, rfl⟩
   have Ny1 := Aside0.mk hy1
   obtain ⟨n8, hn8⟩ : ∃ n_ : Int, n_ = (l0.length : Int) * 8 := ⟨_, rfl⟩
   have N8 := Aside0.mk hn8
   have hw0 : IntKind.u64.wrap ((l0.length : Nat) : Int) = (l0.length : Int) := by rw [show IntKind.u64.wrap ((l0.length : Nat) : Int) = (l0.length : Int) % 18446744073709551616 from rfl]; omega
   have hsz : IntKind.u64.wrap ((l0.length : Int) * 8) = n8 := by rw [show IntKind.u64.wrap ((l0.length : Int) * 8) = (l0.length : Int) * 8 % 18446744073709551616 from rfl]; omega
   clear c c2 h hy1 hn8
   go_enter Try.func8, Try.ntmps8
   go_upto_block 0 with (first | ((with_reducible refine gate_callee (f := 26) rfl ?_); refine goesL_ (some 24) rfl rfl Try.func26 (by kernel_rfl) rfl #[.slice A0 l0.length c0] rfl (by (try simp only [List.map_toArray, List.map_cons, List.map_nil]); first | done | rfl | (simp only [List.length_drop, List.length_take]; rfl)) ?_; (with_reducible refine (impl_longBytes.calls _ _ l0 0 _ (Kd.C_below HR0.out HB.out) HC0.out E1.out).mono ?_); rintro e w2 ⟨rfl, hq⟩; refine ⟨_, rfl, ?_⟩; have hk := kept_drawn hq; replace HB := Aside0.mk (below_drawn HB.out hq); clear hk hq) | ((with_reducible refine gate_dst (N := 3) rfl ?_); refine box_event ?hg_K (N := 3) ?hd_K (cs := #[.int .u32 0, .int .u32 0, .int .u32 0, .int .u32 0, .int .u32 0, .int .u32 0, .int .u32 0, .int .u32 0, .int .u32 0, .int .u32 0, .int .u32 0, .int .u32 0, .int .u32 0, .int .u32 0, .int .u32 0, .int .u32 0, .int .u32 0, .int .u32 0, .int .u32 0, .int .u32 0, .int .u32 0, .int .u32 0, .int .u32 0, .int .u32 0, .int .u32 0, .int .u32 0, .int .u32 0, .int .u32 0, .int .u32 0, .int .u32 0, .int .u32 0, .int .u32 0, .int .u32 0, .int .u32 0, .int .u32 0, .int .u32 0, .int .u32 0, .int .u32 0, .int .u32 0, .int .u32 0, .int .u32 0, .int .u32 0, .int .u32 0, .int .u32 0, .int .u32 0, .int .u32 0, .int .u32 0, .int .u32 0, .int .u32 0, .int .u32 0, .int .u32 0, .int .u32 0, .int .u32 0, .int .u32 0, .int .u32 0, .int .u32 0, .int .u32 0, .int .u32 0, .int .u32 0, .int .u32 0, .int .u32 0, .int .u32 0, .int .u32 0, .int .u32 0]) (t := 49) ?hr_K ?_; (case hd_K => rfl); (case hg_K => rfl); (case hr_K => first | (go_simp; done) | (go_simp; rfl)); intro gK hg w2 hbox hb; have hk := kept_below hb; obtain ⟨PK, hPK, HLK⟩ := LB.fresh hg hbox; have HK := Aside0.mk HLK; clear HLK; have GEK := Aside0.mk (show w.heap.size ≤ gK from (by rw [hg]; exact HB.out.size));  replace HB := Aside0.mk (below_step HB.out hb); clear hb hk hbox hg hPK) | ((with_reducible refine gate_store (t := 49) (p := 3) rfl ?_); refine impl_Sha.rowed HK.out HB.out GEK.out rfl (t := 49) (p := 3) rfl rfl (cells := #[.int .u32 1116352408, .int .u32 1899447441, .int .u32 3049323471, .int .u32 3921009573, .int .u32 961987163, .int .u32 1508970993, .int .u32 2453635748, .int .u32 2870763221, .int .u32 3624381080, .int .u32 310598401, .int .u32 607225278, .int .u32 1426881987, .int .u32 1925078388, .int .u32 2162078206, .int .u32 2614888103, .int .u32 3248222580, .int .u32 3835390401, .int .u32 4022224774, .int .u32 264347078, .int .u32 604807628, .int .u32 770255983, .int .u32 1249150122, .int .u32 1555081692, .int .u32 1996064986, .int .u32 2554220882, .int .u32 2821834349, .int .u32 2952996808, .int .u32 3210313671, .int .u32 3336571891, .int .u32 3584528711, .int .u32 113926993, .int .u32 338241895, .int .u32 666307205, .int .u32 773529912, .int .u32 1294757372, .int .u32 1396182291, .int .u32 1695183700, .int .u32 1986661051, .int .u32 2177026350, .int .u32 2456956037, .int .u32 2730485921, .int .u32 2820302411, .int .u32 3259730800, .int .u32 3345764771, .int .u32 3516065817, .int .u32 3600352804, .int .u32 4094571909, .int .u32 275423344, .int .u32 430227734, .int .u32 506948616, .int .u32 659060556, .int .u32 883997877, .int .u32 958139571, .int .u32 1322822218, .int .u32 1537002063, .int .u32 1747873779, .int .u32 1955562222, .int .u32 2024104815, .int .u32 2227730452, .int .u32 2361852424, .int .u32 2428436474, .int .u32 2756734187, .int .u32 3204031479, .int .u32 3329325298]) rfl rfl (by kernel_rfl) (by first | rfl | simp) (by kernel_rfl) ?_; intro w2 hx hk hb; replace HB := Aside0.mk hb; rw [← impl_Sha.K64] at hx; replace HK := Aside0.mk hx; clear hk hx hb) | ((with_reducible refine gate_dst (N := 4) rfl ?_); refine box_event ?hg_H (N := 4) ?hd_H (cs := #[.int .u32 0, .int .u32 0, .int .u32 0, .int .u32 0, .int .u32 0, .int .u32 0, .int .u32 0, .int .u32 0]) (t := 50) ?hr_H ?_; (case hd_H => rfl); (case hg_H => rfl); (case hr_H => first | (go_simp; done) | (go_simp; rfl)); intro gH hg w2 hbox hb; have hk := kept_below hb; obtain ⟨PH, hPH, HLH⟩ := LB.fresh hg hbox; have HH := Aside0.mk HLH; clear HLH; have GEH := Aside0.mk (show w.heap.size ≤ gH from (by rw [hg]; exact HB.out.size)); have D_K_H := Aside0.mk (new_apart HK.out.lt hPH); replace HK := Aside0.mk (HK.out.step hk no_S);  replace HB := Aside0.mk (below_step HB.out hb); clear hb hk hbox hg hPH) | ((with_reducible refine gate_store (t := 50) (p := 4) rfl ?_); refine impl_Sha.rowed HH.out HB.out GEH.out rfl (t := 50) (p := 4) rfl rfl (cells := #[.int .u32 1779033703, .int .u32 3144134277, .int .u32 1013904242, .int .u32 2773480762, .int .u32 1359893119, .int .u32 2600822924, .int .u32 528734635, .int .u32 1541459225]) rfl rfl (by kernel_rfl) (by first | rfl | simp) (by kernel_rfl) ?_; intro w2 hx hk hb; replace HK := Aside0.mk (HK.out.step hk D_K_H.out); replace HB := Aside0.mk hb; rw [← impl_Sha.H8] at hx; replace HH := Aside0.mk hx; clear hk hx hb) | ((with_reducible refine gate_callee (f := 27) rfl ?_); refine goesL_ (some 33) rfl rfl Try.func27 (by kernel_rfl) rfl #[.slice A0 l0.length c0] rfl (by (try simp only [List.map_toArray, List.map_cons, List.map_nil]); first | done | rfl | (simp only [List.length_drop, List.length_take]; rfl)) ?_; (with_reducible refine (slices_Clone_byte_byte.calls _ _ l0 l0 _ (Kd.C_below HR0.out HB.out) HC0.out E2.out).mono ?_); rintro e w2 ⟨vF1, rfl, hrF1, hb⟩; refine ⟨_, rfl, ?_⟩; have hk := kept_below hb; obtain ⟨PF1, hPF1, HLF1⟩ := LR.fresh rfl HB.out hrF1; have HF1 := Aside0.mk HLF1; clear HLF1 hrF1; have D_K_F1 := Aside0.mk (new_apart HK.out.lt hPF1); have D_H_F1 := Aside0.mk (new_apart HH.out.lt hPF1); replace HK := Aside0.mk (HK.out.step hk no_S); replace HH := Aside0.mk (HH.out.step hk no_S); clear hPF1; obtain ⟨BF1, DF1, e_F1⟩ := HF1.out.val; subst e_F1; replace HB := Aside0.mk (below_step HB.out hb); clear hb hk) | ((with_reducible refine gate_builtin (b := .append) (xs := #[.tmp 33, .tmp 34]) rfl ?_); at_builtin; refine LR.append1 (Kd.int .u8) (w0 := w) rfl (.tmp 33) (.tmp 34) 22 5 (.int .u8 0) 1 rfl Try.underlying22 info5 rfl (by decide) (by omega) (.slice BF1 l0.length DF1) l0 (128 : Int) [.int .u8 128] rfl rfl (by simp) HF1.out rfl (fun _ _ h_ => h_) HB.out ?aL_1 ?_; (case aL_1 => have := HLN.out; omega); intro PF2 v_ w2 HL hb hk hR; have D_K_F2 := Aside0.mk (apart_app hR HK.out.lt D_K_F1.out); have D_H_F2 := Aside0.mk (apart_app hR HH.out.lt D_H_F1.out); replace HK := Aside0.mk (HK.out.step hk D_K_F1.out); replace HH := Aside0.mk (HH.out.step hk D_H_F1.out); rw [← Ny1.out] at HL; have HF2 := Aside0.mk HL; replace HB := Aside0.mk hb; clear hR HL hb hk; clear HF1; obtain ⟨BF2, DF2, e_F2⟩ := HF2.out.val; subst e_F2))
   clear HR0 HC0 E1 E2
   go_cut [0] from 26 to 28 (fun v0 w' => ∃ (z : List Int) (P1 : Nat → Prop), Aside0 (z = (l0 ++ [128]) ++ List.replicate (impl_Sha.zeros l0.length) 0) ∧ Aside0 (LR (Kd.int .u8) 5 w' w.heap.size P1 v0 z) ∧ Aside0 (LB w' PK gK 49 (impl_Sha.K.map (Value.int .u32)).toArray) ∧ Aside0 (LB w' PH gH 50 (impl_Sha.H.map (Value.int .u32)).toArray) ∧ Aside0 (∀ k_, PK k_ → ¬ PH k_) ∧ Aside0 (∀ k_, PK k_ → ¬ P1 k_) ∧ Aside0 (∀ k_, PH k_ → ¬ P1 k_) ∧ Aside0 (Below w.heap.size w w'))
   case first =>
    rename_i z1_ z2_ z3_ z4_ z5_ z6_ z7_ z8_ z9_ z10_ z11_ z12_ z13_
    revert A0 c0 l0 r w hu1 hu2 HU0 HLN HF y1 Ny1 n8 N8 hw0 hsz z1_ z2_ gK z3_ PK GEK z4_ gH z5_ PH GEH D_K_H z6_ z7_ PF1 D_K_F1 D_H_F1 BF1 DF1 PF2 w2 D_K_F2 D_H_F2 HK HH HB BF2 DF2 HF2 z8_ z9_ z10_ z11_ z12_ z13_
    exact g_first.down
   case rest =>
    clear HB HK HH HF2
    obtain ⟨z, P1, HZ, H1, HK, HH, D_K_H, D_K_1, D_H_1, HB⟩ := hcut
    obtain ⟨B1, D1, e_1⟩ := H1.out.val
    subst e_1
    go_wp2
    go_loopg [0, 6] 8 (fun kq v0 v6 w' => ∃ (i : Int) (y : List Int) (P1 : Nat → Prop), v6 = .int .i64 i ∧ Aside0 (i = (kq : Int) - 1) ∧ Aside0 (kq ≤ 8) ∧ Aside0 (y = z ++ (impl_Sha.tail l0.length).take (8 - kq)) ∧ Aside0 (LR (Kd.int .u8) 5 w' w.heap.size P1 v0 y) ∧ Aside0 (LB w' PK gK 49 (impl_Sha.K.map (Value.int .u32)).toArray) ∧ Aside0 (LB w' PH gH 50 (impl_Sha.H.map (Value.int .u32)).toArray) ∧ Aside0 (∀ k_, PK k_ → ¬ PH k_) ∧ Aside0 (∀ k_, PK k_ → ¬ P1 k_) ∧ Aside0 (∀ k_, PH k_ → ¬ P1 k_) ∧ Aside0 (Below w.heap.size w w'))
    case atStart => exact ⟨7, z, P1, rfl, ⟨by omega⟩, ⟨Nat.le_refl _⟩, ⟨by simp⟩, H1, HK, HH, D_K_H, D_K_1, D_H_1, HB⟩
    case round =>
     clear HB HK HH H1 D_K_1 D_H_1
     obtain ⟨i, y, P1, rfl, HI, HK8, HY, H1, HK, HH, D_K_H, D_K_1, D_H_1, HB⟩ := hrel
     obtain ⟨B1, D1, e_1⟩ := H1.out.val
     subst e_1
     cases gk with
     | succ k1 =>
      have hi0 : decide (0 ≤ i) = true := decide_eq_true (by have := HI.out; omega)
      have hi1 : decide (i ≥ 0) = true := hi0
      have hw8 : wrap64 (8 * i) = 8 * i := by have := HI.out; have := HK8.out; unfold wrap64; omega
      have hi8 : 0 ≤ 8 * i := by have := HI.out; omega
      have hw1 : wrap64 (i - 1) = i - 1 := by have := HI.out; have := HK8.out; unfold wrap64; omega
      obtain ⟨x, hx⟩ : ∃ x_, x_ = n8 / 2 ^ min (8 * i).toNat 64 % 256 := ⟨_, rfl⟩
      have hxx : n8 / 2 ^ min (8 * i).toNat 64 % 256 = x := hx.symm
      clear hx
      obtain ⟨y2, hy2⟩ : ∃ y_ : List Int, y_ = y ++ [x] := ⟨_, rfl⟩
      have Ny2 := Aside0.mk hy2
      clear hy2
      go_wp2_with (first | ((with_reducible refine gate_builtin (b := .append) (xs := #[.tmp 47, .tmp 53]) rfl ?_); at_builtin; refine LR.append1 (Kd.int .u8) (w0 := w) rfl (.tmp 47) (.tmp 53) 22 5 (.int .u8 0) 1 rfl Try.underlying22 info5 rfl (by decide) (by omega) (.slice B1 y.length D1) y x [.int .u8 x] rfl rfl (by simp) H1.out rfl (fun _ _ h_ => h_) HB.out ?aL_3 ?_; (case aL_3 => have h1 := congrArg List.length HY.out; have h2 := congrArg List.length HZ.out; have h3 := HLN.out; have h4 := impl_Sha.zeros_lt l0.length; have h5 := impl_Sha.tail_len l0.length; simp at h1 h2; omega); intro PF4 v_ w2 HL hb hk hR; have D_K_F4 := Aside0.mk (apart_app hR HK.out.lt D_K_1.out); have D_H_F4 := Aside0.mk (apart_app hR HH.out.lt D_H_1.out); replace HK := Aside0.mk (HK.out.step hk D_K_1.out); replace HH := Aside0.mk (HH.out.step hk D_H_1.out); rw [← Ny2.out] at HL; have HF4 := Aside0.mk HL; replace HB := Aside0.mk hb; clear hR HL hb hk; clear H1; obtain ⟨BF4, DF4, e_F4⟩ := HF4.out.val; subst e_F4))
      go_roundg k1
      case measure => omega
      case rel => exact ⟨i - 1, y2, PF4, by rw [hw1], ⟨by have := HI.out; omega⟩, ⟨by have := HK8.out; omega⟩, ⟨by rw [Ny2.out, HY.out]; exact impl_Sha.tail_step l0.length z n8 i x k1 N8.out (by have := HI.out; omega) (by have := HK8.out; omega) hxx⟩, HF4, HK, HH, D_K_H, ⟨D_K_F4.out⟩, ⟨D_H_F4.out⟩, HB⟩
     | zero =>
      have hi0 : decide (0 ≤ i) = false := decide_eq_false (by have := HI.out; omega)
      have hi1 : decide (i ≥ 0) = false := hi0
      have HM := Aside0.mk (show y = impl_Sha.pad l0 from by rw [HY.out, HZ.out]; unfold impl_Sha.pad; rw [List.take_of_length_le (by rw [impl_Sha.tail_len]; omega)])
      have HU := Aside0.mk (impl_Sha.pad_u8 l0 HU0.out)
      have HPL := Aside0.mk (impl_Sha.pad_mod l0)
      clear HY HZ HI HK8 N8 HU0 hw0 hsz
      obtain ⟨nb, hnb⟩ : ∃ n_, n_ = (impl_Sha.pad l0).length / 64 := ⟨_, rfl⟩
      have HNB := Aside0.mk (show y.length = 64 * nb from by rw [HM.out, hnb]; have := HPL.out.1; omega)
      obtain ⟨hs, hhs⟩ : ∃ h_, h_ = impl_Sha.blocks nb y impl_Sha.H := ⟨_, rfl⟩
      have HFIN := Aside0.mk (show r = strOfNums (hs.flatMap impl_Sha.hex) from by rw [hhs, HM.out, hnb]; exact HF.out.symm)
      obtain ⟨m, hm⟩ : ∃ m_, m_ = y := ⟨_, rfl⟩
      rw [← hm] at H1
      have HBL := Aside0.mk (show impl_Sha.blocks nb y impl_Sha.H = hs from hhs.symm)
      rw [← HM.out, ] at HU
      have HML := Aside0.mk (congrArg List.length hm)
      have HMY := Aside0.mk hm
      clear hm hhs hnb HF HPL
      go_wp2
      go_loopg [0] nb (fun kq v0 w' => ∃ (y h : List Int) (A2 : Option Addr) (c2 : Nat), v0 = .slice A2 y.length c2 ∧ Aside0 (y.length = 64 * kq) ∧ Aside0 (h.length = 8) ∧ Aside0 (y.length ≤ c2) ∧ Aside0 (∀ W : World, Kd.C (Kd.int .u8) W B1 m.length m → Kd.C (Kd.int .u8) W A2 y.length y) ∧ Aside0 (∀ x ∈ y, 0 ≤ x ∧ x < 256) ∧ Aside0 (impl_Sha.blocks kq y h = hs) ∧ Aside0 (LR (Kd.int .u8) 5 w' w.heap.size P1 (.slice B1 m.length D1) m) ∧ Aside0 (LB w' PK gK 49 (impl_Sha.K.map (Value.int .u32)).toArray) ∧ Aside0 (LB w' PH gH 50 (h.map (Value.int .u32)).toArray) ∧ Aside0 (Below w.heap.size w w'))
      case atStart => exact ⟨y, impl_Sha.H, B1, D1, rfl, HNB, ⟨rfl⟩, ⟨by have := H1.out.room; have := HML.out; omega⟩, ⟨fun W h_ => by rw [← HMY.out]; exact h_⟩, HU, HBL, H1, HK, HH, HB⟩
      case round =>
       clear HB HK HH H1 HBL HNB HML HMY HU HM
       obtain ⟨y, h, A2, c2, rfl, HYL, HHL, HC2, HRD, HU, HBL, H1, HK, HH, HB⟩ := hrel
       cases gk with
       | succ k1 =>
        have hg0 : decide (0 < (y.length : Int)) = true := decide_eq_true (by have := HYL.out; omega)
        have hg1 : decide (0 < y.length) = true := decide_eq_true (by have := HYL.out; omega)
        have hg2 := eq_true (show 0 < y.length by have := HYL.out; omega)
        go_upto_region 17 with (((with_reducible refine gate_dst (N := 8) rfl ?_); refine box_event ?hg_X (N := 8) ?hd_X (cs := #[.int .u32 0, .int .u32 0, .int .u32 0, .int .u32 0, .int .u32 0, .int .u32 0, .int .u32 0, .int .u32 0, .int .u32 0, .int .u32 0, .int .u32 0, .int .u32 0, .int .u32 0, .int .u32 0, .int .u32 0, .int .u32 0, .int .u32 0, .int .u32 0, .int .u32 0, .int .u32 0, .int .u32 0, .int .u32 0, .int .u32 0, .int .u32 0, .int .u32 0, .int .u32 0, .int .u32 0, .int .u32 0, .int .u32 0, .int .u32 0, .int .u32 0, .int .u32 0, .int .u32 0, .int .u32 0, .int .u32 0, .int .u32 0, .int .u32 0, .int .u32 0, .int .u32 0, .int .u32 0, .int .u32 0, .int .u32 0, .int .u32 0, .int .u32 0, .int .u32 0, .int .u32 0, .int .u32 0, .int .u32 0, .int .u32 0, .int .u32 0, .int .u32 0, .int .u32 0, .int .u32 0, .int .u32 0, .int .u32 0, .int .u32 0, .int .u32 0, .int .u32 0, .int .u32 0, .int .u32 0, .int .u32 0, .int .u32 0, .int .u32 0, .int .u32 0]) (t := 49) ?hr_X ?_; (case hd_X => rfl); (case hg_X => rfl); (case hr_X => first | (go_simp; done) | (go_simp; rfl)); intro gX hg w2 hbox hb; have hk := kept_below hb; obtain ⟨PX, hPX, HLX⟩ := LB.fresh hg hbox; have HX := Aside0.mk HLX; clear HLX; have GEX := Aside0.mk (show w.heap.size ≤ gX from (by rw [hg]; exact HB.out.size)); have D_K_X := Aside0.mk (new_apart HK.out.lt hPX); have D_H_X := Aside0.mk (new_apart HH.out.lt hPX); have D_1_X := Aside0.mk (new_apart H1.out.lt hPX); replace HK := Aside0.mk (HK.out.step hk no_S); replace HH := Aside0.mk (HH.out.step hk no_S); replace H1 := Aside0.mk (H1.out.step hk no_S);  replace HB := Aside0.mk (below_step HB.out hb); clear hb hk hbox hg hPX))
        have n_ := Aside0.mk (show LB w2 PX gX 49 ((impl_Sha.w y 0).map (Value.int .u32)).toArray from by have h_ := HX.out; exact h_)
        clear HX
        have HX := n_
        clear n_
        go_wp2
        go_loopg [60] 64 (fun kq v60 w' => ∃ i : Nat, v60 = .int .i64 (i : Int) ∧ Aside0 (i + kq = 64) ∧ Aside0 (LB w' PX gX 49 ((impl_Sha.w y i).map (Value.int .u32)).toArray) ∧ Aside0 (LR (Kd.int .u8) 5 w' w.heap.size P1 (.slice B1 m.length D1) m) ∧ Aside0 (LB w' PK gK 49 (impl_Sha.K.map (Value.int .u32)).toArray) ∧ Aside0 (LB w' PH gH 50 (h.map (Value.int .u32)).toArray) ∧ Aside0 (Below w.heap.size w w'))
        case atStart => exact ⟨0, rfl, ⟨by omega⟩, HX, H1, HK, HH, HB⟩
        case round =>
         clear HB HK HH H1 HX
         obtain ⟨i, rfl, HI, HX, H1, HK, HH, HB⟩ := hrel
         cases gk with
         | succ k1 =>
          have hi64 : i < 64 := by have := HI.out; omega
          have hlt : decide ((i : Int) < 64) = true := decide_eq_true (by omega)
          have hlt2 : decide (i < 64) = true := decide_eq_true hi64
          have hwi : wrap64 ((i : Int) + 1) = ((i + 1 : Nat) : Int) := by unfold wrap64; omega
          have hX0 := impl_Sha.lb_at HX.out i (by rw [impl_Sha.w_len]; exact hi64)
          have hXf := HX.out.frozen i
          have p0 := eq_true (show (0 : Int) ≤ (i : Int) by omega)
          have p1 := eq_true (show (i : Int) < 64 by omega)
          by_cases c16 : i < 16
          ·
           rename_i z1_ z2_ z3_ z4_ z5_ z6_ z7_ z8_ z9_ z10_ z11_ z12_ z13_ z14_ z15_ z16_ z17_ z18_ z19_ z20_ z21_ z22_ z23_ z24_ z25_ z26_ z27_ z28_ z29_ z30_ z31_ z32_ z33_ z34_ z35_ z36_ z37_ z38_ z39_ z40_ z41_ z42_ z43_ z44_ z45_ z46_ z47_ z48_ z49_ z50_ z51_ z52_ z53_ z54_ z55_ z56_ z57_ z58_ z59_ z60_ z61_ z62_ z63_ z64_ z65_ z66_ z67_ z68_ z69_ z70_ z71_ z72_ z73_ z74_ z75_ z76_ z77_ z78_ z79_ z80_ z81_ z82_ z83_ z84_ z85_ z86_ z87_ z88_ z89_ z90_ z91_ z92_ z93_ z94_ z95_ z96_ z97_ z98_ z99_ z100_ z101_ z102_ z103_ z104_ z105_ z106_ z107_ z108_ z109_ z110_ z111_ z112_ z113_ z114_ z115_ z116_ z117_ z118_ z119_ z120_ z121_ z122_ z123_
           revert A0 c0 l0 r w hu1 hu2 HLN y1 Ny1 n8 z1_ z2_ gK z3_ PK GEK z4_ gH z5_ PH GEH z6_ z7_ z8_ PF1 D_K_F1 D_H_F1 BF1 DF1 PF2 z9_ D_K_F2 D_H_F2 BF2 DF2 wc u26 u27 u28 u36 u37 u38 u39 u40 u41 u42 z z10_ z11_ z12_ z13_ z14_ z15_ u43 u44 u45 u46 u47 u48 u49 u50 u51 u52 u53 u54 z16_ z17_ z18_ z19_ z20_ P1 D_K_H D_K_1 D_H_1 B1 D1 z21_ hi0 hi1 nb hs HFIN m z22_ z23_ z24_ z25_ z26_ u8 z27_ z28_ z29_ u12 u13 u14 u15 u16 u17 u18 u55 u56 u57 u58 u59 u60 z30_ z31_ z32_ z33_ z34_ z35_ z36_ z37_ z38_ z39_ z40_ z41_ z42_ z43_ z44_ z45_ z46_ z47_ z48_ z49_ z50_ z51_ z52_ z53_ z54_ z55_ z56_ z57_ z58_ z59_ z60_ z61_ z62_ z63_ z64_ z65_ z66_ z67_ z68_ z69_ z70_ z71_ z72_ z73_ z74_ z75_ z76_ z77_ z78_ z79_ z80_ z81_ z82_ z83_ z84_ z85_ z86_ z87_ z88_ z89_ z90_ z91_ z92_ z93_ z94_ z95_ z96_ z97_ z98_ z99_ z100_ z101_ z102_ z103_ z104_ z105_ z106_ z107_ z108_ z109_ z110_ u142 u143 u144 u145 u146 u147 u148 u149 u150 u151 u152 u153 u154 u155 u156 u157 u158 u159 u160 u161 u162 u163 u164 u165 u166 u167 u168 u169 u170 u171 u172 u173 u174 u175 u176 u177 u178 u179 u180 u181 u182 u183 u184 u185 u186 u187 u188 u189 u190 u191 u192 u193 u194 u195 u196 u197 u198 u199 u200 u201 u202 u203 u204 u205 u206 u207 u208 u209 u210 u211 u212 u213 u214 u215 u216 u217 u218 u219 u220 u221 u222 u223 u224 u225 u226 u227 u228 u229 u230 u231 u232 u233 u234 u235 u236 u237 u238 u239 u240 z111_ z112_ z113_ y h A2 c2 HHL HC2 HRD HU z114_ z115_ HYL HBL hg0 hg1 hg2 z116_ z117_ gX w2 PX GEX D_K_X D_H_X D_1_X z118_ z119_ wr u9 u10 u11 u61 u62 u63 u64 u65 u66 u67 u68 u69 u70 u71 u72 u73 u74 u75 u76 u77 u78 u79 u80 u81 u82 u83 u84 u85 u86 u87 u88 u89 u90 u91 u92 u93 u94 u95 u96 u97 u98 u99 u100 u101 u102 u103 u104 u105 u106 u107 u108 u109 u110 u111 u112 u113 u114 u115 u116 u117 u118 u119 u120 u121 u122 u123 u124 u125 u126 u127 u128 u129 u130 u131 u132 u133 u134 u135 u136 u137 u138 u139 u140 u141 z120_ z121_ z122_ i HX H1 HK HH HB k1 z123_ HI hi64 hlt hlt2 hwi hX0 hXf p0 p1 c16
           exact g_A1.down
          ·
           rename_i z1_ z2_ z3_ z4_ z5_ z6_ z7_ z8_ z9_ z10_ z11_ z12_ z13_ z14_ z15_ z16_ z17_ z18_ z19_ z20_ z21_ z22_ z23_ z24_ z25_ z26_ z27_ z28_ z29_ z30_ z31_ z32_ z33_ z34_ z35_ z36_ z37_ z38_ z39_ z40_ z41_ z42_ z43_ z44_ z45_ z46_ z47_ z48_ z49_ z50_ z51_ z52_ z53_ z54_ z55_ z56_ z57_ z58_ z59_ z60_ z61_ z62_ z63_ z64_ z65_ z66_ z67_ z68_ z69_ z70_ z71_ z72_ z73_ z74_ z75_ z76_ z77_ z78_ z79_ z80_ z81_ z82_ z83_ z84_ z85_ z86_ z87_ z88_ z89_ z90_ z91_ z92_ z93_ z94_ z95_ z96_ z97_ z98_ z99_ z100_ z101_ z102_ z103_ z104_ z105_ z106_ z107_ z108_ z109_ z110_ z111_ z112_ z113_ z114_ z115_ z116_ z117_ z118_ z119_ z120_ z121_ z122_ z123_
           revert A0 c0 l0 r w hu1 hu2 HLN y1 Ny1 n8 z1_ z2_ gK z3_ PK GEK z4_ gH z5_ PH GEH z6_ z7_ z8_ PF1 D_K_F1 D_H_F1 BF1 DF1 PF2 z9_ D_K_F2 D_H_F2 BF2 DF2 wc u26 u27 u28 u36 u37 u38 u39 u40 u41 u42 z z10_ z11_ z12_ z13_ z14_ z15_ u43 u44 u45 u46 u47 u48 u49 u50 u51 u52 u53 u54 z16_ z17_ z18_ z19_ z20_ P1 D_K_H D_K_1 D_H_1 B1 D1 z21_ hi0 hi1 nb hs HFIN m z22_ z23_ z24_ z25_ z26_ u8 z27_ z28_ z29_ u12 u13 u14 u15 u16 u17 u18 u55 u56 u57 u58 u59 u60 z30_ z31_ z32_ z33_ z34_ z35_ z36_ z37_ z38_ z39_ z40_ z41_ z42_ z43_ z44_ z45_ z46_ z47_ z48_ z49_ z50_ z51_ z52_ z53_ z54_ z55_ z56_ z57_ z58_ z59_ z60_ z61_ z62_ z63_ z64_ z65_ z66_ z67_ z68_ z69_ z70_ z71_ z72_ z73_ z74_ z75_ z76_ z77_ z78_ z79_ z80_ z81_ z82_ z83_ z84_ z85_ z86_ z87_ z88_ z89_ z90_ z91_ z92_ z93_ z94_ z95_ z96_ z97_ z98_ z99_ z100_ z101_ z102_ z103_ z104_ z105_ z106_ z107_ z108_ z109_ z110_ u142 u143 u144 u145 u146 u147 u148 u149 u150 u151 u152 u153 u154 u155 u156 u157 u158 u159 u160 u161 u162 u163 u164 u165 u166 u167 u168 u169 u170 u171 u172 u173 u174 u175 u176 u177 u178 u179 u180 u181 u182 u183 u184 u185 u186 u187 u188 u189 u190 u191 u192 u193 u194 u195 u196 u197 u198 u199 u200 u201 u202 u203 u204 u205 u206 u207 u208 u209 u210 u211 u212 u213 u214 u215 u216 u217 u218 u219 u220 u221 u222 u223 u224 u225 u226 u227 u228 u229 u230 u231 u232 u233 u234 u235 u236 u237 u238 u239 u240 z111_ z112_ z113_ y h A2 c2 HHL HC2 HRD HU z114_ z115_ HYL HBL hg0 hg1 hg2 z116_ z117_ gX w2 PX GEX D_K_X D_H_X D_1_X z118_ z119_ wr u9 u10 u11 u61 u62 u63 u64 u65 u66 u67 u68 u69 u70 u71 u72 u73 u74 u75 u76 u77 u78 u79 u80 u81 u82 u83 u84 u85 u86 u87 u88 u89 u90 u91 u92 u93 u94 u95 u96 u97 u98 u99 u100 u101 u102 u103 u104 u105 u106 u107 u108 u109 u110 u111 u112 u113 u114 u115 u116 u117 u118 u119 u120 u121 u122 u123 u124 u125 u126 u127 u128 u129 u130 u131 u132 u133 u134 u135 u136 u137 u138 u139 u140 u141 z120_ z121_ z122_ i HX H1 HK HH HB k1 z123_ HI hi64 hlt hlt2 hwi hX0 hXf p0 p1 c16
           exact g_A2.down
         | zero =>
          obtain rfl : i = 64 := by have := HI.out; omega
          obtain ⟨ws, hws⟩ : ∃ w_, w_ = impl_Sha.w y 64 := ⟨_, rfl⟩
          have HWL := Aside0.mk (show ws.length = 64 from by rw [hws]; exact impl_Sha.w_len y 64)
          rw [← hws] at HX
          have HBK := Aside0.mk (show impl_Sha.blocks k1 (y.drop 64) (impl_Sha.add h (impl_Sha.vs ws h 64) 8) = hs from by rw [hws]; exact HBL.out)
          clear hws HBL HI
          obtain ⟨h0, h1, h2, h3, h4, h5, h6, h7, rfl⟩ := impl_Sha.list8 HHL.out
          go_wp2_with (first | ((with_reducible refine gate_dst (N := 142) rfl ?_); refine wpList_load_row rfl 50 (.tmp 4) rfl gH rfl 50 #[(.int .u32 h0), (.int .u32 h1), (.int .u32 h2), (.int .u32 h3), (.int .u32 h4), (.int .u32 h5), (.int .u32 h6), (.int .u32 h7)] (0, 0) _ HH.out.2.1 hu2 rfl (by kernel_rfl) ?_) | ((with_reducible refine gate_dst (N := 12) rfl ?_); refine box_event ?hg_V (N := 12) ?hd_V (cs := #[.int .u32 0, .int .u32 0, .int .u32 0, .int .u32 0, .int .u32 0, .int .u32 0, .int .u32 0, .int .u32 0]) (t := 50) ?hr_V ?_; (case hd_V => rfl); (case hg_V => rfl); (case hr_V => first | (go_simp; done) | (go_simp; rfl)); intro gV hg w2 hbox hb; have hk := kept_below hb; obtain ⟨PV, hPV, HLV⟩ := LB.fresh hg hbox; have HV := Aside0.mk HLV; clear HLV; have GEV := Aside0.mk (show w.heap.size ≤ gV from (by rw [hg]; exact HB.out.size)); have D_K_V := Aside0.mk (new_apart HK.out.lt hPV); have D_H_V := Aside0.mk (new_apart HH.out.lt hPV); have D_1_V := Aside0.mk (new_apart H1.out.lt hPV); have D_X_V := Aside0.mk (new_apart HX.out.lt hPV); replace HK := Aside0.mk (HK.out.step hk no_S); replace HH := Aside0.mk (HH.out.step hk no_S); replace H1 := Aside0.mk (H1.out.step hk no_S); replace HX := Aside0.mk (HX.out.step hk no_S);  replace HB := Aside0.mk (below_step HB.out hb); clear hb hk hbox hg hPV) | ((with_reducible refine gate_store (t := 50) (p := 12) rfl ?_); refine impl_Sha.rowed HV.out HB.out GEV.out rfl (t := 50) (p := 12) rfl rfl (cells := #[(.int .u32 h0), (.int .u32 h1), (.int .u32 h2), (.int .u32 h3), (.int .u32 h4), (.int .u32 h5), (.int .u32 h6), (.int .u32 h7)]) rfl rfl (by kernel_rfl) (by first | rfl | simp) (by kernel_rfl) ?_; intro w2 hx hk hb; replace HK := Aside0.mk (HK.out.step hk D_K_V.out); replace HH := Aside0.mk (HH.out.step hk D_H_V.out); replace H1 := Aside0.mk (H1.out.step hk D_1_V.out); replace HX := Aside0.mk (HX.out.step hk D_X_V.out); replace HB := Aside0.mk hb; replace HV := Aside0.mk hx; clear hk hx hb))
          have n_ := Aside0.mk (show LB _ PV gV 50 ((impl_Sha.vs ws [h0, h1, h2, h3, h4, h5, h6, h7] 0).map (Value.int .u32)).toArray from HV.out)
          clear HV
          have HV := n_
          clear n_
          obtain ⟨h, hh⟩ : ∃ h_, h_ = [h0, h1, h2, h3, h4, h5, h6, h7] := ⟨_, rfl⟩
          rw [← hh] at HH HV HBK
          have HHL2 := Aside0.mk (show h.length = 8 by rw [hh]; rfl)
          clear hh HHL
          have HHL := HHL2
          clear HHL2
          go_loopg [143] 64 (fun kq v143 w' => ∃ i : Nat, v143 = .int .i64 (i : Int) ∧ Aside0 (i + kq = 64) ∧ Aside0 (LB w' PV gV 50 ((impl_Sha.vs ws h i).map (Value.int .u32)).toArray) ∧ Aside0 (LB w' PX gX 49 (ws.map (Value.int .u32)).toArray) ∧ Aside0 (LR (Kd.int .u8) 5 w' w.heap.size P1 (.slice B1 m.length D1) m) ∧ Aside0 (LB w' PK gK 49 (impl_Sha.K.map (Value.int .u32)).toArray) ∧ Aside0 (LB w' PH gH 50 (h.map (Value.int .u32)).toArray) ∧ Aside0 (Below w.heap.size w w'))
          case atStart => exact ⟨0, rfl, ⟨by omega⟩, HV, HX, H1, HK, HH, HB⟩
          case round =>
           clear HB HK HH H1 HX HV
           obtain ⟨i, rfl, HI, HV, HX, H1, HK, HH, HB⟩ := hrel
           cases gk with
           | succ k2 =>
            rename_i z1_ z2_ z3_ z4_ z5_ z6_ z7_ z8_ z9_ z10_ z11_ z12_ z13_ z14_ z15_ z16_ z17_ z18_ z19_ z20_ z21_ z22_ z23_ z24_ z25_ z26_ z27_ z28_ z29_ z30_ z31_ z32_ z33_ z34_ z35_ z36_ z37_ z38_ z39_ z40_ z41_ z42_ z43_ z44_ z45_ z46_ z47_ z48_ z49_ z50_ z51_ z52_ z53_ z54_ z55_ z56_ z57_ z58_ z59_ z60_ z61_ z62_ z63_ z64_ z65_ z66_ z67_ z68_ z69_ z70_ z71_ z72_ z73_ z74_ z75_ z76_ z77_ z78_ z79_ z80_ z81_ z82_ z83_ z84_ z85_ z86_ z87_ z88_ z89_ z90_ z91_ z92_ z93_ z94_ z95_ z96_ z97_ z98_ z99_ z100_ z101_ z102_ z103_ z104_ z105_ z106_ z107_ z108_ z109_ z110_ z111_ z112_ z113_ z114_ z115_ z116_ z117_ z118_ z119_ z120_ z121_ z122_ z123_ z124_ z125_ z126_ z127_ z128_ z129_ z130_ z131_ z132_ z133_ z134_ z135_ z136_ z137_ z138_ z139_ z140_ z141_ z142_ z143_ z144_ z145_ z146_ z147_ z148_ z149_ z150_ z151_ z152_ z153_ z154_ z155_ z156_ z157_ z158_ z159_ z160_ z161_ z162_ z163_ z164_ z165_ z166_ z167_ z168_ z169_ z170_ z171_ z172_ z173_ z174_ z175_ z176_ z177_ z178_ z179_ z180_ z181_ z182_ z183_ z184_ z185_ z186_ z187_ z188_ z189_ z190_ z191_ z192_ z193_ z194_ z195_ z196_ z197_ z198_ z199_ z200_ z201_ z202_ z203_ z204_ z205_ z206_ z207_ z208_ z209_ z210_ z211_ z212_ z213_ z214_ z215_ z216_ z217_ z218_ z219_ z220_ z221_ z222_
            revert A0 c0 l0 r w hu1 hu2 HLN y1 Ny1 n8 z1_ z2_ gK z3_ PK GEK z4_ gH z5_ PH GEH z6_ z7_ z8_ PF1 D_K_F1 D_H_F1 BF1 DF1 PF2 z9_ D_K_F2 D_H_F2 BF2 DF2 wc u26 u27 u28 u36 u37 u38 u39 u40 u41 u42 z z10_ z11_ z12_ z13_ z14_ z15_ u43 u44 u45 u46 u47 u48 u49 u50 u51 u52 u53 u54 z16_ z17_ z18_ z19_ z20_ P1 D_K_H D_K_1 D_H_1 B1 D1 z21_ hi0 hi1 nb hs HFIN m z22_ z23_ z24_ z25_ z26_ u8 z27_ z28_ z29_ u12 z30_ z31_ z32_ z33_ z34_ u18 u55 u56 u57 u58 u59 u60 z35_ z36_ z37_ z38_ z39_ z40_ z41_ z42_ z43_ z44_ z45_ z46_ z47_ z48_ z49_ z50_ z51_ z52_ z53_ z54_ z55_ z56_ z57_ z58_ z59_ z60_ z61_ z62_ z63_ z64_ z65_ z66_ z67_ z68_ z69_ z70_ z71_ z72_ z73_ z74_ z75_ z76_ z77_ z78_ z79_ z80_ z81_ z82_ z83_ z84_ z85_ z86_ z87_ z88_ z89_ z90_ z91_ z92_ z93_ z94_ z95_ z96_ z97_ z98_ z99_ z100_ z101_ z102_ z103_ z104_ z105_ z106_ z107_ z108_ z109_ z110_ z111_ z112_ z113_ z114_ z115_ u142 u143 z116_ z117_ z118_ z119_ z120_ z121_ z122_ z123_ z124_ z125_ z126_ z127_ z128_ z129_ z130_ z131_ z132_ z133_ z134_ z135_ z136_ z137_ z138_ z139_ z140_ z141_ z142_ z143_ z144_ z145_ z146_ z147_ z148_ z149_ z150_ z151_ z152_ z153_ z154_ z155_ z156_ z157_ z158_ z159_ z160_ z161_ z162_ z163_ z164_ z165_ z166_ z167_ z168_ z169_ z170_ z171_ z172_ z173_ z174_ z175_ z176_ z177_ z178_ z179_ z180_ z181_ z182_ z183_ z184_ z185_ z186_ z187_ z188_ z189_ z190_ z191_ z192_ z193_ z194_ z195_ z196_ z197_ z198_ z199_ z200_ u229 u230 u231 u232 u233 u234 u235 u236 u237 u238 u239 u240 z201_ z202_ z203_ y A2 c2 HC2 HRD HU k1 z204_ HYL hg0 hg1 hg2 z205_ z206_ gX z207_ PX GEX D_K_X D_H_X D_1_X z208_ z209_ u9 u10 u11 u61 u62 u63 u64 u65 u66 u67 u68 u69 u70 u71 u72 u73 u74 u75 u76 u77 u78 u79 u80 u81 u82 u83 u84 u85 u86 u87 u88 u89 u90 u91 u92 u93 u94 u95 u96 u97 u98 u99 u100 u101 u102 u103 u104 u105 u106 u107 u108 u109 u110 u111 u112 u113 u114 u115 u116 u117 u118 u119 u120 u121 u122 u123 u124 u125 u126 u127 u128 u129 u130 u131 u132 u133 u134 u135 u136 u137 u138 u139 u140 u141 z210_ z211_ z212_ ws HWL h0 h1 h2 h3 h4 h5 h6 h7 z213_ z214_ z215_ gV z216_ PV GEV D_K_V D_H_V D_1_V D_X_V w2 z217_ z218_ h HBK HHL wr u13 u14 u15 u16 u17 u144 u145 u146 u147 u148 u149 u150 u151 u152 u153 u154 u155 u156 u157 u158 u159 u160 u161 u162 u163 u164 u165 u166 u167 u168 u169 u170 u171 u172 u173 u174 u175 u176 u177 u178 u179 u180 u181 u182 u183 u184 u185 u186 u187 u188 u189 u190 u191 u192 u193 u194 u195 u196 u197 u198 u199 u200 u201 u202 u203 u204 u205 u206 u207 u208 u209 u210 u211 u212 u213 u214 u215 u216 u217 u218 u219 u220 u221 u222 u223 u224 u225 u226 u227 u228 z219_ z220_ z221_ i HV HX H1 HK HH HB k2 z222_ HI
            exact g_B.down
           | zero =>
            rename_i z1_ z2_ z3_ z4_ z5_ z6_ z7_ z8_ z9_ z10_ z11_ z12_ z13_ z14_ z15_ z16_ z17_ z18_ z19_ z20_ z21_ z22_ z23_ z24_ z25_ z26_ z27_ z28_ z29_ z30_ z31_ z32_ z33_ z34_ z35_ z36_ z37_ z38_ z39_ z40_ z41_ z42_ z43_ z44_ z45_ z46_ z47_ z48_ z49_ z50_ z51_ z52_ z53_ z54_ z55_ z56_ z57_ z58_ z59_ z60_ z61_ z62_ z63_ z64_ z65_ z66_ z67_ z68_ z69_ z70_ z71_ z72_ z73_ z74_ z75_ z76_ z77_ z78_ z79_ z80_ z81_ z82_ z83_ z84_ z85_ z86_ z87_ z88_ z89_ z90_ z91_ z92_ z93_ z94_ z95_ z96_ z97_ z98_ z99_ z100_ z101_ z102_ z103_ z104_ z105_ z106_ z107_ z108_ z109_ z110_ z111_ z112_ z113_ z114_ z115_ z116_ z117_ z118_ z119_ z120_ z121_ z122_ z123_ z124_ z125_ z126_ z127_ z128_ z129_ z130_ z131_ z132_ z133_ z134_ z135_ z136_ z137_ z138_ z139_ z140_ z141_ z142_ z143_ z144_ z145_ z146_ z147_ z148_ z149_ z150_ z151_ z152_ z153_ z154_ z155_ z156_ z157_ z158_ z159_ z160_ z161_ z162_ z163_ z164_ z165_ z166_ z167_ z168_ z169_ z170_ z171_ z172_ z173_ z174_ z175_ z176_ z177_ z178_ z179_ z180_ z181_ z182_ z183_ z184_ z185_ z186_ z187_ z188_ z189_ z190_ z191_ z192_ z193_ z194_ z195_ z196_ z197_ z198_ z199_ z200_ z201_ z202_ z203_ z204_ z205_ z206_ z207_ z208_ z209_ z210_ z211_ z212_ z213_ z214_ z215_ z216_ z217_ z218_ z219_ z220_ z221_ z222_
            revert A0 c0 l0 r w hu1 hu2 HLN y1 Ny1 n8 z1_ z2_ gK z3_ PK GEK z4_ gH z5_ PH GEH z6_ z7_ z8_ PF1 D_K_F1 D_H_F1 BF1 DF1 PF2 z9_ D_K_F2 D_H_F2 BF2 DF2 wc u26 u27 u28 u36 u37 u38 u39 u40 u41 u42 z z10_ z11_ z12_ z13_ z14_ z15_ u43 u44 u45 u46 u47 u48 u49 u50 u51 u52 u53 u54 z16_ z17_ z18_ z19_ z20_ P1 D_K_H D_K_1 D_H_1 B1 D1 z21_ hi0 hi1 nb hs HFIN m z22_ z23_ z24_ z25_ z26_ u8 z27_ z28_ z29_ u12 z30_ z31_ z32_ z33_ z34_ u18 u55 u56 u57 u58 u59 u60 z35_ z36_ z37_ z38_ z39_ z40_ z41_ z42_ z43_ z44_ z45_ z46_ z47_ z48_ z49_ z50_ z51_ z52_ z53_ z54_ z55_ z56_ z57_ z58_ z59_ z60_ z61_ z62_ z63_ z64_ z65_ z66_ z67_ z68_ z69_ z70_ z71_ z72_ z73_ z74_ z75_ z76_ z77_ z78_ z79_ z80_ z81_ z82_ z83_ z84_ z85_ z86_ z87_ z88_ z89_ z90_ z91_ z92_ z93_ z94_ z95_ z96_ z97_ z98_ z99_ z100_ z101_ z102_ z103_ z104_ z105_ z106_ z107_ z108_ z109_ z110_ z111_ z112_ z113_ z114_ z115_ u142 u143 z116_ z117_ z118_ z119_ z120_ z121_ z122_ z123_ z124_ z125_ z126_ z127_ z128_ z129_ z130_ z131_ z132_ z133_ z134_ z135_ z136_ z137_ z138_ z139_ z140_ z141_ z142_ z143_ z144_ z145_ z146_ z147_ z148_ z149_ z150_ z151_ z152_ z153_ z154_ z155_ z156_ z157_ z158_ z159_ z160_ z161_ z162_ z163_ z164_ z165_ z166_ z167_ z168_ z169_ z170_ z171_ z172_ z173_ z174_ z175_ z176_ z177_ z178_ z179_ z180_ z181_ z182_ z183_ z184_ z185_ z186_ z187_ z188_ z189_ z190_ z191_ z192_ z193_ z194_ z195_ z196_ z197_ z198_ z199_ z200_ u229 u230 u231 u232 u233 u234 u235 u236 u237 u238 u239 u240 z201_ z202_ z203_ y A2 c2 HC2 HRD HU k1 z204_ HYL hg0 hg1 hg2 z205_ z206_ gX z207_ PX GEX D_K_X D_H_X D_1_X z208_ z209_ u9 u10 u11 u61 u62 u63 u64 u65 u66 u67 u68 u69 u70 u71 u72 u73 u74 u75 u76 u77 u78 u79 u80 u81 u82 u83 u84 u85 u86 u87 u88 u89 u90 u91 u92 u93 u94 u95 u96 u97 u98 u99 u100 u101 u102 u103 u104 u105 u106 u107 u108 u109 u110 u111 u112 u113 u114 u115 u116 u117 u118 u119 u120 u121 u122 u123 u124 u125 u126 u127 u128 u129 u130 u131 u132 u133 u134 u135 u136 u137 u138 u139 u140 u141 z210_ z211_ z212_ ws HWL h0 h1 h2 h3 h4 h5 h6 h7 z213_ z214_ z215_ gV z216_ PV GEV D_K_V D_H_V D_1_V D_X_V w2 z217_ z218_ h HBK HHL wr u13 u14 u15 u16 u17 u144 u145 u146 u147 u148 u149 u150 u151 u152 u153 u154 u155 u156 u157 u158 u159 u160 u161 u162 u163 u164 u165 u166 u167 u168 u169 u170 u171 u172 u173 u174 u175 u176 u177 u178 u179 u180 u181 u182 u183 u184 u185 u186 u187 u188 u189 u190 u191 u192 u193 u194 u195 u196 u197 u198 u199 u200 u201 u202 u203 u204 u205 u206 u207 u208 u209 u210 u211 u212 u213 u214 u215 u216 u217 u218 u219 u220 u221 u222 u223 u224 u225 u226 u227 u228 z219_ z220_ z221_ i HV HX H1 HK HH HB z222_ HI
            exact g_C.down
        | zero =>
         rename_i z1_ z2_ z3_ z4_ z5_ z6_ z7_ z8_ z9_ z10_ z11_ z12_ z13_ z14_ z15_ z16_ z17_ z18_ z19_ z20_ z21_ z22_ z23_ z24_ z25_ z26_ z27_
         revert A0 c0 l0 r w hu1 hu2 HLN y1 Ny1 n8 z1_ z2_ gK z3_ PK GEK z4_ gH z5_ PH GEH z6_ z7_ z8_ PF1 D_K_F1 D_H_F1 BF1 DF1 PF2 w2 D_K_F2 D_H_F2 BF2 DF2 wc u26 u27 u28 u36 u37 u38 u39 u40 u41 u42 z z9_ z10_ z11_ z12_ z13_ z14_ u43 u44 u45 u46 u47 u48 u49 u50 u51 u52 u53 u54 z15_ z16_ z17_ i z18_ P1 D_K_H D_K_1 D_H_1 B1 D1 z19_ hi0 hi1 nb hs HFIN m z20_ z21_ z22_ z23_ wr u8 u9 u10 u11 u12 u13 u14 u15 u16 u17 u18 u55 u56 u57 u58 u59 u60 u61 u62 u63 u64 u65 u66 u67 u68 u69 u70 u71 u72 u73 u74 u75 u76 u77 u78 u79 u80 u81 u82 u83 u84 u85 u86 u87 u88 u89 u90 u91 u92 u93 u94 u95 u96 u97 u98 u99 u100 u101 u102 u103 u104 u105 u106 u107 u108 u109 u110 u111 u112 u113 u114 u115 u116 u117 u118 u119 u120 u121 u122 u123 u124 u125 u126 u127 u128 u129 u130 u131 u132 u133 u134 u135 u136 u137 u138 u139 u140 u141 u142 u143 u144 u145 u146 u147 u148 u149 u150 u151 u152 u153 u154 u155 u156 u157 u158 u159 u160 u161 u162 u163 u164 u165 u166 u167 u168 u169 u170 u171 u172 u173 u174 u175 u176 u177 u178 u179 u180 u181 u182 u183 u184 u185 u186 u187 u188 u189 u190 u191 u192 u193 u194 u195 u196 u197 u198 u199 u200 u201 u202 u203 u204 u205 u206 u207 u208 u209 u210 u211 u212 u213 u214 u215 u216 u217 u218 u219 u220 u221 u222 u223 u224 u225 u226 u227 u228 u229 u230 u231 u232 u233 u234 u235 u236 u237 u238 u239 u240 z24_ z25_ z26_ y h A2 c2 HHL HC2 HRD HU H1 HK HH HB z27_ HYL HBL
         exact g_end.down
  ·
   rw [if_neg c2] at h
   exact absurd h (by simp)
set_option maxHeartbeats 0 in
set_option maxRecDepth 100000 in
theorem impl_Sha.part_first : impl_Sha.skel.1.1 := by
 intro A0 c0 l0 r w hu1 hu2 HU0 HLN HF y1 Ny1 n8 N8 hw0 hsz z1_ z2_ gK z3_ PK GEK z4_ gH z5_ PH GEH D_K_H z6_ z7_ PF1 D_K_F1 D_H_F1 BF1 DF1 PF2 w2 D_K_F2 D_H_F2 HK HH HB BF2 DF2 HF2 z8_ z9_ z10_ z11_ z12_ z13_
 go_wp2
 go_loopg [0] (impl_Sha.zeros l0.length) (fun kq v0 w' => ∃ (j : Nat) (y : List Int) (P1 : Nat → Prop), Aside0 (j + kq = impl_Sha.zeros l0.length) ∧ Aside0 (y = (l0 ++ [128]) ++ List.replicate j 0) ∧ Aside0 (LR (Kd.int .u8) 5 w' w.heap.size P1 v0 y) ∧ Aside0 (LB w' PK gK 49 (impl_Sha.K.map (Value.int .u32)).toArray) ∧ Aside0 (LB w' PH gH 50 (impl_Sha.H.map (Value.int .u32)).toArray) ∧ Aside0 (∀ k_, PK k_ → ¬ PH k_) ∧ Aside0 (∀ k_, PK k_ → ¬ P1 k_) ∧ Aside0 (∀ k_, PH k_ → ¬ P1 k_) ∧ Aside0 (Below w.heap.size w w'))
 case atStart => exact ⟨0, y1, PF2, ⟨by omega⟩, ⟨by rw [Ny1.out]; simp⟩, HF2, HK, HH, D_K_H, ⟨D_K_F2.out⟩, ⟨D_H_F2.out⟩, HB⟩
 case round =>
  clear HB HK HH HF2
  obtain ⟨j, y, P1, HJ, HY, H1, HK, HH, D_K_H, D_K_1, D_H_1, HB⟩ := hrel
  have HYL := Aside0.mk (show y.length = l0.length + 1 + j from by rw [HY.out]; simp; omega)
  obtain ⟨B1, D1, e_1⟩ := H1.out.val
  subst e_1
  cases gk with
  | succ k1 =>
   obtain ⟨q, hq⟩ : ∃ q_, q_ = (y.length : Int) % 64 := ⟨_, rfl⟩
   have hqm : (y.length : Int) % 64 = q := hq.symm
   have hne : ¬ q = 56 := by have h1 := HJ.out; have h2 := HYL.out; unfold impl_Sha.zeros at h1; omega
   have hb1 : (q == 56) = false := beq_eq_false_iff_ne.mpr hne
   have hb2 : (q != 56) = true := bne_iff_ne.mpr hne
   clear hne hq
   obtain ⟨y2, hy2⟩ : ∃ y_ : List Int, y_ = y ++ [0] := ⟨_, rfl⟩
   have Ny2 := Aside0.mk hy2
   clear hy2
   go_wp2_with (first | ((with_reducible refine gate_builtin (b := .append) (xs := #[.tmp 40, .tmp 41]) rfl ?_); at_builtin; refine LR.append1 (Kd.int .u8) (w0 := w) rfl (.tmp 40) (.tmp 41) 22 5 (.int .u8 0) 1 rfl Try.underlying22 info5 rfl (by decide) (by omega) (.slice B1 y.length D1) y (0 : Int) [.int .u8 0] rfl rfl (by simp) H1.out rfl (fun _ _ h_ => h_) HB.out ?aL_2 ?_; (case aL_2 => have h1 := HJ.out; have h2 := HYL.out; have h3 := HLN.out; unfold impl_Sha.zeros at h1; omega); intro PF3 v_ w2 HL hb hk hR; have D_K_F3 := Aside0.mk (apart_app hR HK.out.lt D_K_1.out); have D_H_F3 := Aside0.mk (apart_app hR HH.out.lt D_H_1.out); replace HK := Aside0.mk (HK.out.step hk D_K_1.out); replace HH := Aside0.mk (HH.out.step hk D_H_1.out); rw [← Ny2.out] at HL; have HF3 := Aside0.mk HL; replace HB := Aside0.mk hb; clear hR HL hb hk; clear H1; obtain ⟨BF3, DF3, e_F3⟩ := HF3.out.val; subst e_F3))
   go_roundg k1
   case measure => omega
   case rel => exact ⟨j + 1, y2, PF3, ⟨by have := HJ.out; omega⟩, ⟨by rw [Ny2.out, HY.out, List.append_assoc, List.replicate_succ']⟩, HF3, HK, HH, D_K_H, ⟨D_K_F3.out⟩, ⟨D_H_F3.out⟩, HB⟩
  | zero =>
   have hqm : (y.length : Int) % 64 = 56 := by have h1 := HJ.out; have h2 := HYL.out; unfold impl_Sha.zeros at h1; omega
   have HZ := Aside0.mk (show y = (l0 ++ [128]) ++ List.replicate (impl_Sha.zeros l0.length) 0 from by rw [HY.out]; congr 2; have := HJ.out; omega)
   go_wp2
   go_meet
   case rel => exact ⟨y, P1, HZ, H1, HK, HH, D_K_H, D_K_1, D_H_1, HB⟩
set_option maxHeartbeats 0 in
set_option maxRecDepth 100000 in
theorem impl_Sha.part_A1 : impl_Sha.skel.1.2.1 := by
 intro A0 c0 l0 r w hu1 hu2 HLN y1 Ny1 n8 z1_ z2_ gK z3_ PK GEK z4_ gH z5_ PH GEH z6_ z7_ z8_ PF1 D_K_F1 D_H_F1 BF1 DF1 PF2 z9_ D_K_F2 D_H_F2 BF2 DF2 wc u26 u27 u28 u36 u37 u38 u39 u40 u41 u42 z z10_ z11_ z12_ z13_ z14_ z15_ u43 u44 u45 u46 u47 u48
 intro u49 u50 u51 u52 u53 u54 z16_ z17_ z18_ z19_ z20_ P1 D_K_H D_K_1 D_H_1 B1 D1 z21_ hi0 hi1 nb hs HFIN m z22_ z23_ z24_ z25_ z26_ u8 z27_ z28_ z29_ u12 u13 u14 u15 u16 u17 u18 u55 u56 u57 u58 u59 u60 z30_ z31_ z32_ z33_ z34_ z35_ z36_ z37_ z38_ z39_ z40_ z41_ z42_ z43_
 intro z44_ z45_ z46_ z47_ z48_ z49_ z50_ z51_ z52_ z53_ z54_ z55_ z56_ z57_ z58_ z59_ z60_ z61_ z62_ z63_ z64_ z65_ z66_ z67_ z68_ z69_ z70_ z71_ z72_ z73_ z74_ z75_ z76_ z77_ z78_ z79_ z80_ z81_ z82_ z83_ z84_ z85_ z86_ z87_ z88_ z89_ z90_ z91_ z92_ z93_ z94_ z95_ z96_ z97_ z98_ z99_ z100_ z101_ z102_ z103_
 intro z104_ z105_ z106_ z107_ z108_ z109_ z110_ u142 u143 u144 u145 u146 u147 u148 u149 u150 u151 u152 u153 u154 u155 u156 u157 u158 u159 u160 u161 u162 u163 u164 u165 u166 u167 u168 u169 u170 u171 u172 u173 u174 u175 u176 u177 u178 u179 u180 u181 u182 u183 u184 u185 u186 u187 u188 u189 u190 u191 u192 u193 u194
 intro u195 u196 u197 u198 u199 u200 u201 u202 u203 u204 u205 u206 u207 u208 u209 u210 u211 u212 u213 u214 u215 u216 u217 u218 u219 u220 u221 u222 u223 u224 u225 u226 u227 u228 u229 u230 u231 u232 u233 u234 u235 u236 u237 u238 u239 u240 z111_ z112_ z113_ y h A2 c2 HHL HC2 HRD HU z114_ z115_ HYL
 intro HBL hg0 hg1 hg2 z116_ z117_ gX w2 PX GEX D_K_X D_H_X D_1_X z118_ z119_ wr u9 u10 u11 u61 u62 u63 u64 u65 u66 u67 u68 u69 u70 u71 u72 u73 u74 u75 u76 u77 u78 u79 u80 u81 u82 u83 u84 u85 u86 u87 u88 u89 u90 u91 u92 u93 u94 u95 u96 u97 u98 u99 u100 u101
 intro u102 u103 u104 u105 u106 u107 u108 u109 u110 u111 u112 u113 u114 u115 u116 u117 u118 u119 u120 u121 u122 u123 u124 u125 u126 u127 u128 u129 u130 u131 u132 u133 u134 u135 u136 u137 u138 u139 u140 u141 z120_ z121_ z122_ i HX H1 HK HH HB k1 z123_ HI hi64 hlt hlt2 hwi hX0 hXf p0 p1
 intro c16
 have hc16 : decide ((i : Int) < 16) = true := decide_eq_true (by omega)
 have hc16b : decide (i < 16) = true := decide_eq_true c16
 have HC := Aside0.mk (HRD.out _ H1.out.reads)
 obtain ⟨ad, hA, _⟩ := impl_Sha.byte_at HC.out 0 (by have := HYL.out; omega)
 subst hA
 obtain ⟨i0, hi0⟩ : ∃ n_ : Nat, n_ = 4 * i + 0 := ⟨_, rfl⟩
 have e0 : wrap64 (4 * (i : Int)) = (i0 : Int) := by rw [hi0]; unfold wrap64; omega
 have e0k : IntKind.i64.wrap (4 * (i : Int)) = (i0 : Int) := (i64_w _).trans e0
 obtain ⟨i1, hi1⟩ : ∃ n_ : Nat, n_ = 4 * i + 1 := ⟨_, rfl⟩
 have e1 : wrap64 ((i0 : Int) + 1) = (i1 : Int) := by rw [hi1, hi0]; unfold wrap64; omega
 have e1k : IntKind.i64.wrap ((i0 : Int) + 1) = (i1 : Int) := (i64_w _).trans e1
 obtain ⟨i2, hi2⟩ : ∃ n_ : Nat, n_ = 4 * i + 2 := ⟨_, rfl⟩
 have e2 : wrap64 ((i0 : Int) + 2) = (i2 : Int) := by rw [hi2, hi0]; unfold wrap64; omega
 have e2k : IntKind.i64.wrap ((i0 : Int) + 2) = (i2 : Int) := (i64_w _).trans e2
 obtain ⟨i3, hi3⟩ : ∃ n_ : Nat, n_ = 4 * i + 3 := ⟨_, rfl⟩
 have e3 : wrap64 ((i0 : Int) + 3) = (i3 : Int) := by rw [hi3, hi0]; unfold wrap64; omega
 have e3k : IntKind.i64.wrap ((i0 : Int) + 3) = (i3 : Int) := (i64_w _).trans e3
 have L0 := Aside0.mk (show i0 < y.length by rw [hi0]; have := HYL.out; omega)
 have L1 := Aside0.mk (show i1 < y.length by rw [hi1]; have := HYL.out; omega)
 have L2 := Aside0.mk (show i2 < y.length by rw [hi2]; have := HYL.out; omega)
 have L3 := Aside0.mk (show i3 < y.length by rw [hi3]; have := HYL.out; omega)
 have HLD := Aside0.mk (show impl_Sha.ld y i = Go.bits .or .u32 (Go.bits .or .u32 (Go.bits .or .u32 (y.getD i0 0 * 16777216 % 4294967296) (y.getD i1 0 * 65536 % 4294967296)) (y.getD i2 0 * 256 % 4294967296)) (y.getD i3 0) from by rw [hi0, hi1, hi2, hi3]; rfl)
 clear hi0 hi1 hi2 hi3
 obtain ⟨_, ea, hy0⟩ := impl_Sha.byte_at HC.out i0 L0.out
 cases ea
 have u0 := impl_Sha.u8_at HU.out i0 L0.out
 obtain ⟨b0, hb0⟩ : ∃ b_, b_ = y.getD i0 0 := ⟨_, rfl⟩
 rw [← hb0] at hy0 u0 HLD
 clear hb0
 have v0 : IntKind.u32.wrap b0 = b0 := by rw [show IntKind.u32.wrap b0 = b0 % 4294967296 from rfl]; omega
 have r0 := eq_true (show (0 : Int) ≤ (i0 : Int) by omega)
 have s0 := eq_true (show (i0 : Int) < (y.length : Int) by have := L0.out; omega)
 clear u0
 obtain ⟨_, ea, hy1⟩ := impl_Sha.byte_at HC.out i1 L1.out
 cases ea
 have u1 := impl_Sha.u8_at HU.out i1 L1.out
 obtain ⟨b1, hb1⟩ : ∃ b_, b_ = y.getD i1 0 := ⟨_, rfl⟩
 rw [← hb1] at hy1 u1 HLD
 clear hb1
 have v1 : IntKind.u32.wrap b1 = b1 := by rw [show IntKind.u32.wrap b1 = b1 % 4294967296 from rfl]; omega
 have r1 := eq_true (show (0 : Int) ≤ (i1 : Int) by omega)
 have s1 := eq_true (show (i1 : Int) < (y.length : Int) by have := L1.out; omega)
 clear u1
 obtain ⟨_, ea, hy2⟩ := impl_Sha.byte_at HC.out i2 L2.out
 cases ea
 have u2 := impl_Sha.u8_at HU.out i2 L2.out
 obtain ⟨b2, hb2⟩ : ∃ b_, b_ = y.getD i2 0 := ⟨_, rfl⟩
 rw [← hb2] at hy2 u2 HLD
 clear hb2
 have v2 : IntKind.u32.wrap b2 = b2 := by rw [show IntKind.u32.wrap b2 = b2 % 4294967296 from rfl]; omega
 have r2 := eq_true (show (0 : Int) ≤ (i2 : Int) by omega)
 have s2 := eq_true (show (i2 : Int) < (y.length : Int) by have := L2.out; omega)
 clear u2
 obtain ⟨_, ea, hy3⟩ := impl_Sha.byte_at HC.out i3 L3.out
 cases ea
 have u3 := impl_Sha.u8_at HU.out i3 L3.out
 obtain ⟨b3, hb3⟩ : ∃ b_, b_ = y.getD i3 0 := ⟨_, rfl⟩
 rw [← hb3] at hy3 u3 HLD
 clear hb3
 have v3 : IntKind.u32.wrap b3 = b3 := by rw [show IntKind.u32.wrap b3 = b3 % 4294967296 from rfl]; omega
 have r3 := eq_true (show (0 : Int) ≤ (i3 : Int) by omega)
 have s3 := eq_true (show (i3 : Int) < (y.length : Int) by have := L3.out; omega)
 clear u3
 go_upto_region 21 with (fail)
 go_still_tail 35, (by kernel_rfl)
 change wpList _ _ _ _ _ (World.drew wr)
 generalize hwd_ : World.drew wr = wd
 have hk := kept_drew hwd_
 replace HK := Aside0.mk (HK.out.step hk no_S)
 replace HH := Aside0.mk (HH.out.step hk no_S)
 replace H1 := Aside0.mk (H1.out.step hk no_S)
 replace HX := Aside0.mk (HX.out.step hk no_S)
 replace HB := Aside0.mk (below_drewd HB.out hwd_)
 clear hk hwd_
 clear hX0 hXf
 have hX0 := impl_Sha.lb_at HX.out i (by rw [impl_Sha.w_len]; exact hi64)
 have hXf := HX.out.frozen i
 have HN := Aside0.mk (show (impl_Sha.w y i).set i (impl_Sha.ld y i) = impl_Sha.w y (i + 1) from by rw [impl_Sha.w, if_pos c16])
 go_wp2_with (((with_reducible refine gate_store (t := 48) (p := 99) rfl ?_); refine impl_Sha.put1 HX.out HB.out GEX.out i (impl_Sha.ld y i) rfl (t := 48) (p := 99) rfl rfl ?hr_99 ?_; (case hr_99 => first | (go_simp; done) | (go_simp; rw [HLD.out]; rfl)); intro w2 hx hk hb; replace HK := Aside0.mk (HK.out.step hk D_K_X.out); replace HH := Aside0.mk (HH.out.step hk D_H_X.out); replace H1 := Aside0.mk (H1.out.step hk D_1_X.out); replace HB := Aside0.mk hb; replace HX := Aside0.mk (show LB w2 PX gX 49 ((impl_Sha.w y (i + 1)).map (Value.int .u32)).toArray from HN.out ▸ hx); clear hk hx hb))
 go_roundg k1
 case measure => omega
 case rel => exact ⟨i + 1, by first | rfl | (simp only [hwi]) | simp, ⟨by have := HI.out; omega⟩, HX, H1, HK, HH, HB⟩
set_option maxHeartbeats 0 in
set_option maxRecDepth 100000 in
theorem impl_Sha.part_A2 : impl_Sha.skel.1.2.2.1 := by
 intro A0 c0 l0 r w hu1 hu2 HLN y1 Ny1 n8 z1_ z2_ gK z3_ PK GEK z4_ gH z5_ PH GEH z6_ z7_ z8_ PF1 D_K_F1 D_H_F1 BF1 DF1 PF2 z9_ D_K_F2 D_H_F2 BF2 DF2 wc u26 u27 u28 u36 u37 u38 u39 u40 u41 u42 z z10_ z11_ z12_ z13_ z14_ z15_ u43 u44 u45 u46 u47 u48
 intro u49 u50 u51 u52 u53 u54 z16_ z17_ z18_ z19_ z20_ P1 D_K_H D_K_1 D_H_1 B1 D1 z21_ hi0 hi1 nb hs HFIN m z22_ z23_ z24_ z25_ z26_ u8 z27_ z28_ z29_ u12 u13 u14 u15 u16 u17 u18 u55 u56 u57 u58 u59 u60 z30_ z31_ z32_ z33_ z34_ z35_ z36_ z37_ z38_ z39_ z40_ z41_ z42_ z43_
 intro z44_ z45_ z46_ z47_ z48_ z49_ z50_ z51_ z52_ z53_ z54_ z55_ z56_ z57_ z58_ z59_ z60_ z61_ z62_ z63_ z64_ z65_ z66_ z67_ z68_ z69_ z70_ z71_ z72_ z73_ z74_ z75_ z76_ z77_ z78_ z79_ z80_ z81_ z82_ z83_ z84_ z85_ z86_ z87_ z88_ z89_ z90_ z91_ z92_ z93_ z94_ z95_ z96_ z97_ z98_ z99_ z100_ z101_ z102_ z103_
 intro z104_ z105_ z106_ z107_ z108_ z109_ z110_ u142 u143 u144 u145 u146 u147 u148 u149 u150 u151 u152 u153 u154 u155 u156 u157 u158 u159 u160 u161 u162 u163 u164 u165 u166 u167 u168 u169 u170 u171 u172 u173 u174 u175 u176 u177 u178 u179 u180 u181 u182 u183 u184 u185 u186 u187 u188 u189 u190 u191 u192 u193 u194
 intro u195 u196 u197 u198 u199 u200 u201 u202 u203 u204 u205 u206 u207 u208 u209 u210 u211 u212 u213 u214 u215 u216 u217 u218 u219 u220 u221 u222 u223 u224 u225 u226 u227 u228 u229 u230 u231 u232 u233 u234 u235 u236 u237 u238 u239 u240 z111_ z112_ z113_ y h A2 c2 HHL HC2 HRD HU z114_ z115_ HYL
 intro HBL hg0 hg1 hg2 z116_ z117_ gX w2 PX GEX D_K_X D_H_X D_1_X z118_ z119_ wr u9 u10 u11 u61 u62 u63 u64 u65 u66 u67 u68 u69 u70 u71 u72 u73 u74 u75 u76 u77 u78 u79 u80 u81 u82 u83 u84 u85 u86 u87 u88 u89 u90 u91 u92 u93 u94 u95 u96 u97 u98 u99 u100 u101
 intro u102 u103 u104 u105 u106 u107 u108 u109 u110 u111 u112 u113 u114 u115 u116 u117 u118 u119 u120 u121 u122 u123 u124 u125 u126 u127 u128 u129 u130 u131 u132 u133 u134 u135 u136 u137 u138 u139 u140 u141 z120_ z121_ z122_ i HX H1 HK HH HB k1 z123_ HI hi64 hlt hlt2 hwi hX0 hXf p0 p1
 intro c16
 have hc16 : decide ((i : Int) < 16) = false := decide_eq_false (by omega)
 have hc16b : decide (i < 16) = false := decide_eq_false c16
 obtain ⟨n15, hn15⟩ : ∃ n_ : Nat, n_ = i - 15 := ⟨_, rfl⟩
 have e15 : wrap64 ((i : Int) - 15) = (n15 : Int) := by rw [hn15]; unfold wrap64; omega
 have e15k : IntKind.i64.wrap ((i : Int) - 15) = (n15 : Int) := (i64_w _).trans e15
 have L15 := Aside0.mk (show n15 < 64 by omega)
 have r15 := eq_true (show (0 : Int) ≤ (n15 : Int) by omega)
 have s15 := eq_true (show (n15 : Int) < 64 by omega)
 obtain ⟨n2, hn2⟩ : ∃ n_ : Nat, n_ = i - 2 := ⟨_, rfl⟩
 have e2 : wrap64 ((i : Int) - 2) = (n2 : Int) := by rw [hn2]; unfold wrap64; omega
 have e2k : IntKind.i64.wrap ((i : Int) - 2) = (n2 : Int) := (i64_w _).trans e2
 have L2 := Aside0.mk (show n2 < 64 by omega)
 have r2 := eq_true (show (0 : Int) ≤ (n2 : Int) by omega)
 have s2 := eq_true (show (n2 : Int) < 64 by omega)
 obtain ⟨n16, hn16⟩ : ∃ n_ : Nat, n_ = i - 16 := ⟨_, rfl⟩
 have e16 : wrap64 ((i : Int) - 16) = (n16 : Int) := by rw [hn16]; unfold wrap64; omega
 have e16k : IntKind.i64.wrap ((i : Int) - 16) = (n16 : Int) := (i64_w _).trans e16
 have L16 := Aside0.mk (show n16 < 64 by omega)
 have r16 := eq_true (show (0 : Int) ≤ (n16 : Int) by omega)
 have s16 := eq_true (show (n16 : Int) < 64 by omega)
 obtain ⟨n7, hn7⟩ : ∃ n_ : Nat, n_ = i - 7 := ⟨_, rfl⟩
 have e7 : wrap64 ((i : Int) - 7) = (n7 : Int) := by rw [hn7]; unfold wrap64; omega
 have e7k : IntKind.i64.wrap ((i : Int) - 7) = (n7 : Int) := (i64_w _).trans e7
 have L7 := Aside0.mk (show n7 < 64 by omega)
 have r7 := eq_true (show (0 : Int) ≤ (n7 : Int) by omega)
 have s7 := eq_true (show (n7 : Int) < 64 by omega)
 have HN := Aside0.mk (show (impl_Sha.w y i).set i (impl_Sha.nx ((impl_Sha.w y i).getD n15 0) ((impl_Sha.w y i).getD n2 0) ((impl_Sha.w y i).getD n16 0) ((impl_Sha.w y i).getD n7 0)) = impl_Sha.w y (i + 1) from by rw [impl_Sha.w, if_neg c16, hn15, hn2, hn16, hn7])
 clear hn15 hn2 hn16 hn7
 have hX15 := impl_Sha.lb_at HX.out n15 (by rw [impl_Sha.w_len]; exact L15.out)
 obtain ⟨x15, hx15⟩ : ∃ x_, x_ = (impl_Sha.w y i).getD n15 0 := ⟨_, rfl⟩
 rw [← hx15] at hX15 HN
 have hX2 := impl_Sha.lb_at HX.out n2 (by rw [impl_Sha.w_len]; exact L2.out)
 obtain ⟨x2, hx2⟩ : ∃ x_, x_ = (impl_Sha.w y i).getD n2 0 := ⟨_, rfl⟩
 rw [← hx2] at hX2 HN
 have hX16 := impl_Sha.lb_at HX.out n16 (by rw [impl_Sha.w_len]; exact L16.out)
 obtain ⟨x16, hx16⟩ : ∃ x_, x_ = (impl_Sha.w y i).getD n16 0 := ⟨_, rfl⟩
 rw [← hx16] at hX16 HN
 have hX7 := impl_Sha.lb_at HX.out n7 (by rw [impl_Sha.w_len]; exact L7.out)
 obtain ⟨x7, hx7⟩ : ∃ x_, x_ = (impl_Sha.w y i).getD n7 0 := ⟨_, rfl⟩
 rw [← hx7] at hX7 HN
 go_upto_region 22 with (fail)
 go_quiet (fail)
 generalize hwd_ : World.drewN wr nq = wd
 have hb_ := (show Below (World.heap wr).size wr wd from hwd_ ▸ pw_below_drewN (Below.refl _ _) nq)
 have hk := (Kept.of_below hb_ (fun _ => False))
 replace HK := Aside0.mk (HK.out.step hk no_S)
 replace HH := Aside0.mk (HH.out.step hk no_S)
 replace H1 := Aside0.mk (H1.out.step hk no_S)
 replace HX := Aside0.mk (HX.out.step hk no_S)
 replace HB := Aside0.mk (below_step HB.out hb_)
 clear hk hwd_ hb_
 clear hX0 hXf hX15 hX2 hX16 hX7
 have hX15 := (impl_Sha.lb_at HX.out n15 (by rw [impl_Sha.w_len]; exact L15.out)).trans (by rw [← hx15])
 have hX2 := (impl_Sha.lb_at HX.out n2 (by rw [impl_Sha.w_len]; exact L2.out)).trans (by rw [← hx2])
 have hX16 := (impl_Sha.lb_at HX.out n16 (by rw [impl_Sha.w_len]; exact L16.out)).trans (by rw [← hx16])
 have hX7 := (impl_Sha.lb_at HX.out n7 (by rw [impl_Sha.w_len]; exact L7.out)).trans (by rw [← hx7])
 have hX0 := impl_Sha.lb_at HX.out i (by rw [impl_Sha.w_len]; exact hi64)
 have hXf := HX.out.frozen i
 go_upto_region 23 with (fail)
 refine wp_region_still_tail 33 (by kernel_rfl) (by kernel_rfl) ?_
 simp only [List.take_succ_cons, List.take_zero, List.drop_succ_cons, List.drop_zero]
 still_step
 still_step
 still_step
 still_step
 still_step
 still_step
 still_step
 still_call (impl_Sha.turn7 _ _)
 still_step
 still_step
 still_call (impl_Sha.turn18 _ _)
 still_step
 still_step
 still_step
 still_step
 still_step
 still_step
 still_step
 still_step
 still_step
 still_step
 still_step
 still_step
 still_call (impl_Sha.turn17 _ _)
 still_step
 still_step
 still_call (impl_Sha.turn19 _ _)
 still_step
 still_step
 still_step
 still_step
 still_step
 still_step
 try refine wpStill_nil ?_
 change wpList _ _ _ _ _ (World.drew wd)
 generalize hwd_ : World.drew wd = we
 have hk := kept_drew hwd_
 replace HK := Aside0.mk (HK.out.step hk no_S)
 replace HH := Aside0.mk (HH.out.step hk no_S)
 replace H1 := Aside0.mk (H1.out.step hk no_S)
 replace HX := Aside0.mk (HX.out.step hk no_S)
 replace HB := Aside0.mk (below_drewd HB.out hwd_)
 clear hk hwd_
 clear hX0 hXf hX15 hX2 hX16 hX7
 have hX15 := (impl_Sha.lb_at HX.out n15 (by rw [impl_Sha.w_len]; exact L15.out)).trans (by rw [← hx15])
 have hX2 := (impl_Sha.lb_at HX.out n2 (by rw [impl_Sha.w_len]; exact L2.out)).trans (by rw [← hx2])
 have hX16 := (impl_Sha.lb_at HX.out n16 (by rw [impl_Sha.w_len]; exact L16.out)).trans (by rw [← hx16])
 have hX7 := (impl_Sha.lb_at HX.out n7 (by rw [impl_Sha.w_len]; exact L7.out)).trans (by rw [← hx7])
 have hX0 := impl_Sha.lb_at HX.out i (by rw [impl_Sha.w_len]; exact hi64)
 have hXf := HX.out.frozen i
 go_wp2_with (((with_reducible refine gate_store (t := 48) (p := 140) rfl ?_); refine impl_Sha.put1 HX.out HB.out GEX.out i (impl_Sha.nx x15 x2 x16 x7) rfl (t := 48) (p := 140) rfl rfl ?hr_140 ?_; (case hr_140 => first | (go_simp; done) | (go_simp; rfl)); intro w2 hx hk hb; replace HK := Aside0.mk (HK.out.step hk D_K_X.out); replace HH := Aside0.mk (HH.out.step hk D_H_X.out); replace H1 := Aside0.mk (H1.out.step hk D_1_X.out); replace HB := Aside0.mk hb; replace HX := Aside0.mk (show LB w2 PX gX 49 ((impl_Sha.w y (i + 1)).map (Value.int .u32)).toArray from HN.out ▸ hx); clear hk hx hb))
 go_roundg k1
 case measure => omega
 case rel => exact ⟨i + 1, by first | rfl | (simp only [hwi]) | simp, ⟨by have := HI.out; omega⟩, HX, H1, HK, HH, HB⟩
set_option maxHeartbeats 0 in
set_option maxRecDepth 100000 in
theorem impl_Sha.part_B : impl_Sha.skel.1.2.2.2.1 := by
 intro A0 c0 l0 r w hu1 hu2 HLN y1 Ny1 n8 z1_ z2_ gK z3_ PK GEK z4_ gH z5_ PH GEH z6_ z7_ z8_ PF1 D_K_F1 D_H_F1 BF1 DF1 PF2 z9_ D_K_F2 D_H_F2 BF2 DF2 wc u26 u27 u28 u36 u37 u38 u39 u40 u41 u42 z z10_ z11_ z12_ z13_ z14_ z15_ u43 u44 u45 u46 u47 u48
 intro u49 u50 u51 u52 u53 u54 z16_ z17_ z18_ z19_ z20_ P1 D_K_H D_K_1 D_H_1 B1 D1 z21_ hi0 hi1 nb hs HFIN m z22_ z23_ z24_ z25_ z26_ u8 z27_ z28_ z29_ u12 z30_ z31_ z32_ z33_ z34_ u18 u55 u56 u57 u58 u59 u60 z35_ z36_ z37_ z38_ z39_ z40_ z41_ z42_ z43_ z44_ z45_ z46_ z47_ z48_
 intro z49_ z50_ z51_ z52_ z53_ z54_ z55_ z56_ z57_ z58_ z59_ z60_ z61_ z62_ z63_ z64_ z65_ z66_ z67_ z68_ z69_ z70_ z71_ z72_ z73_ z74_ z75_ z76_ z77_ z78_ z79_ z80_ z81_ z82_ z83_ z84_ z85_ z86_ z87_ z88_ z89_ z90_ z91_ z92_ z93_ z94_ z95_ z96_ z97_ z98_ z99_ z100_ z101_ z102_ z103_ z104_ z105_ z106_ z107_ z108_
 intro z109_ z110_ z111_ z112_ z113_ z114_ z115_ u142 u143 z116_ z117_ z118_ z119_ z120_ z121_ z122_ z123_ z124_ z125_ z126_ z127_ z128_ z129_ z130_ z131_ z132_ z133_ z134_ z135_ z136_ z137_ z138_ z139_ z140_ z141_ z142_ z143_ z144_ z145_ z146_ z147_ z148_ z149_ z150_ z151_ z152_ z153_ z154_ z155_ z156_ z157_ z158_ z159_ z160_ z161_ z162_ z163_ z164_ z165_ z166_
 intro z167_ z168_ z169_ z170_ z171_ z172_ z173_ z174_ z175_ z176_ z177_ z178_ z179_ z180_ z181_ z182_ z183_ z184_ z185_ z186_ z187_ z188_ z189_ z190_ z191_ z192_ z193_ z194_ z195_ z196_ z197_ z198_ z199_ z200_ u229 u230 u231 u232 u233 u234 u235 u236 u237 u238 u239 u240 z201_ z202_ z203_ y A2 c2 HC2 HRD HU k1 z204_ HYL hg0 hg1
 intro hg2 z205_ z206_ gX z207_ PX GEX D_K_X D_H_X D_1_X z208_ z209_ u9 u10 u11 u61 u62 u63 u64 u65 u66 u67 u68 u69 u70 u71 u72 u73 u74 u75 u76 u77 u78 u79 u80 u81 u82 u83 u84 u85 u86 u87 u88 u89 u90 u91 u92 u93 u94 u95 u96 u97 u98 u99 u100 u101 u102 u103 u104 u105
 intro u106 u107 u108 u109 u110 u111 u112 u113 u114 u115 u116 u117 u118 u119 u120 u121 u122 u123 u124 u125 u126 u127 u128 u129 u130 u131 u132 u133 u134 u135 u136 u137 u138 u139 u140 u141 z210_ z211_ z212_ ws HWL h0 h1 h2 h3 h4 h5 h6 h7 z213_ z214_ z215_ gV z216_ PV GEV D_K_V D_H_V D_1_V D_X_V
 intro w2 z217_ z218_ h HBK HHL wr u13 u14 u15 u16 u17 u144 u145 u146 u147 u148 u149 u150 u151 u152 u153 u154 u155 u156 u157 u158 u159 u160 u161 u162 u163 u164 u165 u166 u167 u168 u169 u170 u171 u172 u173 u174 u175 u176 u177 u178 u179 u180 u181 u182 u183 u184 u185 u186 u187 u188 u189 u190 u191
 intro u192 u193 u194 u195 u196 u197 u198 u199 u200 u201 u202 u203 u204 u205 u206 u207 u208 u209 u210 u211 u212 u213 u214 u215 u216 u217 u218 u219 u220 u221 u222 u223 u224 u225 u226 u227 u228 z219_ z220_ z221_ i HV HX H1 HK HH HB k2 z222_ HI
 have hi64 : i < 64 := by have := HI.out; omega
 have hlt : decide ((i : Int) < 64) = true := decide_eq_true (by omega)
 have hlt2 : decide (i < 64) = true := decide_eq_true hi64
 have hwi : wrap64 ((i : Int) + 1) = ((i + 1 : Nat) : Int) := by unfold wrap64; omega
 have p0 := eq_true (show (0 : Int) ≤ (i : Int) by omega)
 have p1 := eq_true (show (i : Int) < 64 by omega)
 have HN := Aside0.mk (show impl_Sha.rnd (impl_Sha.K.getD i 0) (ws.getD i 0) (impl_Sha.vs ws h i) = impl_Sha.vs ws h (i + 1) from rfl)
 have HVL := Aside0.mk (impl_Sha.vs_len ws h HHL.out i)
 obtain ⟨v, hv⟩ : ∃ v_, v_ = impl_Sha.vs ws h i := ⟨_, rfl⟩
 rw [← hv] at HV HN HVL
 clear hv
 obtain ⟨v0, v1, v2, v3, v4, v5, v6, v7, rfl⟩ := impl_Sha.list8 HVL.out
 obtain ⟨xw, hxw⟩ : ∃ x_, x_ = ws.getD i 0 := ⟨_, rfl⟩
 obtain ⟨xk, hxk⟩ : ∃ x_, x_ = impl_Sha.K.getD i 0 := ⟨_, rfl⟩
 rw [← hxw, ← hxk] at HN
 have NXW := Aside0.mk hxw
 have NXK := Aside0.mk hxk
 clear hxw hxk
 have hv0 := (HV.out.cell 0).trans (show _ = some (.int .u32 v0) from rfl)
 have hv1 := (HV.out.cell 1).trans (show _ = some (.int .u32 v1) from rfl)
 have hv2 := (HV.out.cell 2).trans (show _ = some (.int .u32 v2) from rfl)
 have hv3 := (HV.out.cell 3).trans (show _ = some (.int .u32 v3) from rfl)
 have hv4 := (HV.out.cell 4).trans (show _ = some (.int .u32 v4) from rfl)
 have hv5 := (HV.out.cell 5).trans (show _ = some (.int .u32 v5) from rfl)
 have hv6 := (HV.out.cell 6).trans (show _ = some (.int .u32 v6) from rfl)
 have hv7 := (HV.out.cell 7).trans (show _ = some (.int .u32 v7) from rfl)
 have hX0 := (impl_Sha.lb_at HX.out i (by rw [HWL.out]; exact hi64)).trans (by rw [← NXW.out])
 have hK0 := (impl_Sha.lb_at HK.out i (by rw [show impl_Sha.K.length = 64 from rfl]; exact hi64)).trans (by rw [← NXK.out])
 go_upto_region 29 with (fail)
 go_quiet (fail)
 generalize hwd_ : World.drewN wr nq = wd
 have hb_ := (show Below (World.heap wr).size wr wd from hwd_ ▸ pw_below_drewN (Below.refl _ _) nq)
 have hk := (Kept.of_below hb_ (fun _ => False))
 replace HK := Aside0.mk (HK.out.step hk no_S)
 replace HH := Aside0.mk (HH.out.step hk no_S)
 replace H1 := Aside0.mk (H1.out.step hk no_S)
 replace HX := Aside0.mk (HX.out.step hk no_S)
 replace HV := Aside0.mk (HV.out.step hk no_S)
 replace HB := Aside0.mk (below_step HB.out hb_)
 clear hk hwd_ hb_
 clear hv0 hv1 hv2 hv3 hv4 hv5 hv6 hv7 hX0 hK0
 have hv0 := (HV.out.cell 0).trans (show _ = some (.int .u32 v0) from rfl)
 have hv1 := (HV.out.cell 1).trans (show _ = some (.int .u32 v1) from rfl)
 have hv2 := (HV.out.cell 2).trans (show _ = some (.int .u32 v2) from rfl)
 have hv3 := (HV.out.cell 3).trans (show _ = some (.int .u32 v3) from rfl)
 have hv4 := (HV.out.cell 4).trans (show _ = some (.int .u32 v4) from rfl)
 have hv5 := (HV.out.cell 5).trans (show _ = some (.int .u32 v5) from rfl)
 have hv6 := (HV.out.cell 6).trans (show _ = some (.int .u32 v6) from rfl)
 have hv7 := (HV.out.cell 7).trans (show _ = some (.int .u32 v7) from rfl)
 have hX0 := (impl_Sha.lb_at HX.out i (by rw [HWL.out]; exact hi64)).trans (by rw [← NXW.out])
 have hK0 := (impl_Sha.lb_at HK.out i (by rw [show impl_Sha.K.length = 64 from rfl]; exact hi64)).trans (by rw [← NXK.out])
 have n_ := Aside0.mk (show LB wd PV gV 50 #[.int .u32 v0, .int .u32 v1, .int .u32 v2, .int .u32 v3, .int .u32 v4, .int .u32 v5, .int .u32 v6, .int .u32 v7] from HV.out)
 clear HV
 have HV := n_
 clear n_
 go_upto_region 30 with (fail)
 go_cut [16] from 150 to 183 (fun v_ w' => v_ = .int .u32 (impl_Sha.p v4 v5 v6 v7 xk xw) ∧ Aside0 (LB w' PV gV 50 #[.int .u32 v0, .int .u32 v1, .int .u32 v2, .int .u32 v3, .int .u32 v4, .int .u32 v5, .int .u32 v6, .int .u32 v7]) ∧ Aside0 (LB w' PX gX 49 (ws.map (Value.int .u32)).toArray) ∧ Aside0 (LR (Kd.int .u8) 5 w' w.heap.size P1 (.slice B1 m.length D1) m) ∧ Aside0 (LB w' PK gK 49 (impl_Sha.K.map (Value.int .u32)).toArray) ∧ Aside0 (LB w' PH gH 50 (h.map (Value.int .u32)).toArray) ∧ Aside0 (Below w.heap.size w w'))
 case first =>
  refine wp_region_still_lit (by kernel_rfl) (by kernel_rfl) ?_
  still_step
  still_step
  still_step
  still_step
  still_call (impl_Sha.turn6 _ _)
  still_step
  still_step
  still_call (impl_Sha.turn11 _ _)
  still_step
  still_step
  still_step
  still_call (impl_Sha.turn25 _ _)
  still_step
  still_step
  still_step
  still_step
  still_step
  still_step
  still_step
  still_step
  still_step
  still_step
  still_step
  still_step
  still_step
  still_step
  still_step
  still_step
  still_step
  still_step
  still_step
  still_step
  still_step
  still_step
  refine wpStill_nil ?_
  change (_ : Act → World → Prop) _ (World.drew wd)
  generalize hwd_ : World.drew wd = wq
  have hk := kept_drew hwd_
  replace HK := Aside0.mk (HK.out.step hk no_S)
  replace HH := Aside0.mk (HH.out.step hk no_S)
  replace H1 := Aside0.mk (H1.out.step hk no_S)
  replace HX := Aside0.mk (HX.out.step hk no_S)
  replace HV := Aside0.mk (HV.out.step hk no_S)
  replace HB := Aside0.mk (below_drewd HB.out hwd_)
  clear hk hwd_
  go_wp2
  go_meet
  case rel => exact ⟨rfl, HV, HX, H1, HK, HH, HB⟩
 case rest =>
  clear HV HX H1 HK HH HB
  obtain ⟨rfl, HV, HX, H1, HK, HH, HB⟩ := hcut
  clear hv0 hv1 hv2 hv3 hv4 hv5 hv6 hv7 hX0 hK0
  have hv0 := (HV.out.cell 0).trans (show _ = some (.int .u32 v0) from rfl)
  have hv1 := (HV.out.cell 1).trans (show _ = some (.int .u32 v1) from rfl)
  have hv2 := (HV.out.cell 2).trans (show _ = some (.int .u32 v2) from rfl)
  have hv3 := (HV.out.cell 3).trans (show _ = some (.int .u32 v3) from rfl)
  have hv4 := (HV.out.cell 4).trans (show _ = some (.int .u32 v4) from rfl)
  have hv5 := (HV.out.cell 5).trans (show _ = some (.int .u32 v5) from rfl)
  have hv6 := (HV.out.cell 6).trans (show _ = some (.int .u32 v6) from rfl)
  have hv7 := (HV.out.cell 7).trans (show _ = some (.int .u32 v7) from rfl)
  have hX0 := (impl_Sha.lb_at HX.out i (by rw [HWL.out]; exact hi64)).trans (by rw [← NXW.out])
  have hK0 := (impl_Sha.lb_at HK.out i (by rw [show impl_Sha.K.length = 64 from rfl]; exact hi64)).trans (by rw [← NXK.out])
  go_upto_region 31 with (fail)
  go_cut [17] from 183 to 210 (fun v_ w' => v_ = .int .u32 (impl_Sha.q v0 v1 v2) ∧ Aside0 (LB w' PV gV 50 #[.int .u32 v0, .int .u32 v1, .int .u32 v2, .int .u32 v3, .int .u32 v4, .int .u32 v5, .int .u32 v6, .int .u32 v7]) ∧ Aside0 (LB w' PX gX 49 (ws.map (Value.int .u32)).toArray) ∧ Aside0 (LR (Kd.int .u8) 5 w' w.heap.size P1 (.slice B1 m.length D1) m) ∧ Aside0 (LB w' PK gK 49 (impl_Sha.K.map (Value.int .u32)).toArray) ∧ Aside0 (LB w' PH gH 50 (h.map (Value.int .u32)).toArray) ∧ Aside0 (Below w.heap.size w w'))
  case first =>
   refine wp_region_still_lit (by kernel_rfl) (by kernel_rfl) ?_
   still_step
   still_step
   still_call (impl_Sha.turn2 _ _)
   still_step
   still_step
   still_call (impl_Sha.turn13 _ _)
   still_step
   still_step
   still_step
   still_call (impl_Sha.turn22 _ _)
   still_step
   still_step
   still_step
   still_step
   still_step
   still_step
   still_step
   still_step
   still_step
   still_step
   still_step
   still_step
   still_step
   still_step
   still_step
   still_step
   still_step
   still_step
   refine wpStill_nil ?_
   change (_ : Act → World → Prop) _ (World.drew wc)
   generalize hwd_ : World.drew wc = wq
   have hk := kept_drew hwd_
   replace HK := Aside0.mk (HK.out.step hk no_S)
   replace HH := Aside0.mk (HH.out.step hk no_S)
   replace H1 := Aside0.mk (H1.out.step hk no_S)
   replace HX := Aside0.mk (HX.out.step hk no_S)
   replace HV := Aside0.mk (HV.out.step hk no_S)
   replace HB := Aside0.mk (below_drewd HB.out hwd_)
   clear hk hwd_
   go_wp2
   go_meet
   case rel => exact ⟨rfl, HV, HX, H1, HK, HH, HB⟩
  case rest =>
   clear HV HX H1 HK HH HB
   obtain ⟨rfl, HV, HX, H1, HK, HH, HB⟩ := hcut
   clear hv0 hv1 hv2 hv3 hv4 hv5 hv6 hv7 hX0 hK0
   have hv0 := (HV.out.cell 0).trans (show _ = some (.int .u32 v0) from rfl)
   have hv1 := (HV.out.cell 1).trans (show _ = some (.int .u32 v1) from rfl)
   have hv2 := (HV.out.cell 2).trans (show _ = some (.int .u32 v2) from rfl)
   have hv3 := (HV.out.cell 3).trans (show _ = some (.int .u32 v3) from rfl)
   have hv4 := (HV.out.cell 4).trans (show _ = some (.int .u32 v4) from rfl)
   have hv5 := (HV.out.cell 5).trans (show _ = some (.int .u32 v5) from rfl)
   have hv6 := (HV.out.cell 6).trans (show _ = some (.int .u32 v6) from rfl)
   have hv7 := (HV.out.cell 7).trans (show _ = some (.int .u32 v7) from rfl)
   have hX0 := (impl_Sha.lb_at HX.out i (by rw [HWL.out]; exact hi64)).trans (by rw [← NXW.out])
   have hK0 := (impl_Sha.lb_at HK.out i (by rw [show impl_Sha.K.length = 64 from rfl]; exact hi64)).trans (by rw [← NXK.out])
   have n_ := Aside0.mk (show LB _ PV gV 50 ([v0, v1, v2, v3, v4, v5, v6, v7].map (Value.int .u32)).toArray from HV.out)
   clear HV
   have HV := n_
   clear n_
   go_wp2_with (((with_reducible refine gate_store (t := 50) (p := 12) rfl ?_); refine impl_Sha.rowed HV.out HB.out GEV.out rfl (t := 50) (p := 12) rfl rfl (cells := #[.int .u32 (((impl_Sha.p v4 v5 v6 v7 xk xw) + (impl_Sha.q v0 v1 v2)) % 4294967296), .int .u32 v0, .int .u32 v1, .int .u32 v2, .int .u32 ((v3 + (impl_Sha.p v4 v5 v6 v7 xk xw)) % 4294967296), .int .u32 v4, .int .u32 v5, .int .u32 v6]) rfl rfl (by kernel_rfl) (by first | rfl | simp) (by kernel_rfl) ?_; intro w2 hx hk hb; replace HK := Aside0.mk (HK.out.step hk D_K_V.out); replace HH := Aside0.mk (HH.out.step hk D_H_V.out); replace H1 := Aside0.mk (H1.out.step hk D_1_V.out); replace HX := Aside0.mk (HX.out.step hk D_X_V.out); replace HB := Aside0.mk hb; replace HV := Aside0.mk (show LB w2 PV gV 50 ((impl_Sha.vs ws h (i + 1)).map (Value.int .u32)).toArray from HN.out ▸ hx); clear hk hx hb))
   go_roundg k2
   case measure => omega
   case rel => exact ⟨i + 1, by first | rfl | (simp only [hwi]) | simp, ⟨by have := HI.out; omega⟩, HV, HX, H1, HK, HH, HB⟩
set_option maxHeartbeats 0 in
set_option maxRecDepth 100000 in
theorem impl_Sha.part_C : impl_Sha.skel.1.2.2.2.2.1 := by
 intro A0 c0 l0 r w hu1 hu2 HLN y1 Ny1 n8 z1_ z2_ gK z3_ PK GEK z4_ gH z5_ PH GEH z6_ z7_ z8_ PF1 D_K_F1 D_H_F1 BF1 DF1 PF2 z9_ D_K_F2 D_H_F2 BF2 DF2 wc u26 u27 u28 u36 u37 u38 u39 u40 u41 u42 z z10_ z11_ z12_ z13_ z14_ z15_ u43 u44 u45 u46 u47 u48
 intro u49 u50 u51 u52 u53 u54 z16_ z17_ z18_ z19_ z20_ P1 D_K_H D_K_1 D_H_1 B1 D1 z21_ hi0 hi1 nb hs HFIN m z22_ z23_ z24_ z25_ z26_ u8 z27_ z28_ z29_ u12 z30_ z31_ z32_ z33_ z34_ u18 u55 u56 u57 u58 u59 u60 z35_ z36_ z37_ z38_ z39_ z40_ z41_ z42_ z43_ z44_ z45_ z46_ z47_ z48_
 intro z49_ z50_ z51_ z52_ z53_ z54_ z55_ z56_ z57_ z58_ z59_ z60_ z61_ z62_ z63_ z64_ z65_ z66_ z67_ z68_ z69_ z70_ z71_ z72_ z73_ z74_ z75_ z76_ z77_ z78_ z79_ z80_ z81_ z82_ z83_ z84_ z85_ z86_ z87_ z88_ z89_ z90_ z91_ z92_ z93_ z94_ z95_ z96_ z97_ z98_ z99_ z100_ z101_ z102_ z103_ z104_ z105_ z106_ z107_ z108_
 intro z109_ z110_ z111_ z112_ z113_ z114_ z115_ u142 u143 z116_ z117_ z118_ z119_ z120_ z121_ z122_ z123_ z124_ z125_ z126_ z127_ z128_ z129_ z130_ z131_ z132_ z133_ z134_ z135_ z136_ z137_ z138_ z139_ z140_ z141_ z142_ z143_ z144_ z145_ z146_ z147_ z148_ z149_ z150_ z151_ z152_ z153_ z154_ z155_ z156_ z157_ z158_ z159_ z160_ z161_ z162_ z163_ z164_ z165_ z166_
 intro z167_ z168_ z169_ z170_ z171_ z172_ z173_ z174_ z175_ z176_ z177_ z178_ z179_ z180_ z181_ z182_ z183_ z184_ z185_ z186_ z187_ z188_ z189_ z190_ z191_ z192_ z193_ z194_ z195_ z196_ z197_ z198_ z199_ z200_ u229 u230 u231 u232 u233 u234 u235 u236 u237 u238 u239 u240 z201_ z202_ z203_ y A2 c2 HC2 HRD HU k1 z204_ HYL hg0 hg1
 intro hg2 z205_ z206_ gX z207_ PX GEX D_K_X D_H_X D_1_X z208_ z209_ u9 u10 u11 u61 u62 u63 u64 u65 u66 u67 u68 u69 u70 u71 u72 u73 u74 u75 u76 u77 u78 u79 u80 u81 u82 u83 u84 u85 u86 u87 u88 u89 u90 u91 u92 u93 u94 u95 u96 u97 u98 u99 u100 u101 u102 u103 u104 u105
 intro u106 u107 u108 u109 u110 u111 u112 u113 u114 u115 u116 u117 u118 u119 u120 u121 u122 u123 u124 u125 u126 u127 u128 u129 u130 u131 u132 u133 u134 u135 u136 u137 u138 u139 u140 u141 z210_ z211_ z212_ ws HWL h0 h1 h2 h3 h4 h5 h6 h7 z213_ z214_ z215_ gV z216_ PV GEV D_K_V D_H_V D_1_V D_X_V
 intro w2 z217_ z218_ h HBK HHL wr u13 u14 u15 u16 u17 u144 u145 u146 u147 u148 u149 u150 u151 u152 u153 u154 u155 u156 u157 u158 u159 u160 u161 u162 u163 u164 u165 u166 u167 u168 u169 u170 u171 u172 u173 u174 u175 u176 u177 u178 u179 u180 u181 u182 u183 u184 u185 u186 u187 u188 u189 u190 u191
 intro u192 u193 u194 u195 u196 u197 u198 u199 u200 u201 u202 u203 u204 u205 u206 u207 u208 u209 u210 u211 u212 u213 u214 u215 u216 u217 u218 u219 u220 u221 u222 u223 u224 u225 u226 u227 u228 z219_ z220_ z221_ i HV HX H1 HK HH HB z222_ HI
 obtain rfl : i = 64 := by have := HI.out; omega
 have HVL := Aside0.mk (impl_Sha.vs_len ws h HHL.out 64)
 obtain ⟨v, hv⟩ : ∃ v_, v_ = impl_Sha.vs ws h 64 := ⟨_, rfl⟩
 rw [← hv] at HV HVL HBK
 clear hv HI
 go_wp2
 go_loopg [229] 8 (fun kq v229 w' => ∃ i : Nat, v229 = .int .i64 (i : Int) ∧ Aside0 (i + kq = 8) ∧ Aside0 (LB w' PV gV 50 (v.map (Value.int .u32)).toArray) ∧ Aside0 (LR (Kd.int .u8) 5 w' w.heap.size P1 (.slice B1 m.length D1) m) ∧ Aside0 (LB w' PK gK 49 (impl_Sha.K.map (Value.int .u32)).toArray) ∧ Aside0 (LB w' PH gH 50 ((impl_Sha.add h v i).map (Value.int .u32)).toArray) ∧ Aside0 (Below w.heap.size w w'))
 case atStart => exact ⟨0, rfl, ⟨by omega⟩, HV, H1, HK, HH, HB⟩
 case round =>
  clear HB HK HH H1 HX HV
  obtain ⟨i, rfl, HI, HV, H1, HK, HH, HB⟩ := hrel
  cases gk with
  | succ k2 =>
   have hi8 : i < 8 := by have := HI.out; omega
   have hlt : decide ((i : Int) < 8) = true := decide_eq_true (by omega)
   have hlt2 : decide (i < 8) = true := decide_eq_true hi8
   have hwi : wrap64 ((i : Int) + 1) = ((i + 1 : Nat) : Int) := by unfold wrap64; omega
   have p0 := eq_true (show (0 : Int) ≤ (i : Int) by omega)
   have p1 := eq_true (show (i : Int) < 8 by omega)
   have HN := Aside0.mk (show (impl_Sha.add h v i).set i (((impl_Sha.add h v i).getD i 0 + v.getD i 0) % 4294967296) = impl_Sha.add h v (i + 1) from rfl)
   obtain ⟨a0, ha0⟩ : ∃ x_, x_ = (impl_Sha.add h v i).getD i 0 := ⟨_, rfl⟩
   obtain ⟨a1, ha1⟩ : ∃ x_, x_ = v.getD i 0 := ⟨_, rfl⟩
   rw [← ha0, ← ha1] at HN
   have hH0 := (impl_Sha.lb_at HH.out i (by rw [impl_Sha.add_len, HHL.out]; exact hi8)).trans (by rw [← ha0])
   have hHf := HH.out.frozen i
   have hV0 := (impl_Sha.lb_at HV.out i (by rw [HVL.out]; exact hi8)).trans (by rw [← ha1])
   go_upto_region 37 with (fail)
   go_still_tail 8, (by kernel_rfl)
   change wpList _ _ _ _ _ (World.drew wr)
   generalize hwd_ : World.drew wr = wd
   have hk := kept_drew hwd_
   replace HK := Aside0.mk (HK.out.step hk no_S)
   replace HH := Aside0.mk (HH.out.step hk no_S)
   replace H1 := Aside0.mk (H1.out.step hk no_S)
   replace HV := Aside0.mk (HV.out.step hk no_S)
   replace HB := Aside0.mk (below_drewd HB.out hwd_)
   clear hk hwd_
   clear hH0 hHf hV0
   have hH0 := (impl_Sha.lb_at HH.out i (by rw [impl_Sha.add_len, HHL.out]; exact hi8)).trans (by rw [← ha0])
   have hHf := HH.out.frozen i
   have hV0 := (impl_Sha.lb_at HV.out i (by rw [HVL.out]; exact hi8)).trans (by rw [← ha1])
   go_wp2_with (((with_reducible refine gate_store (t := 48) (p := 239) rfl ?_); refine impl_Sha.put1 HH.out HB.out GEH.out i ((a0 + a1) % 4294967296) rfl (t := 48) (p := 239) rfl rfl ?hr_239 ?_; (case hr_239 => first | (go_simp; done) | (go_simp; rfl)); intro w2 hx hk hb; replace HK := Aside0.mk (HK.out.step hk D_K_H.out); replace H1 := Aside0.mk (H1.out.step hk (apart_symm D_H_1.out)); replace HV := Aside0.mk (HV.out.step hk (apart_symm D_H_V.out)); replace HB := Aside0.mk hb; replace HH := Aside0.mk (show LB w2 PH gH 50 ((impl_Sha.add h v (i + 1)).map (Value.int .u32)).toArray from HN.out ▸ hx); clear hk hx hb))
   go_roundg k2
   case measure => omega
   case rel => exact ⟨i + 1, by first | rfl | (simp only [hwi]) | simp, ⟨by have := HI.out; omega⟩, HV, H1, HK, HH, HB⟩
  | zero =>
   obtain rfl : i = 8 := by have := HI.out; omega
   obtain ⟨h2, hh2⟩ : ∃ h_, h_ = impl_Sha.add h v 8 := ⟨_, rfl⟩
   rw [← hh2] at HH HBK
   have HHL2 := Aside0.mk (show h2.length = 8 by rw [hh2, impl_Sha.add_len]; exact HHL.out)
   clear hh2
   obtain ⟨y2, hy2⟩ : ∃ y_, y_ = y.drop (64 : Int).toNat := ⟨_, rfl⟩
   obtain ⟨i05, hi05, _, hsz5, _⟩ := info_parts info5
   obtain ⟨A3, c3, hc3, hcut, hrd⟩ := cut_drop (P := Try.prog) 22 5 .i64 Try.underlying22 hi05 (d := (Kd.int .u8)) hsz5 A2 c2 64 y2 hy2 HC2.out (by omega) (by have := HYL.out; omega)
   have HY2L := Aside0.mk (show y2.length = 64 * k1 from by rw [hy2, List.length_drop]; have := HYL.out; simp; omega)
   have HU2 := Aside0.mk (show ∀ x ∈ y2, 0 ≤ x ∧ x < 256 from fun x hx_ => HU.out x (List.mem_of_mem_drop (hy2 ▸ hx_)))
   have HBK2 := Aside0.mk (show impl_Sha.blocks k1 y2 h2 = hs from by rw [hy2]; exact HBK.out)
   have HC3 := Aside0.mk hc3
   have HRD2 := Aside0.mk (fun (W : World) (h_ : Kd.C (Kd.int .u8) W B1 m.length m) => hrd W (HRD.out W h_))
   clear hy2 hc3 hrd
   go_wp2
   go_roundg k1
   case measure => omega
   case rel => exact ⟨y2, h2, A3, c3, rfl, HY2L, HHL2, HC3, HRD2, HU2, HBK2, H1, HK, HH, HB⟩
set_option maxHeartbeats 0 in
set_option maxRecDepth 100000 in
theorem impl_Sha.part_end : impl_Sha.skel.1.2.2.2.2.2 := by
 intro A0 c0 l0 r w hu1 hu2 HLN y1 Ny1 n8 z1_ z2_ gK z3_ PK GEK z4_ gH z5_ PH GEH z6_ z7_ z8_ PF1 D_K_F1 D_H_F1 BF1 DF1 PF2 w2 D_K_F2 D_H_F2 BF2 DF2 wc u26 u27 u28 u36 u37 u38 u39 u40 u41 u42 z z9_ z10_ z11_ z12_ z13_ z14_ u43 u44 u45 u46 u47 u48
 intro u49 u50 u51 u52 u53 u54 z15_ z16_ z17_ i z18_ P1 D_K_H D_K_1 D_H_1 B1 D1 z19_ hi0 hi1 nb hs HFIN m z20_ z21_ z22_ z23_ wr u8 u9 u10 u11 u12 u13 u14 u15 u16 u17 u18 u55 u56 u57 u58 u59 u60 u61 u62 u63 u64 u65 u66 u67 u68 u69 u70 u71 u72 u73 u74
 intro u75 u76 u77 u78 u79 u80 u81 u82 u83 u84 u85 u86 u87 u88 u89 u90 u91 u92 u93 u94 u95 u96 u97 u98 u99 u100 u101 u102 u103 u104 u105 u106 u107 u108 u109 u110 u111 u112 u113 u114 u115 u116 u117 u118 u119 u120 u121 u122 u123 u124 u125 u126 u127 u128 u129 u130 u131 u132 u133 u134
 intro u135 u136 u137 u138 u139 u140 u141 u142 u143 u144 u145 u146 u147 u148 u149 u150 u151 u152 u153 u154 u155 u156 u157 u158 u159 u160 u161 u162 u163 u164 u165 u166 u167 u168 u169 u170 u171 u172 u173 u174 u175 u176 u177 u178 u179 u180 u181 u182 u183 u184 u185 u186 u187 u188 u189 u190 u191 u192 u193 u194
 intro u195 u196 u197 u198 u199 u200 u201 u202 u203 u204 u205 u206 u207 u208 u209 u210 u211 u212 u213 u214 u215 u216 u217 u218 u219 u220 u221 u222 u223 u224 u225 u226 u227 u228 u229 u230 u231 u232 u233 u234 u235 u236 u237 u238 u239 u240 z24_ z25_ z26_ y h A2 c2 HHL HC2 HRD HU H1 HK HH
 intro HB z27_ HYL HBL
 have hg0 : decide (0 < (y.length : Int)) = false := decide_eq_false (by have := HYL.out; omega)
 have hg1 : decide (0 < y.length) = false := decide_eq_false (by have := HYL.out; omega)
 have hg2 := eq_false (show ¬ 0 < y.length by have := HYL.out; omega)
 obtain rfl : h = hs := HBL.out
 obtain ⟨h0, h1, h2, h3, h4, h5, h6, h7, rfl⟩ := impl_Sha.list8 HHL.out
 obtain ⟨o0, ho0⟩ : ∃ o_ : List Int, o_ = [] := ⟨_, rfl⟩
 have No0 := Aside0.mk ho0
 clear ho0
 go_wp2_with (first | ((with_reducible refine gate_dst (N := 241) rfl ?_); refine Kd.R_lit (Kd.int .u8) _ 5 ?hg_4 (N := 241) ?hd_4 (xs := ([] : List Int)) (inner := []) (ok := fun _ => True) (okp := fun _ => True) ?hr_4 ?hp_4 (fun _ hk => hk) trivial (Below.refl _ _) (Nat.le_refl _) (by simp) ?_; (case hd_4 => rfl); (case hg_4 => rfl); (case hr_4 => first | (go_simp; done) | (go_simp; rfl)); (case hp_4 => exact (Reps.none _ _)); intro vF5 w2 hrF5 hb hg_ hnew_; clear hg_ hnew_; rw [← No0.out] at hrF5; have hk := kept_below hb; obtain ⟨PF5, hPF5, HLF5⟩ := LR.fresh rfl HB.out hrF5; have HF5 := Aside0.mk HLF5; clear HLF5 hrF5; have D_K_F5 := Aside0.mk (new_apart HK.out.lt hPF5); have D_H_F5 := Aside0.mk (new_apart HH.out.lt hPF5); have D_1_F5 := Aside0.mk (new_apart H1.out.lt hPF5); replace HK := Aside0.mk (HK.out.step hk no_S); replace HH := Aside0.mk (HH.out.step hk no_S); replace H1 := Aside0.mk (H1.out.step hk no_S); clear hPF5; obtain ⟨BF5, DF5, e_F5⟩ := HF5.out.val; subst e_F5; replace HB := Aside0.mk (below_step HB.out hb); clear hb hk) | ((with_reducible refine gate_dst (N := 242) rfl ?_); refine wpList_load_row rfl 50 (.tmp 4) rfl gH rfl 50 #[(.int .u32 h0), (.int .u32 h1), (.int .u32 h2), (.int .u32 h3), (.int .u32 h4), (.int .u32 h5), (.int .u32 h6), (.int .u32 h7)] (0, 0) _ HH.out.2.1 hu2 rfl (by kernel_rfl) ?_))
 go_loopg [19, 243] 8 (fun kq v19 v243 w' => ∃ (i : Nat) (o : List Int) (P2 : Nat → Prop), v243 = .int .i64 (i : Int) ∧ Aside0 (i + kq = 8) ∧ Aside0 (o = ([h0, h1, h2, h3, h4, h5, h6, h7].take i).flatMap impl_Sha.hex) ∧ Aside0 (LR (Kd.int .u8) 5 w' w.heap.size P2 v19 o) ∧ Aside0 (Below w.heap.size w w'))
 case atStart => exact ⟨0, o0, PF5, rfl, ⟨by omega⟩, ⟨by rw [No0.out]; rfl⟩, HF5, HB⟩
 case round =>
  clear HB HK HH H1 HF5 HRD HU HC2 HYL hg0 hg1 hg2
  obtain ⟨i, o, P2, rfl, HI, HO, H2, HB⟩ := hrel
  obtain ⟨B2, D2, e_2⟩ := H2.out.val
  subst e_2
  cases gk with
  | succ k1 =>
   have hi8 : i < 8 := by have := HI.out; omega
   have hlt : decide ((i : Int) < 8) = true := decide_eq_true (by omega)
   have hlt2 : decide (i < 8) = true := decide_eq_true hi8
   have hwi : wrap64 ((i : Int) + 1) = ((i + 1 : Nat) : Int) := by unfold wrap64; omega
   obtain ⟨x, hx⟩ : ∃ x_, x_ = [h0, h1, h2, h3, h4, h5, h6, h7].getD i 0 := ⟨_, rfl⟩
   have hidx : ∀ W, (Instr.index 50 (.agg #[(.int .u32 h0), (.int .u32 h1), (.int .u32 h2), (.int .u32 h3), (.int .u32 h4), (.int .u32 h5), (.int .u32 h6), (.int .u32 h7)]) (.int .i64 (i : Int))).run Try.prog W = .ok (.int .u32 x) W := fun W => by subst hx; exact impl_Sha.index8 h0 h1 h2 h3 h4 h5 h6 h7 i hi8 W
   have HXH := Aside0.mk (show ([h0, h1, h2, h3, h4, h5, h6, h7].take (i + 1)).flatMap impl_Sha.hex = ([h0, h1, h2, h3, h4, h5, h6, h7].take i).flatMap impl_Sha.hex ++ impl_Sha.hex x from by rw [hx, List.take_succ_eq_append_getElem (show i < [h0, h1, h2, h3, h4, h5, h6, h7].length from hi8), List.flatMap_append]; simp [List.getD_eq_getElem?_getD, List.getElem?_eq_getElem (show i < [h0, h1, h2, h3, h4, h5, h6, h7].length from hi8)])
   clear hx
   go_wp2
   go_loopg [19, 22] 8 (fun kq v19 v22 w' => ∃ (j : Int) (o2 : List Int) (P2 : Nat → Prop), v22 = .int .i64 j ∧ Aside0 (j = 4 * (kq : Int) - 4) ∧ Aside0 (kq ≤ 8) ∧ Aside0 (o2 = o ++ (impl_Sha.hex x).take (8 - kq)) ∧ Aside0 (LR (Kd.int .u8) 5 w' w.heap.size P2 v19 o2) ∧ Aside0 (Below w.heap.size w w'))
   case atStart => exact ⟨28, o, P2, rfl, ⟨by omega⟩, ⟨Nat.le_refl _⟩, ⟨by simp⟩, H2, HB⟩
   case round =>
    clear HB H2
    obtain ⟨j, o2, P2, rfl, HJ, HK8, HO2, H2, HB⟩ := hrel
    obtain ⟨B2, D2, e_2⟩ := H2.out.val
    subst e_2
    cases gk with
    | succ k2 =>
     have hj0 : decide (0 ≤ j) = true := decide_eq_true (by have := HJ.out; omega)
     have hj1 : 0 ≤ j := by have := HJ.out; omega
     have hw4 : wrap64 (j - 4) = j - 4 := by have := HJ.out; have := HK8.out; unfold wrap64; omega
     obtain ⟨d, hd⟩ : ∃ d_, d_ = Go.bits .and .u32 (x / 2 ^ min j.toNat 32) 15 := ⟨_, rfl⟩
     have HO2L := Aside0.mk (show o2.length ≤ 80 from by rw [HO2.out, HO.out, List.length_append, List.length_take]; have := impl_Sha.hexes_len [h0, h1, h2, h3, h4, h5, h6, h7] i; omega)
     have hdd : Go.bits .and .u32 (x / 2 ^ min j.toNat 32) 15 = d := hd.symm
     have hd15 := impl_Sha.and15 (x / 2 ^ min j.toNat 32)
     rw [← hd] at hd15
     have HDG := Aside0.mk (show bt (⟨#[48, 49, 50, 51, 52, 53, 54, 55, 56, 57, 97, 98, 99, 100, 101, 102]⟩ : ByteArray) d = impl_Sha.digit x (8 - (k2 + 1)) from by rw [hd, impl_Sha.digit, show min j.toNat 32 = 28 - 4 * (8 - (k2 + 1)) by have := HJ.out; have := HK8.out; omega])
     clear hd
     have hbt := bt_at (⟨#[48, 49, 50, 51, 52, 53, 54, 55, 56, 57, 97, 98, 99, 100, 101, 102]⟩ : ByteArray) d
     have p8 := eq_true hd15.1
     have q8 := eq_true hd15.2
     clear hd15
     obtain ⟨c, hc⟩ : ∃ c_, c_ = bt (⟨#[48, 49, 50, 51, 52, 53, 54, 55, 56, 57, 97, 98, 99, 100, 101, 102]⟩ : ByteArray) d := ⟨_, rfl⟩
     rw [← hc] at hbt HDG
     clear hc
     obtain ⟨o3, ho3⟩ : ∃ o_ : List Int, o_ = o2 ++ [c] := ⟨_, rfl⟩
     have No3 := Aside0.mk ho3
     clear ho3
     go_wp2_with (first | ((with_reducible refine gate_builtin (b := .append) (xs := #[.tmp 250, .tmp 256]) rfl ?_); at_builtin; refine LR.append1 (Kd.int .u8) (w0 := w) rfl (.tmp 250) (.tmp 256) 22 5 (.int .u8 0) 1 rfl Try.underlying22 info5 rfl (by decide) (by omega) (.slice B2 o2.length D2) o2 c [.int .u8 c] rfl rfl (by simp) H2.out rfl (fun _ _ h_ => h_) HB.out ?aL_5 ?_; (case aL_5 => have := HO2L.out; omega); intro PF6 v_ w2 HL hb hk hR; rw [← No3.out] at HL; have HF6 := Aside0.mk HL; replace HB := Aside0.mk hb; clear hR HL hb hk; clear H2; obtain ⟨BF6, DF6, e_F6⟩ := HF6.out.val; subst e_F6))
     go_roundg k2
     case measure => omega
     case rel => exact ⟨j - 4, o3, PF6, by rw [hw4], ⟨by have := HJ.out; omega⟩, ⟨by have := HK8.out; omega⟩, ⟨by rw [No3.out, HO2.out, HDG.out]; exact impl_Sha.hex_step o x k2 HK8.out⟩, HF6, HB⟩
    | zero =>
     have hj0 : decide (0 ≤ j) = false := decide_eq_false (by have := HJ.out; omega)
     have HO3 := Aside0.mk (show o2 = ([h0, h1, h2, h3, h4, h5, h6, h7].take (i + 1)).flatMap impl_Sha.hex from by rw [HO2.out, HXH.out, HO.out, List.take_of_length_le (show (impl_Sha.hex x).length ≤ 8 - 0 from by unfold impl_Sha.hex; simp)])
     go_wp2
     go_roundg k1
     case measure => omega
     case rel => exact ⟨i + 1, o2, P2, by first | rfl | (simp only [hwi]) | simp, ⟨by have := HI.out; omega⟩, HO3, H2, HB⟩
   | zero =>
    have hlt : decide ((i : Int) < 8) = false := decide_eq_false (by have := HI.out; omega)
    have hlt2 : decide (i < 8) = false := decide_eq_false (by have := HI.out; omega)
    have HR := Aside0.mk (show r = strOfNums o from by rw [HFIN.out, HO.out, List.take_of_length_le (show [h0, h1, h2, h3, h4, h5, h6, h7].length ≤ i from by have := HI.out; show 8 ≤ i; omega)])
    skip
    have hcv := Kd.C_string (P := Try.prog) (A := B2) (c := D2) Try.underlying22 Try.underlying5 Try.underlying9 H2.out.reads
    go_wp2
    go_ret
    exact ⟨by rw [HR.out]; rfl, HB.out⟩
theorem impl_Sha.calls (A0 : Option Addr) (c0 : Nat) (l0 : List Int) (r : ByteArray) (w : World) (hr0 : Kd.C (Kd.int .u8) w A0 l0.length l0) (hc0 : l0.length ≤ c0) (h : impl_Sha.f l0 = some r) :
  Calls Try.prog 8 #[.slice A0 l0.length c0] w fun e w' => e = .returned (.string r) ∧ Below w.heap.size w w' := impl_Sha.skel.2 ⟨impl_Sha.part_first⟩ ⟨impl_Sha.part_A1⟩ ⟨impl_Sha.part_A2⟩ ⟨impl_Sha.part_B⟩ ⟨impl_Sha.part_C⟩ ⟨impl_Sha.part_end⟩ A0 c0 l0 r w hr0 hc0 h
end

end Go.Proofs.Ytcgkfijigjcmpaa.PFnExactSha
