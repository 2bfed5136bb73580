/-
  No cell of these rows narrows 'for every input' (looked for: loops, veiled, ifaces, maps, wideKeys, modest, calm, conditions, laid).
  DERIVED. THE GIVEN ROWS OF THIS SEAT. 3 by the template 'for every input the law returns true; each argument reads behind the call as it read before'; 0 by the template 'total and deterministic' (their statements: YtcgkfijigjcmpaaTotals.lean).
  GIVEN WITH THE SEED: the statements are not yours to turn. If you find one false, say at which input.
  Laid BY PROGRAM, IN A SANDBOX (cutbox-rows.mjs): the forced cells as the released guide's own fill.sh prints them over the translation a2da7aebcb705d04… (all of the seat's roots in one cut). By AI agents, Wed Nov 11 2026. No macro, syntax, notation, axiom, sorry.
-/
import Derived.Test.YtcgkfijigjcmpaaChecked
import GoSem.Claim
import GoSem.ClaimJoined
import GoSem.ClaimMapViews
import Derived.JoinedTies
import Derived.KernelRfl
namespace Go.Proofs.Ytcgkfijigjcmpaa
/- THE CELL 'sum', in the pinned program and in every row, IS THE sha256 OF THE DUMP (.gsa) THAT YtcgkfijigjcmpaaProg.lean LOADS. Nothing in Lean hashes anything: it is a label: what it is worth is what the hold of that sum in a sandbox is worth. -/
noncomputable def Try.pinned : Pinned := { name := "ytcgkfijigjcmpaa", sum := "a2da7aebcb705d04d0131d4e0cb69ee2cd58c5f31a86f01795f4ae38cfc96768", checked := Try.checked }
namespace Rows
def none {H : Type} : Left H := { results := [], args := [] }

/-- 'laws.FnExactSha': WHATEVER THE INPUT: true; the input reads as it did. -/
def fnExactShaSpec : ChangeSpec := { name := "fnExactSha", fn := fun _ => fun
  | [d] => { results := [.lit (.bool true)], args := [d] }
  | _ => none }
def fnExactShaRow : OpenClaim := { program := "ytcgkfijigjcmpaa", sum := "a2da7aebcb705d04d0131d4e0cb69ee2cd58c5f31a86f01795f4ae38cfc96768", func := "loop.example/g00142/laws.FnExactSha", spec := "fnExactSha", unfollowed := true, recurses := true, apart := false }
def FnExactShaSaid : Prop := fnExactShaRow.holds Try.pinned (OpenSpec.ofChange fnExactShaSpec)

/-- ITS FALSE NEIGHBOUR: 'it returns false'. Refute it at one input. -/
def fnExactShaWrong : ChangeSpec := { name := "fnExactSha", fn := fun _ => fun
  | [d] => { results := [.lit (.bool false)], args := [d] }
  | _ => none }
def FnExactShaWrongFalsely : Prop := fnExactShaRow.holds Try.pinned (OpenSpec.ofChange fnExactShaWrong)

/-- 'laws.FnBlobs': WHATEVER THE INPUT: true; the input reads as it did. -/
def fnBlobsSpec : ChangeSpec := { name := "fnBlobs", fn := fun _ => fun
  | [d] => { results := [.lit (.bool true)], args := [d] }
  | _ => none }
def fnBlobsRow : OpenClaim := { program := "ytcgkfijigjcmpaa", sum := "a2da7aebcb705d04d0131d4e0cb69ee2cd58c5f31a86f01795f4ae38cfc96768", func := "loop.example/g00142/laws.FnBlobs", spec := "fnBlobs", unfollowed := true, recurses := true, apart := false }
def FnBlobsSaid : Prop := fnBlobsRow.holds Try.pinned (OpenSpec.ofChange fnBlobsSpec)

/-- ITS FALSE NEIGHBOUR: 'it returns false'. Refute it at one input. -/
def fnBlobsWrong : ChangeSpec := { name := "fnBlobs", fn := fun _ => fun
  | [d] => { results := [.lit (.bool false)], args := [d] }
  | _ => none }
def FnBlobsWrongFalsely : Prop := fnBlobsRow.holds Try.pinned (OpenSpec.ofChange fnBlobsWrong)

/-- 'laws.FnExactBlobRun': WHATEVER THE INPUT: true; the input reads as it did. -/
def fnExactBlobRunSpec : ChangeSpec := { name := "fnExactBlobRun", fn := fun _ => fun
  | [d] => { results := [.lit (.bool true)], args := [d] }
  | _ => none }
def fnExactBlobRunRow : OpenClaim := { program := "ytcgkfijigjcmpaa", sum := "a2da7aebcb705d04d0131d4e0cb69ee2cd58c5f31a86f01795f4ae38cfc96768", func := "loop.example/g00142/laws.FnExactBlobRun", spec := "fnExactBlobRun", unfollowed := true, recurses := true, apart := false }
def FnExactBlobRunSaid : Prop := fnExactBlobRunRow.holds Try.pinned (OpenSpec.ofChange fnExactBlobRunSpec)

/-- ITS FALSE NEIGHBOUR: 'it returns false'. Refute it at one input. -/
def fnExactBlobRunWrong : ChangeSpec := { name := "fnExactBlobRun", fn := fun _ => fun
  | [d] => { results := [.lit (.bool false)], args := [d] }
  | _ => none }
def FnExactBlobRunWrongFalsely : Prop := fnExactBlobRunRow.holds Try.pinned (OpenSpec.ofChange fnExactBlobRunWrong)

/- THE SECOND FORM. 'bulk': how many values and letters a reading holds, each counted each time it is reached (what is shared counts as often as it is met; a slice's spare places count too). A statement '..UptoSaid' is the law's where the arguments, and the package variables that the reading takes, are together of bulk at most 1048576: NARROWER than '..Said'. Prove '..Said' where nothing that the law and all that it calls make is longer than what came in: it says more and counts as full. Else prove '..UptoSaid'. A law counts once. -/
mutual
def uptoBulk {H : Type} : DataW H → Nat
  | .lit (.string bytes) => bytes.length + 1
  | .lit _ => 1
  | .nil => 1
  | .ptr d => uptoBulk d + 1
  | .slice elems spare => uptoBulkAll elems + uptoBulkAll spare + 1
  | .agg parts => uptoBulkAll parts + 1
  | .iface _ d => uptoBulk d + 1
  | .map entries => uptoBulkEntries entries + 1
  | .held _ => 1
def uptoBulkAll {H : Type} : List (DataW H) → Nat
  | [] => 0
  | d :: r => uptoBulk d + uptoBulkAll r
def uptoBulkEntries {H : Type} : List (Lit × DataW H) → Nat
  | [] => 0
  | x :: r => uptoBulkEntry x + uptoBulkEntries r
def uptoBulkEntry {H : Type} : Lit × DataW H → Nat
  | (.string bytes, d) => bytes.length + uptoBulk d + 1
  | (_, d) => uptoBulk d + 1
 end
def uptoSmall : (H : Type) → List (DataW H) → Bool := fun _ ds => decide (uptoBulkAll ds ≤ 1048576)
def OpenSpec.upto (s : _root_.Go.ChangeSpec) : _root_.Go.OpenSpec := { _root_.Go.OpenSpec.ofChange s with cond := some uptoSmall }

/-- 'laws.FnExactSha', WHERE WHAT IT READS IS OF BULK AT MOST 1048576: true; the input reads as it did. -/
def fnExactShaUptoRow : OpenClaim := { program := "ytcgkfijigjcmpaa", sum := "a2da7aebcb705d04d0131d4e0cb69ee2cd58c5f31a86f01795f4ae38cfc96768", func := "loop.example/g00142/laws.FnExactSha", spec := "fnExactSha", unfollowed := true, recurses := true, apart := false, narrowed := true }
def FnExactShaUptoSaid : Prop := fnExactShaUptoRow.holds Try.pinned (OpenSpec.upto fnExactShaSpec)

/-- 'laws.FnBlobs', WHERE WHAT IT READS IS OF BULK AT MOST 1048576: true; the input reads as it did. -/
def fnBlobsUptoRow : OpenClaim := { program := "ytcgkfijigjcmpaa", sum := "a2da7aebcb705d04d0131d4e0cb69ee2cd58c5f31a86f01795f4ae38cfc96768", func := "loop.example/g00142/laws.FnBlobs", spec := "fnBlobs", unfollowed := true, recurses := true, apart := false, narrowed := true }
def FnBlobsUptoSaid : Prop := fnBlobsUptoRow.holds Try.pinned (OpenSpec.upto fnBlobsSpec)

/-- 'laws.FnExactBlobRun', WHERE WHAT IT READS IS OF BULK AT MOST 1048576: true; the input reads as it did. -/
def fnExactBlobRunUptoRow : OpenClaim := { program := "ytcgkfijigjcmpaa", sum := "a2da7aebcb705d04d0131d4e0cb69ee2cd58c5f31a86f01795f4ae38cfc96768", func := "loop.example/g00142/laws.FnExactBlobRun", spec := "fnExactBlobRun", unfollowed := true, recurses := true, apart := false, narrowed := true }
def FnExactBlobRunUptoSaid : Prop := fnExactBlobRunUptoRow.holds Try.pinned (OpenSpec.upto fnExactBlobRunSpec)

end Rows
end Go.Proofs.Ytcgkfijigjcmpaa
