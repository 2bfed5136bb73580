/-
  No cell of these rows narrows 'for every input' (looked for: loops, veiled, ifaces, maps, wideKeys, modest, calm, conditions, laid).
  DERIVED. THE GIVEN ROWS OF THIS SEAT. 11 by the template 'for every input the law returns true; each argument reads behind the call as it read before'; 0 by the template 'total and deterministic' (their statements: YtkiknhljomobpaaTotals.lean).
  GIVEN WITH THE SEED: the statements are not yours to turn. If you find one false, say at which input.
  Laid BY PROGRAM, IN A SANDBOX (cutbox-rows.mjs): the forced cells as the released guide's own fill.sh prints them over the translation 87b6b57dcdb5b588… (all of the seat's roots in one cut). By AI agents, Wed Nov 11 2026. No macro, syntax, notation, axiom, sorry.
-/
import Derived.Test.YtkiknhljomobpaaChecked
import GoSem.Claim
import GoSem.ClaimJoined
import GoSem.ClaimMapViews
import Derived.JoinedTies
import Derived.KernelRfl
namespace Go.Proofs.Ytkiknhljomobpaa
/- THE CELL 'sum', in the pinned program and in every row, IS THE sha256 OF THE DUMP (.gsa) THAT YtkiknhljomobpaaProg.lean LOADS. Nothing in Lean hashes anything: it is a label: what it is worth is what the hold of that sum in a sandbox is worth. -/
noncomputable def Try.pinned : Pinned := { name := "ytkiknhljomobpaa", sum := "87b6b57dcdb5b5885dd3a8815d2521f15a278975e854937c410a6fc5569a4bee", checked := Try.checked }
namespace Rows
def none {H : Type} : Left H := { results := [], args := [] }

/-- 'laws.FnExactBaseRecord': WHATEVER THE INPUT: true; the input reads as it did. -/
def fnExactBaseRecordSpec : ChangeSpec := { name := "fnExactBaseRecord", fn := fun _ => fun
  | [d1, d2] => { results := [.lit (.bool true)], args := [d1, d2] }
  | _ => none }
def fnExactBaseRecordRow : OpenClaim := { program := "ytkiknhljomobpaa", sum := "87b6b57dcdb5b5885dd3a8815d2521f15a278975e854937c410a6fc5569a4bee", func := "loop.example/g00142/laws.FnExactBaseRecord", spec := "fnExactBaseRecord", apart := false }
def FnExactBaseRecordSaid : Prop := fnExactBaseRecordRow.holds Try.pinned (OpenSpec.ofChange fnExactBaseRecordSpec)

/-- ITS FALSE NEIGHBOUR: 'it returns false'. Refute it at one input. -/
def fnExactBaseRecordWrong : ChangeSpec := { name := "fnExactBaseRecord", fn := fun _ => fun
  | [d1, d2] => { results := [.lit (.bool false)], args := [d1, d2] }
  | _ => none }
def FnExactBaseRecordWrongFalsely : Prop := fnExactBaseRecordRow.holds Try.pinned (OpenSpec.ofChange fnExactBaseRecordWrong)

/-- 'laws.FnExactVoteRecord': WHATEVER THE INPUT: true; the input reads as it did. -/
def fnExactVoteRecordSpec : ChangeSpec := { name := "fnExactVoteRecord", fn := fun _ => fun
  | [d1, d2] => { results := [.lit (.bool true)], args := [d1, d2] }
  | _ => none }
def fnExactVoteRecordRow : OpenClaim := { program := "ytkiknhljomobpaa", sum := "87b6b57dcdb5b5885dd3a8815d2521f15a278975e854937c410a6fc5569a4bee", func := "loop.example/g00142/laws.FnExactVoteRecord", spec := "fnExactVoteRecord", apart := false }
def FnExactVoteRecordSaid : Prop := fnExactVoteRecordRow.holds Try.pinned (OpenSpec.ofChange fnExactVoteRecordSpec)

/-- ITS FALSE NEIGHBOUR: 'it returns false'. Refute it at one input. -/
def fnExactVoteRecordWrong : ChangeSpec := { name := "fnExactVoteRecord", fn := fun _ => fun
  | [d1, d2] => { results := [.lit (.bool false)], args := [d1, d2] }
  | _ => none }
def FnExactVoteRecordWrongFalsely : Prop := fnExactVoteRecordRow.holds Try.pinned (OpenSpec.ofChange fnExactVoteRecordWrong)

/-- 'laws.FnExactJobBytes': WHATEVER THE INPUT: true; the input reads as it did. -/
def fnExactJobBytesSpec : ChangeSpec := { name := "fnExactJobBytes", fn := fun _ => fun
  | [d] => { results := [.lit (.bool true)], args := [d] }
  | _ => none }
def fnExactJobBytesRow : OpenClaim := { program := "ytkiknhljomobpaa", sum := "87b6b57dcdb5b5885dd3a8815d2521f15a278975e854937c410a6fc5569a4bee", func := "loop.example/g00142/laws.FnExactJobBytes", spec := "fnExactJobBytes", apart := false }
def FnExactJobBytesSaid : Prop := fnExactJobBytesRow.holds Try.pinned (OpenSpec.ofChange fnExactJobBytesSpec)

/-- ITS FALSE NEIGHBOUR: 'it returns false'. Refute it at one input. -/
def fnExactJobBytesWrong : ChangeSpec := { name := "fnExactJobBytes", fn := fun _ => fun
  | [d] => { results := [.lit (.bool false)], args := [d] }
  | _ => none }
def FnExactJobBytesWrongFalsely : Prop := fnExactJobBytesRow.holds Try.pinned (OpenSpec.ofChange fnExactJobBytesWrong)

/-- 'laws.FnExactFrame': WHATEVER THE INPUT: true; the input reads as it did. -/
def fnExactFrameSpec : ChangeSpec := { name := "fnExactFrame", fn := fun _ => fun
  | [d] => { results := [.lit (.bool true)], args := [d] }
  | _ => none }
def fnExactFrameRow : OpenClaim := { program := "ytkiknhljomobpaa", sum := "87b6b57dcdb5b5885dd3a8815d2521f15a278975e854937c410a6fc5569a4bee", func := "loop.example/g00142/laws.FnExactFrame", spec := "fnExactFrame", apart := false }
def FnExactFrameSaid : Prop := fnExactFrameRow.holds Try.pinned (OpenSpec.ofChange fnExactFrameSpec)

/-- ITS FALSE NEIGHBOUR: 'it returns false'. Refute it at one input. -/
def fnExactFrameWrong : ChangeSpec := { name := "fnExactFrame", fn := fun _ => fun
  | [d] => { results := [.lit (.bool false)], args := [d] }
  | _ => none }
def FnExactFrameWrongFalsely : Prop := fnExactFrameRow.holds Try.pinned (OpenSpec.ofChange fnExactFrameWrong)

/-- 'laws.FnExactReadJob': WHATEVER THE INPUT: true; the input reads as it did. -/
def fnExactReadJobSpec : ChangeSpec := { name := "fnExactReadJob", fn := fun _ => fun
  | [d] => { results := [.lit (.bool true)], args := [d] }
  | _ => none }
def fnExactReadJobRow : OpenClaim := { program := "ytkiknhljomobpaa", sum := "87b6b57dcdb5b5885dd3a8815d2521f15a278975e854937c410a6fc5569a4bee", func := "loop.example/g00142/laws.FnExactReadJob", spec := "fnExactReadJob", apart := false }
def FnExactReadJobSaid : Prop := fnExactReadJobRow.holds Try.pinned (OpenSpec.ofChange fnExactReadJobSpec)

/-- ITS FALSE NEIGHBOUR: 'it returns false'. Refute it at one input. -/
def fnExactReadJobWrong : ChangeSpec := { name := "fnExactReadJob", fn := fun _ => fun
  | [d] => { results := [.lit (.bool false)], args := [d] }
  | _ => none }
def FnExactReadJobWrongFalsely : Prop := fnExactReadJobRow.holds Try.pinned (OpenSpec.ofChange fnExactReadJobWrong)

/-- 'laws.FnExactEntryRecord': WHATEVER THE INPUT: true; the input reads as it did. -/
def fnExactEntryRecordSpec : ChangeSpec := { name := "fnExactEntryRecord", fn := fun _ => fun
  | [d] => { results := [.lit (.bool true)], args := [d] }
  | _ => none }
def fnExactEntryRecordRow : OpenClaim := { program := "ytkiknhljomobpaa", sum := "87b6b57dcdb5b5885dd3a8815d2521f15a278975e854937c410a6fc5569a4bee", func := "loop.example/g00142/laws.FnExactEntryRecord", spec := "fnExactEntryRecord", apart := false }
def FnExactEntryRecordSaid : Prop := fnExactEntryRecordRow.holds Try.pinned (OpenSpec.ofChange fnExactEntryRecordSpec)

/-- ITS FALSE NEIGHBOUR: 'it returns false'. Refute it at one input. -/
def fnExactEntryRecordWrong : ChangeSpec := { name := "fnExactEntryRecord", fn := fun _ => fun
  | [d] => { results := [.lit (.bool false)], args := [d] }
  | _ => none }
def FnExactEntryRecordWrongFalsely : Prop := fnExactEntryRecordRow.holds Try.pinned (OpenSpec.ofChange fnExactEntryRecordWrong)

/-- 'laws.FnSums': WHATEVER THE INPUT: true; the input reads as it did. -/
def fnSumsSpec : ChangeSpec := { name := "fnSums", fn := fun _ => fun
  | [d1, d2] => { results := [.lit (.bool true)], args := [d1, d2] }
  | _ => none }
def fnSumsRow : OpenClaim := { program := "ytkiknhljomobpaa", sum := "87b6b57dcdb5b5885dd3a8815d2521f15a278975e854937c410a6fc5569a4bee", func := "loop.example/g00142/laws.FnSums", spec := "fnSums", apart := false }
def FnSumsSaid : Prop := fnSumsRow.holds Try.pinned (OpenSpec.ofChange fnSumsSpec)

/-- ITS FALSE NEIGHBOUR: 'it returns false'. Refute it at one input. -/
def fnSumsWrong : ChangeSpec := { name := "fnSums", fn := fun _ => fun
  | [d1, d2] => { results := [.lit (.bool false)], args := [d1, d2] }
  | _ => none }
def FnSumsWrongFalsely : Prop := fnSumsRow.holds Try.pinned (OpenSpec.ofChange fnSumsWrong)

/-- 'laws.FnFrames': WHATEVER THE INPUT: true; the input reads as it did. -/
def fnFramesSpec : ChangeSpec := { name := "fnFrames", fn := fun _ => fun
  | [d1, d2] => { results := [.lit (.bool true)], args := [d1, d2] }
  | _ => none }
def fnFramesRow : OpenClaim := { program := "ytkiknhljomobpaa", sum := "87b6b57dcdb5b5885dd3a8815d2521f15a278975e854937c410a6fc5569a4bee", func := "loop.example/g00142/laws.FnFrames", spec := "fnFrames", apart := false }
def FnFramesSaid : Prop := fnFramesRow.holds Try.pinned (OpenSpec.ofChange fnFramesSpec)

/-- ITS FALSE NEIGHBOUR: 'it returns false'. Refute it at one input. -/
def fnFramesWrong : ChangeSpec := { name := "fnFrames", fn := fun _ => fun
  | [d1, d2] => { results := [.lit (.bool false)], args := [d1, d2] }
  | _ => none }
def FnFramesWrongFalsely : Prop := fnFramesRow.holds Try.pinned (OpenSpec.ofChange fnFramesWrong)

/-- 'laws.FnExactUnframe': WHATEVER THE INPUT: true; the input reads as it did. -/
def fnExactUnframeSpec : ChangeSpec := { name := "fnExactUnframe", fn := fun _ => fun
  | [d] => { results := [.lit (.bool true)], args := [d] }
  | _ => none }
def fnExactUnframeRow : OpenClaim := { program := "ytkiknhljomobpaa", sum := "87b6b57dcdb5b5885dd3a8815d2521f15a278975e854937c410a6fc5569a4bee", func := "loop.example/g00142/laws.FnExactUnframe", spec := "fnExactUnframe", apart := false }
def FnExactUnframeSaid : Prop := fnExactUnframeRow.holds Try.pinned (OpenSpec.ofChange fnExactUnframeSpec)

/-- ITS FALSE NEIGHBOUR: 'it returns false'. Refute it at one input. -/
def fnExactUnframeWrong : ChangeSpec := { name := "fnExactUnframe", fn := fun _ => fun
  | [d] => { results := [.lit (.bool false)], args := [d] }
  | _ => none }
def FnExactUnframeWrongFalsely : Prop := fnExactUnframeRow.holds Try.pinned (OpenSpec.ofChange fnExactUnframeWrong)

/-- 'laws.FnExactWalOf': WHATEVER THE INPUT: true; the input reads as it did. -/
def fnExactWalOfSpec : ChangeSpec := { name := "fnExactWalOf", fn := fun _ => fun
  | [d] => { results := [.lit (.bool true)], args := [d] }
  | _ => none }
def fnExactWalOfRow : OpenClaim := { program := "ytkiknhljomobpaa", sum := "87b6b57dcdb5b5885dd3a8815d2521f15a278975e854937c410a6fc5569a4bee", func := "loop.example/g00142/laws.FnExactWalOf", spec := "fnExactWalOf", apart := false }
def FnExactWalOfSaid : Prop := fnExactWalOfRow.holds Try.pinned (OpenSpec.ofChange fnExactWalOfSpec)

/-- ITS FALSE NEIGHBOUR: 'it returns false'. Refute it at one input. -/
def fnExactWalOfWrong : ChangeSpec := { name := "fnExactWalOf", fn := fun _ => fun
  | [d] => { results := [.lit (.bool false)], args := [d] }
  | _ => none }
def FnExactWalOfWrongFalsely : Prop := fnExactWalOfRow.holds Try.pinned (OpenSpec.ofChange fnExactWalOfWrong)

/-- 'laws.FnExactFeed': WHATEVER THE INPUT: true; the input reads as it did. -/
def fnExactFeedSpec : ChangeSpec := { name := "fnExactFeed", fn := fun _ => fun
  | [d1, d2] => { results := [.lit (.bool true)], args := [d1, d2] }
  | _ => none }
def fnExactFeedRow : OpenClaim := { program := "ytkiknhljomobpaa", sum := "87b6b57dcdb5b5885dd3a8815d2521f15a278975e854937c410a6fc5569a4bee", func := "loop.example/g00142/laws.FnExactFeed", spec := "fnExactFeed", apart := false }
def FnExactFeedSaid : Prop := fnExactFeedRow.holds Try.pinned (OpenSpec.ofChange fnExactFeedSpec)

/-- ITS FALSE NEIGHBOUR: 'it returns false'. Refute it at one input. -/
def fnExactFeedWrong : ChangeSpec := { name := "fnExactFeed", fn := fun _ => fun
  | [d1, d2] => { results := [.lit (.bool false)], args := [d1, d2] }
  | _ => none }
def FnExactFeedWrongFalsely : Prop := fnExactFeedRow.holds Try.pinned (OpenSpec.ofChange fnExactFeedWrong)

/- THE SECOND FORM. 'bulk': how many values and letters a reading holds, each counted each time it is reached (what is shared counts as often as it is met; a slice's spare places count too). A statement '..UptoSaid' is the law's where the arguments, and the package variables that the reading takes, are together of bulk at most 1048576: NARROWER than '..Said'. Prove '..Said' where nothing that the law and all that it calls make is longer than what came in: it says more and counts as full. Else prove '..UptoSaid'. A law counts once. -/
mutual
def uptoBulk {H : Type} : DataW H → Nat
  | .lit (.string bytes) => bytes.length + 1
  | .lit _ => 1
  | .nil => 1
  | .ptr d => uptoBulk d + 1
  | .slice elems spare => uptoBulkAll elems + uptoBulkAll spare + 1
  | .agg parts => uptoBulkAll parts + 1
  | .iface _ d => uptoBulk d + 1
  | .map entries => uptoBulkEntries entries + 1
  | .held _ => 1
def uptoBulkAll {H : Type} : List (DataW H) → Nat
  | [] => 0
  | d :: r => uptoBulk d + uptoBulkAll r
def uptoBulkEntries {H : Type} : List (Lit × DataW H) → Nat
  | [] => 0
  | x :: r => uptoBulkEntry x + uptoBulkEntries r
def uptoBulkEntry {H : Type} : Lit × DataW H → Nat
  | (.string bytes, d) => bytes.length + uptoBulk d + 1
  | (_, d) => uptoBulk d + 1
 end
def uptoSmall : (H : Type) → List (DataW H) → Bool := fun _ ds => decide (uptoBulkAll ds ≤ 1048576)
def OpenSpec.upto (s : _root_.Go.ChangeSpec) : _root_.Go.OpenSpec := { _root_.Go.OpenSpec.ofChange s with cond := some uptoSmall }

/-- 'laws.FnExactBaseRecord', WHERE WHAT IT READS IS OF BULK AT MOST 1048576: true; the input reads as it did. -/
def fnExactBaseRecordUptoRow : OpenClaim := { program := "ytkiknhljomobpaa", sum := "87b6b57dcdb5b5885dd3a8815d2521f15a278975e854937c410a6fc5569a4bee", func := "loop.example/g00142/laws.FnExactBaseRecord", spec := "fnExactBaseRecord", apart := false, narrowed := true }
def FnExactBaseRecordUptoSaid : Prop := fnExactBaseRecordUptoRow.holds Try.pinned (OpenSpec.upto fnExactBaseRecordSpec)

/-- 'laws.FnExactVoteRecord', WHERE WHAT IT READS IS OF BULK AT MOST 1048576: true; the input reads as it did. -/
def fnExactVoteRecordUptoRow : OpenClaim := { program := "ytkiknhljomobpaa", sum := "87b6b57dcdb5b5885dd3a8815d2521f15a278975e854937c410a6fc5569a4bee", func := "loop.example/g00142/laws.FnExactVoteRecord", spec := "fnExactVoteRecord", apart := false, narrowed := true }
def FnExactVoteRecordUptoSaid : Prop := fnExactVoteRecordUptoRow.holds Try.pinned (OpenSpec.upto fnExactVoteRecordSpec)

/-- 'laws.FnExactJobBytes', WHERE WHAT IT READS IS OF BULK AT MOST 1048576: true; the input reads as it did. -/
def fnExactJobBytesUptoRow : OpenClaim := { program := "ytkiknhljomobpaa", sum := "87b6b57dcdb5b5885dd3a8815d2521f15a278975e854937c410a6fc5569a4bee", func := "loop.example/g00142/laws.FnExactJobBytes", spec := "fnExactJobBytes", apart := false, narrowed := true }
def FnExactJobBytesUptoSaid : Prop := fnExactJobBytesUptoRow.holds Try.pinned (OpenSpec.upto fnExactJobBytesSpec)

/-- 'laws.FnExactFrame', WHERE WHAT IT READS IS OF BULK AT MOST 1048576: true; the input reads as it did. -/
def fnExactFrameUptoRow : OpenClaim := { program := "ytkiknhljomobpaa", sum := "87b6b57dcdb5b5885dd3a8815d2521f15a278975e854937c410a6fc5569a4bee", func := "loop.example/g00142/laws.FnExactFrame", spec := "fnExactFrame", apart := false, narrowed := true }
def FnExactFrameUptoSaid : Prop := fnExactFrameUptoRow.holds Try.pinned (OpenSpec.upto fnExactFrameSpec)

/-- 'laws.FnExactReadJob', WHERE WHAT IT READS IS OF BULK AT MOST 1048576: true; the input reads as it did. -/
def fnExactReadJobUptoRow : OpenClaim := { program := "ytkiknhljomobpaa", sum := "87b6b57dcdb5b5885dd3a8815d2521f15a278975e854937c410a6fc5569a4bee", func := "loop.example/g00142/laws.FnExactReadJob", spec := "fnExactReadJob", apart := false, narrowed := true }
def FnExactReadJobUptoSaid : Prop := fnExactReadJobUptoRow.holds Try.pinned (OpenSpec.upto fnExactReadJobSpec)

/-- 'laws.FnExactEntryRecord', WHERE WHAT IT READS IS OF BULK AT MOST 1048576: true; the input reads as it did. -/
def fnExactEntryRecordUptoRow : OpenClaim := { program := "ytkiknhljomobpaa", sum := "87b6b57dcdb5b5885dd3a8815d2521f15a278975e854937c410a6fc5569a4bee", func := "loop.example/g00142/laws.FnExactEntryRecord", spec := "fnExactEntryRecord", apart := false, narrowed := true }
def FnExactEntryRecordUptoSaid : Prop := fnExactEntryRecordUptoRow.holds Try.pinned (OpenSpec.upto fnExactEntryRecordSpec)

/-- 'laws.FnSums', WHERE WHAT IT READS IS OF BULK AT MOST 1048576: true; the input reads as it did. -/
def fnSumsUptoRow : OpenClaim := { program := "ytkiknhljomobpaa", sum := "87b6b57dcdb5b5885dd3a8815d2521f15a278975e854937c410a6fc5569a4bee", func := "loop.example/g00142/laws.FnSums", spec := "fnSums", apart := false, narrowed := true }
def FnSumsUptoSaid : Prop := fnSumsUptoRow.holds Try.pinned (OpenSpec.upto fnSumsSpec)

/-- 'laws.FnFrames', WHERE WHAT IT READS IS OF BULK AT MOST 1048576: true; the input reads as it did. -/
def fnFramesUptoRow : OpenClaim := { program := "ytkiknhljomobpaa", sum := "87b6b57dcdb5b5885dd3a8815d2521f15a278975e854937c410a6fc5569a4bee", func := "loop.example/g00142/laws.FnFrames", spec := "fnFrames", apart := false, narrowed := true }
def FnFramesUptoSaid : Prop := fnFramesUptoRow.holds Try.pinned (OpenSpec.upto fnFramesSpec)

/-- 'laws.FnExactUnframe', WHERE WHAT IT READS IS OF BULK AT MOST 1048576: true; the input reads as it did. -/
def fnExactUnframeUptoRow : OpenClaim := { program := "ytkiknhljomobpaa", sum := "87b6b57dcdb5b5885dd3a8815d2521f15a278975e854937c410a6fc5569a4bee", func := "loop.example/g00142/laws.FnExactUnframe", spec := "fnExactUnframe", apart := false, narrowed := true }
def FnExactUnframeUptoSaid : Prop := fnExactUnframeUptoRow.holds Try.pinned (OpenSpec.upto fnExactUnframeSpec)

/-- 'laws.FnExactWalOf', WHERE WHAT IT READS IS OF BULK AT MOST 1048576: true; the input reads as it did. -/
def fnExactWalOfUptoRow : OpenClaim := { program := "ytkiknhljomobpaa", sum := "87b6b57dcdb5b5885dd3a8815d2521f15a278975e854937c410a6fc5569a4bee", func := "loop.example/g00142/laws.FnExactWalOf", spec := "fnExactWalOf", apart := false, narrowed := true }
def FnExactWalOfUptoSaid : Prop := fnExactWalOfUptoRow.holds Try.pinned (OpenSpec.upto fnExactWalOfSpec)

/-- 'laws.FnExactFeed', WHERE WHAT IT READS IS OF BULK AT MOST 1048576: true; the input reads as it did. -/
def fnExactFeedUptoRow : OpenClaim := { program := "ytkiknhljomobpaa", sum := "87b6b57dcdb5b5885dd3a8815d2521f15a278975e854937c410a6fc5569a4bee", func := "loop.example/g00142/laws.FnExactFeed", spec := "fnExactFeed", apart := false, narrowed := true }
def FnExactFeedUptoSaid : Prop := fnExactFeedUptoRow.holds Try.pinned (OpenSpec.upto fnExactFeedSpec)

end Rows
end Go.Proofs.Ytkiknhljomobpaa
