/-
  NARROWER THAN 'FOR EVERY INPUT', by the rows' own cells (each row's printed sentence says how): FnExactRxOK: loops · FnExactGroups: loops.
  DERIVED. THE GIVEN ROWS OF THIS SEAT. 7 by the template 'for every input the law returns true; each argument reads behind the call as it read before'; 0 by the template 'total and deterministic' (their statements: YtfclobfoghbblaaTotals.lean).
  GIVEN WITH THE SEED: the statements are not yours to turn. If you find one false, say at which input.
  Laid BY PROGRAM, IN A SANDBOX (cutbox-rows.mjs): the forced cells as the released guide's own fill.sh prints them over the translation ccee481125fac014… (all of the seat's roots in one cut). By AI agents, Wed Nov 11 2026. No macro, syntax, notation, axiom, sorry.
-/
import Derived.Test.YtfclobfoghbblaaChecked
import GoSem.Claim
import GoSem.ClaimJoined
import GoSem.ClaimMapViews
import Derived.JoinedTies
import Derived.KernelRfl
namespace Go.Proofs.Ytfclobfoghbblaa
/- THE CELL 'sum', in the pinned program and in every row, IS THE sha256 OF THE DUMP (.gsa) THAT YtfclobfoghbblaaProg.lean LOADS. Nothing in Lean hashes anything: it is a label: what it is worth is what the hold of that sum in a sandbox is worth. -/
noncomputable def Try.pinned : Pinned := { name := "ytfclobfoghbblaa", sum := "ccee481125fac014ebced59b83056038c35a2c5e01cb137fdda12868abe6e4ac", checked := Try.checked }
namespace Rows
def none {H : Type} : Left H := { results := [], args := [] }

/-- 'laws.FnExactDiskBytes': WHATEVER THE INPUT: true; the input reads as it did. -/
def fnExactDiskBytesSpec : ChangeSpec := { name := "fnExactDiskBytes", fn := fun _ => fun
  | [d] => { results := [.lit (.bool true)], args := [d] }
  | _ => none }
def fnExactDiskBytesRow : OpenClaim := { program := "ytfclobfoghbblaa", sum := "ccee481125fac014ebced59b83056038c35a2c5e01cb137fdda12868abe6e4ac", func := "loop.example/g00142/laws.FnExactDiskBytes", spec := "fnExactDiskBytes", apart := false }
def FnExactDiskBytesSaid : Prop := fnExactDiskBytesRow.holds Try.pinned (OpenSpec.ofChange fnExactDiskBytesSpec)

/-- ITS FALSE NEIGHBOUR: 'it returns false'. Refute it at one input. -/
def fnExactDiskBytesWrong : ChangeSpec := { name := "fnExactDiskBytes", fn := fun _ => fun
  | [d] => { results := [.lit (.bool false)], args := [d] }
  | _ => none }
def FnExactDiskBytesWrongFalsely : Prop := fnExactDiskBytesRow.holds Try.pinned (OpenSpec.ofChange fnExactDiskBytesWrong)

/-- 'laws.FnExactRxOK': WHATEVER THE INPUT: true; the input reads as it did. -/
def fnExactRxOKSpec : ChangeSpec := { name := "fnExactRxOK", fn := fun _ => fun
  | [d] => { results := [.lit (.bool true)], args := [d] }
  | _ => none }
def fnExactRxOKRow : OpenClaim := { program := "ytfclobfoghbblaa", sum := "ccee481125fac014ebced59b83056038c35a2c5e01cb137fdda12868abe6e4ac", func := "loop.example/g00142/laws.FnExactRxOK", spec := "fnExactRxOK", recurses := true, loops := true, apart := false }
def FnExactRxOKSaid : Prop := fnExactRxOKRow.holds Try.pinned (OpenSpec.ofChange fnExactRxOKSpec)

/-- ITS FALSE NEIGHBOUR: 'it returns false'. Refute it at one input. -/
def fnExactRxOKWrong : ChangeSpec := { name := "fnExactRxOK", fn := fun _ => fun
  | [d] => { results := [.lit (.bool false)], args := [d] }
  | _ => none }
def FnExactRxOKWrongFalsely : Prop := fnExactRxOKRow.holds Try.pinned (OpenSpec.ofChange fnExactRxOKWrong)

/-- 'laws.FnExactGroups': WHATEVER THE INPUT: true; the input reads as it did. -/
def fnExactGroupsSpec : ChangeSpec := { name := "fnExactGroups", fn := fun _ => fun
  | [d] => { results := [.lit (.bool true)], args := [d] }
  | _ => none }
def fnExactGroupsRow : OpenClaim := { program := "ytfclobfoghbblaa", sum := "ccee481125fac014ebced59b83056038c35a2c5e01cb137fdda12868abe6e4ac", func := "loop.example/g00142/laws.FnExactGroups", spec := "fnExactGroups", recurses := true, loops := true, apart := false }
def FnExactGroupsSaid : Prop := fnExactGroupsRow.holds Try.pinned (OpenSpec.ofChange fnExactGroupsSpec)

/-- ITS FALSE NEIGHBOUR: 'it returns false'. Refute it at one input. -/
def fnExactGroupsWrong : ChangeSpec := { name := "fnExactGroups", fn := fun _ => fun
  | [d] => { results := [.lit (.bool false)], args := [d] }
  | _ => none }
def FnExactGroupsWrongFalsely : Prop := fnExactGroupsRow.holds Try.pinned (OpenSpec.ofChange fnExactGroupsWrong)

/-- 'laws.FnExactDiskCrash': WHATEVER THE INPUT: true; the input reads as it did. -/
def fnExactDiskCrashSpec : ChangeSpec := { name := "fnExactDiskCrash", fn := fun _ => fun
  | [d1, d2, d3] => { results := [.lit (.bool true)], args := [d1, d2, d3] }
  | _ => none }
def fnExactDiskCrashRow : OpenClaim := { program := "ytfclobfoghbblaa", sum := "ccee481125fac014ebced59b83056038c35a2c5e01cb137fdda12868abe6e4ac", func := "loop.example/g00142/laws.FnExactDiskCrash", spec := "fnExactDiskCrash", apart := false }
def FnExactDiskCrashSaid : Prop := fnExactDiskCrashRow.holds Try.pinned (OpenSpec.ofChange fnExactDiskCrashSpec)

/-- ITS FALSE NEIGHBOUR: 'it returns false'. Refute it at one input. -/
def fnExactDiskCrashWrong : ChangeSpec := { name := "fnExactDiskCrash", fn := fun _ => fun
  | [d1, d2, d3] => { results := [.lit (.bool false)], args := [d1, d2, d3] }
  | _ => none }
def FnExactDiskCrashWrongFalsely : Prop := fnExactDiskCrashRow.holds Try.pinned (OpenSpec.ofChange fnExactDiskCrashWrong)

/-- 'laws.FnDisk': WHATEVER THE INPUT: true; the input reads as it did. -/
def fnDiskSpec : ChangeSpec := { name := "fnDisk", fn := fun _ => fun
  | [d1, d2] => { results := [.lit (.bool true)], args := [d1, d2] }
  | _ => none }
def fnDiskRow : OpenClaim := { program := "ytfclobfoghbblaa", sum := "ccee481125fac014ebced59b83056038c35a2c5e01cb137fdda12868abe6e4ac", func := "loop.example/g00142/laws.FnDisk", spec := "fnDisk", apart := false }
def FnDiskSaid : Prop := fnDiskRow.holds Try.pinned (OpenSpec.ofChange fnDiskSpec)

/-- ITS FALSE NEIGHBOUR: 'it returns false'. Refute it at one input. -/
def fnDiskWrong : ChangeSpec := { name := "fnDisk", fn := fun _ => fun
  | [d1, d2] => { results := [.lit (.bool false)], args := [d1, d2] }
  | _ => none }
def FnDiskWrongFalsely : Prop := fnDiskRow.holds Try.pinned (OpenSpec.ofChange fnDiskWrong)

/-- 'laws.FnExactStateOK': WHATEVER THE INPUT: true; the input reads as it did. -/
def fnExactStateOKSpec : ChangeSpec := { name := "fnExactStateOK", fn := fun _ => fun
  | [d] => { results := [.lit (.bool true)], args := [d] }
  | _ => none }
def fnExactStateOKRow : OpenClaim := { program := "ytfclobfoghbblaa", sum := "ccee481125fac014ebced59b83056038c35a2c5e01cb137fdda12868abe6e4ac", func := "loop.example/g00142/laws.FnExactStateOK", spec := "fnExactStateOK", unfollowed := true, recurses := true, apart := false }
def FnExactStateOKSaid : Prop := fnExactStateOKRow.holds Try.pinned (OpenSpec.ofChange fnExactStateOKSpec)

/-- ITS FALSE NEIGHBOUR: 'it returns false'. Refute it at one input. -/
def fnExactStateOKWrong : ChangeSpec := { name := "fnExactStateOK", fn := fun _ => fun
  | [d] => { results := [.lit (.bool false)], args := [d] }
  | _ => none }
def FnExactStateOKWrongFalsely : Prop := fnExactStateOKRow.holds Try.pinned (OpenSpec.ofChange fnExactStateOKWrong)

/-- 'laws.FnExactDiskRun': WHATEVER THE INPUT: true; the input reads as it did. -/
def fnExactDiskRunSpec : ChangeSpec := { name := "fnExactDiskRun", fn := fun _ => fun
  | [d] => { results := [.lit (.bool true)], args := [d] }
  | _ => none }
def fnExactDiskRunRow : OpenClaim := { program := "ytfclobfoghbblaa", sum := "ccee481125fac014ebced59b83056038c35a2c5e01cb137fdda12868abe6e4ac", func := "loop.example/g00142/laws.FnExactDiskRun", spec := "fnExactDiskRun", apart := false }
def FnExactDiskRunSaid : Prop := fnExactDiskRunRow.holds Try.pinned (OpenSpec.ofChange fnExactDiskRunSpec)

/-- ITS FALSE NEIGHBOUR: 'it returns false'. Refute it at one input. -/
def fnExactDiskRunWrong : ChangeSpec := { name := "fnExactDiskRun", fn := fun _ => fun
  | [d] => { results := [.lit (.bool false)], args := [d] }
  | _ => none }
def FnExactDiskRunWrongFalsely : Prop := fnExactDiskRunRow.holds Try.pinned (OpenSpec.ofChange fnExactDiskRunWrong)

/- THE SECOND FORM. 'bulk': how many values and letters a reading holds, each counted each time it is reached (what is shared counts as often as it is met; a slice's spare places count too). A statement '..UptoSaid' is the law's where the arguments, and the package variables that the reading takes, are together of bulk at most 1048576: NARROWER than '..Said'. Prove '..Said' where nothing that the law and all that it calls make is longer than what came in: it says more and counts as full. Else prove '..UptoSaid'. A law counts once. -/
mutual
def uptoBulk {H : Type} : DataW H → Nat
  | .lit (.string bytes) => bytes.length + 1
  | .lit _ => 1
  | .nil => 1
  | .ptr d => uptoBulk d + 1
  | .slice elems spare => uptoBulkAll elems + uptoBulkAll spare + 1
  | .agg parts => uptoBulkAll parts + 1
  | .iface _ d => uptoBulk d + 1
  | .map entries => uptoBulkEntries entries + 1
  | .held _ => 1
def uptoBulkAll {H : Type} : List (DataW H) → Nat
  | [] => 0
  | d :: r => uptoBulk d + uptoBulkAll r
def uptoBulkEntries {H : Type} : List (Lit × DataW H) → Nat
  | [] => 0
  | x :: r => uptoBulkEntry x + uptoBulkEntries r
def uptoBulkEntry {H : Type} : Lit × DataW H → Nat
  | (.string bytes, d) => bytes.length + uptoBulk d + 1
  | (_, d) => uptoBulk d + 1
 end
def uptoSmall : (H : Type) → List (DataW H) → Bool := fun _ ds => decide (uptoBulkAll ds ≤ 1048576)
def OpenSpec.upto (s : _root_.Go.ChangeSpec) : _root_.Go.OpenSpec := { _root_.Go.OpenSpec.ofChange s with cond := some uptoSmall }

/-- 'laws.FnExactDiskBytes', WHERE WHAT IT READS IS OF BULK AT MOST 1048576: true; the input reads as it did. -/
def fnExactDiskBytesUptoRow : OpenClaim := { program := "ytfclobfoghbblaa", sum := "ccee481125fac014ebced59b83056038c35a2c5e01cb137fdda12868abe6e4ac", func := "loop.example/g00142/laws.FnExactDiskBytes", spec := "fnExactDiskBytes", apart := false, narrowed := true }
def FnExactDiskBytesUptoSaid : Prop := fnExactDiskBytesUptoRow.holds Try.pinned (OpenSpec.upto fnExactDiskBytesSpec)

/-- 'laws.FnExactRxOK', WHERE WHAT IT READS IS OF BULK AT MOST 1048576: true; the input reads as it did. -/
def fnExactRxOKUptoRow : OpenClaim := { program := "ytfclobfoghbblaa", sum := "ccee481125fac014ebced59b83056038c35a2c5e01cb137fdda12868abe6e4ac", func := "loop.example/g00142/laws.FnExactRxOK", spec := "fnExactRxOK", recurses := true, loops := true, apart := false, narrowed := true }
def FnExactRxOKUptoSaid : Prop := fnExactRxOKUptoRow.holds Try.pinned (OpenSpec.upto fnExactRxOKSpec)

/-- 'laws.FnExactGroups', WHERE WHAT IT READS IS OF BULK AT MOST 1048576: true; the input reads as it did. -/
def fnExactGroupsUptoRow : OpenClaim := { program := "ytfclobfoghbblaa", sum := "ccee481125fac014ebced59b83056038c35a2c5e01cb137fdda12868abe6e4ac", func := "loop.example/g00142/laws.FnExactGroups", spec := "fnExactGroups", recurses := true, loops := true, apart := false, narrowed := true }
def FnExactGroupsUptoSaid : Prop := fnExactGroupsUptoRow.holds Try.pinned (OpenSpec.upto fnExactGroupsSpec)

/-- 'laws.FnExactDiskCrash', WHERE WHAT IT READS IS OF BULK AT MOST 1048576: true; the input reads as it did. -/
def fnExactDiskCrashUptoRow : OpenClaim := { program := "ytfclobfoghbblaa", sum := "ccee481125fac014ebced59b83056038c35a2c5e01cb137fdda12868abe6e4ac", func := "loop.example/g00142/laws.FnExactDiskCrash", spec := "fnExactDiskCrash", apart := false, narrowed := true }
def FnExactDiskCrashUptoSaid : Prop := fnExactDiskCrashUptoRow.holds Try.pinned (OpenSpec.upto fnExactDiskCrashSpec)

/-- 'laws.FnDisk', WHERE WHAT IT READS IS OF BULK AT MOST 1048576: true; the input reads as it did. -/
def fnDiskUptoRow : OpenClaim := { program := "ytfclobfoghbblaa", sum := "ccee481125fac014ebced59b83056038c35a2c5e01cb137fdda12868abe6e4ac", func := "loop.example/g00142/laws.FnDisk", spec := "fnDisk", apart := false, narrowed := true }
def FnDiskUptoSaid : Prop := fnDiskUptoRow.holds Try.pinned (OpenSpec.upto fnDiskSpec)

/-- 'laws.FnExactStateOK', WHERE WHAT IT READS IS OF BULK AT MOST 1048576: true; the input reads as it did. -/
def fnExactStateOKUptoRow : OpenClaim := { program := "ytfclobfoghbblaa", sum := "ccee481125fac014ebced59b83056038c35a2c5e01cb137fdda12868abe6e4ac", func := "loop.example/g00142/laws.FnExactStateOK", spec := "fnExactStateOK", unfollowed := true, recurses := true, apart := false, narrowed := true }
def FnExactStateOKUptoSaid : Prop := fnExactStateOKUptoRow.holds Try.pinned (OpenSpec.upto fnExactStateOKSpec)

/-- 'laws.FnExactDiskRun', WHERE WHAT IT READS IS OF BULK AT MOST 1048576: true; the input reads as it did. -/
def fnExactDiskRunUptoRow : OpenClaim := { program := "ytfclobfoghbblaa", sum := "ccee481125fac014ebced59b83056038c35a2c5e01cb137fdda12868abe6e4ac", func := "loop.example/g00142/laws.FnExactDiskRun", spec := "fnExactDiskRun", apart := false, narrowed := true }
def FnExactDiskRunUptoSaid : Prop := fnExactDiskRunUptoRow.holds Try.pinned (OpenSpec.upto fnExactDiskRunSpec)

end Rows
end Go.Proofs.Ytfclobfoghbblaa
