-- written by a program of this session (a copy of the print, widened: wip/patchprint.py)
import Derived.Test.YtkiknhljomobpaaProg
import Derived.Below
import Derived.Deep.Draws
import Derived.Deep.AppendLies
import Derived.Maps.AppendAt
import Derived.OwnWalk
import Derived.Laws.BytesArg
import Derived.Laws.MakeOwn
import Derived.Laws.OwnMore
import Derived.Deep.OwnRows
import Derived.Tactics
import Derived.Lib.ConvBytes
import Derived.Laws.Slices
import Derived.WalkKit
import Derived.KernelRfl
import Derived.RowKit3
import Derived.Deep.LoopGhost
import Derived.Deep.QuietTactic
import Derived.BigQuiet
import Derived.WideLaws
import Derived.Deep.DeepCutAuto
import Derived.Deep.CutBlock
import Derived.Deep.RegionHeld3
import Derived.Laws.Rows
import Derived.Lib.AppendStr
import Derived.ArgAppend
import Derived.Laws.IdiomCopy
import Derived.OrdersHeld
import Derived.Laws.BitsLemmas
import Derived.RowKit
import Derived.WalkSpells
import Derived.Lib.SliceRun
import Derived.Test.YtkiknhljomobpaaWWords
import Derived.Test.YtkiknhljomobpaaWLast
import Derived.Test.YtkiknhljomobpaaWTab
import Derived.Test.YtkiknhljomobpaaWFour
import Derived.Test.YtkiknhljomobpaaWQPut
import Derived.Test.YtkiknhljomobpaaWApart
import Derived.Test.YtkiknhljomobpaaWArr
import Derived.Test.YtkiknhljomobpaaWZeros
import Derived.Test.YtkiknhljomobpaaWFoot
import Derived.Test.YtkiknhljomobpaaWKept
import Derived.Test.YtkiknhljomobpaaWShare
import Derived.Test.YtkiknhljomobpaaWN
import Derived.Test.YtkiknhljomobpaaWFootNe
import Derived.Test.YtkiknhljomobpaaWAt
import Derived.Test.YtkiknhljomobpaaWEqStruct
import Derived.Test.YtkiknhljomobpaaWRepsOne
import Derived.Test.YtkiknhljomobpaaWInv
import Derived.Test.YtkiknhljomobpaaWInvWords
import Derived.Test.YtkiknhljomobpaaWGuard
import Derived.Test.YtkiknhljomobpaaWNEv
import Derived.Test.YtkiknhljomobpaaWMore
namespace Go.Proofs.Ytkiknhljomobpaa.PFnExactReadJob
open Go.RowKit Go.Proofs.YtkiknhljomobpaaW.PrintWords Go.Proofs.YtkiknhljomobpaaW.PrintLast Go.Proofs.YtkiknhljomobpaaW.PrintMore
attribute [local go_sem] max2_int min2_int max_two min_two max_three min_three max_four min_four   -- for this text's walks alone
set_option linter.unusedVariables false
set_option linter.unusedSimpArgs false



def errW : Option Int → Value
  | none => .nilIface
  | some c => .iface 0 (.int .i64 c)
theorem errW_none : errW none = .nilIface := rfl
theorem errW_some (c : Int) : errW (some c) = .iface 0 (.int .i64 c) := rfl

theorem info5 : (Try.prog.info? 5).map (fun i => (i.zero, i.size, i.bytes)) = some (some (.int .u8 0), 1, 1) := by kernel_rfl
-- the values' own types

end Go.Proofs.Ytkiknhljomobpaa.PFnExactReadJob
