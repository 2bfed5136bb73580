-- written by a program of this session (a copy of the print, widened: wip/patchprint.py)
import Derived.Test.YtjblpjfiiinjbaaProg
import Derived.Below
import Derived.Deep.Draws
import Derived.Deep.AppendLies
import Derived.Maps.AppendAt
import Derived.OwnWalk
import Derived.Laws.BytesArg
import Derived.Laws.MakeOwn
import Derived.Laws.OwnMore
import Derived.Deep.OwnRows
import Derived.Tactics
import Derived.Lib.ConvBytes
import Derived.Laws.Slices
import Derived.WalkKit
import Derived.KernelRfl
import Derived.RowKit3
import Derived.Deep.LoopGhost
import Derived.Deep.QuietTactic
import Derived.BigQuiet
import Derived.WideLaws
import Derived.Deep.DeepCutAuto
import Derived.Deep.CutBlock
import Derived.Deep.RegionHeld3
import Derived.Laws.Rows
import Derived.Lib.AppendStr
import Derived.ArgAppend
import Derived.Laws.IdiomCopy
import Derived.OrdersHeld
import Derived.Laws.BitsLemmas
import Derived.RowKit
import Derived.Test.YtjblpjfiiinjbaaWWords
import Derived.Test.YtjblpjfiiinjbaaWLast
import Derived.Test.YtjblpjfiiinjbaaWTab
import Derived.Test.YtjblpjfiiinjbaaWFour
import Derived.Test.YtjblpjfiiinjbaaWQPut
import Derived.Test.YtjblpjfiiinjbaaWApart
import Derived.Test.YtjblpjfiiinjbaaWArr
import Derived.Test.YtjblpjfiiinjbaaWZeros
import Derived.Test.YtjblpjfiiinjbaaWFoot
import Derived.Test.YtjblpjfiiinjbaaWKept
import Derived.Test.YtjblpjfiiinjbaaWShare
import Derived.Test.YtjblpjfiiinjbaaWN
import Derived.Test.YtjblpjfiiinjbaaWFootNe
import Derived.Test.YtjblpjfiiinjbaaWAt
import Derived.Test.YtjblpjfiiinjbaaWEqStruct
import Derived.Test.YtjblpjfiiinjbaaWRepsOne
import Derived.Test.YtjblpjfiiinjbaaWInv
import Derived.Test.YtjblpjfiiinjbaaWInvWords
import Derived.Test.YtjblpjfiiinjbaaWGuard
import Derived.Test.YtjblpjfiiinjbaaWNEv
import Derived.Test.YtjblpjfiiinjbaaWMore
namespace Go.Proofs.Ytjblpjfiiinjbaa.PFnExactCrc
open Go.RowKit Go.Proofs.YtjblpjfiiinjbaaW.PrintWords Go.Proofs.YtjblpjfiiinjbaaW.PrintLast Go.Proofs.YtjblpjfiiinjbaaW.PrintMore
attribute [local go_sem] max2_int min2_int max_two min_two max_three min_three max_four min_four   -- for this text's walks alone
set_option linter.unusedVariables false
set_option linter.unusedSimpArgs false



def errW : Option Int → Value
  | none => .nilIface
  | some c => .iface 0 (.int .i64 c)
theorem errW_none : errW none = .nilIface := rfl
theorem errW_some (c : Int) : errW (some c) = .iface 0 (.int .i64 c) := rfl

theorem info5 : (Try.prog.info? 5).map (fun i => (i.zero, i.size, i.bytes)) = some (some (.int .u8 0), 1, 1) := by kernel_rfl
-- the values' own types

end Go.Proofs.Ytjblpjfiiinjbaa.PFnExactCrc
