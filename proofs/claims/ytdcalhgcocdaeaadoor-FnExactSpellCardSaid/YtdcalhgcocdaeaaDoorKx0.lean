-- Printed by wip/tools/stubprint.py, a driver of mine over the kit's print.py: some callees are proved by hand.
import Derived.Test.YtdcalhgcocdaeaaDoorProg
import Derived.Below
import Derived.Deep.Draws
import Derived.Deep.AppendLies
import Derived.Maps.AppendAt
import Derived.OwnWalk
import Derived.Laws.BytesArg
import Derived.Laws.MakeOwn
import Derived.Laws.OwnMore
import Derived.Deep.OwnRows
import Derived.Tactics
import Derived.Lib.ConvBytes
import Derived.Laws.Slices
import Derived.WalkKit
import Derived.KernelRfl
import Derived.RowKit3
import Derived.Deep.LoopGhost
import Derived.Deep.QuietTactic
import Derived.BigQuiet
import Derived.WideLaws
import Derived.Deep.DeepCutAuto
import Derived.Deep.CutBlock
import Derived.Deep.RegionHeld3
import Derived.Laws.Rows
import Derived.Lib.AppendStr
import Derived.ArgAppend
import Derived.Laws.IdiomCopy
import Derived.OrdersHeld
import Derived.Laws.BitsLemmas
import Derived.RowKit
import Derived.Test.YtdcalhgcocdaeaaDoorWWords
import Derived.Test.YtdcalhgcocdaeaaDoorWLast
import Derived.Test.YtdcalhgcocdaeaaDoorWTab
import Derived.Test.YtdcalhgcocdaeaaDoorWFour
import Derived.Test.YtdcalhgcocdaeaaDoorWQPut
import Derived.Test.YtdcalhgcocdaeaaDoorWApart
import Derived.Test.YtdcalhgcocdaeaaDoorWArr
import Derived.Test.YtdcalhgcocdaeaaDoorWZeros
import Derived.Test.YtdcalhgcocdaeaaDoorWFoot
import Derived.Test.YtdcalhgcocdaeaaDoorWKept
import Derived.Test.YtdcalhgcocdaeaaDoorWShare
import Derived.Test.YtdcalhgcocdaeaaDoorWN
import Derived.Test.YtdcalhgcocdaeaaDoorWFootNe
import Derived.Test.YtdcalhgcocdaeaaDoorWAt
import Derived.Test.YtdcalhgcocdaeaaDoorWEqStruct
import Derived.Test.YtdcalhgcocdaeaaDoorWRepsOne
import Derived.Test.YtdcalhgcocdaeaaDoorWInv
import Derived.Test.YtdcalhgcocdaeaaDoorWInvWords
import Derived.Test.YtdcalhgcocdaeaaDoorWGuard
import Derived.Test.YtdcalhgcocdaeaaDoorWNEv
import Derived.Test.YtdcalhgcocdaeaaDoorWMore
namespace Go.Proofs.YtdcalhgcocdaeaaDoor.K
open Go.RowKit Go.Proofs.YtdcalhgcocdaeaaDoorW.PrintWords Go.Proofs.YtdcalhgcocdaeaaDoorW.PrintLast Go.Proofs.YtdcalhgcocdaeaaDoorW.PrintMore
attribute [local go_sem] max2_int min2_int max_two min_two max_three min_three max_four min_four   -- for this text's walks alone
set_option linter.unusedVariables false
set_option linter.unusedSimpArgs false



def errW : Option Int → Value
  | none => .nilIface
  | some c => .iface 0 (.int .i64 c)
theorem errW_none : errW none = .nilIface := rfl
theorem errW_some (c : Int) : errW (some c) = .iface 0 (.int .i64 c) := rfl

theorem info5 : (Tryd.prog.info? 5).map (fun i => (i.zero, i.size, i.bytes)) = some (some (.int .u8 0), 1, 1) := by kernel_rfl
-- the values' own types

end Go.Proofs.YtdcalhgcocdaeaaDoor.K
