-- Printed by wip/tools/stubprint.py, a driver of mine over the kit's print.py: some callees are proved by hand.
import Derived.Test.YtoioineibfldcaaProg
import Derived.Below
import Derived.Deep.Draws
import Derived.Deep.AppendLies
import Derived.Maps.AppendAt
import Derived.OwnWalk
import Derived.Laws.BytesArg
import Derived.Laws.MakeOwn
import Derived.Laws.OwnMore
import Derived.Deep.OwnRows
import Derived.Tactics
import Derived.Lib.ConvBytes
import Derived.Laws.Slices
import Derived.WalkKit
import Derived.KernelRfl
import Derived.RowKit3
import Derived.Deep.LoopGhost
import Derived.Deep.QuietTactic
import Derived.BigQuiet
import Derived.WideLaws
import Derived.Deep.DeepCutAuto
import Derived.Deep.CutBlock
import Derived.Deep.RegionHeld3
import Derived.Laws.Rows
import Derived.Lib.AppendStr
import Derived.ArgAppend
import Derived.Laws.IdiomCopy
import Derived.OrdersHeld
import Derived.Laws.BitsLemmas
import Derived.RowKit
import Derived.Test.YtoioineibfldcaaWWords
import Derived.Test.YtoioineibfldcaaWLast
import Derived.Test.YtoioineibfldcaaWTab
import Derived.Test.YtoioineibfldcaaWFour
import Derived.Test.YtoioineibfldcaaWQPut
import Derived.Test.YtoioineibfldcaaWApart
import Derived.Test.YtoioineibfldcaaWArr
import Derived.Test.YtoioineibfldcaaWZeros
import Derived.Test.YtoioineibfldcaaWFoot
import Derived.Test.YtoioineibfldcaaWKept
import Derived.Test.YtoioineibfldcaaWShare
import Derived.Test.YtoioineibfldcaaWN
import Derived.Test.YtoioineibfldcaaWFootNe
import Derived.Test.YtoioineibfldcaaWAt
import Derived.Test.YtoioineibfldcaaWEqStruct
import Derived.Test.YtoioineibfldcaaWRepsOne
import Derived.Test.YtoioineibfldcaaWInv
import Derived.Test.YtoioineibfldcaaWInvWords
import Derived.Test.YtoioineibfldcaaWGuard
import Derived.Test.YtoioineibfldcaaWNEv
import Derived.Test.YtoioineibfldcaaWMore
namespace Go.Proofs.Ytoioineibfldcaa.Q
open Go.RowKit Go.Proofs.YtoioineibfldcaaW.PrintWords Go.Proofs.YtoioineibfldcaaW.PrintLast Go.Proofs.YtoioineibfldcaaW.PrintMore
attribute [local go_sem] max2_int min2_int max_two min_two max_three min_three max_four min_four   -- for this text's walks alone
set_option linter.unusedVariables false
set_option linter.unusedSimpArgs false



def errW : Option Int → Value
  | none => .nilIface
  | some c => .iface 0 (.int .i64 c)
theorem errW_none : errW none = .nilIface := rfl
theorem errW_some (c : Int) : errW (some c) = .iface 0 (.int .i64 c) := rfl

-- the values' own types

end Go.Proofs.Ytoioineibfldcaa.Q
