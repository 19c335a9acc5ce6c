-- Printed by xprint.py (a program of this session's, in wip/tools) out of the translation.
import Derived.Test.YtdbkbccobmndbaaProg
import Derived.Below
import Derived.Deep.Draws
import Derived.Deep.AppendLies
import Derived.Maps.AppendAt
import Derived.OwnWalk
import Derived.Laws.BytesArg
import Derived.Laws.MakeOwn
import Derived.Laws.OwnMore
import Derived.Deep.OwnRows
import Derived.Tactics
import Derived.Lib.ConvBytes
import Derived.Laws.Slices
import Derived.WalkKit
import Derived.KernelRfl
import Derived.RowKit3
import Derived.Deep.LoopGhost
import Derived.Deep.QuietTactic
import Derived.BigQuiet
import Derived.WideLaws
import Derived.Deep.DeepCutAuto
import Derived.Deep.CutBlock
import Derived.Deep.RegionHeld3
import Derived.Laws.Rows
import Derived.Lib.AppendStr
import Derived.ArgAppend
import Derived.Laws.IdiomCopy
import Derived.OrdersHeld
import Derived.Laws.BitsLemmas
import Derived.RowKit
import Derived.Test.YtdbkbccobmndbaaWWords
import Derived.Test.YtdbkbccobmndbaaWLast
import Derived.Test.YtdbkbccobmndbaaWTab
import Derived.Test.YtdbkbccobmndbaaWFour
import Derived.Test.YtdbkbccobmndbaaWQPut
import Derived.Test.YtdbkbccobmndbaaWApart
import Derived.Test.YtdbkbccobmndbaaWArr
import Derived.Test.YtdbkbccobmndbaaWZeros
import Derived.Test.YtdbkbccobmndbaaWFoot
import Derived.Test.YtdbkbccobmndbaaWKept
import Derived.Test.YtdbkbccobmndbaaWShare
import Derived.Test.YtdbkbccobmndbaaWN
import Derived.Test.YtdbkbccobmndbaaWFootNe
import Derived.Test.YtdbkbccobmndbaaWAt
import Derived.Test.YtdbkbccobmndbaaWEqStruct
import Derived.Test.YtdbkbccobmndbaaWRepsOne
import Derived.Test.YtdbkbccobmndbaaWInv
import Derived.Test.YtdbkbccobmndbaaWInvWords
import Derived.Test.YtdbkbccobmndbaaWGuard
import Derived.Test.YtdbkbccobmndbaaWNEv
import Derived.Test.YtdbkbccobmndbaaWMore
namespace Go.Proofs.Ytdbkbccobmndbaa.X
open Go.RowKit Go.Proofs.YtdbkbccobmndbaaW.PrintWords Go.Proofs.YtdbkbccobmndbaaW.PrintLast Go.Proofs.YtdbkbccobmndbaaW.PrintMore
attribute [local go_sem] max2_int min2_int max_two min_two max_three min_three max_four min_four   -- for this text's walks alone
set_option linter.unusedVariables false
set_option linter.unusedSimpArgs false



def errW : Option Int → Value
  | none => .nilIface
  | some c => .iface 0 (.int .i64 c)
theorem errW_none : errW none = .nilIface := rfl
theorem errW_some (c : Int) : errW (some c) = .iface 0 (.int .i64 c) := rfl

-- the values' own types

end Go.Proofs.Ytdbkbccobmndbaa.X
