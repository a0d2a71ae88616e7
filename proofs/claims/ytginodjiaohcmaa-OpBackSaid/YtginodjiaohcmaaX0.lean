/- Functions of the program as Lean functions, each with the proof that the call comes to it: written by a program (wip/xprint.sh, out of the kit's print.py). -/
import Derived.Test.YtginodjiaohcmaaProg
import Derived.Below
import Derived.Deep.Draws
import Derived.Deep.AppendLies
import Derived.Maps.AppendAt
import Derived.OwnWalk
import Derived.Laws.BytesArg
import Derived.Laws.MakeOwn
import Derived.Laws.OwnMore
import Derived.Deep.OwnRows
import Derived.Tactics
import Derived.Lib.ConvBytes
import Derived.Laws.Slices
import Derived.WalkKit
import Derived.KernelRfl
import Derived.RowKit3
import Derived.Deep.LoopGhost
import Derived.Deep.QuietTactic
import Derived.BigQuiet
import Derived.WideLaws
import Derived.Deep.DeepCutAuto
import Derived.Deep.CutBlock
import Derived.Deep.RegionHeld3
import Derived.Laws.Rows
import Derived.Lib.AppendStr
import Derived.ArgAppend
import Derived.Laws.IdiomCopy
import Derived.OrdersHeld
import Derived.Laws.BitsLemmas
import Derived.RowKit
import Derived.Test.YtginodjiaohcmaaWWords
import Derived.Test.YtginodjiaohcmaaWLast
import Derived.Test.YtginodjiaohcmaaWTab
import Derived.Test.YtginodjiaohcmaaWFour
import Derived.Test.YtginodjiaohcmaaWQPut
import Derived.Test.YtginodjiaohcmaaWApart
import Derived.Test.YtginodjiaohcmaaWArr
import Derived.Test.YtginodjiaohcmaaWZeros
import Derived.Test.YtginodjiaohcmaaWFoot
import Derived.Test.YtginodjiaohcmaaWKept
import Derived.Test.YtginodjiaohcmaaWShare
import Derived.Test.YtginodjiaohcmaaWN
import Derived.Test.YtginodjiaohcmaaWFootNe
import Derived.Test.YtginodjiaohcmaaWAt
import Derived.Test.YtginodjiaohcmaaWEqStruct
import Derived.Test.YtginodjiaohcmaaWRepsOne
import Derived.Test.YtginodjiaohcmaaWInv
import Derived.Test.YtginodjiaohcmaaWInvWords
import Derived.Test.YtginodjiaohcmaaWGuard
import Derived.Test.YtginodjiaohcmaaWNEv
import Derived.Test.YtginodjiaohcmaaWMore
namespace Go.Proofs.Ytginodjiaohcmaa.X
open Go.RowKit Go.Proofs.YtginodjiaohcmaaW.PrintWords Go.Proofs.YtginodjiaohcmaaW.PrintLast Go.Proofs.YtginodjiaohcmaaW.PrintMore
attribute [local go_sem] max2_int min2_int max_two min_two max_three min_three max_four min_four   -- for this text's walks alone
set_option linter.unusedVariables false
set_option linter.unusedSimpArgs false



def errW : Option Int → Value
  | none => .nilIface
  | some c => .iface 0 (.int .i64 c)
theorem errW_none : errW none = .nilIface := rfl
theorem errW_some (c : Int) : errW (some c) = .iface 0 (.int .i64 c) := rfl

-- the values' own types

end Go.Proofs.Ytginodjiaohcmaa.X
