/- Functions of the program as Lean functions, each with the proof that the call comes to it: written by a program (wip/xprint.sh, out of the kit's print.py). -/
import Derived.Test.YtnmidmcmbehkbaaProg
import Derived.Below
import Derived.Deep.Draws
import Derived.Deep.AppendLies
import Derived.Maps.AppendAt
import Derived.OwnWalk
import Derived.Laws.BytesArg
import Derived.Laws.MakeOwn
import Derived.Laws.OwnMore
import Derived.Deep.OwnRows
import Derived.Tactics
import Derived.Lib.ConvBytes
import Derived.Laws.Slices
import Derived.WalkKit
import Derived.KernelRfl
import Derived.RowKit3
import Derived.Deep.LoopGhost
import Derived.Deep.QuietTactic
import Derived.BigQuiet
import Derived.WideLaws
import Derived.Deep.DeepCutAuto
import Derived.Deep.CutBlock
import Derived.Deep.RegionHeld3
import Derived.Laws.Rows
import Derived.Lib.AppendStr
import Derived.ArgAppend
import Derived.Laws.IdiomCopy
import Derived.OrdersHeld
import Derived.Laws.BitsLemmas
import Derived.RowKit
import Derived.Test.YtnmidmcmbehkbaaWWords
import Derived.Test.YtnmidmcmbehkbaaWLast
import Derived.Test.YtnmidmcmbehkbaaWTab
import Derived.Test.YtnmidmcmbehkbaaWFour
import Derived.Test.YtnmidmcmbehkbaaWQPut
import Derived.Test.YtnmidmcmbehkbaaWApart
import Derived.Test.YtnmidmcmbehkbaaWArr
import Derived.Test.YtnmidmcmbehkbaaWZeros
import Derived.Test.YtnmidmcmbehkbaaWFoot
import Derived.Test.YtnmidmcmbehkbaaWKept
import Derived.Test.YtnmidmcmbehkbaaWShare
import Derived.Test.YtnmidmcmbehkbaaWN
import Derived.Test.YtnmidmcmbehkbaaWFootNe
import Derived.Test.YtnmidmcmbehkbaaWAt
import Derived.Test.YtnmidmcmbehkbaaWEqStruct
import Derived.Test.YtnmidmcmbehkbaaWRepsOne
import Derived.Test.YtnmidmcmbehkbaaWInv
import Derived.Test.YtnmidmcmbehkbaaWInvWords
import Derived.Test.YtnmidmcmbehkbaaWGuard
import Derived.Test.YtnmidmcmbehkbaaWNEv
import Derived.Test.YtnmidmcmbehkbaaWMore
namespace Go.Proofs.Ytnmidmcmbehkbaa.X
open Go.RowKit Go.Proofs.YtnmidmcmbehkbaaW.PrintWords Go.Proofs.YtnmidmcmbehkbaaW.PrintLast Go.Proofs.YtnmidmcmbehkbaaW.PrintMore
attribute [local go_sem] max2_int min2_int max_two min_two max_three min_three max_four min_four   -- for this text's walks alone
set_option linter.unusedVariables false
set_option linter.unusedSimpArgs false



def errW : Option Int → Value
  | none => .nilIface
  | some c => .iface 0 (.int .i64 c)
theorem errW_none : errW none = .nilIface := rfl
theorem errW_some (c : Int) : errW (some c) = .iface 0 (.int .i64 c) := rfl

theorem info3 : (Try.prog.info? 3).map (fun i => (i.zero, i.size, i.bytes)) = some (some (.int .i64 0), 1, 8) := by kernel_rfl
theorem info5 : (Try.prog.info? 5).map (fun i => (i.zero, i.size, i.bytes)) = some (some (.int .u8 0), 1, 1) := by kernel_rfl
-- the values' own types

end Go.Proofs.Ytnmidmcmbehkbaa.X
