-- Printed by print.sh; shortened: theorems that nothing in the claim names are left out (prune.py).
import Derived.Test.YtekhpogigndlkaaWInv
import Derived.Test.YtekhpogigndlkaaWFootNe
namespace Go.Proofs.YtekhpogigndlkaaW.PrintWords
open Go.RowKit
end Go.Proofs.YtekhpogigndlkaaW.PrintWords
namespace Go.Proofs.YtekhpogigndlkaaW.PrintLast
section
variable {ops : Array Oper} {a : Act} {o og : Oper} {g : Nat} {t : Tmp} {u : Bool}
end
end Go.Proofs.YtekhpogigndlkaaW.PrintLast
