-- Printed by print.sh; shortened: theorems that nothing in the claim names are left out (prune.py).
import Derived.Test.YtaiakklflmhpmaaWInv
import Derived.Test.YtaiakklflmhpmaaWFootNe
namespace Go.Proofs.YtaiakklflmhpmaaW.PrintWords
open Go.RowKit
end Go.Proofs.YtaiakklflmhpmaaW.PrintWords
namespace Go.Proofs.YtaiakklflmhpmaaW.PrintLast
section
variable {ops : Array Oper} {a : Act} {o og : Oper} {g : Nat} {t : Tmp} {u : Bool}
end
end Go.Proofs.YtaiakklflmhpmaaW.PrintLast
