/- Functions of the program as Lean functions, each with the proof that the call comes to it: written by a program (wip/xprint.sh, out of the kit's print.py). -/
import Derived.Test.YtaiakklflmhpmaaX0
import Derived.Test.YtaiakklflmhpmaaX1
import Derived.Test.YtaiakklflmhpmaaX2
import Derived.Test.YtaiakklflmhpmaaX3
import Derived.Test.YtaiakklflmhpmaaX4
namespace Go.Proofs.Ytaiakklflmhpmaa.X
open Go.RowKit Go.Proofs.YtaiakklflmhpmaaW.PrintWords Go.Proofs.YtaiakklflmhpmaaW.PrintLast Go.Proofs.YtaiakklflmhpmaaW.PrintMore
attribute [local go_sem] max2_int min2_int max_two min_two max_three min_three max_four min_four   -- for this text's walks alone
set_option linter.unusedVariables false
set_option linter.unusedSimpArgs false

end Go.Proofs.Ytaiakklflmhpmaa.X
