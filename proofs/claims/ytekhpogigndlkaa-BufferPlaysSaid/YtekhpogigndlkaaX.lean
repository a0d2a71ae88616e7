/- Functions of the program as Lean functions, each with the proof that the call comes to it: written by a program (wip/xprint.sh, out of the kit's print.py). -/
import Derived.Test.YtekhpogigndlkaaX0
import Derived.Test.YtekhpogigndlkaaX1
import Derived.Test.YtekhpogigndlkaaX2
import Derived.Test.YtekhpogigndlkaaX3
import Derived.Test.YtekhpogigndlkaaX4
import Derived.Test.YtekhpogigndlkaaX5
import Derived.Test.YtekhpogigndlkaaX6
namespace Go.Proofs.Ytekhpogigndlkaa.X
open Go.RowKit Go.Proofs.YtekhpogigndlkaaW.PrintWords Go.Proofs.YtekhpogigndlkaaW.PrintLast Go.Proofs.YtekhpogigndlkaaW.PrintMore
attribute [local go_sem] max2_int min2_int max_two min_two max_three min_three max_four min_four   -- for this text's walks alone
set_option linter.unusedVariables false
set_option linter.unusedSimpArgs false

end Go.Proofs.Ytekhpogigndlkaa.X
