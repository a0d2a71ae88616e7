/- cachetteref01.Reader: the document's reader, method by method, by the same twins as wire's. Printed by mkref2.py. -/
import Derived.Test.YtaiakklflmhpmaaRef01
namespace Go.Proofs.Ytaiakklflmhpmaa.K
open Go.RowKit Go.Proofs.YtaiakklflmhpmaaW.PrintWords Go.Proofs.YtaiakklflmhpmaaW.PrintLast Go.Proofs.YtaiakklflmhpmaaW.PrintMore
set_option linter.unusedVariables false
set_option linter.unusedSimpArgs false
