/- op.Same where both are the same. -/
import Derived.Test.YtginodjiaohcmaaOpL
import Derived.Test.YtginodjiaohcmaaX3
namespace Go.Proofs.Ytginodjiaohcmaa.K
open Go.RowKit Go.Proofs.YtginodjiaohcmaaW.PrintWords Go.Proofs.YtginodjiaohcmaaW.PrintLast Go.Proofs.YtginodjiaohcmaaW.PrintMore
set_option linter.unusedVariables false
set_option linter.unusedSimpArgs false

theorem osame_true (k t a u b p c : Int) (d : Bool) (s : ByteArray) (v v' : Value) (l : List Int) (w : World) (hr : Rd w v l) (hr' : Rd w v' l) :
    Calls Try.prog 18 #[.agg #[.int .i64 k, .int .i64 t, .int .i64 a, .int .i64 u, .int .i64 b, .int .i64 p, .int .i64 c, .bool d, .string s, v], .agg #[.int .i64 k, .int .i64 t, .int .i64 a, .int .i64 u, .int .i64 b, .int .i64 p, .int .i64 c, .bool d, .string s, v']] w fun e w' => e = .returned (.bool true) ∧ Below w.heap.size w w' := by
  obtain ⟨A, n, rfl, hc, hC⟩ := hr
  obtain ⟨A', n', rfl, hc', hC'⟩ := hr'
  exact X.op_Same.calls k t a u b p c d s A n l k t a u b p c d s A' n' l _ w hC hc hC' hc' (by simp [X.op_Same.f, X.bytes_Equal.f])
end Go.Proofs.Ytginodjiaohcmaa.K
