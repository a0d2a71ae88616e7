/- cachettelaw01: alive. -/
import Derived.Test.YtlcifnejpejhmaaRef01
namespace Go.Proofs.Ytlcifnejpejhmaa.K
open Go.RowKit Go.Proofs.YtlcifnejpejhmaaW.PrintWords Go.Proofs.YtlcifnejpejhmaaW.PrintLast Go.Proofs.YtlcifnejpejhmaaW.PrintMore
set_option linter.unusedVariables false
set_option linter.unusedSimpArgs false

theorem same_true (v0 v1 : Value) (l : List Int) (w : World) (hr0 : Rd w v0 l) (hr1 : Rd w v1 l) :
    Calls Try.prog 25 #[v0, v1] w fun e w' => e = .returned (.bool true) ∧ Below w.heap.size w w' :=
  (same_calls v0 v1 l l w hr0 hr1).mono fun _ _ ⟨he, hd⟩ => ⟨by rw [he]; simp, hd.below⟩
theorem numL_300 : numL 300 = [172, 2] := by rw [numL_big (by decide), numL_small (by decide)]; rfl
theorem numL_1 : numL (zz (-1)) = [1] := by rw [show zz (-1) = 1 from rfl, numL_small (by decide)]; rfl
theorem numR_300 : numR [172, 2] 0 = (300, [], 0) := by decide