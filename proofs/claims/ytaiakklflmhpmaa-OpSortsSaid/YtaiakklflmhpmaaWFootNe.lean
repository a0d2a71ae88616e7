-- Printed by print.sh; shortened: theorems that nothing in the claim names are left out (prune.py).
import Derived.Test.YtaiakklflmhpmaaWN
/-! ### 52. A row that stays read whatever happens to a block (a set of blocks) doesn't lie there -/
namespace Go.Proofs.YtaiakklflmhpmaaW.PrintWords
open Go.RowKit
namespace Kd
section
variable {α : Type} {d : Kd α} {W : World} {g n : Nat} {S ok : Nat → Prop} {A : Option Addr} {ad : Addr} {xs : List α}
end
end Kd
end Go.Proofs.YtaiakklflmhpmaaW.PrintWords
