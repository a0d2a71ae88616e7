/-
  No cell of these rows narrows 'for every input' (looked for: loops, veiled, ifaces, maps, wideKeys, modest, calm, conditions, laid).
  DERIVED. THE GIVEN ROWS OF THIS SEAT. 9 by the template 'for every input the law returns true; each argument reads behind the call as it read before'; 0 by the template 'total and deterministic' (their statements: YtlcifnejpejhmaaTotals.lean).
  GIVEN WITH THE SEED: the statements are not yours to turn. If you find one false, say at which input.
  Laid BY PROGRAM, IN A SANDBOX (cutbox-rows.mjs): the forced cells as the released guide's own fill.sh prints them over the translation ecf8305d7e02af88… (all of the seat's roots in one cut). By AI agents, Wed Nov 11 2026. No macro, syntax, notation, axiom, sorry.
-/
import Derived.Test.YtlcifnejpejhmaaChecked
import GoSem.Claim
import GoSem.ClaimJoined
import GoSem.ClaimMapViews
import Derived.JoinedTies
import Derived.KernelRfl
namespace Go.Proofs.Ytlcifnejpejhmaa
/- THE CELL 'sum', in the pinned program and in every row, IS THE sha256 OF THE DUMP (.gsa) THAT YtlcifnejpejhmaaProg.lean LOADS. Nothing in Lean hashes anything: it is a label: what it is worth is what the hold of that sum in a sandbox is worth. -/
noncomputable def Try.pinned : Pinned := { name := "ytlcifnejpejhmaa", sum := "ecf8305d7e02af88ef85dc99eb297eba09b36bf4664d3983f2546a002c6fa613", checked := Try.checked }
namespace Rows
def none {H : Type} : Left H := { results := [], args := [] }

/-- 'cachettelaw04.StampTotal': WHATEVER THE INPUT: true; the input reads as it did. -/
def stampTotalSpec : ChangeSpec := { name := "stampTotal", fn := fun _ => fun
  | [d1, d2, d3] => { results := [.lit (.bool true)], args := [d1, d2, d3] }
  | _ => none }
def stampTotalRow : OpenClaim := { program := "ytlcifnejpejhmaa", sum := "ecf8305d7e02af88ef85dc99eb297eba09b36bf4664d3983f2546a002c6fa613", func := "cachette/cachettelaw04.StampTotal", spec := "stampTotal", unfollowed := true, recurses := true, apart := false }
def StampTotalSaid : Prop := stampTotalRow.holds Try.pinned (OpenSpec.ofChange stampTotalSpec)

/-- ITS FALSE NEIGHBOUR: 'it returns false'. Refute it at one input. -/
def stampTotalWrong : ChangeSpec := { name := "stampTotal", fn := fun _ => fun
  | [d1, d2, d3] => { results := [.lit (.bool false)], args := [d1, d2, d3] }
  | _ => none }
def StampTotalWrongFalsely : Prop := stampTotalRow.holds Try.pinned (OpenSpec.ofChange stampTotalWrong)

/-- 'cachettelaw04.StampTicks': WHATEVER THE INPUT: true; the input reads as it did. -/
def stampTicksSpec : ChangeSpec := { name := "stampTicks", fn := fun _ => fun
  | [d1, d2] => { results := [.lit (.bool true)], args := [d1, d2] }
  | _ => none }
def stampTicksRow : OpenClaim := { program := "ytlcifnejpejhmaa", sum := "ecf8305d7e02af88ef85dc99eb297eba09b36bf4664d3983f2546a002c6fa613", func := "cachette/cachettelaw04.StampTicks", spec := "stampTicks", apart := false }
def StampTicksSaid : Prop := stampTicksRow.holds Try.pinned (OpenSpec.ofChange stampTicksSpec)

/-- ITS FALSE NEIGHBOUR: 'it returns false'. Refute it at one input. -/
def stampTicksWrong : ChangeSpec := { name := "stampTicks", fn := fun _ => fun
  | [d1, d2] => { results := [.lit (.bool false)], args := [d1, d2] }
  | _ => none }
def StampTicksWrongFalsely : Prop := stampTicksRow.holds Try.pinned (OpenSpec.ofChange stampTicksWrong)

/-- 'cachettelaw04.StampBehind': WHATEVER THE INPUT: true; the input reads as it did. -/
def stampBehindSpec : ChangeSpec := { name := "stampBehind", fn := fun _ => fun
  | [d1, d2] => { results := [.lit (.bool true)], args := [d1, d2] }
  | _ => none }
def stampBehindRow : OpenClaim := { program := "ytlcifnejpejhmaa", sum := "ecf8305d7e02af88ef85dc99eb297eba09b36bf4664d3983f2546a002c6fa613", func := "cachette/cachettelaw04.StampBehind", spec := "stampBehind", apart := false }
def StampBehindSaid : Prop := stampBehindRow.holds Try.pinned (OpenSpec.ofChange stampBehindSpec)

/-- ITS FALSE NEIGHBOUR: 'it returns false'. Refute it at one input. -/
def stampBehindWrong : ChangeSpec := { name := "stampBehind", fn := fun _ => fun
  | [d1, d2] => { results := [.lit (.bool false)], args := [d1, d2] }
  | _ => none }
def StampBehindWrongFalsely : Prop := stampBehindRow.holds Try.pinned (OpenSpec.ofChange stampBehindWrong)

/-- 'cachettelaw22.RelayOnce': WHATEVER THE INPUT: true; the input reads as it did. -/
def relayOnceSpec : ChangeSpec := { name := "relayOnce", fn := fun _ => fun
  | [d1, d2, d3] => { results := [.lit (.bool true)], args := [d1, d2, d3] }
  | _ => none }
def relayOnceRow : OpenClaim := { program := "ytlcifnejpejhmaa", sum := "ecf8305d7e02af88ef85dc99eb297eba09b36bf4664d3983f2546a002c6fa613", func := "cachette/cachettelaw22.RelayOnce", spec := "relayOnce", unfollowed := true, recurses := true, apart := false }
def RelayOnceSaid : Prop := relayOnceRow.holds Try.pinned (OpenSpec.ofChange relayOnceSpec)

/-- ITS FALSE NEIGHBOUR: 'it returns false'. Refute it at one input. -/
def relayOnceWrong : ChangeSpec := { name := "relayOnce", fn := fun _ => fun
  | [d1, d2, d3] => { results := [.lit (.bool false)], args := [d1, d2, d3] }
  | _ => none }
def RelayOnceWrongFalsely : Prop := relayOnceRow.holds Try.pinned (OpenSpec.ofChange relayOnceWrong)

/-- 'cachettelaw22.RelayPlays': WHATEVER THE INPUT: true; the input reads as it did. -/
def relayPlaysSpec : ChangeSpec := { name := "relayPlays", fn := fun _ => fun
  | [d1, d2] => { results := [.lit (.bool true)], args := [d1, d2] }
  | _ => none }
def relayPlaysRow : OpenClaim := { program := "ytlcifnejpejhmaa", sum := "ecf8305d7e02af88ef85dc99eb297eba09b36bf4664d3983f2546a002c6fa613", func := "cachette/cachettelaw22.RelayPlays", spec := "relayPlays", unfollowed := true, recurses := true, apart := false }
def RelayPlaysSaid : Prop := relayPlaysRow.holds Try.pinned (OpenSpec.ofChange relayPlaysSpec)

/-- ITS FALSE NEIGHBOUR: 'it returns false'. Refute it at one input. -/
def relayPlaysWrong : ChangeSpec := { name := "relayPlays", fn := fun _ => fun
  | [d1, d2] => { results := [.lit (.bool false)], args := [d1, d2] }
  | _ => none }
def RelayPlaysWrongFalsely : Prop := relayPlaysRow.holds Try.pinned (OpenSpec.ofChange relayPlaysWrong)

/-- 'cachettelaw22.RelayTurns': WHATEVER THE INPUT: true; the input reads as it did. -/
def relayTurnsSpec : ChangeSpec := { name := "relayTurns", fn := fun _ => fun
  | [d1, d2, d3] => { results := [.lit (.bool true)], args := [d1, d2, d3] }
  | _ => none }
def relayTurnsRow : OpenClaim := { program := "ytlcifnejpejhmaa", sum := "ecf8305d7e02af88ef85dc99eb297eba09b36bf4664d3983f2546a002c6fa613", func := "cachette/cachettelaw22.RelayTurns", spec := "relayTurns", unfollowed := true, recurses := true, apart := false }
def RelayTurnsSaid : Prop := relayTurnsRow.holds Try.pinned (OpenSpec.ofChange relayTurnsSpec)

/-- ITS FALSE NEIGHBOUR: 'it returns false'. Refute it at one input. -/
def relayTurnsWrong : ChangeSpec := { name := "relayTurns", fn := fun _ => fun
  | [d1, d2, d3] => { results := [.lit (.bool false)], args := [d1, d2, d3] }
  | _ => none }
def RelayTurnsWrongFalsely : Prop := relayTurnsRow.holds Try.pinned (OpenSpec.ofChange relayTurnsWrong)

/-- 'cachettelaw04.StampForms': WHATEVER THE INPUT: true; the input reads as it did. -/
def stampFormsSpec : ChangeSpec := { name := "stampForms", fn := fun _ => fun
  | [d1, d2] => { results := [.lit (.bool true)], args := [d1, d2] }
  | _ => none }
def stampFormsRow : OpenClaim := { program := "ytlcifnejpejhmaa", sum := "ecf8305d7e02af88ef85dc99eb297eba09b36bf4664d3983f2546a002c6fa613", func := "cachette/cachettelaw04.StampForms", spec := "stampForms", recurses := true, apart := false }
def StampFormsSaid : Prop := stampFormsRow.holds Try.pinned (OpenSpec.ofChange stampFormsSpec)

/-- ITS FALSE NEIGHBOUR: 'it returns false'. Refute it at one input. -/
def stampFormsWrong : ChangeSpec := { name := "stampForms", fn := fun _ => fun
  | [d1, d2] => { results := [.lit (.bool false)], args := [d1, d2] }
  | _ => none }
def StampFormsWrongFalsely : Prop := stampFormsRow.holds Try.pinned (OpenSpec.ofChange stampFormsWrong)

/-- 'cachettelaw04.StampOrders': WHATEVER THE INPUT: true; the input reads as it did. -/
def stampOrdersSpec : ChangeSpec := { name := "stampOrders", fn := fun _ => fun
  | [d1, d2, d3] => { results := [.lit (.bool true)], args := [d1, d2, d3] }
  | _ => none }
def stampOrdersRow : OpenClaim := { program := "ytlcifnejpejhmaa", sum := "ecf8305d7e02af88ef85dc99eb297eba09b36bf4664d3983f2546a002c6fa613", func := "cachette/cachettelaw04.StampOrders", spec := "stampOrders", unfollowed := true, recurses := true, apart := false }
def StampOrdersSaid : Prop := stampOrdersRow.holds Try.pinned (OpenSpec.ofChange stampOrdersSpec)

/-- ITS FALSE NEIGHBOUR: 'it returns false'. Refute it at one input. -/
def stampOrdersWrong : ChangeSpec := { name := "stampOrders", fn := fun _ => fun
  | [d1, d2, d3] => { results := [.lit (.bool false)], args := [d1, d2, d3] }
  | _ => none }
def StampOrdersWrongFalsely : Prop := stampOrdersRow.holds Try.pinned (OpenSpec.ofChange stampOrdersWrong)

/-- 'cachettelaw04.StampBack': WHATEVER THE INPUT: true; the input reads as it did. -/
def stampBackSpec : ChangeSpec := { name := "stampBack", fn := fun _ => fun
  | [d1, d2, d3] => { results := [.lit (.bool true)], args := [d1, d2, d3] }
  | _ => none }
def stampBackRow : OpenClaim := { program := "ytlcifnejpejhmaa", sum := "ecf8305d7e02af88ef85dc99eb297eba09b36bf4664d3983f2546a002c6fa613", func := "cachette/cachettelaw04.StampBack", spec := "stampBack", unfollowed := true, recurses := true, apart := false }
def StampBackSaid : Prop := stampBackRow.holds Try.pinned (OpenSpec.ofChange stampBackSpec)

/-- ITS FALSE NEIGHBOUR: 'it returns false'. Refute it at one input. -/
def stampBackWrong : ChangeSpec := { name := "stampBack", fn := fun _ => fun
  | [d1, d2, d3] => { results := [.lit (.bool false)], args := [d1, d2, d3] }
  | _ => none }
def StampBackWrongFalsely : Prop := stampBackRow.holds Try.pinned (OpenSpec.ofChange stampBackWrong)

/- THE SECOND FORM. 'bulk': how many values and letters a reading holds, each counted each time it is reached (what is shared counts as often as it is met; a slice's spare places count too). A statement '..UptoSaid' is the law's where the arguments, and the package variables that the reading takes, are together of bulk at most 1048576: NARROWER than '..Said'. Prove '..Said' where nothing that the law and all that it calls make is longer than what came in: it says more and counts as full. Else prove '..UptoSaid'. A law counts once. -/
mutual
def uptoBulk {H : Type} : DataW H → Nat
  | .lit (.string bytes) => bytes.length + 1
  | .lit _ => 1
  | .nil => 1
  | .ptr d => uptoBulk d + 1
  | .slice elems spare => uptoBulkAll elems + uptoBulkAll spare + 1
  | .agg parts => uptoBulkAll parts + 1
  | .iface _ d => uptoBulk d + 1
  | .map entries => uptoBulkEntries entries + 1
  | .held _ => 1
def uptoBulkAll {H : Type} : List (DataW H) → Nat
  | [] => 0
  | d :: r => uptoBulk d + uptoBulkAll r
def uptoBulkEntries {H : Type} : List (Lit × DataW H) → Nat
  | [] => 0
  | x :: r => uptoBulkEntry x + uptoBulkEntries r
def uptoBulkEntry {H : Type} : Lit × DataW H → Nat
  | (.string bytes, d) => bytes.length + uptoBulk d + 1
  | (_, d) => uptoBulk d + 1
 end
def uptoSmall : (H : Type) → List (DataW H) → Bool := fun _ ds => decide (uptoBulkAll ds ≤ 1048576)
def OpenSpec.upto (s : _root_.Go.ChangeSpec) : _root_.Go.OpenSpec := { _root_.Go.OpenSpec.ofChange s with cond := some uptoSmall }

/-- 'cachettelaw04.StampTotal', WHERE WHAT IT READS IS OF BULK AT MOST 1048576: true; the input reads as it did. -/
def stampTotalUptoRow : OpenClaim := { program := "ytlcifnejpejhmaa", sum := "ecf8305d7e02af88ef85dc99eb297eba09b36bf4664d3983f2546a002c6fa613", func := "cachette/cachettelaw04.StampTotal", spec := "stampTotal", unfollowed := true, recurses := true, apart := false, narrowed := true }
def StampTotalUptoSaid : Prop := stampTotalUptoRow.holds Try.pinned (OpenSpec.upto stampTotalSpec)

/-- 'cachettelaw04.StampTicks', WHERE WHAT IT READS IS OF BULK AT MOST 1048576: true; the input reads as it did. -/
def stampTicksUptoRow : OpenClaim := { program := "ytlcifnejpejhmaa", sum := "ecf8305d7e02af88ef85dc99eb297eba09b36bf4664d3983f2546a002c6fa613", func := "cachette/cachettelaw04.StampTicks", spec := "stampTicks", apart := false, narrowed := true }
def StampTicksUptoSaid : Prop := stampTicksUptoRow.holds Try.pinned (OpenSpec.upto stampTicksSpec)

/-- 'cachettelaw04.StampBehind', WHERE WHAT IT READS IS OF BULK AT MOST 1048576: true; the input reads as it did. -/
def stampBehindUptoRow : OpenClaim := { program := "ytlcifnejpejhmaa", sum := "ecf8305d7e02af88ef85dc99eb297eba09b36bf4664d3983f2546a002c6fa613", func := "cachette/cachettelaw04.StampBehind", spec := "stampBehind", apart := false, narrowed := true }
def StampBehindUptoSaid : Prop := stampBehindUptoRow.holds Try.pinned (OpenSpec.upto stampBehindSpec)

/-- 'cachettelaw22.RelayOnce', WHERE WHAT IT READS IS OF BULK AT MOST 1048576: true; the input reads as it did. -/
def relayOnceUptoRow : OpenClaim := { program := "ytlcifnejpejhmaa", sum := "ecf8305d7e02af88ef85dc99eb297eba09b36bf4664d3983f2546a002c6fa613", func := "cachette/cachettelaw22.RelayOnce", spec := "relayOnce", unfollowed := true, recurses := true, apart := false, narrowed := true }
def RelayOnceUptoSaid : Prop := relayOnceUptoRow.holds Try.pinned (OpenSpec.upto relayOnceSpec)

/-- 'cachettelaw22.RelayPlays', WHERE WHAT IT READS IS OF BULK AT MOST 1048576: true; the input reads as it did. -/
def relayPlaysUptoRow : OpenClaim := { program := "ytlcifnejpejhmaa", sum := "ecf8305d7e02af88ef85dc99eb297eba09b36bf4664d3983f2546a002c6fa613", func := "cachette/cachettelaw22.RelayPlays", spec := "relayPlays", unfollowed := true, recurses := true, apart := false, narrowed := true }
def RelayPlaysUptoSaid : Prop := relayPlaysUptoRow.holds Try.pinned (OpenSpec.upto relayPlaysSpec)

/-- 'cachettelaw22.RelayTurns', WHERE WHAT IT READS IS OF BULK AT MOST 1048576: true; the input reads as it did. -/
def relayTurnsUptoRow : OpenClaim := { program := "ytlcifnejpejhmaa", sum := "ecf8305d7e02af88ef85dc99eb297eba09b36bf4664d3983f2546a002c6fa613", func := "cachette/cachettelaw22.RelayTurns", spec := "relayTurns", unfollowed := true, recurses := true, apart := false, narrowed := true }
def RelayTurnsUptoSaid : Prop := relayTurnsUptoRow.holds Try.pinned (OpenSpec.upto relayTurnsSpec)

/-- 'cachettelaw04.StampForms', WHERE WHAT IT READS IS OF BULK AT MOST 1048576: true; the input reads as it did. -/
def stampFormsUptoRow : OpenClaim := { program := "ytlcifnejpejhmaa", sum := "ecf8305d7e02af88ef85dc99eb297eba09b36bf4664d3983f2546a002c6fa613", func := "cachette/cachettelaw04.StampForms", spec := "stampForms", recurses := true, apart := false, narrowed := true }
def StampFormsUptoSaid : Prop := stampFormsUptoRow.holds Try.pinned (OpenSpec.upto stampFormsSpec)

/-- 'cachettelaw04.StampOrders', WHERE WHAT IT READS IS OF BULK AT MOST 1048576: true; the input reads as it did. -/
def stampOrdersUptoRow : OpenClaim := { program := "ytlcifnejpejhmaa", sum := "ecf8305d7e02af88ef85dc99eb297eba09b36bf4664d3983f2546a002c6fa613", func := "cachette/cachettelaw04.StampOrders", spec := "stampOrders", unfollowed := true, recurses := true, apart := false, narrowed := true }
def StampOrdersUptoSaid : Prop := stampOrdersUptoRow.holds Try.pinned (OpenSpec.upto stampOrdersSpec)

/-- 'cachettelaw04.StampBack', WHERE WHAT IT READS IS OF BULK AT MOST 1048576: true; the input reads as it did. -/
def stampBackUptoRow : OpenClaim := { program := "ytlcifnejpejhmaa", sum := "ecf8305d7e02af88ef85dc99eb297eba09b36bf4664d3983f2546a002c6fa613", func := "cachette/cachettelaw04.StampBack", spec := "stampBack", unfollowed := true, recurses := true, apart := false, narrowed := true }
def StampBackUptoSaid : Prop := stampBackUptoRow.holds Try.pinned (OpenSpec.upto stampBackSpec)

end Rows
end Go.Proofs.Ytlcifnejpejhmaa
