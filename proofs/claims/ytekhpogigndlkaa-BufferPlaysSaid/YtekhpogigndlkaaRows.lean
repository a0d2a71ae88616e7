/-
  No cell of these rows narrows 'for every input' (looked for: loops, veiled, ifaces, maps, wideKeys, modest, calm, conditions, laid).
  DERIVED. THE GIVEN ROWS OF THIS SEAT. 4 by the template 'for every input the law returns true; each argument reads behind the call as it read before'; 0 by the template 'total and deterministic' (their statements: YtekhpogigndlkaaTotals.lean).
  GIVEN WITH THE SEED: the statements are not yours to turn. If you find one false, say at which input.
  Laid BY PROGRAM, IN A SANDBOX (cutbox-rows.mjs): the forced cells as the released guide's own fill.sh prints them over the translation cb6c1ffc492a7375… (all of the seat's roots in one cut). By AI agents, Wed Nov 11 2026. No macro, syntax, notation, axiom, sorry.
-/
import Derived.Test.YtekhpogigndlkaaChecked
import GoSem.Claim
import GoSem.ClaimJoined
import GoSem.ClaimMapViews
import Derived.JoinedTies
import Derived.KernelRfl
namespace Go.Proofs.Ytekhpogigndlkaa
/- THE CELL 'sum', in the pinned program and in every row, IS THE sha256 OF THE DUMP (.gsa) THAT YtekhpogigndlkaaProg.lean LOADS. Nothing in Lean hashes anything: it is a label: what it is worth is what the hold of that sum in a sandbox is worth. -/
noncomputable def Try.pinned : Pinned := { name := "ytekhpogigndlkaa", sum := "cb6c1ffc492a7375220ae25a5c013ca637a2570df33fd82d059371eb70ca5b56", checked := Try.checked }
namespace Rows
def none {H : Type} : Left H := { results := [], args := [] }

/-- 'cachettelaw08.BufferRuns': WHATEVER THE INPUT: true; the input reads as it did. -/
def bufferRunsSpec : ChangeSpec := { name := "bufferRuns", fn := fun _ => fun
  | [d1, d2, d3] => { results := [.lit (.bool true)], args := [d1, d2, d3] }
  | _ => none }
def bufferRunsRow : OpenClaim := { program := "ytekhpogigndlkaa", sum := "cb6c1ffc492a7375220ae25a5c013ca637a2570df33fd82d059371eb70ca5b56", func := "cachette/cachettelaw08.BufferRuns", spec := "bufferRuns", unfollowed := true, recurses := true, apart := false }
def BufferRunsSaid : Prop := bufferRunsRow.holds Try.pinned (OpenSpec.ofChange bufferRunsSpec)

/-- ITS FALSE NEIGHBOUR: 'it returns false'. Refute it at one input. -/
def bufferRunsWrong : ChangeSpec := { name := "bufferRuns", fn := fun _ => fun
  | [d1, d2, d3] => { results := [.lit (.bool false)], args := [d1, d2, d3] }
  | _ => none }
def BufferRunsWrongFalsely : Prop := bufferRunsRow.holds Try.pinned (OpenSpec.ofChange bufferRunsWrong)

/-- 'cachettelaw08.BufferOnce': WHATEVER THE INPUT: true; the input reads as it did. -/
def bufferOnceSpec : ChangeSpec := { name := "bufferOnce", fn := fun _ => fun
  | [d1, d2] => { results := [.lit (.bool true)], args := [d1, d2] }
  | _ => none }
def bufferOnceRow : OpenClaim := { program := "ytekhpogigndlkaa", sum := "cb6c1ffc492a7375220ae25a5c013ca637a2570df33fd82d059371eb70ca5b56", func := "cachette/cachettelaw08.BufferOnce", spec := "bufferOnce", unfollowed := true, recurses := true, apart := false }
def BufferOnceSaid : Prop := bufferOnceRow.holds Try.pinned (OpenSpec.ofChange bufferOnceSpec)

/-- ITS FALSE NEIGHBOUR: 'it returns false'. Refute it at one input. -/
def bufferOnceWrong : ChangeSpec := { name := "bufferOnce", fn := fun _ => fun
  | [d1, d2] => { results := [.lit (.bool false)], args := [d1, d2] }
  | _ => none }
def BufferOnceWrongFalsely : Prop := bufferOnceRow.holds Try.pinned (OpenSpec.ofChange bufferOnceWrong)

/-- 'cachettelaw08.BufferPlays': WHATEVER THE INPUT: true; the input reads as it did. -/
def bufferPlaysSpec : ChangeSpec := { name := "bufferPlays", fn := fun _ => fun
  | [d1, d2] => { results := [.lit (.bool true)], args := [d1, d2] }
  | _ => none }
def bufferPlaysRow : OpenClaim := { program := "ytekhpogigndlkaa", sum := "cb6c1ffc492a7375220ae25a5c013ca637a2570df33fd82d059371eb70ca5b56", func := "cachette/cachettelaw08.BufferPlays", spec := "bufferPlays", unfollowed := true, recurses := true, apart := false }
def BufferPlaysSaid : Prop := bufferPlaysRow.holds Try.pinned (OpenSpec.ofChange bufferPlaysSpec)

/-- ITS FALSE NEIGHBOUR: 'it returns false'. Refute it at one input. -/
def bufferPlaysWrong : ChangeSpec := { name := "bufferPlays", fn := fun _ => fun
  | [d1, d2] => { results := [.lit (.bool false)], args := [d1, d2] }
  | _ => none }
def BufferPlaysWrongFalsely : Prop := bufferPlaysRow.holds Try.pinned (OpenSpec.ofChange bufferPlaysWrong)

/-- 'cachettelaw08.BufferFull': WHATEVER THE INPUT: true; the input reads as it did. -/
def bufferFullSpec : ChangeSpec := { name := "bufferFull", fn := fun _ => fun
  | [d1, d2] => { results := [.lit (.bool true)], args := [d1, d2] }
  | _ => none }
def bufferFullRow : OpenClaim := { program := "ytekhpogigndlkaa", sum := "cb6c1ffc492a7375220ae25a5c013ca637a2570df33fd82d059371eb70ca5b56", func := "cachette/cachettelaw08.BufferFull", spec := "bufferFull", unfollowed := true, recurses := true, apart := false }
def BufferFullSaid : Prop := bufferFullRow.holds Try.pinned (OpenSpec.ofChange bufferFullSpec)

/-- ITS FALSE NEIGHBOUR: 'it returns false'. Refute it at one input. -/
def bufferFullWrong : ChangeSpec := { name := "bufferFull", fn := fun _ => fun
  | [d1, d2] => { results := [.lit (.bool false)], args := [d1, d2] }
  | _ => none }
def BufferFullWrongFalsely : Prop := bufferFullRow.holds Try.pinned (OpenSpec.ofChange bufferFullWrong)

/- THE SECOND FORM. 'bulk': how many values and letters a reading holds, each counted each time it is reached (what is shared counts as often as it is met; a slice's spare places count too). A statement '..UptoSaid' is the law's where the arguments, and the package variables that the reading takes, are together of bulk at most 1048576: NARROWER than '..Said'. Prove '..Said' where nothing that the law and all that it calls make is longer than what came in: it says more and counts as full. Else prove '..UptoSaid'. A law counts once. -/
mutual
def uptoBulk {H : Type} : DataW H → Nat
  | .lit (.string bytes) => bytes.length + 1
  | .lit _ => 1
  | .nil => 1
  | .ptr d => uptoBulk d + 1
  | .slice elems spare => uptoBulkAll elems + uptoBulkAll spare + 1
  | .agg parts => uptoBulkAll parts + 1
  | .iface _ d => uptoBulk d + 1
  | .map entries => uptoBulkEntries entries + 1
  | .held _ => 1
def uptoBulkAll {H : Type} : List (DataW H) → Nat
  | [] => 0
  | d :: r => uptoBulk d + uptoBulkAll r
def uptoBulkEntries {H : Type} : List (Lit × DataW H) → Nat
  | [] => 0
  | x :: r => uptoBulkEntry x + uptoBulkEntries r
def uptoBulkEntry {H : Type} : Lit × DataW H → Nat
  | (.string bytes, d) => bytes.length + uptoBulk d + 1
  | (_, d) => uptoBulk d + 1
 end
def uptoSmall : (H : Type) → List (DataW H) → Bool := fun _ ds => decide (uptoBulkAll ds ≤ 1048576)
def OpenSpec.upto (s : _root_.Go.ChangeSpec) : _root_.Go.OpenSpec := { _root_.Go.OpenSpec.ofChange s with cond := some uptoSmall }

/-- 'cachettelaw08.BufferRuns', WHERE WHAT IT READS IS OF BULK AT MOST 1048576: true; the input reads as it did. -/
def bufferRunsUptoRow : OpenClaim := { program := "ytekhpogigndlkaa", sum := "cb6c1ffc492a7375220ae25a5c013ca637a2570df33fd82d059371eb70ca5b56", func := "cachette/cachettelaw08.BufferRuns", spec := "bufferRuns", unfollowed := true, recurses := true, apart := false, narrowed := true }
def BufferRunsUptoSaid : Prop := bufferRunsUptoRow.holds Try.pinned (OpenSpec.upto bufferRunsSpec)

/-- 'cachettelaw08.BufferOnce', WHERE WHAT IT READS IS OF BULK AT MOST 1048576: true; the input reads as it did. -/
def bufferOnceUptoRow : OpenClaim := { program := "ytekhpogigndlkaa", sum := "cb6c1ffc492a7375220ae25a5c013ca637a2570df33fd82d059371eb70ca5b56", func := "cachette/cachettelaw08.BufferOnce", spec := "bufferOnce", unfollowed := true, recurses := true, apart := false, narrowed := true }
def BufferOnceUptoSaid : Prop := bufferOnceUptoRow.holds Try.pinned (OpenSpec.upto bufferOnceSpec)

/-- 'cachettelaw08.BufferPlays', WHERE WHAT IT READS IS OF BULK AT MOST 1048576: true; the input reads as it did. -/
def bufferPlaysUptoRow : OpenClaim := { program := "ytekhpogigndlkaa", sum := "cb6c1ffc492a7375220ae25a5c013ca637a2570df33fd82d059371eb70ca5b56", func := "cachette/cachettelaw08.BufferPlays", spec := "bufferPlays", unfollowed := true, recurses := true, apart := false, narrowed := true }
def BufferPlaysUptoSaid : Prop := bufferPlaysUptoRow.holds Try.pinned (OpenSpec.upto bufferPlaysSpec)

/-- 'cachettelaw08.BufferFull', WHERE WHAT IT READS IS OF BULK AT MOST 1048576: true; the input reads as it did. -/
def bufferFullUptoRow : OpenClaim := { program := "ytekhpogigndlkaa", sum := "cb6c1ffc492a7375220ae25a5c013ca637a2570df33fd82d059371eb70ca5b56", func := "cachette/cachettelaw08.BufferFull", spec := "bufferFull", unfollowed := true, recurses := true, apart := false, narrowed := true }
def BufferFullUptoSaid : Prop := bufferFullUptoRow.holds Try.pinned (OpenSpec.upto bufferFullSpec)

end Rows
end Go.Proofs.Ytekhpogigndlkaa
