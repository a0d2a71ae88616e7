/-
  No cell of these rows narrows 'for every input' (looked for: loops, veiled, ifaces, maps, wideKeys, modest, calm, conditions, laid).
  DERIVED. THE GIVEN ROWS OF THIS SEAT. 10 by the template 'for every input the law returns true; each argument reads behind the call as it read before'; 0 by the template 'total and deterministic' (their statements: YtnmidmcmbehkbaaTotals.lean).
  GIVEN WITH THE SEED: the statements are not yours to turn. If you find one false, say at which input.
  Laid BY PROGRAM, IN A SANDBOX (cutbox-rows.mjs): the forced cells as the released guide's own fill.sh prints them over the translation a3e48230dc1c3b4f… (all of the seat's roots in one cut). By AI agents, Wed Nov 11 2026. No macro, syntax, notation, axiom, sorry.
-/
import Derived.Test.YtnmidmcmbehkbaaChecked
import GoSem.Claim
import GoSem.ClaimJoined
import GoSem.ClaimMapViews
import Derived.JoinedTies
import Derived.KernelRfl
namespace Go.Proofs.Ytnmidmcmbehkbaa
/- THE CELL 'sum', in the pinned program and in every row, IS THE sha256 OF THE DUMP (.gsa) THAT YtnmidmcmbehkbaaProg.lean LOADS. Nothing in Lean hashes anything: it is a label: what it is worth is what the hold of that sum in a sandbox is worth. -/
noncomputable def Try.pinned : Pinned := { name := "ytnmidmcmbehkbaa", sum := "a3e48230dc1c3b4f392c2b62afd62baf23edcb0e59b376bcfd1ddca734bfa4d9", checked := Try.checked }
namespace Rows
def none {H : Type} : Left H := { results := [], args := [] }

/-- 'cachettelaw02.BucketClasses': WHATEVER THE INPUT: true; the input reads as it did. -/
def bucketClassesSpec : ChangeSpec := { name := "bucketClasses", fn := fun _ => fun
  | [d1, d2] => { results := [.lit (.bool true)], args := [d1, d2] }
  | _ => none }
def bucketClassesRow : OpenClaim := { program := "ytnmidmcmbehkbaa", sum := "a3e48230dc1c3b4f392c2b62afd62baf23edcb0e59b376bcfd1ddca734bfa4d9", func := "cachette/cachettelaw02.BucketClasses", spec := "bucketClasses", recurses := true, apart := false }
def BucketClassesSaid : Prop := bucketClassesRow.holds Try.pinned (OpenSpec.ofChange bucketClassesSpec)

/-- ITS FALSE NEIGHBOUR: 'it returns false'. Refute it at one input. -/
def bucketClassesWrong : ChangeSpec := { name := "bucketClasses", fn := fun _ => fun
  | [d1, d2] => { results := [.lit (.bool false)], args := [d1, d2] }
  | _ => none }
def BucketClassesWrongFalsely : Prop := bucketClassesRow.holds Try.pinned (OpenSpec.ofChange bucketClassesWrong)

/-- 'cachettelaw02.BucketRises': WHATEVER THE INPUT: true; the input reads as it did. -/
def bucketRisesSpec : ChangeSpec := { name := "bucketRises", fn := fun _ => fun
  | [d1, d2] => { results := [.lit (.bool true)], args := [d1, d2] }
  | _ => none }
def bucketRisesRow : OpenClaim := { program := "ytnmidmcmbehkbaa", sum := "a3e48230dc1c3b4f392c2b62afd62baf23edcb0e59b376bcfd1ddca734bfa4d9", func := "cachette/cachettelaw02.BucketRises", spec := "bucketRises", apart := false }
def BucketRisesSaid : Prop := bucketRisesRow.holds Try.pinned (OpenSpec.ofChange bucketRisesSpec)

/-- ITS FALSE NEIGHBOUR: 'it returns false'. Refute it at one input. -/
def bucketRisesWrong : ChangeSpec := { name := "bucketRises", fn := fun _ => fun
  | [d1, d2] => { results := [.lit (.bool false)], args := [d1, d2] }
  | _ => none }
def BucketRisesWrongFalsely : Prop := bucketRisesRow.holds Try.pinned (OpenSpec.ofChange bucketRisesWrong)

/-- 'cachettelaw02.BucketAlike': WHATEVER THE INPUT: true; the input reads as it did. -/
def bucketAlikeSpec : ChangeSpec := { name := "bucketAlike", fn := fun _ => fun
  | [d1, d2] => { results := [.lit (.bool true)], args := [d1, d2] }
  | _ => none }
def bucketAlikeRow : OpenClaim := { program := "ytnmidmcmbehkbaa", sum := "a3e48230dc1c3b4f392c2b62afd62baf23edcb0e59b376bcfd1ddca734bfa4d9", func := "cachette/cachettelaw02.BucketAlike", spec := "bucketAlike", apart := false }
def BucketAlikeSaid : Prop := bucketAlikeRow.holds Try.pinned (OpenSpec.ofChange bucketAlikeSpec)

/-- ITS FALSE NEIGHBOUR: 'it returns false'. Refute it at one input. -/
def bucketAlikeWrong : ChangeSpec := { name := "bucketAlike", fn := fun _ => fun
  | [d1, d2] => { results := [.lit (.bool false)], args := [d1, d2] }
  | _ => none }
def BucketAlikeWrongFalsely : Prop := bucketAlikeRow.holds Try.pinned (OpenSpec.ofChange bucketAlikeWrong)

/-- 'cachettelaw01.WireForms': WHATEVER THE INPUT: true; the input reads as it did. -/
def wireFormsSpec : ChangeSpec := { name := "wireForms", fn := fun _ => fun
  | [d1, d2, d3, d4, d5] => { results := [.lit (.bool true)], args := [d1, d2, d3, d4, d5] }
  | _ => none }
def wireFormsRow : OpenClaim := { program := "ytnmidmcmbehkbaa", sum := "a3e48230dc1c3b4f392c2b62afd62baf23edcb0e59b376bcfd1ddca734bfa4d9", func := "cachette/cachettelaw01.WireForms", spec := "wireForms", recurses := true, apart := false }
def WireFormsSaid : Prop := wireFormsRow.holds Try.pinned (OpenSpec.ofChange wireFormsSpec)

/-- ITS FALSE NEIGHBOUR: 'it returns false'. Refute it at one input. -/
def wireFormsWrong : ChangeSpec := { name := "wireForms", fn := fun _ => fun
  | [d1, d2, d3, d4, d5] => { results := [.lit (.bool false)], args := [d1, d2, d3, d4, d5] }
  | _ => none }
def WireFormsWrongFalsely : Prop := wireFormsRow.holds Try.pinned (OpenSpec.ofChange wireFormsWrong)

/-- 'cachettelaw01.WireOne': WHATEVER THE INPUT: true; the input reads as it did. -/
def wireOneSpec : ChangeSpec := { name := "wireOne", fn := fun _ => fun
  | [d] => { results := [.lit (.bool true)], args := [d] }
  | _ => none }
def wireOneRow : OpenClaim := { program := "ytnmidmcmbehkbaa", sum := "a3e48230dc1c3b4f392c2b62afd62baf23edcb0e59b376bcfd1ddca734bfa4d9", func := "cachette/cachettelaw01.WireOne", spec := "wireOne", apart := false }
def WireOneSaid : Prop := wireOneRow.holds Try.pinned (OpenSpec.ofChange wireOneSpec)

/-- ITS FALSE NEIGHBOUR: 'it returns false'. Refute it at one input. -/
def wireOneWrong : ChangeSpec := { name := "wireOne", fn := fun _ => fun
  | [d] => { results := [.lit (.bool false)], args := [d] }
  | _ => none }
def WireOneWrongFalsely : Prop := wireOneRow.holds Try.pinned (OpenSpec.ofChange wireOneWrong)

/-- 'cachettelaw01.WireReads': WHATEVER THE INPUT: true; the input reads as it did. -/
def wireReadsSpec : ChangeSpec := { name := "wireReads", fn := fun _ => fun
  | [d1, d2] => { results := [.lit (.bool true)], args := [d1, d2] }
  | _ => none }
def wireReadsRow : OpenClaim := { program := "ytnmidmcmbehkbaa", sum := "a3e48230dc1c3b4f392c2b62afd62baf23edcb0e59b376bcfd1ddca734bfa4d9", func := "cachette/cachettelaw01.WireReads", spec := "wireReads", apart := false }
def WireReadsSaid : Prop := wireReadsRow.holds Try.pinned (OpenSpec.ofChange wireReadsSpec)

/-- ITS FALSE NEIGHBOUR: 'it returns false'. Refute it at one input. -/
def wireReadsWrong : ChangeSpec := { name := "wireReads", fn := fun _ => fun
  | [d1, d2] => { results := [.lit (.bool false)], args := [d1, d2] }
  | _ => none }
def WireReadsWrongFalsely : Prop := wireReadsRow.holds Try.pinned (OpenSpec.ofChange wireReadsWrong)

/-- 'cachettelaw01.WireStays': WHATEVER THE INPUT: true; the input reads as it did. -/
def wireStaysSpec : ChangeSpec := { name := "wireStays", fn := fun _ => fun
  | [d1, d2] => { results := [.lit (.bool true)], args := [d1, d2] }
  | _ => none }
def wireStaysRow : OpenClaim := { program := "ytnmidmcmbehkbaa", sum := "a3e48230dc1c3b4f392c2b62afd62baf23edcb0e59b376bcfd1ddca734bfa4d9", func := "cachette/cachettelaw01.WireStays", spec := "wireStays", apart := false }
def WireStaysSaid : Prop := wireStaysRow.holds Try.pinned (OpenSpec.ofChange wireStaysSpec)

/-- ITS FALSE NEIGHBOUR: 'it returns false'. Refute it at one input. -/
def wireStaysWrong : ChangeSpec := { name := "wireStays", fn := fun _ => fun
  | [d1, d2] => { results := [.lit (.bool false)], args := [d1, d2] }
  | _ => none }
def WireStaysWrongFalsely : Prop := wireStaysRow.holds Try.pinned (OpenSpec.ofChange wireStaysWrong)

/-- 'cachettelaw01.WireBack': WHATEVER THE INPUT: true; the input reads as it did. -/
def wireBackSpec : ChangeSpec := { name := "wireBack", fn := fun _ => fun
  | [d1, d2, d3, d4, d5] => { results := [.lit (.bool true)], args := [d1, d2, d3, d4, d5] }
  | _ => none }
def wireBackRow : OpenClaim := { program := "ytnmidmcmbehkbaa", sum := "a3e48230dc1c3b4f392c2b62afd62baf23edcb0e59b376bcfd1ddca734bfa4d9", func := "cachette/cachettelaw01.WireBack", spec := "wireBack", apart := false }
def WireBackSaid : Prop := wireBackRow.holds Try.pinned (OpenSpec.ofChange wireBackSpec)

/-- ITS FALSE NEIGHBOUR: 'it returns false'. Refute it at one input. -/
def wireBackWrong : ChangeSpec := { name := "wireBack", fn := fun _ => fun
  | [d1, d2, d3, d4, d5] => { results := [.lit (.bool false)], args := [d1, d2, d3, d4, d5] }
  | _ => none }
def WireBackWrongFalsely : Prop := wireBackRow.holds Try.pinned (OpenSpec.ofChange wireBackWrong)

/-- 'cachettelaw02.BucketPads': WHATEVER THE INPUT: true; the input reads as it did. -/
def bucketPadsSpec : ChangeSpec := { name := "bucketPads", fn := fun _ => fun
  | [d1, d2] => { results := [.lit (.bool true)], args := [d1, d2] }
  | _ => none }
def bucketPadsRow : OpenClaim := { program := "ytnmidmcmbehkbaa", sum := "a3e48230dc1c3b4f392c2b62afd62baf23edcb0e59b376bcfd1ddca734bfa4d9", func := "cachette/cachettelaw02.BucketPads", spec := "bucketPads", recurses := true, apart := false }
def BucketPadsSaid : Prop := bucketPadsRow.holds Try.pinned (OpenSpec.ofChange bucketPadsSpec)

/-- ITS FALSE NEIGHBOUR: 'it returns false'. Refute it at one input. -/
def bucketPadsWrong : ChangeSpec := { name := "bucketPads", fn := fun _ => fun
  | [d1, d2] => { results := [.lit (.bool false)], args := [d1, d2] }
  | _ => none }
def BucketPadsWrongFalsely : Prop := bucketPadsRow.holds Try.pinned (OpenSpec.ofChange bucketPadsWrong)

/-- 'cachettelaw02.BucketBack': WHATEVER THE INPUT: true; the input reads as it did. -/
def bucketBackSpec : ChangeSpec := { name := "bucketBack", fn := fun _ => fun
  | [d1, d2] => { results := [.lit (.bool true)], args := [d1, d2] }
  | _ => none }
def bucketBackRow : OpenClaim := { program := "ytnmidmcmbehkbaa", sum := "a3e48230dc1c3b4f392c2b62afd62baf23edcb0e59b376bcfd1ddca734bfa4d9", func := "cachette/cachettelaw02.BucketBack", spec := "bucketBack", apart := false }
def BucketBackSaid : Prop := bucketBackRow.holds Try.pinned (OpenSpec.ofChange bucketBackSpec)

/-- ITS FALSE NEIGHBOUR: 'it returns false'. Refute it at one input. -/
def bucketBackWrong : ChangeSpec := { name := "bucketBack", fn := fun _ => fun
  | [d1, d2] => { results := [.lit (.bool false)], args := [d1, d2] }
  | _ => none }
def BucketBackWrongFalsely : Prop := bucketBackRow.holds Try.pinned (OpenSpec.ofChange bucketBackWrong)

/- THE SECOND FORM. 'bulk': how many values and letters a reading holds, each counted each time it is reached (what is shared counts as often as it is met; a slice's spare places count too). A statement '..UptoSaid' is the law's where the arguments, and the package variables that the reading takes, are together of bulk at most 1048576: NARROWER than '..Said'. Prove '..Said' where nothing that the law and all that it calls make is longer than what came in: it says more and counts as full. Else prove '..UptoSaid'. A law counts once. -/
mutual
def uptoBulk {H : Type} : DataW H → Nat
  | .lit (.string bytes) => bytes.length + 1
  | .lit _ => 1
  | .nil => 1
  | .ptr d => uptoBulk d + 1
  | .slice elems spare => uptoBulkAll elems + uptoBulkAll spare + 1
  | .agg parts => uptoBulkAll parts + 1
  | .iface _ d => uptoBulk d + 1
  | .map entries => uptoBulkEntries entries + 1
  | .held _ => 1
def uptoBulkAll {H : Type} : List (DataW H) → Nat
  | [] => 0
  | d :: r => uptoBulk d + uptoBulkAll r
def uptoBulkEntries {H : Type} : List (Lit × DataW H) → Nat
  | [] => 0
  | x :: r => uptoBulkEntry x + uptoBulkEntries r
def uptoBulkEntry {H : Type} : Lit × DataW H → Nat
  | (.string bytes, d) => bytes.length + uptoBulk d + 1
  | (_, d) => uptoBulk d + 1
 end
def uptoSmall : (H : Type) → List (DataW H) → Bool := fun _ ds => decide (uptoBulkAll ds ≤ 1048576)
def OpenSpec.upto (s : _root_.Go.ChangeSpec) : _root_.Go.OpenSpec := { _root_.Go.OpenSpec.ofChange s with cond := some uptoSmall }

/-- 'cachettelaw02.BucketClasses', WHERE WHAT IT READS IS OF BULK AT MOST 1048576: true; the input reads as it did. -/
def bucketClassesUptoRow : OpenClaim := { program := "ytnmidmcmbehkbaa", sum := "a3e48230dc1c3b4f392c2b62afd62baf23edcb0e59b376bcfd1ddca734bfa4d9", func := "cachette/cachettelaw02.BucketClasses", spec := "bucketClasses", recurses := true, apart := false, narrowed := true }
def BucketClassesUptoSaid : Prop := bucketClassesUptoRow.holds Try.pinned (OpenSpec.upto bucketClassesSpec)

/-- 'cachettelaw02.BucketRises', WHERE WHAT IT READS IS OF BULK AT MOST 1048576: true; the input reads as it did. -/
def bucketRisesUptoRow : OpenClaim := { program := "ytnmidmcmbehkbaa", sum := "a3e48230dc1c3b4f392c2b62afd62baf23edcb0e59b376bcfd1ddca734bfa4d9", func := "cachette/cachettelaw02.BucketRises", spec := "bucketRises", apart := false, narrowed := true }
def BucketRisesUptoSaid : Prop := bucketRisesUptoRow.holds Try.pinned (OpenSpec.upto bucketRisesSpec)

/-- 'cachettelaw02.BucketAlike', WHERE WHAT IT READS IS OF BULK AT MOST 1048576: true; the input reads as it did. -/
def bucketAlikeUptoRow : OpenClaim := { program := "ytnmidmcmbehkbaa", sum := "a3e48230dc1c3b4f392c2b62afd62baf23edcb0e59b376bcfd1ddca734bfa4d9", func := "cachette/cachettelaw02.BucketAlike", spec := "bucketAlike", apart := false, narrowed := true }
def BucketAlikeUptoSaid : Prop := bucketAlikeUptoRow.holds Try.pinned (OpenSpec.upto bucketAlikeSpec)

/-- 'cachettelaw01.WireForms', WHERE WHAT IT READS IS OF BULK AT MOST 1048576: true; the input reads as it did. -/
def wireFormsUptoRow : OpenClaim := { program := "ytnmidmcmbehkbaa", sum := "a3e48230dc1c3b4f392c2b62afd62baf23edcb0e59b376bcfd1ddca734bfa4d9", func := "cachette/cachettelaw01.WireForms", spec := "wireForms", recurses := true, apart := false, narrowed := true }
def WireFormsUptoSaid : Prop := wireFormsUptoRow.holds Try.pinned (OpenSpec.upto wireFormsSpec)

/-- 'cachettelaw01.WireOne', WHERE WHAT IT READS IS OF BULK AT MOST 1048576: true; the input reads as it did. -/
def wireOneUptoRow : OpenClaim := { program := "ytnmidmcmbehkbaa", sum := "a3e48230dc1c3b4f392c2b62afd62baf23edcb0e59b376bcfd1ddca734bfa4d9", func := "cachette/cachettelaw01.WireOne", spec := "wireOne", apart := false, narrowed := true }
def WireOneUptoSaid : Prop := wireOneUptoRow.holds Try.pinned (OpenSpec.upto wireOneSpec)

/-- 'cachettelaw01.WireReads', WHERE WHAT IT READS IS OF BULK AT MOST 1048576: true; the input reads as it did. -/
def wireReadsUptoRow : OpenClaim := { program := "ytnmidmcmbehkbaa", sum := "a3e48230dc1c3b4f392c2b62afd62baf23edcb0e59b376bcfd1ddca734bfa4d9", func := "cachette/cachettelaw01.WireReads", spec := "wireReads", apart := false, narrowed := true }
def WireReadsUptoSaid : Prop := wireReadsUptoRow.holds Try.pinned (OpenSpec.upto wireReadsSpec)

/-- 'cachettelaw01.WireStays', WHERE WHAT IT READS IS OF BULK AT MOST 1048576: true; the input reads as it did. -/
def wireStaysUptoRow : OpenClaim := { program := "ytnmidmcmbehkbaa", sum := "a3e48230dc1c3b4f392c2b62afd62baf23edcb0e59b376bcfd1ddca734bfa4d9", func := "cachette/cachettelaw01.WireStays", spec := "wireStays", apart := false, narrowed := true }
def WireStaysUptoSaid : Prop := wireStaysUptoRow.holds Try.pinned (OpenSpec.upto wireStaysSpec)

/-- 'cachettelaw01.WireBack', WHERE WHAT IT READS IS OF BULK AT MOST 1048576: true; the input reads as it did. -/
def wireBackUptoRow : OpenClaim := { program := "ytnmidmcmbehkbaa", sum := "a3e48230dc1c3b4f392c2b62afd62baf23edcb0e59b376bcfd1ddca734bfa4d9", func := "cachette/cachettelaw01.WireBack", spec := "wireBack", apart := false, narrowed := true }
def WireBackUptoSaid : Prop := wireBackUptoRow.holds Try.pinned (OpenSpec.upto wireBackSpec)

/-- 'cachettelaw02.BucketPads', WHERE WHAT IT READS IS OF BULK AT MOST 1048576: true; the input reads as it did. -/
def bucketPadsUptoRow : OpenClaim := { program := "ytnmidmcmbehkbaa", sum := "a3e48230dc1c3b4f392c2b62afd62baf23edcb0e59b376bcfd1ddca734bfa4d9", func := "cachette/cachettelaw02.BucketPads", spec := "bucketPads", recurses := true, apart := false, narrowed := true }
def BucketPadsUptoSaid : Prop := bucketPadsUptoRow.holds Try.pinned (OpenSpec.upto bucketPadsSpec)

/-- 'cachettelaw02.BucketBack', WHERE WHAT IT READS IS OF BULK AT MOST 1048576: true; the input reads as it did. -/
def bucketBackUptoRow : OpenClaim := { program := "ytnmidmcmbehkbaa", sum := "a3e48230dc1c3b4f392c2b62afd62baf23edcb0e59b376bcfd1ddca734bfa4d9", func := "cachette/cachettelaw02.BucketBack", spec := "bucketBack", apart := false, narrowed := true }
def BucketBackUptoSaid : Prop := bucketBackUptoRow.holds Try.pinned (OpenSpec.upto bucketBackSpec)

end Rows
end Go.Proofs.Ytnmidmcmbehkbaa
