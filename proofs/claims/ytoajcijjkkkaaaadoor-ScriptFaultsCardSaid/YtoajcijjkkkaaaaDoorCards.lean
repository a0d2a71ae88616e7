/-
  DERIVED. GIVEN WITH THE SEED: THE CARDS: each row of YtoajcijjkkkaaaaDoorRows.lean that lists a variable, with what it lists TIED to the program's text (the seventh form; the later family's looks); each row that meets fmt, with fmt's text TOLD by the authors' own Lean function (tested against real Go, not proved from fmt's source: count such statements apart). THE CARD IS WHAT COUNTS. Prove the row's statement (the work); the ties are given (YtoajcijjkkkaaaaDoorTie.lean); close each card by the builder's one call (the guide's Derived/Test/ToyasCard.lean, 'card_holds'). Laid BY PROGRAM, IN A SANDBOX (cutbox-door.mjs). By AI agents, Wed Nov 11 2026. No macro, syntax, notation, axiom, sorry.
-/
import Derived.Test.YtoajcijjkkkaaaaDoorRows
import GoSem.ClaimSeven
namespace Go.Proofs.YtoajcijjkkkaaaaDoor
namespace Rows

/-- THE TIED CARD OF 'cachettelaw28.ScriptQuotes'. -/
def scriptQuotesCard : Claim7 := { stood := { row := scriptQuotesRow, standIns := [], harness := (true, "3fce4e0fb59a6f22bf24d0f04545703602956eafaf5ec6600238f5444c9082fb"), looks := true }, kinds := [], alts := [], laidByText := true, laidKinds := [.data, .data, .data, .sentinel, .sentinel, .listed, .data], laidTests := true, laidLooks := .later }
def ScriptQuotesCardSaid : Prop := Claim7.holds Tryd.pinned (.plain (OpenSpec.ofChange scriptQuotesSpec)) scriptQuotesCard

/-- THE TIED CARD OF 'cachettelaw28.ScriptFaults'. -/
def scriptFaultsCard : Claim7 := { stood := { row := scriptFaultsRow, standIns := [], harness := (true, "3fce4e0fb59a6f22bf24d0f04545703602956eafaf5ec6600238f5444c9082fb"), looks := true }, kinds := [], alts := [], laidByText := true, laidKinds := [.data, .data, .data, .data, .sentinel, .sentinel, .listed, .data, .pinned], laidTests := true, laidLooks := .later }
def ScriptFaultsCardSaid : Prop := Claim7.holds Tryd.pinned (.plain (OpenSpec.ofChange scriptFaultsSpec)) scriptFaultsCard

/-- THE SECOND FORM's CARD OF 'cachettelaw28.ScriptQuotes'. -/
def scriptQuotesUptoCard : Claim7 := { stood := { row := scriptQuotesUptoRow, standIns := [], harness := (true, "3fce4e0fb59a6f22bf24d0f04545703602956eafaf5ec6600238f5444c9082fb"), looks := true }, kinds := [], alts := [], laidByText := true, laidKinds := [.data, .data, .data, .sentinel, .sentinel, .listed, .data], laidTests := true, laidLooks := .later }
def ScriptQuotesUptoCardSaid : Prop := Claim7.holds Tryd.pinned (.plain (OpenSpec.upto scriptQuotesSpec)) scriptQuotesUptoCard

/-- THE SECOND FORM's CARD OF 'cachettelaw28.ScriptFaults'. -/
def scriptFaultsUptoCard : Claim7 := { stood := { row := scriptFaultsUptoRow, standIns := [], harness := (true, "3fce4e0fb59a6f22bf24d0f04545703602956eafaf5ec6600238f5444c9082fb"), looks := true }, kinds := [], alts := [], laidByText := true, laidKinds := [.data, .data, .data, .data, .sentinel, .sentinel, .listed, .data, .pinned], laidTests := true, laidLooks := .later }
def ScriptFaultsUptoCardSaid : Prop := Claim7.holds Tryd.pinned (.plain (OpenSpec.upto scriptFaultsSpec)) scriptFaultsUptoCard
end Rows
end Go.Proofs.YtoajcijjkkkaaaaDoor
