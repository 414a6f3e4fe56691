/-
  DERIVED. GIVEN WITH THE SEED: THE CARDS: each row of YtcbdckebgjdlhaaGreatDoorRows.lean that lists a variable, with what it lists TIED to the program's text (the seventh form; the later family's looks); each row that meets fmt, with fmt's text TOLD by the authors' own Lean function (tested against real Go, not proved from fmt's source: count such statements apart). THE CARD IS WHAT COUNTS. Prove the row's statement (the work); the ties are given (YtcbdckebgjdlhaaGreatDoorTie.lean); close each card by the builder's one call (the guide's Derived/Test/ToyasCard.lean, 'card_holds'). Laid BY PROGRAM, IN A SANDBOX (cutbox-door.mjs). By AI agents, Wed Nov 11 2026. No macro, syntax, notation, axiom, sorry.
-/
import Derived.Test.YtcbdckebgjdlhaaGreatDoorRows
import GoSem.ClaimSeven
namespace Go.Proofs.YtcbdckebgjdlhaaGreatDoor
namespace Rows

/-- THE TIED CARD OF 'wandererlaw.CodeMeans'. -/
def codeMeansCard : Claim7 := { stood := { row := codeMeansRow, standIns := [], harness := (true, "1bc5bf044843dfda0a8c5833bb67e73aa5d36eae9be5656e14e87328a0e41a09"), looks := true }, kinds := [], alts := [], laidByText := true, laidKinds := [.data, .data, .data, .data, .sentinel, .sentinel, .listed, .data, .pinned], laidTests := true, laidLooks := .later }
def CodeMeansCardSaid : Prop := Claim7.holds Tryz.pinned (.plain (OpenSpec.ofChange codeMeansSpec)) codeMeansCard

/-- THE SECOND FORM's CARD OF 'wandererlaw.CodeMeans'. -/
def codeMeansUptoCard : Claim7 := { stood := { row := codeMeansUptoRow, standIns := [], harness := (true, "1bc5bf044843dfda0a8c5833bb67e73aa5d36eae9be5656e14e87328a0e41a09"), looks := true }, kinds := [], alts := [], laidByText := true, laidKinds := [.data, .data, .data, .data, .sentinel, .sentinel, .listed, .data, .pinned], laidTests := true, laidLooks := .later }
def CodeMeansUptoCardSaid : Prop := Claim7.holds Tryz.pinned (.plain (OpenSpec.upto codeMeansSpec)) codeMeansUptoCard
end Rows
end Go.Proofs.YtcbdckebgjdlhaaGreatDoor
