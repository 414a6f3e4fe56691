/-
  DERIVED. GIVEN WITH THE SEED: THE CARDS: each row of YtckocfgmnlhcmaaGreatDoorRows.lean that lists a variable, with what it lists TIED to the program's text (the seventh form; the later family's looks); each row that meets fmt, with fmt's text TOLD by the authors' own Lean function (tested against real Go, not proved from fmt's source: count such statements apart). THE CARD IS WHAT COUNTS. Prove the row's statement (the work); the ties are given (YtckocfgmnlhcmaaGreatDoorTie.lean); close each card by the builder's one call (the guide's Derived/Test/ToyasCard.lean, 'card_holds'). Laid BY PROGRAM, IN A SANDBOX (cutbox-door.mjs). By AI agents, Wed Nov 11 2026. No macro, syntax, notation, axiom, sorry.
-/
import Derived.Test.YtckocfgmnlhcmaaGreatDoorRows
import GoSem.ClaimSeven
namespace Go.Proofs.YtckocfgmnlhcmaaGreatDoor
namespace Rows

/-- THE TIED CARD OF 'wandererlaw.WordsSay'. -/
def wordsSayCard : Claim7 := { stood := { row := wordsSayRow, standIns := [], harness := (true, "63f81e895f5793d2759e3a079f340c189bfd080579f1c1f985eaf8d3867be86e"), looks := true }, kinds := [], alts := [], laidByText := true, laidKinds := [.data, .data, .data, .data, .sentinel, .sentinel, .listed, .data, .pinned], laidTests := true, laidLooks := .later }
def WordsSayCardSaid : Prop := Claim7.holds Tryz.pinned (.plain (OpenSpec.ofChange wordsSaySpec)) wordsSayCard

/-- THE TIED CARD OF 'wandererlaw.CodeSays'. -/
def codeSaysCard : Claim7 := { stood := { row := codeSaysRow, standIns := [], harness := (true, "63f81e895f5793d2759e3a079f340c189bfd080579f1c1f985eaf8d3867be86e"), looks := true }, kinds := [], alts := [], laidByText := true, laidKinds := [.data, .data, .data, .data, .sentinel, .sentinel, .pinned], laidTests := true, laidLooks := .later }
def CodeSaysCardSaid : Prop := Claim7.holds Tryz.pinned (.plain (OpenSpec.ofChange codeSaysSpec)) codeSaysCard

/-- THE SECOND FORM's CARD OF 'wandererlaw.WordsSay'. -/
def wordsSayUptoCard : Claim7 := { stood := { row := wordsSayUptoRow, standIns := [], harness := (true, "63f81e895f5793d2759e3a079f340c189bfd080579f1c1f985eaf8d3867be86e"), looks := true }, kinds := [], alts := [], laidByText := true, laidKinds := [.data, .data, .data, .data, .sentinel, .sentinel, .listed, .data, .pinned], laidTests := true, laidLooks := .later }
def WordsSayUptoCardSaid : Prop := Claim7.holds Tryz.pinned (.plain (OpenSpec.upto wordsSaySpec)) wordsSayUptoCard

/-- THE SECOND FORM's CARD OF 'wandererlaw.CodeSays'. -/
def codeSaysUptoCard : Claim7 := { stood := { row := codeSaysUptoRow, standIns := [], harness := (true, "63f81e895f5793d2759e3a079f340c189bfd080579f1c1f985eaf8d3867be86e"), looks := true }, kinds := [], alts := [], laidByText := true, laidKinds := [.data, .data, .data, .data, .sentinel, .sentinel, .pinned], laidTests := true, laidLooks := .later }
def CodeSaysUptoCardSaid : Prop := Claim7.holds Tryz.pinned (.plain (OpenSpec.upto codeSaysSpec)) codeSaysUptoCard
end Rows
end Go.Proofs.YtckocfgmnlhcmaaGreatDoor
