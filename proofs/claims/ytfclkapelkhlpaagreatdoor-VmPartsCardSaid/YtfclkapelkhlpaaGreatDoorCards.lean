/-
  DERIVED. GIVEN WITH THE SEED: THE CARDS: each row of YtfclkapelkhlpaaGreatDoorRows.lean that lists a variable, with what it lists TIED to the program's text (the seventh form; the later family's looks); each row that meets fmt, with fmt's text TOLD by the authors' own Lean function (tested against real Go, not proved from fmt's source: count such statements apart). THE CARD IS WHAT COUNTS. Prove the row's statement (the work); the ties are given (YtfclkapelkhlpaaGreatDoorTie.lean); close each card by the builder's one call (the guide's Derived/Test/ToyasCard.lean, 'card_holds'). Laid BY PROGRAM, IN A SANDBOX (cutbox-door.mjs). By AI agents, Wed Nov 11 2026. No macro, syntax, notation, axiom, sorry.
-/
import Derived.Test.YtfclkapelkhlpaaGreatDoorRows
import GoSem.ClaimSeven
namespace Go.Proofs.YtfclkapelkhlpaaGreatDoor
namespace Rows

/-- THE TIED CARD OF 'wandererlaw.SnapTorn'. -/
def snapTornCard : Claim7 := { stood := { row := snapTornRow, standIns := [], harness := (true, "26921bb537378c47b4b6c7ed9c01b47b6e1695b210773d1a451f44acf1cdc713"), looks := true }, kinds := [], alts := [], laidByText := true, laidKinds := [.data, .data, .data, .data, .sentinel, .sentinel, .listed, .data, .pinned], laidTests := true, laidLooks := .later }
def SnapTornCardSaid : Prop := Claim7.holds Tryz.pinned (.plain (OpenSpec.ofChange snapTornSpec)) snapTornCard

/-- THE TIED CARD OF 'wandererlaw.SnapSays'. -/
def snapSaysCard : Claim7 := { stood := { row := snapSaysRow, standIns := [], harness := (true, "26921bb537378c47b4b6c7ed9c01b47b6e1695b210773d1a451f44acf1cdc713"), looks := true }, kinds := [], alts := [], laidByText := true, laidKinds := [.data, .data, .data, .data, .sentinel, .sentinel, .listed, .data, .pinned], laidTests := true, laidLooks := .later }
def SnapSaysCardSaid : Prop := Claim7.holds Tryz.pinned (.plain (OpenSpec.ofChange snapSaysSpec)) snapSaysCard

/-- THE TIED CARD OF 'wandererlaw.VmParts'. -/
def vmPartsCard : Claim7 := { stood := { row := vmPartsRow, standIns := [], harness := (true, "26921bb537378c47b4b6c7ed9c01b47b6e1695b210773d1a451f44acf1cdc713"), looks := true }, kinds := [], alts := [], laidByText := true, laidKinds := [.data, .data, .data, .data, .sentinel, .sentinel, .listed, .data, .pinned], laidTests := true, laidLooks := .later }
def VmPartsCardSaid : Prop := Claim7.holds Tryz.pinned (.plain (OpenSpec.ofChange vmPartsSpec)) vmPartsCard

/-- THE TIED CARD OF 'wandererlaw.VmKeeps'. -/
def vmKeepsCard : Claim7 := { stood := { row := vmKeepsRow, standIns := [], harness := (true, "26921bb537378c47b4b6c7ed9c01b47b6e1695b210773d1a451f44acf1cdc713"), looks := true }, kinds := [], alts := [], laidByText := true, laidKinds := [.data, .data, .data, .data, .sentinel, .sentinel, .listed, .data, .pinned], laidTests := true, laidLooks := .later }
def VmKeepsCardSaid : Prop := Claim7.holds Tryz.pinned (.plain (OpenSpec.ofChange vmKeepsSpec)) vmKeepsCard

/-- THE TIED CARD OF 'wandererlaw.VmSwept'. -/
def vmSweptCard : Claim7 := { stood := { row := vmSweptRow, standIns := [], harness := (true, "26921bb537378c47b4b6c7ed9c01b47b6e1695b210773d1a451f44acf1cdc713"), looks := true }, kinds := [], alts := [], laidByText := true, laidKinds := [.data, .data, .data, .data, .sentinel, .sentinel, .listed, .data, .pinned], laidTests := true, laidLooks := .later }
def VmSweptCardSaid : Prop := Claim7.holds Tryz.pinned (.plain (OpenSpec.ofChange vmSweptSpec)) vmSweptCard

/-- THE TIED CARD OF 'wandererlaw.VmSays'. -/
def vmSaysCard : Claim7 := { stood := { row := vmSaysRow, standIns := [], harness := (true, "26921bb537378c47b4b6c7ed9c01b47b6e1695b210773d1a451f44acf1cdc713"), looks := true }, kinds := [], alts := [], laidByText := true, laidKinds := [.data, .data, .data, .data, .sentinel, .sentinel, .listed, .data, .pinned], laidTests := true, laidLooks := .later }
def VmSaysCardSaid : Prop := Claim7.holds Tryz.pinned (.plain (OpenSpec.ofChange vmSaysSpec)) vmSaysCard

/-- THE TIED CARD OF 'wandererlaw.SoloBegins'. -/
def soloBeginsCard : Claim7 := { stood := { row := soloBeginsRow, standIns := [], harness := (true, "26921bb537378c47b4b6c7ed9c01b47b6e1695b210773d1a451f44acf1cdc713"), looks := true }, kinds := [], alts := [], laidByText := true, laidKinds := [.data, .data, .data, .data, .sentinel, .sentinel, .listed, .data, .pinned], laidTests := true, laidLooks := .later }
def SoloBeginsCardSaid : Prop := Claim7.holds Tryz.pinned (.plain (OpenSpec.ofChange soloBeginsSpec)) soloBeginsCard

/-- THE TIED CARD OF 'wandererlaw.SoloSays'. -/
def soloSaysCard : Claim7 := { stood := { row := soloSaysRow, standIns := [], harness := (true, "26921bb537378c47b4b6c7ed9c01b47b6e1695b210773d1a451f44acf1cdc713"), looks := true }, kinds := [], alts := [], laidByText := true, laidKinds := [.data, .data, .data, .data, .sentinel, .sentinel, .listed, .data, .pinned], laidTests := true, laidLooks := .later }
def SoloSaysCardSaid : Prop := Claim7.holds Tryz.pinned (.plain (OpenSpec.ofChange soloSaysSpec)) soloSaysCard

/-- THE TIED CARD OF 'wandererlaw.SnapGoesOn'. -/
def snapGoesOnCard : Claim7 := { stood := { row := snapGoesOnRow, standIns := [], harness := (true, "26921bb537378c47b4b6c7ed9c01b47b6e1695b210773d1a451f44acf1cdc713"), looks := true }, kinds := [], alts := [], laidByText := true, laidKinds := [.data, .data, .data, .data, .sentinel, .sentinel, .listed, .data, .pinned], laidTests := true, laidLooks := .later }
def SnapGoesOnCardSaid : Prop := Claim7.holds Tryz.pinned (.plain (OpenSpec.ofChange snapGoesOnSpec)) snapGoesOnCard

/-- THE TIED CARD OF 'wandererlaw.CodeMeans'. -/
def codeMeansCard : Claim7 := { stood := { row := codeMeansRow, standIns := [], harness := (true, "26921bb537378c47b4b6c7ed9c01b47b6e1695b210773d1a451f44acf1cdc713"), looks := true }, kinds := [], alts := [], laidByText := true, laidKinds := [.data, .data, .data, .data, .sentinel, .sentinel, .listed, .data, .pinned], laidTests := true, laidLooks := .later }
def CodeMeansCardSaid : Prop := Claim7.holds Tryz.pinned (.plain (OpenSpec.ofChange codeMeansSpec)) codeMeansCard

/-- THE SECOND FORM's CARD OF 'wandererlaw.SnapTorn'. -/
def snapTornUptoCard : Claim7 := { stood := { row := snapTornUptoRow, standIns := [], harness := (true, "26921bb537378c47b4b6c7ed9c01b47b6e1695b210773d1a451f44acf1cdc713"), looks := true }, kinds := [], alts := [], laidByText := true, laidKinds := [.data, .data, .data, .data, .sentinel, .sentinel, .listed, .data, .pinned], laidTests := true, laidLooks := .later }
def SnapTornUptoCardSaid : Prop := Claim7.holds Tryz.pinned (.plain (OpenSpec.upto snapTornSpec)) snapTornUptoCard

/-- THE SECOND FORM's CARD OF 'wandererlaw.SnapSays'. -/
def snapSaysUptoCard : Claim7 := { stood := { row := snapSaysUptoRow, standIns := [], harness := (true, "26921bb537378c47b4b6c7ed9c01b47b6e1695b210773d1a451f44acf1cdc713"), looks := true }, kinds := [], alts := [], laidByText := true, laidKinds := [.data, .data, .data, .data, .sentinel, .sentinel, .listed, .data, .pinned], laidTests := true, laidLooks := .later }
def SnapSaysUptoCardSaid : Prop := Claim7.holds Tryz.pinned (.plain (OpenSpec.upto snapSaysSpec)) snapSaysUptoCard

/-- THE SECOND FORM's CARD OF 'wandererlaw.VmParts'. -/
def vmPartsUptoCard : Claim7 := { stood := { row := vmPartsUptoRow, standIns := [], harness := (true, "26921bb537378c47b4b6c7ed9c01b47b6e1695b210773d1a451f44acf1cdc713"), looks := true }, kinds := [], alts := [], laidByText := true, laidKinds := [.data, .data, .data, .data, .sentinel, .sentinel, .listed, .data, .pinned], laidTests := true, laidLooks := .later }
def VmPartsUptoCardSaid : Prop := Claim7.holds Tryz.pinned (.plain (OpenSpec.upto vmPartsSpec)) vmPartsUptoCard

/-- THE SECOND FORM's CARD OF 'wandererlaw.VmKeeps'. -/
def vmKeepsUptoCard : Claim7 := { stood := { row := vmKeepsUptoRow, standIns := [], harness := (true, "26921bb537378c47b4b6c7ed9c01b47b6e1695b210773d1a451f44acf1cdc713"), looks := true }, kinds := [], alts := [], laidByText := true, laidKinds := [.data, .data, .data, .data, .sentinel, .sentinel, .listed, .data, .pinned], laidTests := true, laidLooks := .later }
def VmKeepsUptoCardSaid : Prop := Claim7.holds Tryz.pinned (.plain (OpenSpec.upto vmKeepsSpec)) vmKeepsUptoCard

/-- THE SECOND FORM's CARD OF 'wandererlaw.VmSwept'. -/
def vmSweptUptoCard : Claim7 := { stood := { row := vmSweptUptoRow, standIns := [], harness := (true, "26921bb537378c47b4b6c7ed9c01b47b6e1695b210773d1a451f44acf1cdc713"), looks := true }, kinds := [], alts := [], laidByText := true, laidKinds := [.data, .data, .data, .data, .sentinel, .sentinel, .listed, .data, .pinned], laidTests := true, laidLooks := .later }
def VmSweptUptoCardSaid : Prop := Claim7.holds Tryz.pinned (.plain (OpenSpec.upto vmSweptSpec)) vmSweptUptoCard

/-- THE SECOND FORM's CARD OF 'wandererlaw.VmSays'. -/
def vmSaysUptoCard : Claim7 := { stood := { row := vmSaysUptoRow, standIns := [], harness := (true, "26921bb537378c47b4b6c7ed9c01b47b6e1695b210773d1a451f44acf1cdc713"), looks := true }, kinds := [], alts := [], laidByText := true, laidKinds := [.data, .data, .data, .data, .sentinel, .sentinel, .listed, .data, .pinned], laidTests := true, laidLooks := .later }
def VmSaysUptoCardSaid : Prop := Claim7.holds Tryz.pinned (.plain (OpenSpec.upto vmSaysSpec)) vmSaysUptoCard

/-- THE SECOND FORM's CARD OF 'wandererlaw.SoloBegins'. -/
def soloBeginsUptoCard : Claim7 := { stood := { row := soloBeginsUptoRow, standIns := [], harness := (true, "26921bb537378c47b4b6c7ed9c01b47b6e1695b210773d1a451f44acf1cdc713"), looks := true }, kinds := [], alts := [], laidByText := true, laidKinds := [.data, .data, .data, .data, .sentinel, .sentinel, .listed, .data, .pinned], laidTests := true, laidLooks := .later }
def SoloBeginsUptoCardSaid : Prop := Claim7.holds Tryz.pinned (.plain (OpenSpec.upto soloBeginsSpec)) soloBeginsUptoCard

/-- THE SECOND FORM's CARD OF 'wandererlaw.SoloSays'. -/
def soloSaysUptoCard : Claim7 := { stood := { row := soloSaysUptoRow, standIns := [], harness := (true, "26921bb537378c47b4b6c7ed9c01b47b6e1695b210773d1a451f44acf1cdc713"), looks := true }, kinds := [], alts := [], laidByText := true, laidKinds := [.data, .data, .data, .data, .sentinel, .sentinel, .listed, .data, .pinned], laidTests := true, laidLooks := .later }
def SoloSaysUptoCardSaid : Prop := Claim7.holds Tryz.pinned (.plain (OpenSpec.upto soloSaysSpec)) soloSaysUptoCard

/-- THE SECOND FORM's CARD OF 'wandererlaw.SnapGoesOn'. -/
def snapGoesOnUptoCard : Claim7 := { stood := { row := snapGoesOnUptoRow, standIns := [], harness := (true, "26921bb537378c47b4b6c7ed9c01b47b6e1695b210773d1a451f44acf1cdc713"), looks := true }, kinds := [], alts := [], laidByText := true, laidKinds := [.data, .data, .data, .data, .sentinel, .sentinel, .listed, .data, .pinned], laidTests := true, laidLooks := .later }
def SnapGoesOnUptoCardSaid : Prop := Claim7.holds Tryz.pinned (.plain (OpenSpec.upto snapGoesOnSpec)) snapGoesOnUptoCard

/-- THE SECOND FORM's CARD OF 'wandererlaw.CodeMeans'. -/
def codeMeansUptoCard : Claim7 := { stood := { row := codeMeansUptoRow, standIns := [], harness := (true, "26921bb537378c47b4b6c7ed9c01b47b6e1695b210773d1a451f44acf1cdc713"), looks := true }, kinds := [], alts := [], laidByText := true, laidKinds := [.data, .data, .data, .data, .sentinel, .sentinel, .listed, .data, .pinned], laidTests := true, laidLooks := .later }
def CodeMeansUptoCardSaid : Prop := Claim7.holds Tryz.pinned (.plain (OpenSpec.upto codeMeansSpec)) codeMeansUptoCard
end Rows
end Go.Proofs.YtfclkapelkhlpaaGreatDoor
