/-
  DERIVED. GIVEN WITH THE SEED: THE CARDS: each row of YthlibjllfckhjaaDoorRows.lean that lists a variable, with what it lists TIED to the program's text (the seventh form; the later family's looks); each row that meets fmt, with fmt's text TOLD by the authors' own Lean function (tested against real Go, not proved from fmt's source: count such statements apart). THE CARD IS WHAT COUNTS. Prove the row's statement (the work); the ties are given (YthlibjllfckhjaaDoorTie.lean); close each card by the builder's one call (the guide's Derived/Test/ToyasCard.lean, 'card_holds'). Laid BY PROGRAM, IN A SANDBOX (cutbox-door.mjs). By AI agents, Wed Nov 11 2026. No macro, syntax, notation, axiom, sorry.
-/
import Derived.Test.YthlibjllfckhjaaDoorRows
import GoSem.ClaimSeven
namespace Go.Proofs.YthlibjllfckhjaaDoor
namespace Rows

/-- THE TIED CARD OF 'wandererlaw.RecordBack'. -/
def recordBackCard : Claim7 := { stood := { row := recordBackRow, standIns := [], harness := (true, "a4535c5da35a6eb7cc26dba4d6875aa69b42c00d1a9934c60ba33aa6209f4114"), looks := true }, kinds := [], alts := [], laidByText := true, laidKinds := [.data, .data, .data, .data, .sentinel, .sentinel, .pinned], laidTests := true, laidLooks := .later }
def RecordBackCardSaid : Prop := Claim7.holds Tryd.pinned (.plain (OpenSpec.ofChange recordBackSpec)) recordBackCard

/-- THE TIED CARD OF 'wandererlaw.RecordSays'. -/
def recordSaysCard : Claim7 := { stood := { row := recordSaysRow, standIns := [], harness := (true, "a4535c5da35a6eb7cc26dba4d6875aa69b42c00d1a9934c60ba33aa6209f4114"), looks := true }, kinds := [], alts := [], laidByText := true, laidKinds := [.data, .data, .data, .data, .sentinel, .sentinel, .pinned], laidTests := true, laidLooks := .later }
def RecordSaysCardSaid : Prop := Claim7.holds Tryd.pinned (.plain (OpenSpec.ofChange recordSaysSpec)) recordSaysCard

/-- THE TIED CARD OF 'wandererlaw.DiskKeeps'. -/
def diskKeepsCard : Claim7 := { stood := { row := diskKeepsRow, standIns := [], harness := (true, "a4535c5da35a6eb7cc26dba4d6875aa69b42c00d1a9934c60ba33aa6209f4114"), looks := true }, kinds := [], alts := [], laidByText := true, laidKinds := [.data, .data, .data, .data, .sentinel, .sentinel, .pinned], laidTests := true, laidLooks := .later }
def DiskKeepsCardSaid : Prop := Claim7.holds Tryd.pinned (.plain (OpenSpec.ofChange diskKeepsSpec)) diskKeepsCard

/-- THE TIED CARD OF 'wandererlaw.DiskSays'. -/
def diskSaysCard : Claim7 := { stood := { row := diskSaysRow, standIns := [], harness := (true, "a4535c5da35a6eb7cc26dba4d6875aa69b42c00d1a9934c60ba33aa6209f4114"), looks := true }, kinds := [], alts := [], laidByText := true, laidKinds := [.data, .data, .data, .data, .sentinel, .sentinel, .pinned], laidTests := true, laidLooks := .later }
def DiskSaysCardSaid : Prop := Claim7.holds Tryd.pinned (.plain (OpenSpec.ofChange diskSaysSpec)) diskSaysCard

/-- THE TIED CARD OF 'wandererlaw.PlaceParts'. -/
def placePartsCard : Claim7 := { stood := { row := placePartsRow, standIns := [], harness := (true, "a4535c5da35a6eb7cc26dba4d6875aa69b42c00d1a9934c60ba33aa6209f4114"), looks := true }, kinds := [], alts := [], laidByText := true, laidKinds := [.data, .data, .data, .data, .sentinel, .sentinel, .pinned], laidTests := true, laidLooks := .later }
def PlacePartsCardSaid : Prop := Claim7.holds Tryd.pinned (.plain (OpenSpec.ofChange placePartsSpec)) placePartsCard

/-- THE SECOND FORM's CARD OF 'wandererlaw.RecordBack'. -/
def recordBackUptoCard : Claim7 := { stood := { row := recordBackUptoRow, standIns := [], harness := (true, "a4535c5da35a6eb7cc26dba4d6875aa69b42c00d1a9934c60ba33aa6209f4114"), looks := true }, kinds := [], alts := [], laidByText := true, laidKinds := [.data, .data, .data, .data, .sentinel, .sentinel, .pinned], laidTests := true, laidLooks := .later }
def RecordBackUptoCardSaid : Prop := Claim7.holds Tryd.pinned (.plain (OpenSpec.upto recordBackSpec)) recordBackUptoCard

/-- THE SECOND FORM's CARD OF 'wandererlaw.RecordSays'. -/
def recordSaysUptoCard : Claim7 := { stood := { row := recordSaysUptoRow, standIns := [], harness := (true, "a4535c5da35a6eb7cc26dba4d6875aa69b42c00d1a9934c60ba33aa6209f4114"), looks := true }, kinds := [], alts := [], laidByText := true, laidKinds := [.data, .data, .data, .data, .sentinel, .sentinel, .pinned], laidTests := true, laidLooks := .later }
def RecordSaysUptoCardSaid : Prop := Claim7.holds Tryd.pinned (.plain (OpenSpec.upto recordSaysSpec)) recordSaysUptoCard

/-- THE SECOND FORM's CARD OF 'wandererlaw.DiskKeeps'. -/
def diskKeepsUptoCard : Claim7 := { stood := { row := diskKeepsUptoRow, standIns := [], harness := (true, "a4535c5da35a6eb7cc26dba4d6875aa69b42c00d1a9934c60ba33aa6209f4114"), looks := true }, kinds := [], alts := [], laidByText := true, laidKinds := [.data, .data, .data, .data, .sentinel, .sentinel, .pinned], laidTests := true, laidLooks := .later }
def DiskKeepsUptoCardSaid : Prop := Claim7.holds Tryd.pinned (.plain (OpenSpec.upto diskKeepsSpec)) diskKeepsUptoCard

/-- THE SECOND FORM's CARD OF 'wandererlaw.DiskSays'. -/
def diskSaysUptoCard : Claim7 := { stood := { row := diskSaysUptoRow, standIns := [], harness := (true, "a4535c5da35a6eb7cc26dba4d6875aa69b42c00d1a9934c60ba33aa6209f4114"), looks := true }, kinds := [], alts := [], laidByText := true, laidKinds := [.data, .data, .data, .data, .sentinel, .sentinel, .pinned], laidTests := true, laidLooks := .later }
def DiskSaysUptoCardSaid : Prop := Claim7.holds Tryd.pinned (.plain (OpenSpec.upto diskSaysSpec)) diskSaysUptoCard

/-- THE SECOND FORM's CARD OF 'wandererlaw.PlaceParts'. -/
def placePartsUptoCard : Claim7 := { stood := { row := placePartsUptoRow, standIns := [], harness := (true, "a4535c5da35a6eb7cc26dba4d6875aa69b42c00d1a9934c60ba33aa6209f4114"), looks := true }, kinds := [], alts := [], laidByText := true, laidKinds := [.data, .data, .data, .data, .sentinel, .sentinel, .pinned], laidTests := true, laidLooks := .later }
def PlacePartsUptoCardSaid : Prop := Claim7.holds Tryd.pinned (.plain (OpenSpec.upto placePartsSpec)) placePartsUptoCard
end Rows
end Go.Proofs.YthlibjllfckhjaaDoor
