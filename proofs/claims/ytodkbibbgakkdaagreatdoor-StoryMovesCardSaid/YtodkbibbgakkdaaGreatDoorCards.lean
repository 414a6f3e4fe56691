/-
  DERIVED. GIVEN WITH THE SEED: THE CARDS: each row of YtodkbibbgakkdaaGreatDoorRows.lean that lists a variable, with what it lists TIED to the program's text (the seventh form; the later family's looks); each row that meets fmt, with fmt's text TOLD by the authors' own Lean function (tested against real Go, not proved from fmt's source: count such statements apart). THE CARD IS WHAT COUNTS. Prove the row's statement (the work); the ties are given (YtodkbibbgakkdaaGreatDoorTie.lean); close each card by the builder's one call (the guide's Derived/Test/ToyasCard.lean, 'card_holds'). Laid BY PROGRAM, IN A SANDBOX (cutbox-door.mjs). By AI agents, Wed Nov 11 2026. No macro, syntax, notation, axiom, sorry.
-/
import Derived.Test.YtodkbibbgakkdaaGreatDoorRows
import GoSem.ClaimSeven
namespace Go.Proofs.YtodkbibbgakkdaaGreatDoor
namespace Rows

/-- THE TIED CARD OF 'wandererlaw.WorldTwice'. -/
def worldTwiceCard : Claim7 := { stood := { row := worldTwiceRow, standIns := [], harness := (true, "7e5e528b6032f6048266fa61e497672ab357cb445dad4a58c88693a04cfef41f"), looks := true }, kinds := [], alts := [], laidByText := true, laidKinds := [.data, .data, .data, .data, .sentinel, .sentinel, .listed, .data, .pinned], laidTests := true, laidLooks := .later }
def WorldTwiceCardSaid : Prop := Claim7.holds Tryz.pinned (.plain (OpenSpec.ofChange worldTwiceSpec)) worldTwiceCard

/-- THE TIED CARD OF 'wandererlaw.WorldKeeps'. -/
def worldKeepsCard : Claim7 := { stood := { row := worldKeepsRow, standIns := [], harness := (true, "7e5e528b6032f6048266fa61e497672ab357cb445dad4a58c88693a04cfef41f"), looks := true }, kinds := [], alts := [], laidByText := true, laidKinds := [.data, .data, .data, .data, .sentinel, .sentinel, .listed, .data, .pinned], laidTests := true, laidLooks := .later }
def WorldKeepsCardSaid : Prop := Claim7.holds Tryz.pinned (.plain (OpenSpec.ofChange worldKeepsSpec)) worldKeepsCard

/-- THE TIED CARD OF 'wandererlaw.WorldParts'. -/
def worldPartsCard : Claim7 := { stood := { row := worldPartsRow, standIns := [], harness := (true, "7e5e528b6032f6048266fa61e497672ab357cb445dad4a58c88693a04cfef41f"), looks := true }, kinds := [], alts := [], laidByText := true, laidKinds := [.data, .data, .data, .data, .sentinel, .sentinel, .listed, .data, .pinned], laidTests := true, laidLooks := .later }
def WorldPartsCardSaid : Prop := Claim7.holds Tryz.pinned (.plain (OpenSpec.ofChange worldPartsSpec)) worldPartsCard

/-- THE TIED CARD OF 'wandererlaw.WorldStands'. -/
def worldStandsCard : Claim7 := { stood := { row := worldStandsRow, standIns := [], harness := (true, "7e5e528b6032f6048266fa61e497672ab357cb445dad4a58c88693a04cfef41f"), looks := true }, kinds := [], alts := [], laidByText := true, laidKinds := [.data, .data, .data, .data, .sentinel, .sentinel, .listed, .data, .pinned], laidTests := true, laidLooks := .later }
def WorldStandsCardSaid : Prop := Claim7.holds Tryz.pinned (.plain (OpenSpec.ofChange worldStandsSpec)) worldStandsCard

/-- THE TIED CARD OF 'wandererlaw.StoryGrows'. -/
def storyGrowsCard : Claim7 := { stood := { row := storyGrowsRow, standIns := [], harness := (true, "7e5e528b6032f6048266fa61e497672ab357cb445dad4a58c88693a04cfef41f"), looks := true }, kinds := [], alts := [], laidByText := true, laidKinds := [.data, .data, .data, .data, .sentinel, .sentinel, .listed, .data, .pinned], laidTests := true, laidLooks := .later }
def StoryGrowsCardSaid : Prop := Claim7.holds Tryz.pinned (.plain (OpenSpec.ofChange storyGrowsSpec)) storyGrowsCard

/-- THE TIED CARD OF 'wandererlaw.StoryMoves'. -/
def storyMovesCard : Claim7 := { stood := { row := storyMovesRow, standIns := [], harness := (true, "7e5e528b6032f6048266fa61e497672ab357cb445dad4a58c88693a04cfef41f"), looks := true }, kinds := [], alts := [], laidByText := true, laidKinds := [.data, .data, .data, .data, .sentinel, .sentinel, .listed, .data, .pinned], laidTests := true, laidLooks := .later }
def StoryMovesCardSaid : Prop := Claim7.holds Tryz.pinned (.plain (OpenSpec.ofChange storyMovesSpec)) storyMovesCard

/-- THE TIED CARD OF 'wandererlaw.StoryOne'. -/
def storyOneCard : Claim7 := { stood := { row := storyOneRow, standIns := [], harness := (true, "7e5e528b6032f6048266fa61e497672ab357cb445dad4a58c88693a04cfef41f"), looks := true }, kinds := [], alts := [], laidByText := true, laidKinds := [.data, .data, .data, .data, .sentinel, .sentinel, .listed, .data, .pinned], laidTests := true, laidLooks := .later }
def StoryOneCardSaid : Prop := Claim7.holds Tryz.pinned (.plain (OpenSpec.ofChange storyOneSpec)) storyOneCard

/-- THE TIED CARD OF 'wandererlaw.StoryTold'. -/
def storyToldCard : Claim7 := { stood := { row := storyToldRow, standIns := [], harness := (true, "7e5e528b6032f6048266fa61e497672ab357cb445dad4a58c88693a04cfef41f"), looks := true }, kinds := [], alts := [], laidByText := true, laidKinds := [.data, .data, .data, .data, .sentinel, .sentinel, .listed, .data, .pinned], laidTests := true, laidLooks := .later }
def StoryToldCardSaid : Prop := Claim7.holds Tryz.pinned (.plain (OpenSpec.ofChange storyToldSpec)) storyToldCard

/-- THE SECOND FORM's CARD OF 'wandererlaw.WorldTwice'. -/
def worldTwiceUptoCard : Claim7 := { stood := { row := worldTwiceUptoRow, standIns := [], harness := (true, "7e5e528b6032f6048266fa61e497672ab357cb445dad4a58c88693a04cfef41f"), looks := true }, kinds := [], alts := [], laidByText := true, laidKinds := [.data, .data, .data, .data, .sentinel, .sentinel, .listed, .data, .pinned], laidTests := true, laidLooks := .later }
def WorldTwiceUptoCardSaid : Prop := Claim7.holds Tryz.pinned (.plain (OpenSpec.upto worldTwiceSpec)) worldTwiceUptoCard

/-- THE SECOND FORM's CARD OF 'wandererlaw.WorldKeeps'. -/
def worldKeepsUptoCard : Claim7 := { stood := { row := worldKeepsUptoRow, standIns := [], harness := (true, "7e5e528b6032f6048266fa61e497672ab357cb445dad4a58c88693a04cfef41f"), looks := true }, kinds := [], alts := [], laidByText := true, laidKinds := [.data, .data, .data, .data, .sentinel, .sentinel, .listed, .data, .pinned], laidTests := true, laidLooks := .later }
def WorldKeepsUptoCardSaid : Prop := Claim7.holds Tryz.pinned (.plain (OpenSpec.upto worldKeepsSpec)) worldKeepsUptoCard

/-- THE SECOND FORM's CARD OF 'wandererlaw.WorldParts'. -/
def worldPartsUptoCard : Claim7 := { stood := { row := worldPartsUptoRow, standIns := [], harness := (true, "7e5e528b6032f6048266fa61e497672ab357cb445dad4a58c88693a04cfef41f"), looks := true }, kinds := [], alts := [], laidByText := true, laidKinds := [.data, .data, .data, .data, .sentinel, .sentinel, .listed, .data, .pinned], laidTests := true, laidLooks := .later }
def WorldPartsUptoCardSaid : Prop := Claim7.holds Tryz.pinned (.plain (OpenSpec.upto worldPartsSpec)) worldPartsUptoCard

/-- THE SECOND FORM's CARD OF 'wandererlaw.WorldStands'. -/
def worldStandsUptoCard : Claim7 := { stood := { row := worldStandsUptoRow, standIns := [], harness := (true, "7e5e528b6032f6048266fa61e497672ab357cb445dad4a58c88693a04cfef41f"), looks := true }, kinds := [], alts := [], laidByText := true, laidKinds := [.data, .data, .data, .data, .sentinel, .sentinel, .listed, .data, .pinned], laidTests := true, laidLooks := .later }
def WorldStandsUptoCardSaid : Prop := Claim7.holds Tryz.pinned (.plain (OpenSpec.upto worldStandsSpec)) worldStandsUptoCard

/-- THE SECOND FORM's CARD OF 'wandererlaw.StoryGrows'. -/
def storyGrowsUptoCard : Claim7 := { stood := { row := storyGrowsUptoRow, standIns := [], harness := (true, "7e5e528b6032f6048266fa61e497672ab357cb445dad4a58c88693a04cfef41f"), looks := true }, kinds := [], alts := [], laidByText := true, laidKinds := [.data, .data, .data, .data, .sentinel, .sentinel, .listed, .data, .pinned], laidTests := true, laidLooks := .later }
def StoryGrowsUptoCardSaid : Prop := Claim7.holds Tryz.pinned (.plain (OpenSpec.upto storyGrowsSpec)) storyGrowsUptoCard

/-- THE SECOND FORM's CARD OF 'wandererlaw.StoryMoves'. -/
def storyMovesUptoCard : Claim7 := { stood := { row := storyMovesUptoRow, standIns := [], harness := (true, "7e5e528b6032f6048266fa61e497672ab357cb445dad4a58c88693a04cfef41f"), looks := true }, kinds := [], alts := [], laidByText := true, laidKinds := [.data, .data, .data, .data, .sentinel, .sentinel, .listed, .data, .pinned], laidTests := true, laidLooks := .later }
def StoryMovesUptoCardSaid : Prop := Claim7.holds Tryz.pinned (.plain (OpenSpec.upto storyMovesSpec)) storyMovesUptoCard

/-- THE SECOND FORM's CARD OF 'wandererlaw.StoryOne'. -/
def storyOneUptoCard : Claim7 := { stood := { row := storyOneUptoRow, standIns := [], harness := (true, "7e5e528b6032f6048266fa61e497672ab357cb445dad4a58c88693a04cfef41f"), looks := true }, kinds := [], alts := [], laidByText := true, laidKinds := [.data, .data, .data, .data, .sentinel, .sentinel, .listed, .data, .pinned], laidTests := true, laidLooks := .later }
def StoryOneUptoCardSaid : Prop := Claim7.holds Tryz.pinned (.plain (OpenSpec.upto storyOneSpec)) storyOneUptoCard

/-- THE SECOND FORM's CARD OF 'wandererlaw.StoryTold'. -/
def storyToldUptoCard : Claim7 := { stood := { row := storyToldUptoRow, standIns := [], harness := (true, "7e5e528b6032f6048266fa61e497672ab357cb445dad4a58c88693a04cfef41f"), looks := true }, kinds := [], alts := [], laidByText := true, laidKinds := [.data, .data, .data, .data, .sentinel, .sentinel, .listed, .data, .pinned], laidTests := true, laidLooks := .later }
def StoryToldUptoCardSaid : Prop := Claim7.holds Tryz.pinned (.plain (OpenSpec.upto storyToldSpec)) storyToldUptoCard
end Rows
end Go.Proofs.YtodkbibbgakkdaaGreatDoor
