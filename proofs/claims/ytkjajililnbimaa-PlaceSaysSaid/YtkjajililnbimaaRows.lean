/-
  NARROWER THAN 'FOR EVERY INPUT', by the rows' own cells (each row's printed sentence says how): SourceSays: loops · SourceParts: loops.
  DERIVED. THE GIVEN ROWS OF THIS SEAT. 11 by the template 'for every input the law returns true; each argument reads behind the call as it read before'; 0 by the template 'total and deterministic' (their statements: YtkjajililnbimaaTotals.lean).
  GIVEN WITH THE SEED: the statements are not yours to turn. If you find one false, say at which input.
  Laid BY PROGRAM, IN A SANDBOX (cutbox-rows.mjs): the forced cells as the released guide's own fill.sh prints them over the translation ce178d8fd033927c… (all of the seat's roots in one cut). By AI agents, Wed Nov 11 2026. No macro, syntax, notation, axiom, sorry.
-/
import Derived.Test.YtkjajililnbimaaChecked
import GoSem.Claim
import GoSem.ClaimJoined
import GoSem.ClaimMapViews
import Derived.JoinedTies
import Derived.KernelRfl
namespace Go.Proofs.Ytkjajililnbimaa
/- THE CELL 'sum', in the pinned program and in every row, IS THE sha256 OF THE DUMP (.gsa) THAT YtkjajililnbimaaProg.lean LOADS. Nothing in Lean hashes anything: it is a label: what it is worth is what the hold of that sum in a sandbox is worth. -/
noncomputable def Try.pinned : Pinned := { name := "ytkjajililnbimaa", sum := "ce178d8fd033927c7c6dd2e972babeff11af6f2d8c48d394ee4006084b3b8c39", checked := Try.checked }
namespace Rows
def none {H : Type} : Left H := { results := [], args := [] }

/-- 'wandererlaw.Names': WHATEVER THE INPUT: true; the input reads as it did. -/
def namesSpec : ChangeSpec := { name := "names", fn := fun _ => fun
  | [] => { results := [.lit (.bool true)], args := [] }
  | _ => none }
def namesRow : OpenClaim := { program := "ytkjajililnbimaa", sum := "ce178d8fd033927c7c6dd2e972babeff11af6f2d8c48d394ee4006084b3b8c39", func := "wanderer/wandererlaw.Names", spec := "names", apart := false }
def NamesSaid : Prop := namesRow.holds Try.pinned (OpenSpec.ofChange namesSpec)

/-- ITS FALSE NEIGHBOUR: 'it returns false'. Refute it at one input. -/
def namesWrong : ChangeSpec := { name := "names", fn := fun _ => fun
  | [] => { results := [.lit (.bool false)], args := [] }
  | _ => none }
def NamesWrongFalsely : Prop := namesRow.holds Try.pinned (OpenSpec.ofChange namesWrong)

/-- 'wandererlaw.CellClosed': WHATEVER THE INPUT: true; the input reads as it did. -/
def cellClosedSpec : ChangeSpec := { name := "cellClosed", fn := fun _ => fun
  | [d1, d2] => { results := [.lit (.bool true)], args := [d1, d2] }
  | _ => none }
def cellClosedRow : OpenClaim := { program := "ytkjajililnbimaa", sum := "ce178d8fd033927c7c6dd2e972babeff11af6f2d8c48d394ee4006084b3b8c39", func := "wanderer/wandererlaw.CellClosed", spec := "cellClosed", unfollowed := true, recurses := true, apart := false }
def CellClosedSaid : Prop := cellClosedRow.holds Try.pinned (OpenSpec.ofChange cellClosedSpec)

/-- ITS FALSE NEIGHBOUR: 'it returns false'. Refute it at one input. -/
def cellClosedWrong : ChangeSpec := { name := "cellClosed", fn := fun _ => fun
  | [d1, d2] => { results := [.lit (.bool false)], args := [d1, d2] }
  | _ => none }
def CellClosedWrongFalsely : Prop := cellClosedRow.holds Try.pinned (OpenSpec.ofChange cellClosedWrong)

/-- 'wandererlaw.WaySays': WHATEVER THE INPUT: true; the input reads as it did. -/
def waySaysSpec : ChangeSpec := { name := "waySays", fn := fun _ => fun
  | [d1, d2, d3, d4, d5] => { results := [.lit (.bool true)], args := [d1, d2, d3, d4, d5] }
  | _ => none }
def waySaysRow : OpenClaim := { program := "ytkjajililnbimaa", sum := "ce178d8fd033927c7c6dd2e972babeff11af6f2d8c48d394ee4006084b3b8c39", func := "wanderer/wandererlaw.WaySays", spec := "waySays", unfollowed := true, recurses := true, apart := false }
def WaySaysSaid : Prop := waySaysRow.holds Try.pinned (OpenSpec.ofChange waySaysSpec)

/-- ITS FALSE NEIGHBOUR: 'it returns false'. Refute it at one input. -/
def waySaysWrong : ChangeSpec := { name := "waySays", fn := fun _ => fun
  | [d1, d2, d3, d4, d5] => { results := [.lit (.bool false)], args := [d1, d2, d3, d4, d5] }
  | _ => none }
def WaySaysWrongFalsely : Prop := waySaysRow.holds Try.pinned (OpenSpec.ofChange waySaysWrong)

/-- 'wandererlaw.WayBack': WHATEVER THE INPUT: true; the input reads as it did. -/
def wayBackSpec : ChangeSpec := { name := "wayBack", fn := fun _ => fun
  | [d1, d2, d3] => { results := [.lit (.bool true)], args := [d1, d2, d3] }
  | _ => none }
def wayBackRow : OpenClaim := { program := "ytkjajililnbimaa", sum := "ce178d8fd033927c7c6dd2e972babeff11af6f2d8c48d394ee4006084b3b8c39", func := "wanderer/wandererlaw.WayBack", spec := "wayBack", unfollowed := true, recurses := true, apart := false }
def WayBackSaid : Prop := wayBackRow.holds Try.pinned (OpenSpec.ofChange wayBackSpec)

/-- ITS FALSE NEIGHBOUR: 'it returns false'. Refute it at one input. -/
def wayBackWrong : ChangeSpec := { name := "wayBack", fn := fun _ => fun
  | [d1, d2, d3] => { results := [.lit (.bool false)], args := [d1, d2, d3] }
  | _ => none }
def WayBackWrongFalsely : Prop := wayBackRow.holds Try.pinned (OpenSpec.ofChange wayBackWrong)

/-- 'wandererlaw.CellSays': WHATEVER THE INPUT: true; the input reads as it did. -/
def cellSaysSpec : ChangeSpec := { name := "cellSays", fn := fun _ => fun
  | [d1, d2, d3, d4, d5] => { results := [.lit (.bool true)], args := [d1, d2, d3, d4, d5] }
  | _ => none }
def cellSaysRow : OpenClaim := { program := "ytkjajililnbimaa", sum := "ce178d8fd033927c7c6dd2e972babeff11af6f2d8c48d394ee4006084b3b8c39", func := "wanderer/wandererlaw.CellSays", spec := "cellSays", unfollowed := true, recurses := true, apart := false }
def CellSaysSaid : Prop := cellSaysRow.holds Try.pinned (OpenSpec.ofChange cellSaysSpec)

/-- ITS FALSE NEIGHBOUR: 'it returns false'. Refute it at one input. -/
def cellSaysWrong : ChangeSpec := { name := "cellSays", fn := fun _ => fun
  | [d1, d2, d3, d4, d5] => { results := [.lit (.bool false)], args := [d1, d2, d3, d4, d5] }
  | _ => none }
def CellSaysWrongFalsely : Prop := cellSaysRow.holds Try.pinned (OpenSpec.ofChange cellSaysWrong)

/-- 'wandererlaw.CellMore': WHATEVER THE INPUT: true; the input reads as it did. -/
def cellMoreSpec : ChangeSpec := { name := "cellMore", fn := fun _ => fun
  | [d1, d2, d3] => { results := [.lit (.bool true)], args := [d1, d2, d3] }
  | _ => none }
def cellMoreRow : OpenClaim := { program := "ytkjajililnbimaa", sum := "ce178d8fd033927c7c6dd2e972babeff11af6f2d8c48d394ee4006084b3b8c39", func := "wanderer/wandererlaw.CellMore", spec := "cellMore", unfollowed := true, recurses := true, apart := false }
def CellMoreSaid : Prop := cellMoreRow.holds Try.pinned (OpenSpec.ofChange cellMoreSpec)

/-- ITS FALSE NEIGHBOUR: 'it returns false'. Refute it at one input. -/
def cellMoreWrong : ChangeSpec := { name := "cellMore", fn := fun _ => fun
  | [d1, d2, d3] => { results := [.lit (.bool false)], args := [d1, d2, d3] }
  | _ => none }
def CellMoreWrongFalsely : Prop := cellMoreRow.holds Try.pinned (OpenSpec.ofChange cellMoreWrong)

/-- 'wandererlaw.PlaceKeeps': WHATEVER THE INPUT: true; the input reads as it did. -/
def placeKeepsSpec : ChangeSpec := { name := "placeKeeps", fn := fun _ => fun
  | [d1, d2] => { results := [.lit (.bool true)], args := [d1, d2] }
  | _ => none }
def placeKeepsRow : OpenClaim := { program := "ytkjajililnbimaa", sum := "ce178d8fd033927c7c6dd2e972babeff11af6f2d8c48d394ee4006084b3b8c39", func := "wanderer/wandererlaw.PlaceKeeps", spec := "placeKeeps", inPlace := ["slices.overlaps[wanderer/api.Co]"], unfollowed := true, recurses := true, apart := false }
def PlaceKeepsSaid : Prop := placeKeepsRow.holds Try.pinned (OpenSpec.ofChange placeKeepsSpec)

/-- ITS FALSE NEIGHBOUR: 'it returns false'. Refute it at one input. -/
def placeKeepsWrong : ChangeSpec := { name := "placeKeeps", fn := fun _ => fun
  | [d1, d2] => { results := [.lit (.bool false)], args := [d1, d2] }
  | _ => none }
def PlaceKeepsWrongFalsely : Prop := placeKeepsRow.holds Try.pinned (OpenSpec.ofChange placeKeepsWrong)

/-- 'wandererlaw.SourceSays': WHATEVER THE INPUT: true; the input reads as it did. -/
def sourceSaysSpec : ChangeSpec := { name := "sourceSays", fn := fun _ => fun
  | [d1, d2, d3, d4] => { results := [.lit (.bool true)], args := [d1, d2, d3, d4] }
  | _ => none }
def sourceSaysRow : OpenClaim := { program := "ytkjajililnbimaa", sum := "ce178d8fd033927c7c6dd2e972babeff11af6f2d8c48d394ee4006084b3b8c39", func := "wanderer/wandererlaw.SourceSays", spec := "sourceSays", inPlace := ["internal/bytealg.IndexByteString", "internal/bytealg.IndexString"], unfollowed := true, recurses := true, named := ["internal/bytealg.MaxLen"], loops := true, apart := false }
def SourceSaysSaid : Prop := sourceSaysRow.holds Try.pinned (OpenSpec.ofChange sourceSaysSpec)

/-- ITS FALSE NEIGHBOUR: 'it returns false'. Refute it at one input. -/
def sourceSaysWrong : ChangeSpec := { name := "sourceSays", fn := fun _ => fun
  | [d1, d2, d3, d4] => { results := [.lit (.bool false)], args := [d1, d2, d3, d4] }
  | _ => none }
def SourceSaysWrongFalsely : Prop := sourceSaysRow.holds Try.pinned (OpenSpec.ofChange sourceSaysWrong)

/-- 'wandererlaw.SourceParts': WHATEVER THE INPUT: true; the input reads as it did. -/
def sourcePartsSpec : ChangeSpec := { name := "sourceParts", fn := fun _ => fun
  | [d1, d2, d3] => { results := [.lit (.bool true)], args := [d1, d2, d3] }
  | _ => none }
def sourcePartsRow : OpenClaim := { program := "ytkjajililnbimaa", sum := "ce178d8fd033927c7c6dd2e972babeff11af6f2d8c48d394ee4006084b3b8c39", func := "wanderer/wandererlaw.SourceParts", spec := "sourceParts", inPlace := ["slices.overlaps[wanderer/api.Stmt]"], unfollowed := true, recurses := true, loops := true, apart := false }
def SourcePartsSaid : Prop := sourcePartsRow.holds Try.pinned (OpenSpec.ofChange sourcePartsSpec)

/-- ITS FALSE NEIGHBOUR: 'it returns false'. Refute it at one input. -/
def sourcePartsWrong : ChangeSpec := { name := "sourceParts", fn := fun _ => fun
  | [d1, d2, d3] => { results := [.lit (.bool false)], args := [d1, d2, d3] }
  | _ => none }
def SourcePartsWrongFalsely : Prop := sourcePartsRow.holds Try.pinned (OpenSpec.ofChange sourcePartsWrong)

/-- 'wandererlaw.PlaceSays': WHATEVER THE INPUT: true; the input reads as it did. -/
def placeSaysSpec : ChangeSpec := { name := "placeSays", fn := fun _ => fun
  | [d1, d2, d3, d4] => { results := [.lit (.bool true)], args := [d1, d2, d3, d4] }
  | _ => none }
def placeSaysRow : OpenClaim := { program := "ytkjajililnbimaa", sum := "ce178d8fd033927c7c6dd2e972babeff11af6f2d8c48d394ee4006084b3b8c39", func := "wanderer/wandererlaw.PlaceSays", spec := "placeSays", inPlace := ["slices.overlaps[wanderer/api.Co]", "internal/bytealg.IndexByteString", "internal/bytealg.IndexString"], unfollowed := true, recurses := true, named := ["internal/bytealg.MaxLen"], apart := false }
def PlaceSaysSaid : Prop := placeSaysRow.holds Try.pinned (OpenSpec.ofChange placeSaysSpec)

/-- ITS FALSE NEIGHBOUR: 'it returns false'. Refute it at one input. -/
def placeSaysWrong : ChangeSpec := { name := "placeSays", fn := fun _ => fun
  | [d1, d2, d3, d4] => { results := [.lit (.bool false)], args := [d1, d2, d3, d4] }
  | _ => none }
def PlaceSaysWrongFalsely : Prop := placeSaysRow.holds Try.pinned (OpenSpec.ofChange placeSaysWrong)

/-- 'wandererlaw.PlaceReplays': WHATEVER THE INPUT: true; the input reads as it did. -/
def placeReplaysSpec : ChangeSpec := { name := "placeReplays", fn := fun _ => fun
  | [d] => { results := [.lit (.bool true)], args := [d] }
  | _ => none }
def placeReplaysRow : OpenClaim := { program := "ytkjajililnbimaa", sum := "ce178d8fd033927c7c6dd2e972babeff11af6f2d8c48d394ee4006084b3b8c39", func := "wanderer/wandererlaw.PlaceReplays", spec := "placeReplays", inPlace := ["slices.overlaps[wanderer/api.Co]", "internal/bytealg.IndexByteString", "internal/bytealg.IndexString"], unfollowed := true, recurses := true, named := ["internal/bytealg.MaxLen"], apart := false }
def PlaceReplaysSaid : Prop := placeReplaysRow.holds Try.pinned (OpenSpec.ofChange placeReplaysSpec)

/-- ITS FALSE NEIGHBOUR: 'it returns false'. Refute it at one input. -/
def placeReplaysWrong : ChangeSpec := { name := "placeReplays", fn := fun _ => fun
  | [d] => { results := [.lit (.bool false)], args := [d] }
  | _ => none }
def PlaceReplaysWrongFalsely : Prop := placeReplaysRow.holds Try.pinned (OpenSpec.ofChange placeReplaysWrong)

/- THE SECOND FORM. 'bulk': how many values and letters a reading holds, each counted each time it is reached (what is shared counts as often as it is met; a slice's spare places count too). A statement '..UptoSaid' is the law's where the arguments, and the package variables that the reading takes, are together of bulk at most 1048576: NARROWER than '..Said'. Prove '..Said' where nothing that the law and all that it calls make is longer than what came in: it says more and counts as full. Else prove '..UptoSaid'. A law counts once. -/
mutual
def uptoBulk {H : Type} : DataW H → Nat
  | .lit (.string bytes) => bytes.length + 1
  | .lit _ => 1
  | .nil => 1
  | .ptr d => uptoBulk d + 1
  | .slice elems spare => uptoBulkAll elems + uptoBulkAll spare + 1
  | .agg parts => uptoBulkAll parts + 1
  | .iface _ d => uptoBulk d + 1
  | .map entries => uptoBulkEntries entries + 1
  | .held _ => 1
def uptoBulkAll {H : Type} : List (DataW H) → Nat
  | [] => 0
  | d :: r => uptoBulk d + uptoBulkAll r
def uptoBulkEntries {H : Type} : List (Lit × DataW H) → Nat
  | [] => 0
  | x :: r => uptoBulkEntry x + uptoBulkEntries r
def uptoBulkEntry {H : Type} : Lit × DataW H → Nat
  | (.string bytes, d) => bytes.length + uptoBulk d + 1
  | (_, d) => uptoBulk d + 1
 end
def uptoSmall : (H : Type) → List (DataW H) → Bool := fun _ ds => decide (uptoBulkAll ds ≤ 1048576)
def OpenSpec.upto (s : _root_.Go.ChangeSpec) : _root_.Go.OpenSpec := { _root_.Go.OpenSpec.ofChange s with cond := some uptoSmall }

/-- 'wandererlaw.Names', WHERE WHAT IT READS IS OF BULK AT MOST 1048576: true; the input reads as it did. -/
def namesUptoRow : OpenClaim := { program := "ytkjajililnbimaa", sum := "ce178d8fd033927c7c6dd2e972babeff11af6f2d8c48d394ee4006084b3b8c39", func := "wanderer/wandererlaw.Names", spec := "names", apart := false, narrowed := true }
def NamesUptoSaid : Prop := namesUptoRow.holds Try.pinned (OpenSpec.upto namesSpec)

/-- 'wandererlaw.CellClosed', WHERE WHAT IT READS IS OF BULK AT MOST 1048576: true; the input reads as it did. -/
def cellClosedUptoRow : OpenClaim := { program := "ytkjajililnbimaa", sum := "ce178d8fd033927c7c6dd2e972babeff11af6f2d8c48d394ee4006084b3b8c39", func := "wanderer/wandererlaw.CellClosed", spec := "cellClosed", unfollowed := true, recurses := true, apart := false, narrowed := true }
def CellClosedUptoSaid : Prop := cellClosedUptoRow.holds Try.pinned (OpenSpec.upto cellClosedSpec)

/-- 'wandererlaw.WaySays', WHERE WHAT IT READS IS OF BULK AT MOST 1048576: true; the input reads as it did. -/
def waySaysUptoRow : OpenClaim := { program := "ytkjajililnbimaa", sum := "ce178d8fd033927c7c6dd2e972babeff11af6f2d8c48d394ee4006084b3b8c39", func := "wanderer/wandererlaw.WaySays", spec := "waySays", unfollowed := true, recurses := true, apart := false, narrowed := true }
def WaySaysUptoSaid : Prop := waySaysUptoRow.holds Try.pinned (OpenSpec.upto waySaysSpec)

/-- 'wandererlaw.WayBack', WHERE WHAT IT READS IS OF BULK AT MOST 1048576: true; the input reads as it did. -/
def wayBackUptoRow : OpenClaim := { program := "ytkjajililnbimaa", sum := "ce178d8fd033927c7c6dd2e972babeff11af6f2d8c48d394ee4006084b3b8c39", func := "wanderer/wandererlaw.WayBack", spec := "wayBack", unfollowed := true, recurses := true, apart := false, narrowed := true }
def WayBackUptoSaid : Prop := wayBackUptoRow.holds Try.pinned (OpenSpec.upto wayBackSpec)

/-- 'wandererlaw.CellSays', WHERE WHAT IT READS IS OF BULK AT MOST 1048576: true; the input reads as it did. -/
def cellSaysUptoRow : OpenClaim := { program := "ytkjajililnbimaa", sum := "ce178d8fd033927c7c6dd2e972babeff11af6f2d8c48d394ee4006084b3b8c39", func := "wanderer/wandererlaw.CellSays", spec := "cellSays", unfollowed := true, recurses := true, apart := false, narrowed := true }
def CellSaysUptoSaid : Prop := cellSaysUptoRow.holds Try.pinned (OpenSpec.upto cellSaysSpec)

/-- 'wandererlaw.CellMore', WHERE WHAT IT READS IS OF BULK AT MOST 1048576: true; the input reads as it did. -/
def cellMoreUptoRow : OpenClaim := { program := "ytkjajililnbimaa", sum := "ce178d8fd033927c7c6dd2e972babeff11af6f2d8c48d394ee4006084b3b8c39", func := "wanderer/wandererlaw.CellMore", spec := "cellMore", unfollowed := true, recurses := true, apart := false, narrowed := true }
def CellMoreUptoSaid : Prop := cellMoreUptoRow.holds Try.pinned (OpenSpec.upto cellMoreSpec)

/-- 'wandererlaw.PlaceKeeps', WHERE WHAT IT READS IS OF BULK AT MOST 1048576: true; the input reads as it did. -/
def placeKeepsUptoRow : OpenClaim := { program := "ytkjajililnbimaa", sum := "ce178d8fd033927c7c6dd2e972babeff11af6f2d8c48d394ee4006084b3b8c39", func := "wanderer/wandererlaw.PlaceKeeps", spec := "placeKeeps", inPlace := ["slices.overlaps[wanderer/api.Co]"], unfollowed := true, recurses := true, apart := false, narrowed := true }
def PlaceKeepsUptoSaid : Prop := placeKeepsUptoRow.holds Try.pinned (OpenSpec.upto placeKeepsSpec)

/-- 'wandererlaw.SourceSays', WHERE WHAT IT READS IS OF BULK AT MOST 1048576: true; the input reads as it did. -/
def sourceSaysUptoRow : OpenClaim := { program := "ytkjajililnbimaa", sum := "ce178d8fd033927c7c6dd2e972babeff11af6f2d8c48d394ee4006084b3b8c39", func := "wanderer/wandererlaw.SourceSays", spec := "sourceSays", inPlace := ["internal/bytealg.IndexByteString", "internal/bytealg.IndexString"], unfollowed := true, recurses := true, named := ["internal/bytealg.MaxLen"], loops := true, apart := false, narrowed := true }
def SourceSaysUptoSaid : Prop := sourceSaysUptoRow.holds Try.pinned (OpenSpec.upto sourceSaysSpec)

/-- 'wandererlaw.SourceParts', WHERE WHAT IT READS IS OF BULK AT MOST 1048576: true; the input reads as it did. -/
def sourcePartsUptoRow : OpenClaim := { program := "ytkjajililnbimaa", sum := "ce178d8fd033927c7c6dd2e972babeff11af6f2d8c48d394ee4006084b3b8c39", func := "wanderer/wandererlaw.SourceParts", spec := "sourceParts", inPlace := ["slices.overlaps[wanderer/api.Stmt]"], unfollowed := true, recurses := true, loops := true, apart := false, narrowed := true }
def SourcePartsUptoSaid : Prop := sourcePartsUptoRow.holds Try.pinned (OpenSpec.upto sourcePartsSpec)

/-- 'wandererlaw.PlaceSays', WHERE WHAT IT READS IS OF BULK AT MOST 1048576: true; the input reads as it did. -/
def placeSaysUptoRow : OpenClaim := { program := "ytkjajililnbimaa", sum := "ce178d8fd033927c7c6dd2e972babeff11af6f2d8c48d394ee4006084b3b8c39", func := "wanderer/wandererlaw.PlaceSays", spec := "placeSays", inPlace := ["slices.overlaps[wanderer/api.Co]", "internal/bytealg.IndexByteString", "internal/bytealg.IndexString"], unfollowed := true, recurses := true, named := ["internal/bytealg.MaxLen"], apart := false, narrowed := true }
def PlaceSaysUptoSaid : Prop := placeSaysUptoRow.holds Try.pinned (OpenSpec.upto placeSaysSpec)

/-- 'wandererlaw.PlaceReplays', WHERE WHAT IT READS IS OF BULK AT MOST 1048576: true; the input reads as it did. -/
def placeReplaysUptoRow : OpenClaim := { program := "ytkjajililnbimaa", sum := "ce178d8fd033927c7c6dd2e972babeff11af6f2d8c48d394ee4006084b3b8c39", func := "wanderer/wandererlaw.PlaceReplays", spec := "placeReplays", inPlace := ["slices.overlaps[wanderer/api.Co]", "internal/bytealg.IndexByteString", "internal/bytealg.IndexString"], unfollowed := true, recurses := true, named := ["internal/bytealg.MaxLen"], apart := false, narrowed := true }
def PlaceReplaysUptoSaid : Prop := placeReplaysUptoRow.holds Try.pinned (OpenSpec.upto placeReplaysSpec)

end Rows
end Go.Proofs.Ytkjajililnbimaa
