/- One more fact of the law's row: goesBy is false. -/
import Derived.Test.YteijalgmijkphaaGreatDoorWorldDoesTy
import Derived.Test.YteijalgmijkphaaGreatDoorRows
import Derived.Test.YteijalgmijkphaaGreatDoorCards
import Derived.Test.YteijalgmijkphaaGreatDoorTie
import Derived.ProofKit
import Derived.SevenTiedAt
import Derived.OpenShut
import Derived.ShutString
import Derived.ChangeOld
import Derived.Below
import Derived.WideShapes
set_option linter.unusedVariables false
set_option linter.unusedSimpArgs false
namespace Go.Proofs.YteijalgmijkphaaGreatDoor
open Go Go.Proofs Go.LX
namespace worldDoesLaw
open Go Go.Proofs Go.LX Go.ChangeShapes Go.WideShapes Go.ChangeAt Go.RowKit
open Go.ChangeMaps (open_string shut_string)
theorem jzG:false=Rows.worldDoesRow.goesBy Tryz.pinned.checked.prog:=by kernel_rfl
end worldDoesLaw
end Go.Proofs.YteijalgmijkphaaGreatDoor
