/- What the law's row says of it. -/
import Derived.Test.YteijalgmijkphaaGreatDoorStorySaysTz
import Derived.Test.YteijalgmijkphaaGreatDoorRows
import Derived.Test.YteijalgmijkphaaGreatDoorCards
import Derived.Test.YteijalgmijkphaaGreatDoorTie
import Derived.ProofKit
import Derived.SevenTiedAt
import Derived.OpenShut
import Derived.ShutString
import Derived.ChangeOld
import Derived.Below
import Derived.WideShapes
set_option linter.unusedVariables false
set_option linter.unusedSimpArgs false
namespace Go.Proofs.YteijalgmijkphaaGreatDoor
open Go Go.Proofs Go.LX
namespace storySaysLaw
open Go Go.Proofs Go.LX Go.ChangeShapes Go.WideShapes Go.ChangeAt Go.RowKit
open Go.ChangeMaps (open_string shut_string)
theorem jzA:(Rows.storySaysRow.inPlace==Tryz.pinned.checked.prog.inPlace 4)=true:=by kernel_rfl
theorem jzB:(Rows.storySaysRow.unfollowed==Tryz.pinned.checked.prog.unfollowed 4)=true:=by kernel_rfl
theorem jzC:(Rows.storySaysRow.recurses==Tryz.pinned.checked.prog.recurses 4)=true:=by kernel_rfl
theorem jzD:(Rows.storySaysRow.named==Tryz.pinned.checked.prog.varsNamed 4)=true:=by kernel_rfl
theorem jzE:laidOutB Tryz.pinned.checked.prog=true:=by kernel_rfl
theorem jzF:mapsRowed Tryz.pinned.checked.prog=true:=by kernel_rfl
theorem over:Rows.storySaysRow.holds Tryz.pinned (OpenSpec.ofChange Rows.storySaysSpec):=
 OpenClaim.holds_of_wide 4 Tryz.f4 rfl rfl rfl rfl rfl rfl rfl ⟨rfl,rfl,rfl,rfl,rfl⟩ rfl rfl rfl rfl rfl (by kernel_rfl) Tryz.func4 (by simp only[joinedFacts,jzA,jzB,jzC,jzD,jzE,jzF,Bool.true_and,Bool.and_true];kernel_rfl)
  (P9 (by kernel_rfl)) (by unfold Func.isWrapper;first|(rw[Z2 (by decide+kernel)];kernel_rfl)|(rw[Z3 (by decide+kernel)];exact⟨rfl,rfl⟩))
  (fun os started H enc _=>lifted os started H enc)
end storySaysLaw
end Go.Proofs.YteijalgmijkphaaGreatDoor
