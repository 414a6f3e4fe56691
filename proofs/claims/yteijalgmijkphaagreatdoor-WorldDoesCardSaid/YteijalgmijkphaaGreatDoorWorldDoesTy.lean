/- What the law's row says of it. -/
import Derived.Test.YteijalgmijkphaaGreatDoorWorldDoesTz
import Derived.Test.YteijalgmijkphaaGreatDoorRows
import Derived.Test.YteijalgmijkphaaGreatDoorCards
import Derived.Test.YteijalgmijkphaaGreatDoorTie
import Derived.ProofKit
import Derived.SevenTiedAt
import Derived.OpenShut
import Derived.ShutString
import Derived.ChangeOld
import Derived.Below
import Derived.WideShapes
set_option linter.unusedVariables false
set_option linter.unusedSimpArgs false
namespace Go.Proofs.YteijalgmijkphaaGreatDoor
open Go Go.Proofs Go.LX
namespace worldDoesLaw
open Go Go.Proofs Go.LX Go.ChangeShapes Go.WideShapes Go.ChangeAt Go.RowKit
open Go.ChangeMaps (open_string shut_string)
theorem jzA:(Rows.worldDoesRow.inPlace==Tryz.pinned.checked.prog.inPlace 3)=true:=by kernel_rfl
theorem jzB:(Rows.worldDoesRow.unfollowed==Tryz.pinned.checked.prog.unfollowed 3)=true:=by kernel_rfl
theorem jzC:(Rows.worldDoesRow.recurses==Tryz.pinned.checked.prog.recurses 3)=true:=by kernel_rfl
theorem jzD:(Rows.worldDoesRow.named==Tryz.pinned.checked.prog.varsNamed 3)=true:=by kernel_rfl
theorem jzE:laidOutB Tryz.pinned.checked.prog=true:=by kernel_rfl
theorem jzF:mapsRowed Tryz.pinned.checked.prog=true:=by kernel_rfl
theorem over:Rows.worldDoesRow.holds Tryz.pinned (OpenSpec.ofChange Rows.worldDoesSpec):=
 OpenClaim.holds_of_wide 3 Tryz.f3 rfl rfl rfl rfl rfl rfl rfl ⟨rfl,rfl,rfl,rfl,rfl⟩ rfl rfl rfl rfl rfl (by kernel_rfl) Tryz.func3 (by simp only[joinedFacts,jzA,jzB,jzC,jzD,jzE,jzF,Bool.true_and,Bool.and_true];kernel_rfl)
  (NX (by kernel_rfl)) (by unfold Func.isWrapper;first|(rw[Z2 (by decide+kernel)];kernel_rfl)|(rw[Z3 (by decide+kernel)];exact⟨rfl,rfl⟩))
  (λos started Zs enc _=>lifted os started Zs enc)
end worldDoesLaw
end Go.Proofs.YteijalgmijkphaaGreatDoor
