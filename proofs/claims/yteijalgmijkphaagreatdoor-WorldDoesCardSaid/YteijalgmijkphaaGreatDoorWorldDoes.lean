/- The law WorldDoes of this seat: for every input it returns true; no condition but what the card says of the listed variables. -/
import Derived.Test.YteijalgmijkphaaGreatDoorWorldDoesTx
import Derived.Test.YteijalgmijkphaaGreatDoorRows
import Derived.Test.YteijalgmijkphaaGreatDoorCards
import Derived.Test.YteijalgmijkphaaGreatDoorTie
import Derived.ProofKit
import Derived.SevenTiedAt
import Derived.OpenShut
import Derived.ShutString
import Derived.ChangeOld
import Derived.Below
import Derived.WideShapes
set_option linter.unusedVariables false
set_option linter.unusedSimpArgs false
namespace Go.Proofs.YteijalgmijkphaaGreatDoor
open Go Go.Proofs Go.LX
namespace worldDoesLaw
open Go Go.Proofs Go.LX Go.ChangeShapes Go.WideShapes Go.ChangeAt Go.RowKit
open Go.ChangeMaps (open_string shut_string)
theorem proved:Rows.WorldDoesCardSaid:=
 Claim7.holds_tied_plain_at .later [] Rows.worldDoesCard.laidKinds true Rows.worldDoesCard.stood.harness true over (λ_ h=>by cases h) (by kernel_rfl) (λ_ h=>by cases h) worldDoes_row_tie rfl ⟨rfl,rfl⟩ (by kernel_rfl) rfl
  (λf fn hf hfn=>by
   obtain rfl:f=3:=(osi ((show Tryz.prog.funcNamed Rows.worldDoesRow.func=some 3 by kernel_rfl).symm.trans hf)).symm;obtain rfl:fn=Tryz.f3:=(osi (Tryz.func3.symm.trans hfn)).symm;refine⟨by kernel_rfl,λj t ht=>?_⟩;rw[Tryz.params3]at ht;have hm:t∈([26,28,22,26]:H TypeId):=List.mem_of_getElem? (by simpa using ht);have hall:(([26,28,22,26]:H TypeId).all λt=> !Tryz.prog.wantsStandIn t)=true:=by kernel_rfl
   have hq:=List.all_eq_true.1 hall t hm;show Tryz.prog.wantsStandIn t=false;simpa using hq)
  jzG
end worldDoesLaw
#print axioms worldDoesLaw.proved
end Go.Proofs.YteijalgmijkphaaGreatDoor