/- The law WorldRuns of this seat: for every input it returns true; no condition but what the card says of the listed variables. -/
import Derived.Test.YteijalgmijkphaaGreatDoorWorldRunsTx
import Derived.Test.YteijalgmijkphaaGreatDoorRows
import Derived.Test.YteijalgmijkphaaGreatDoorCards
import Derived.Test.YteijalgmijkphaaGreatDoorTie
import Derived.ProofKit
import Derived.SevenTiedAt
import Derived.OpenShut
import Derived.ShutString
import Derived.ChangeOld
import Derived.Below
import Derived.WideShapes
set_option linter.unusedVariables false
set_option linter.unusedSimpArgs false
namespace Go.Proofs.YteijalgmijkphaaGreatDoor
open Go Go.Proofs Go.LX
namespace worldRunsLaw
open Go Go.Proofs Go.LX Go.ChangeShapes Go.WideShapes Go.ChangeAt Go.RowKit
open Go.ChangeMaps (open_string shut_string)
theorem proved:Rows.WorldRunsCardSaid:=
 Claim7.holds_tied_plain_at .later [] Rows.worldRunsCard.laidKinds true Rows.worldRunsCard.stood.harness true over (λ_ h=>by cases h) (by kernel_rfl) (λ_ h=>by cases h) worldRuns_row_tie rfl ⟨rfl,rfl⟩ (by kernel_rfl) rfl
  (λf fn hf hfn=>by
   obtain rfl:f=5:=(osi ((show Tryz.prog.funcNamed Rows.worldRunsRow.func=some 5 by kernel_rfl).symm.trans hf)).symm;obtain rfl:fn=Tryz.f5:=(osi (Tryz.func5.symm.trans hfn)).symm;refine⟨by kernel_rfl,λj t ht=>?_⟩;rw[Tryz.params5]at ht;have hm:t∈([26,56]:H TypeId):=List.mem_of_getElem? (by simpa using ht);have hall:(([26,56]:H TypeId).all λt=> !Tryz.prog.wantsStandIn t)=true:=by kernel_rfl
   have hq:=List.all_eq_true.1 hall t hm;show Tryz.prog.wantsStandIn t=false;simpa using hq)
  jzG
end worldRunsLaw
#print axioms worldRunsLaw.proved
end Go.Proofs.YteijalgmijkphaaGreatDoor