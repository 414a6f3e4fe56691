/- The law StorySays of this seat: for every input it returns true; no condition but what the card says of the listed variables. -/
import Derived.Test.YteijalgmijkphaaGreatDoorStorySaysTy
import Derived.Test.YteijalgmijkphaaGreatDoorRows
import Derived.Test.YteijalgmijkphaaGreatDoorCards
import Derived.Test.YteijalgmijkphaaGreatDoorTie
import Derived.ProofKit
import Derived.SevenTiedAt
import Derived.OpenShut
import Derived.ShutString
import Derived.ChangeOld
import Derived.Below
import Derived.WideShapes
set_option linter.unusedVariables false
set_option linter.unusedSimpArgs false
namespace Go.Proofs.YteijalgmijkphaaGreatDoor
open Go Go.Proofs Go.LX
namespace storySaysLaw
open Go Go.Proofs Go.LX Go.ChangeShapes Go.WideShapes Go.ChangeAt Go.RowKit
open Go.ChangeMaps (open_string shut_string)
theorem proved:Rows.StorySaysCardSaid:=
 Claim7.holds_tied_plain_at .later [] Rows.storySaysCard.laidKinds true Rows.storySaysCard.stood.harness true over (fun _ h=>by cases h) (by kernel_rfl) (fun _ h=>by cases h) storySays_row_tie rfl ⟨rfl,rfl⟩ (by kernel_rfl) rfl
  (fun f fn hf hfn=>by
   obtain rfl:f=4:=(osi ((show Tryz.prog.funcNamed Rows.storySaysRow.func=some 4 by kernel_rfl).symm.trans hf)).symm;obtain rfl:fn=Tryz.f4:=(osi (Tryz.func4.symm.trans hfn)).symm;refine⟨by kernel_rfl,fun j t ht=>?_⟩;rw[Tryz.params4]at ht;have hm:t∈([26,3]:Zi TypeId):=List.mem_of_getElem? (by simpa using ht);have hall:(([26,3]:Zi TypeId).all fun t=> !Tryz.prog.wantsStandIn t)=true:=by kernel_rfl
   have hq:=List.all_eq_true.1 hall t hm;show Tryz.prog.wantsStandIn t=false;simpa using hq)
  (by kernel_rfl)
end storySaysLaw
#print axioms storySaysLaw.proved
end Go.Proofs.YteijalgmijkphaaGreatDoor