/- The law CodeMeans of this seat: for every input it returns true; no condition but what the card says of the listed variables. -/
import Derived.Test.YtcbdckebgjdlhaaGreatDoorCodeMeansTz
import Derived.Test.YtcbdckebgjdlhaaGreatDoorRows
import Derived.Test.YtcbdckebgjdlhaaGreatDoorCards
import Derived.Test.YtcbdckebgjdlhaaGreatDoorTie
import Derived.ProofKit
import Derived.SevenTiedAt
import Derived.OpenShut
import Derived.ShutString
import Derived.ChangeOld
import Derived.Below
import Derived.WideShapes
set_option linter.unusedVariables false
set_option linter.unusedSimpArgs false
namespace Go.Proofs.YtcbdckebgjdlhaaGreatDoor
open Go Go.Proofs Go.LX
namespace codeMeansLaw
open Go Go.Proofs Go.LX Go.ChangeShapes Go.WideShapes Go.ChangeAt Go.RowKit
open Go.ChangeMaps (open_string shut_string)
theorem jzA:(Rows.codeMeansRow.inPlace==Tryz.pinned.checked.prog.inPlace 3)=true:=by kernel_rfl
theorem jzB:(Rows.codeMeansRow.unfollowed==Tryz.pinned.checked.prog.unfollowed 3)=true:=by kernel_rfl
theorem jzC:(Rows.codeMeansRow.recurses==Tryz.pinned.checked.prog.recurses 3)=true:=by kernel_rfl
theorem jzD:(Rows.codeMeansRow.named==Tryz.pinned.checked.prog.varsNamed 3)=true:=by kernel_rfl
theorem jzE:laidOutB Tryz.pinned.checked.prog=true:=by kernel_rfl
theorem jzF:mapsRowed Tryz.pinned.checked.prog=true:=by kernel_rfl
theorem over:Rows.codeMeansRow.holds Tryz.pinned (OpenSpec.ofChange Rows.codeMeansSpec):=
 OpenClaim.holds_of_wide 3 Tryz.f3 rfl rfl rfl rfl rfl rfl rfl ⟨rfl,rfl,rfl,rfl,rfl⟩ rfl rfl rfl rfl rfl (by kernel_rfl) Tryz.func3 (by simp only[joinedFacts,jzA,jzB,jzC,jzD,jzE,jzF,Bool.true_and,Bool.and_true];kernel_rfl)
  (odt (by kernel_rfl)) (by unfold Func.isWrapper;first|(rw[if_pos (by decide+kernel)];kernel_rfl)|(rw[if_neg (by decide+kernel)];exact⟨rfl,rfl⟩))
  (fun os started H enc _=>lifted os started H enc)
theorem proved:Rows.CodeMeansCardSaid:=
 Claim7.holds_tied_plain_at .later [] Rows.codeMeansCard.laidKinds true Rows.codeMeansCard.stood.harness true over (fun _ h=>by cases h) (by kernel_rfl) (fun _ h=>by cases h) codeMeans_row_tie rfl ⟨rfl,rfl⟩ (by kernel_rfl) rfl
  (fun f fn hf hfn=>by
   obtain rfl:f=3:=(osi ((show Tryz.prog.funcNamed Rows.codeMeansRow.func=some 3 by kernel_rfl).symm.trans hf)).symm;obtain rfl:fn=Tryz.f3:=(osi (Tryz.func3.symm.trans hfn)).symm;refine⟨by kernel_rfl,fun j t ht=>?_⟩;rw[Tryz.params3]at ht;have hm:t∈([22]:List TypeId):=List.mem_of_getElem? (by simpa using ht);have hall:(([22]:List TypeId).all fun t=> !Tryz.prog.wantsStandIn t)=true:=by kernel_rfl
   have hq:=List.all_eq_true.1 hall t hm;show Tryz.prog.wantsStandIn t=false;simpa using hq)
  (by kernel_rfl)
end codeMeansLaw
#print axioms codeMeansLaw.proved
end Go.Proofs.YtcbdckebgjdlhaaGreatDoor