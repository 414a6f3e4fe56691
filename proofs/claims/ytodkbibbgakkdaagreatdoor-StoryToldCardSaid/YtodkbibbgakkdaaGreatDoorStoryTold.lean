/- The law StoryTold of this seat: for every input it returns true; no condition but what the card says of the listed variables. -/
import Derived.Test.YtodkbibbgakkdaaGreatDoorStoryToldTz
import Derived.Test.YtodkbibbgakkdaaGreatDoorRows
import Derived.Test.YtodkbibbgakkdaaGreatDoorCards
import Derived.Test.YtodkbibbgakkdaaGreatDoorTie
import Derived.ProofKit
import Derived.SevenTiedAt
import Derived.OpenShut
import Derived.ShutString
import Derived.ChangeOld
import Derived.Below
import Derived.WideShapes
set_option linter.unusedVariables false
set_option linter.unusedSimpArgs false
open List renaming eq_nil_of_length_eq_zero->cl
namespace Go.Proofs.YtodkbibbgakkdaaGreatDoor
open Go Go.Proofs Go.LX
namespace storyToldLaw
open Go Go.Proofs Go.LX Go.ChangeShapes Go.WideShapes Go.ChangeAt Go.RowKit
open Go.ChangeMaps (open_string shut_string)
theorem jzA:(Rows.storyToldRow.inPlace==Tryz.pinned.checked.prog.inPlace 10)=true:=by kernel_rfl
theorem jzB:(Rows.storyToldRow.unfollowed==Tryz.pinned.checked.prog.unfollowed 10)=true:=by kernel_rfl
theorem jzC:(Rows.storyToldRow.recurses==Tryz.pinned.checked.prog.recurses 10)=true:=by kernel_rfl
theorem jzD:(Rows.storyToldRow.named==Tryz.pinned.checked.prog.varsNamed 10)=true:=by kernel_rfl
theorem jzE:laidOutB Tryz.pinned.checked.prog=true:=by kernel_rfl
theorem jzF:mapsRowed Tryz.pinned.checked.prog=true:=by kernel_rfl
theorem over:Rows.storyToldRow.holds Tryz.pinned (OpenSpec.ofChange Rows.storyToldSpec):=
 OpenClaim.holds_of_wide 10 Tryz.f10 rfl rfl rfl rfl rfl rfl rfl ⟨rfl,rfl,rfl,rfl,rfl⟩ rfl rfl rfl rfl rfl (by kernel_rfl) Tryz.func10 (by simp only[joinedFacts,jzA,jzB,jzC,jzD,jzE,jzF,Bool.true_and,Bool.and_true];kernel_rfl)
  (odt (by kernel_rfl)) (by unfold Func.isWrapper;first|(rw[if_pos (by decide+kernel)];kernel_rfl)|(rw[if_neg (by decide+kernel)];exact⟨rfl,rfl⟩))
  (fun os started H enc _=>lifted os started H enc)
theorem proved:Rows.StoryToldCardSaid:=
 Claim7.holds_tied_plain_at .later [] Rows.storyToldCard.laidKinds true Rows.storyToldCard.stood.harness true over (fun _ h=>by cases h) (by kernel_rfl) (fun _ h=>by cases h) storyTold_row_tie rfl ⟨rfl,rfl⟩ (by kernel_rfl) rfl
  (fun f fn hf hfn=>by
   obtain rfl:f=10:=(osi ((show Tryz.prog.funcNamed Rows.storyToldRow.func=some 10 by kernel_rfl).symm.trans hf)).symm;obtain rfl:fn=Tryz.f10:=(osi (Tryz.func10.symm.trans hfn)).symm;refine⟨by kernel_rfl,fun j t ht=>?_⟩;rw[Tryz.params10]at ht;have hm:t∈([22,51]:List TypeId):=List.mem_of_getElem? (by simpa using ht);have hall:(([22,51]:List TypeId).all fun t=> !Tryz.prog.wantsStandIn t)=true:=by kernel_rfl
   have hq:=List.all_eq_true.1 hall t hm;show Tryz.prog.wantsStandIn t=false;simpa using hq)
  (by kernel_rfl)
end storyToldLaw
#print axioms storyToldLaw.proved
end Go.Proofs.YtodkbibbgakkdaaGreatDoor