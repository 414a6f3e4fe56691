/- The law StoryOne of this seat: for every input it returns true; no condition but what the card says of the listed variables. -/
import Derived.Test.YtodkbibbgakkdaaGreatDoorStoryOneTz
import Derived.Test.YtodkbibbgakkdaaGreatDoorRows
import Derived.Test.YtodkbibbgakkdaaGreatDoorCards
import Derived.Test.YtodkbibbgakkdaaGreatDoorTie
import Derived.ProofKit
import Derived.SevenTiedAt
import Derived.OpenShut
import Derived.ShutString
import Derived.ChangeOld
import Derived.Below
import Derived.WideShapes
set_option linter.unusedVariables false
set_option linter.unusedSimpArgs false
open List renaming eq_nil_of_length_eq_zero->cl
namespace Go.Proofs.YtodkbibbgakkdaaGreatDoor
open Go Go.Proofs Go.LX
namespace storyOneLaw
open Go Go.Proofs Go.LX Go.ChangeShapes Go.WideShapes Go.ChangeAt Go.RowKit
open Go.ChangeMaps (open_string shut_string)
theorem jzA:(Rows.storyOneRow.inPlace==Tryz.pinned.checked.prog.inPlace 9)=true:=by kernel_rfl
theorem jzB:(Rows.storyOneRow.unfollowed==Tryz.pinned.checked.prog.unfollowed 9)=true:=by kernel_rfl
theorem jzC:(Rows.storyOneRow.recurses==Tryz.pinned.checked.prog.recurses 9)=true:=by kernel_rfl
theorem jzD:(Rows.storyOneRow.named==Tryz.pinned.checked.prog.varsNamed 9)=true:=by kernel_rfl
theorem jzE:laidOutB Tryz.pinned.checked.prog=true:=by kernel_rfl
theorem jzF:mapsRowed Tryz.pinned.checked.prog=true:=by kernel_rfl
theorem over:Rows.storyOneRow.holds Tryz.pinned (OpenSpec.ofChange Rows.storyOneSpec):=
 OpenClaim.holds_of_wide 9 Tryz.f9 rfl rfl rfl rfl rfl rfl rfl ⟨rfl,rfl,rfl,rfl,rfl⟩ rfl rfl rfl rfl rfl (by kernel_rfl) Tryz.func9 (by simp only[joinedFacts,jzA,jzB,jzC,jzD,jzE,jzF,Bool.true_and,Bool.and_true];kernel_rfl)
  (Yg (by kernel_rfl)) (by unfold Func.isWrapper;first|(rw[if_pos (by decide+kernel)];kernel_rfl)|(rw[if_neg (by decide+kernel)];exact⟨rfl,rfl⟩))
  (fun os started H enc _=>lifted os started H enc)
theorem proved:Rows.StoryOneCardSaid:=
 Claim7.holds_tied_plain_at .later [] Rows.storyOneCard.laidKinds true Rows.storyOneCard.stood.harness true over (fun _ h=>by cases h) (by kernel_rfl) (fun _ h=>by cases h) storyOne_row_tie rfl ⟨rfl,rfl⟩ (by kernel_rfl) rfl
  (fun f fn hf hfn=>by
   obtain rfl:f=9:=(osi ((show Tryz.prog.funcNamed Rows.storyOneRow.func=some 9 by kernel_rfl).symm.trans hf)).symm;obtain rfl:fn=Tryz.f9:=(osi (Tryz.func9.symm.trans hfn)).symm;refine⟨by kernel_rfl,fun j t ht=>?_⟩;rw[Tryz.params9]at ht;have hm:t∈([22,51]:List TypeId):=List.mem_of_getElem? (by simpa using ht);have hall:(([22,51]:List TypeId).all fun t=> !Tryz.prog.wantsStandIn t)=true:=by kernel_rfl
   have hq:=List.all_eq_true.1 hall t hm;show Tryz.prog.wantsStandIn t=false;simpa using hq)
  (by kernel_rfl)
end storyOneLaw
#print axioms storyOneLaw.proved
end Go.Proofs.YtodkbibbgakkdaaGreatDoor