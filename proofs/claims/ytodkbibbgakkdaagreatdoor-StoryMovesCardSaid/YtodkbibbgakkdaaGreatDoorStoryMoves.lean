/- The law StoryMoves of this seat: for every input it returns true; no condition but what the card says of the listed variables. -/
import Derived.Test.YtodkbibbgakkdaaGreatDoorStoryMovesTz
import Derived.Test.YtodkbibbgakkdaaGreatDoorRows
import Derived.Test.YtodkbibbgakkdaaGreatDoorCards
import Derived.Test.YtodkbibbgakkdaaGreatDoorTie
import Derived.ProofKit
import Derived.SevenTiedAt
import Derived.OpenShut
import Derived.ShutString
import Derived.ChangeOld
import Derived.Below
import Derived.WideShapes
set_option linter.unusedVariables false
set_option linter.unusedSimpArgs false
open List renaming eq_nil_of_length_eq_zero->cl
namespace Go.Proofs.YtodkbibbgakkdaaGreatDoor
open Go Go.Proofs Go.LX
namespace storyMovesLaw
open Go Go.Proofs Go.LX Go.ChangeShapes Go.WideShapes Go.ChangeAt Go.RowKit
open Go.ChangeMaps (open_string shut_string)
theorem jzA:(Rows.storyMovesRow.inPlace==Tryz.pinned.checked.prog.inPlace 8)=true:=by kernel_rfl
theorem jzB:(Rows.storyMovesRow.unfollowed==Tryz.pinned.checked.prog.unfollowed 8)=true:=by kernel_rfl
theorem jzC:(Rows.storyMovesRow.recurses==Tryz.pinned.checked.prog.recurses 8)=true:=by kernel_rfl
theorem jzD:(Rows.storyMovesRow.named==Tryz.pinned.checked.prog.varsNamed 8)=true:=by kernel_rfl
theorem jzE:laidOutB Tryz.pinned.checked.prog=true:=by kernel_rfl
theorem jzF:mapsRowed Tryz.pinned.checked.prog=true:=by kernel_rfl
theorem over:Rows.storyMovesRow.holds Tryz.pinned (OpenSpec.ofChange Rows.storyMovesSpec):=
 OpenClaim.holds_of_wide 8 Tryz.f8 rfl rfl rfl rfl rfl rfl rfl ⟨rfl,rfl,rfl,rfl,rfl⟩ rfl rfl rfl rfl rfl (by kernel_rfl) Tryz.func8 (by simp only[joinedFacts,jzA,jzB,jzC,jzD,jzE,jzF,Bool.true_and,Bool.and_true];kernel_rfl)
  (odt (by kernel_rfl)) (by unfold Func.isWrapper;first|(rw[Z2 (by decide+kernel)];kernel_rfl)|(rw[Z3 (by decide+kernel)];exact⟨rfl,rfl⟩))
  (fun os started H enc _=>lifted os started H enc)
theorem proved:Rows.StoryMovesCardSaid:=
 Claim7.holds_tied_plain_at .later [] Rows.storyMovesCard.laidKinds true Rows.storyMovesCard.stood.harness true over (fun _ h=>by cases h) (by kernel_rfl) (fun _ h=>by cases h) storyMoves_row_tie rfl ⟨rfl,rfl⟩ (by kernel_rfl) rfl
  (fun f fn hf hfn=>by
   obtain rfl:f=8:=(osi ((show Tryz.prog.funcNamed Rows.storyMovesRow.func=some 8 by kernel_rfl).symm.trans hf)).symm;obtain rfl:fn=Tryz.f8:=(osi (Tryz.func8.symm.trans hfn)).symm;refine⟨by kernel_rfl,fun j t ht=>?_⟩;rw[Tryz.params8]at ht;have hm:t∈([22,51]:ZD TypeId):=List.mem_of_getElem? (by simpa using ht);have hall:(([22,51]:ZD TypeId).all fun t=> !Tryz.prog.wantsStandIn t)=true:=by kernel_rfl
   have hq:=List.all_eq_true.1 hall t hm;show Tryz.prog.wantsStandIn t=false;simpa using hq)
  (by kernel_rfl)
end storyMovesLaw
#print axioms storyMovesLaw.proved
end Go.Proofs.YtodkbibbgakkdaaGreatDoor