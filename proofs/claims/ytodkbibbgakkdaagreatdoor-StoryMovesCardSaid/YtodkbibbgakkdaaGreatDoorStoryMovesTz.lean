/- What the law's walk gives. -/
import Derived.Test.YtodkbibbgakkdaaGreatDoorStoryMovesTj
import Derived.Test.YtodkbibbgakkdaaGreatDoorRows
import Derived.Test.YtodkbibbgakkdaaGreatDoorCards
import Derived.Test.YtodkbibbgakkdaaGreatDoorTie
import Derived.ProofKit
import Derived.SevenTiedAt
import Derived.OpenShut
import Derived.ShutString
import Derived.ChangeOld
import Derived.Below
import Derived.WideShapes
set_option linter.unusedVariables false
set_option linter.unusedSimpArgs false
open List renaming eq_nil_of_length_eq_zero->cl
namespace Go.Proofs.YtodkbibbgakkdaaGreatDoor
open Go Go.Proofs Go.LX
namespace storyMovesLaw
open Go Go.Proofs Go.LX Go.ChangeShapes Go.WideShapes Go.ChangeAt Go.RowKit
open Go.ChangeMaps (open_string shut_string)
theorem JX:N8 Tryz.prog 3 dm:=opens_int Tryz.underlying3
theorem opens43:N8 Tryz.prog 43 (yE dm):=Kb Tryz.underlying43 (by kernel_rfl) JX
theorem opens128:N8 Tryz.prog 128 lN:=by
 intro H enc w spare held fuel cs x h;obtain⟨hl,n,hf⟩:=RG Tryz.underlying128 h;rw[show Tryz.prog.cellsOf 128=5 by kernel_rfl]at hl;obtain⟨d0,h0⟩:=pF (R:=dm) (i:=0) hf rfl (by kernel_rfl) JX;have e0:=cells_one (show(cs.drop 0).take 1=[.int .i64 d0]from h0);obtain⟨d1,h1⟩:=pF (R:=dm) (i:=1) hf rfl (by kernel_rfl) JX;have e1:=cells_one (show(cs.drop 1).take 1=[.int .i64 d1]from h1);obtain⟨d2,h2⟩:=pF (R:=dm) (i:=2) hf rfl (by kernel_rfl) JX;have e2:=cells_one (show(cs.drop 2).take 1=[.int .i64 d2]from h2);obtain⟨d3,h3⟩:=pF (R:=dm) (i:=3) hf rfl (by kernel_rfl) JX;have e3:=cells_one (show(cs.drop 3).take 1=[.int .i64 d3]from h3);obtain⟨d4,h4⟩:=pF (R:=(yE dm)) (i:=4) hf rfl (by kernel_rfl) opens43;obtain⟨u4,a4,s4⟩:=h4;have e4:=cells_one (show(cs.drop 4).take 1=[u4]from a4);obtain⟨c0,t0,rfl,hl0⟩:=N9 hl;obtain⟨c1,t1,rfl,hl1⟩:=N9 hl0;obtain⟨c2,t2,rfl,hl2⟩:=N9 hl1;obtain⟨c3,t3,rfl,hl3⟩:=N9 hl2;obtain⟨c4,t4,rfl,hl4⟩:=N9 hl3;obtain rfl:=cl hl4;simp at e0 e1 e2 e3 e4;subst e0 e1 e2 e3 e4;exact⟨⟨d0,d1,d2,d3,d4⟩,⟨_,rfl,s4⟩⟩
theorem opens123:N8 Tryz.prog 123 (yE lN):=Kb Tryz.underlying123 (by kernel_rfl) opens128
theorem opens125:N8 Tryz.prog 125 dJ:=by
 intro H enc w spare held fuel cs x h;obtain⟨hl,n,hf⟩:=RG Tryz.underlying125 h;rw[show Tryz.prog.cellsOf 125=3 by kernel_rfl]at hl;obtain⟨d0,h0⟩:=pF (R:=dm) (i:=0) hf rfl (by kernel_rfl) JX;have e0:=cells_one (show(cs.drop 0).take 1=[.int .i64 d0]from h0);obtain⟨d1,h1⟩:=pF (R:=dm) (i:=1) hf rfl (by kernel_rfl) JX;have e1:=cells_one (show(cs.drop 1).take 1=[.int .i64 d1]from h1);obtain⟨d2,h2⟩:=pF (R:=(yE lN)) (i:=2) hf rfl (by kernel_rfl) opens123;obtain⟨u2,a2,s2⟩:=h2;have e2:=cells_one (show(cs.drop 2).take 1=[u2]from a2);obtain⟨c0,t0,rfl,hl0⟩:=N9 hl;obtain⟨c1,t1,rfl,hl1⟩:=N9 hl0;obtain⟨c2,t2,rfl,hl2⟩:=N9 hl1;obtain rfl:=cl hl2;simp at e0 e1 e2;subst e0 e1 e2;exact⟨⟨d0,d1,d2⟩,⟨_,rfl,s2⟩⟩
theorem opens22:N8 Tryz.prog 22 (yE dJ):=Kb Tryz.underlying22 (by kernel_rfl) opens125
theorem opens34:N8 Tryz.prog 34 rHap:=by
 intro H enc w spare held fuel cs x h;obtain⟨hl,n,hf⟩:=RG Tryz.underlying34 h;rw[show Tryz.prog.cellsOf 34=4 by kernel_rfl]at hl;obtain⟨d0,h0⟩:=pF (R:=dm) (i:=0) hf rfl (by kernel_rfl) JX;have e0:=cells_one (show(cs.drop 0).take 1=[.int .i64 d0]from h0);obtain⟨d1,h1⟩:=pF (R:=dm) (i:=1) hf rfl (by kernel_rfl) JX;have e1:=cells_one (show(cs.drop 1).take 1=[.int .i64 d1]from h1);obtain⟨d2,h2⟩:=pF (R:=dm) (i:=2) hf rfl (by kernel_rfl) JX;have e2:=cells_one (show(cs.drop 2).take 1=[.int .i64 d2]from h2);obtain⟨d3,h3⟩:=pF (R:=dm) (i:=3) hf rfl (by kernel_rfl) JX;have e3:=cells_one (show(cs.drop 3).take 1=[.int .i64 d3]from h3);obtain⟨c0,t0,rfl,hl0⟩:=N9 hl;obtain⟨c1,t1,rfl,hl1⟩:=N9 hl0;obtain⟨c2,t2,rfl,hl2⟩:=N9 hl1;obtain⟨c3,t3,rfl,hl3⟩:=N9 hl2;obtain rfl:=cl hl3;simp at e0 e1 e2 e3;subst e0 e1 e2 e3;exact⟨⟨d0,d1,d2,d3⟩,rfl⟩
theorem opens51:N8 Tryz.prog 51 (yE rHap):=Kb Tryz.underlying51 (by kernel_rfl) opens34
theorem own:ownKnob Tryz.prog.godebug=none:=by kernel_rfl
theorem laidOut:laidOutB Tryz.prog=true:=by kernel_rfl
set_option maxHeartbeats 4000000 in
set_option maxRecDepth 100000 in
theorem lifted(os:Os)(started:os.Started)(H:Type)(enc:TypeId×Value→H):
  ReturnsInHanded {} Tryz.checked os 8 .any (fun w args=>(Rows.storyMovesSpec.pre enc Tryz.prog Tryz.f8 [] false w args∧laidMetH Tryz.prog YB w)∧sizedMet enc Tryz.prog Tryz.f8 (OpenSpec.ofChange Rows.storyMovesSpec) false w args) (Rows.storyMovesSpec.post enc Tryz.prog Tryz.f8 false true false false):=by
 refine returns_laid (C:=Tryz.checked) (X:=fun w _=>laidMetH Tryz.prog YB w) (fun _ _ _ hh h=>h.of_heap hh) own started (by kernel_rfl) Tryz.func8
  (ChangeSpec.witness_shaped (enc:=enc) (C:=Tryz.checked) (os:=os) (X:=fun w _=>laidMetH Tryz.prog YB w) false (laidIn (World.doorLaid Tryz.prog 400 os) 5 (tabCells Go.Pinned.utf8First)) #[.slice none 0 0,.slice none 0 0] 8 rfl (World.shaped_of_RefB (by kernel_rfl) (by kernel_rfl)) (by kernel_rfl) (by kernel_rfl) (by kernel_rfl) (laid_met os _)) ?_
 intro W base args ds gs before hval0 hW hcnd hL hshape;have hT:=tabs_of hL hshape;have hval:∀(j:Nat) t v,Tryz.f8.params[j]? =some t→args[j]? =some v→Value.okWide Tryz.prog W .any base t v:=hval0;have hW2:=hW;obtain⟨p,q,hA0,hV,rfl,hfz,hnd⟩:=hW;have hA:DataW.TrodAll enc Tryz.prog W 0 (fun _=>true) true Tryz.f8.params.toList args.toList ds p:=hA0;rw[Tryz.params8]at hA hval;obtain⟨v0,dU,d0,ds0,p0,q0,hargs,rfl,rfl,h0,r0⟩:=trodAll_cons hA;obtain⟨v1,vs1,d1,ds1,p1,q1,rfl,rfl,rfl,h1,r1⟩:=trodAll_cons r0;obtain⟨rfl,rfl,rfl⟩:=trodAll_nil r1;obtain rfl:args= #[v0,v1]:=by cases args;simp_all
 obtain⟨rfl,rfl⟩:=trodVars_none hV;have k0:=h0;have lt0:∀x∈p0,x.block<W.heap.size:=by obtain⟨m,hm⟩:=k0;exact DataW.trod_lt m _ _ _ hm
 obtain⟨m0,hm0⟩:=h0;obtain⟨sa0,sl0,sc0,rfl⟩:=okWide_slice Tryz.underlying22 (hval 0 22 _ rfl rfl);obtain⟨l0,u0,e0,s0⟩:=opens22 _ enc W _ _ m0 _ _ hm0;obtain rfl:Value.slice sa0 sl0 sc0=u0:=by simpa[Value.cells]using e0
 have k1:=h1;have lt1:∀x∈p1,x.block<W.heap.size:=by obtain⟨m,hm⟩:=k1;exact DataW.trod_lt m _ _ _ hm
 obtain⟨m1,hm1⟩:=h1;obtain⟨sa1,sl1,sc1,rfl⟩:=okWide_slice Tryz.underlying51 (hval 1 51 _ rfl rfl);obtain⟨l1,u1,e1,s1⟩:=opens51 _ enc W _ _ m1 _ _ hm1;obtain rfl:Value.slice sa1 sl1 sc1=u1:=by simpa[Value.cells]using e1
 clear hA0 hval0;refine(K3 NN W BE nobody hT _ l0 s0 _ l1 s1 true (Pw.storyMoves _ _ s1.bK)).mono fun e W2⟨bel0,he⟩=>?_;have bel:=Grow.below bel0;subst he;have A0:=(Below.trod laidOut (by kernel_rfl) (odt (by kernel_rfl)) k0 bel lt0);have A1:=(Below.trod laidOut (by kernel_rfl) (odt (by kernel_rfl)) k1 bel lt1);have A:=(trodAll_cons_mk A0 (trodAll_cons_mk A1 trodAll_mk0));exact⟨_,rfl,_,_,_,[],_,[],hW2,trodAll_mk1 (shut_bool Tryz.underlying4 _),A,rfl,bel.frame _,fun h=>by cases h⟩
end storyMovesLaw
end Go.Proofs.YtodkbibbgakkdaaGreatDoor
