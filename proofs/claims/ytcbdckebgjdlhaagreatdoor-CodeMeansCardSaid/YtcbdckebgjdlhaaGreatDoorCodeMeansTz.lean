/- What the law's walk gives. -/
import Derived.Test.YtcbdckebgjdlhaaGreatDoorCodeMeansTh
import Derived.Test.YtcbdckebgjdlhaaGreatDoorRows
import Derived.Test.YtcbdckebgjdlhaaGreatDoorCards
import Derived.Test.YtcbdckebgjdlhaaGreatDoorTie
import Derived.ProofKit
import Derived.SevenTiedAt
import Derived.OpenShut
import Derived.ShutString
import Derived.ChangeOld
import Derived.Below
import Derived.WideShapes
set_option linter.unusedVariables false
set_option linter.unusedSimpArgs false
namespace Go.Proofs.YtcbdckebgjdlhaaGreatDoor
open Go Go.Proofs Go.LX
namespace codeMeansLaw
open Go Go.Proofs Go.LX Go.ChangeShapes Go.WideShapes Go.ChangeAt Go.RowKit
open Go.ChangeMaps (open_string shut_string)
theorem KT:BF Tryz.prog 3 dm:=WY Tryz.underlying3
theorem opens100:BF Tryz.prog 100 iP:=by
 intro H enc w spare held fuel cs x h;obtain⟨hl,n,hf⟩:=Ma Tryz.underlying100 h;rw[show Tryz.prog.cellsOf 100=2 by kernel_rfl]at hl;obtain⟨d0,h0⟩:=yY (R:=dm) (i:=0) hf rfl (by kernel_rfl) KT;have e0:=cells_one (show(cs.drop 0).take 1=[.int .i64 d0]from h0);obtain⟨d1,h1⟩:=yY (R:=dm) (i:=1) hf rfl (by kernel_rfl) KT;have e1:=cells_one (show(cs.drop 1).take 1=[.int .i64 d1]from h1);obtain⟨c0,t0,rfl,hl0⟩:=EM hl;obtain⟨c1,t1,rfl,hl1⟩:=EM hl0;obtain rfl:=List.eq_nil_of_length_eq_zero hl1;simp at e0 e1;subst e0 e1;exact⟨⟨d0,d1⟩,rfl⟩
theorem WV:BF Tryz.prog 78 (zC iP):=EL Tryz.underlying78 (by kernel_rfl) opens100
theorem opens80:BF Tryz.prog 80 dz:=Zn fun m=>by
 induction m with
 |zero=>intro H enc w spare held fuel cs x hfu h;obtain⟨hl,n,hn,hf⟩:=Im Tryz.underlying80 h;omega
 |succ m ih=>
 intro H enc w spare held fuel cs x hfu h;obtain⟨hl,n,hn,hf⟩:=Im Tryz.underlying80 h;rw[show Tryz.prog.cellsOf 80=6 by kernel_rfl]at hl;obtain⟨d0,h0⟩:=rU (R:=dm) (i:=0) hf rfl (by kernel_rfl) (KT.to n);have e0:=cells_one (show(cs.drop 0).take 1=[.int .i64 d0]from h0);obtain⟨d1,h1⟩:=rU (R:=dm) (i:=1) hf rfl (by kernel_rfl) (KT.to n);have e1:=cells_one (show(cs.drop 1).take 1=[.int .i64 d1]from h1);obtain⟨d2,h2⟩:=rU (R:=(zC iP)) (i:=2) hf rfl (by kernel_rfl) (WV.to n);obtain⟨u2,a2,s2⟩:=h2;have e2:=cells_one (show(cs.drop 2).take 1=[u2]from a2);obtain⟨d3,h3⟩:=rU (R:=(zC iP)) (i:=3) hf rfl (by kernel_rfl) (WV.to n);obtain⟨u3,a3,s3⟩:=h3;have e3:=cells_one (show(cs.drop 3).take 1=[u3]from a3);obtain⟨d4,h4⟩:=rU (R:=(zC dz)) (i:=4) hf rfl (by kernel_rfl) (Gr Tryz.underlying45 (by kernel_rfl) (ih.le (by omega)));obtain⟨u4,a4,s4⟩:=h4;have e4:=cells_one (show(cs.drop 4).take 1=[u4]from a4);obtain⟨d5,h5⟩:=rU (R:=(zC dz)) (i:=5) hf rfl (by kernel_rfl) (Gr Tryz.underlying45 (by kernel_rfl) (ih.le (by omega)));obtain⟨u5,a5,s5⟩:=h5;have e5:=cells_one (show(cs.drop 5).take 1=[u5]from a5);obtain⟨c0,t0,rfl,hl0⟩:=EM hl;obtain⟨c1,t1,rfl,hl1⟩:=EM hl0;obtain⟨c2,t2,rfl,hl2⟩:=EM hl1;obtain⟨c3,t3,rfl,hl3⟩:=EM hl2;obtain⟨c4,t4,rfl,hl4⟩:=EM hl3;obtain⟨c5,t5,rfl,hl5⟩:=EM hl4;obtain rfl:=List.eq_nil_of_length_eq_zero hl5;simp at e0 e1 e2 e3 e4 e5;subst e0 e1 e2 e3 e4 e5;exact⟨⟨d0,d1,d2,d3,d4,d5⟩,RS ⟨_,_,_,_,rfl,s2,s3,s4,s5⟩⟩
theorem opens45:BF Tryz.prog 45 (zC dz):=EL Tryz.underlying45 (by kernel_rfl) opens80
theorem opens47:BF Tryz.prog 47 eU:=by
 intro H enc w spare held fuel cs x h;obtain⟨hl,n,hf⟩:=Ma Tryz.underlying47 h;rw[show Tryz.prog.cellsOf 47=3 by kernel_rfl]at hl;obtain⟨d0,h0⟩:=yY (R:=dm) (i:=0) hf rfl (by kernel_rfl) KT;have e0:=cells_one (show(cs.drop 0).take 1=[.int .i64 d0]from h0);obtain⟨d1,h1⟩:=yY (R:=dm) (i:=1) hf rfl (by kernel_rfl) KT;have e1:=cells_one (show(cs.drop 1).take 1=[.int .i64 d1]from h1);obtain⟨d2,h2⟩:=yY (R:=(zC dz)) (i:=2) hf rfl (by kernel_rfl) opens45;obtain⟨u2,a2,s2⟩:=h2;have e2:=cells_one (show(cs.drop 2).take 1=[u2]from a2);obtain⟨c0,t0,rfl,hl0⟩:=EM hl;obtain⟨c1,t1,rfl,hl1⟩:=EM hl0;obtain⟨c2,t2,rfl,hl2⟩:=EM hl1;obtain rfl:=List.eq_nil_of_length_eq_zero hl2;simp at e0 e1 e2;subst e0 e1 e2;exact⟨⟨d0,d1,d2⟩,⟨_,rfl,s2⟩⟩
theorem opens22:BF Tryz.prog 22 (zC eU):=EL Tryz.underlying22 (by kernel_rfl) opens47
theorem own:ownKnob Tryz.prog.godebug=none:=by kernel_rfl
theorem laidOut:laidOutB Tryz.prog=true:=by kernel_rfl
set_option maxHeartbeats 4000000 in
set_option maxRecDepth 100000 in
theorem lifted(os:Os)(started:os.Started)(H:Type)(enc:TypeId×Value→H):
  ReturnsInHanded {} Tryz.checked os 3 .any (fun w args=>(Rows.codeMeansSpec.pre enc Tryz.prog Tryz.f3 [] false w args∧laidMetH Tryz.prog Lh w)∧sizedMet enc Tryz.prog Tryz.f3 (OpenSpec.ofChange Rows.codeMeansSpec) false w args) (Rows.codeMeansSpec.post enc Tryz.prog Tryz.f3 false true false false):=by
 refine Qw (C:=Tryz.checked) (X:=fun w _=>laidMetH Tryz.prog Lh w) (fun _ _ _ hh h=>h.of_heap hh) own started (by kernel_rfl) Tryz.func3
  (ChangeSpec.witness_shaped (enc:=enc) (C:=Tryz.checked) (os:=os) (X:=fun w _=>laidMetH Tryz.prog Lh w) false (ZA (World.doorLaid Tryz.prog 400 os) 5 (RU Go.Pinned.utf8First)) #[.slice none 0 0] 8 rfl (World.shaped_of_RefB (by kernel_rfl) (by kernel_rfl)) (by kernel_rfl) (by kernel_rfl) (by kernel_rfl) (laid_met os _)) ?_
 intro W base args ds gs before hval0 hW hcnd hL hshape;have hT:=tabs_of hL hshape;have hval:∀(j:Nat) t v,Tryz.f3.params[j]? =some t→args[j]? =some v→Value.okWide Tryz.prog W .any base t v:=hval0;have hW2:=hW;obtain⟨p,q,hA0,hV,rfl,hfz,hnd⟩:=hW;have hA:DataW.TrodAll enc Tryz.prog W 0 (fun _=>true) true Tryz.f3.params.toList args.toList ds p:=hA0;rw[Tryz.params3]at hA hval;obtain⟨v0,dO,d0,ds0,p0,q0,hargs,rfl,rfl,h0,r0⟩:=trodAll_cons hA;obtain⟨rfl,rfl,rfl⟩:=trodAll_nil r0;obtain rfl:args= #[v0]:=by cases args;simp_all
 obtain⟨rfl,rfl⟩:=trodVars_none hV;have k0:=h0;have lt0:∀x∈p0,x.block<W.heap.size:=by obtain⟨m,hm⟩:=k0;exact DataW.trod_lt m _ _ _ hm
 obtain⟨m0,hm0⟩:=h0;obtain⟨sa0,sl0,sc0,rfl⟩:=okWide_slice Tryz.underlying22 (hval 0 22 _ rfl rfl);obtain⟨l0,u0,e0,s0⟩:=opens22 _ enc W _ _ m0 _ _ hm0;obtain rfl:Value.slice sa0 sl0 sc0=u0:=by simpa[Value.cells]using e0
 clear hA0 hval0;refine(Dn NN W BE nobody hT _ l0 s0 true (Cm.codeMeans _)).mono fun e W2⟨bel0,he⟩=>?_;have bel:=Grow.below bel0;subst he;have A0:=(Below.trod laidOut (by kernel_rfl) (odt (by kernel_rfl)) k0 bel lt0);have A:=(trodAll_cons_mk A0 trodAll_mk0);exact⟨_,rfl,_,_,_,[],_,[],hW2,trodAll_mk1 (shut_bool Tryz.underlying4 _),A,rfl,bel.frame _,fun h=>by cases h⟩
end codeMeansLaw
end Go.Proofs.YtcbdckebgjdlhaaGreatDoor
