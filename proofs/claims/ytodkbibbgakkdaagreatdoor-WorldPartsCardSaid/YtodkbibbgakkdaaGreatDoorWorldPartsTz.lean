/- What the law's walk gives. -/
import Derived.Test.YtodkbibbgakkdaaGreatDoorWorldPartsTj
import Derived.Test.YtodkbibbgakkdaaGreatDoorRows
import Derived.Test.YtodkbibbgakkdaaGreatDoorCards
import Derived.Test.YtodkbibbgakkdaaGreatDoorTie
import Derived.ProofKit
import Derived.SevenTiedAt
import Derived.OpenShut
import Derived.ShutString
import Derived.ChangeOld
import Derived.Below
import Derived.WideShapes
set_option linter.unusedVariables false
set_option linter.unusedSimpArgs false
namespace Go.Proofs.YtodkbibbgakkdaaGreatDoor
open Go Go.Proofs Go.LX
namespace worldPartsLaw
open Go Go.Proofs Go.LX Go.ChangeShapes Go.WideShapes Go.ChangeAt Go.RowKit
open Go.ChangeMaps (open_string shut_string)
theorem yg:xg Tryz.prog 3 bY:=opens_int Tryz.underlying3
theorem opens43:xg Tryz.prog 43 (tu bY):=wD Tryz.underlying43 (by kernel_rfl) yg
theorem opens128:xg Tryz.prog 128 kE:=by
 intro H enc w spare held fuel cs x h;obtain⟨hl,n,hf⟩:=yA Tryz.underlying128 h;rw[show Tryz.prog.cellsOf 128=5 by kernel_rfl]at hl;obtain⟨d0,h0⟩:=eP (R:=bY) (i:=0) hf rfl (by kernel_rfl) yg;have e0:=cells_one (show(cs.drop 0).take 1=[.int .i64 d0]from h0);obtain⟨d1,h1⟩:=eP (R:=bY) (i:=1) hf rfl (by kernel_rfl) yg;have e1:=cells_one (show(cs.drop 1).take 1=[.int .i64 d1]from h1);obtain⟨d2,h2⟩:=eP (R:=bY) (i:=2) hf rfl (by kernel_rfl) yg;have e2:=cells_one (show(cs.drop 2).take 1=[.int .i64 d2]from h2);obtain⟨d3,h3⟩:=eP (R:=bY) (i:=3) hf rfl (by kernel_rfl) yg;have e3:=cells_one (show(cs.drop 3).take 1=[.int .i64 d3]from h3);obtain⟨d4,h4⟩:=eP (R:=(tu bY)) (i:=4) hf rfl (by kernel_rfl) opens43;obtain⟨u4,a4,s4⟩:=h4;have e4:=cells_one (show(cs.drop 4).take 1=[u4]from a4);obtain⟨c0,t0,rfl,hl0⟩:=q8 hl;obtain⟨c1,t1,rfl,hl1⟩:=q8 hl0;obtain⟨c2,t2,rfl,hl2⟩:=q8 hl1;obtain⟨c3,t3,rfl,hl3⟩:=q8 hl2;obtain⟨c4,t4,rfl,hl4⟩:=q8 hl3;obtain rfl:=List.eq_nil_of_length_eq_zero hl4;simp at e0 e1 e2 e3 e4;subst e0 e1 e2 e3 e4;exact⟨⟨d0,d1,d2,d3,d4⟩,⟨_,rfl,s4⟩⟩
theorem opens123:xg Tryz.prog 123 (tu kE):=wD Tryz.underlying123 (by kernel_rfl) opens128
theorem opens125:xg Tryz.prog 125 dH:=by
 intro H enc w spare held fuel cs x h;obtain⟨hl,n,hf⟩:=yA Tryz.underlying125 h;rw[show Tryz.prog.cellsOf 125=3 by kernel_rfl]at hl;obtain⟨d0,h0⟩:=eP (R:=bY) (i:=0) hf rfl (by kernel_rfl) yg;have e0:=cells_one (show(cs.drop 0).take 1=[.int .i64 d0]from h0);obtain⟨d1,h1⟩:=eP (R:=bY) (i:=1) hf rfl (by kernel_rfl) yg;have e1:=cells_one (show(cs.drop 1).take 1=[.int .i64 d1]from h1);obtain⟨d2,h2⟩:=eP (R:=(tu kE)) (i:=2) hf rfl (by kernel_rfl) opens123;obtain⟨u2,a2,s2⟩:=h2;have e2:=cells_one (show(cs.drop 2).take 1=[u2]from a2);obtain⟨c0,t0,rfl,hl0⟩:=q8 hl;obtain⟨c1,t1,rfl,hl1⟩:=q8 hl0;obtain⟨c2,t2,rfl,hl2⟩:=q8 hl1;obtain rfl:=List.eq_nil_of_length_eq_zero hl2;simp at e0 e1 e2;subst e0 e1 e2;exact⟨⟨d0,d1,d2⟩,⟨_,rfl,s2⟩⟩
theorem opens22:xg Tryz.prog 22 (tu dH):=wD Tryz.underlying22 (by kernel_rfl) opens125
theorem opens84:xg Tryz.prog 84 Gh:=by
 intro H enc w spare held fuel cs x h;obtain⟨hl,n,hf⟩:=yA Tryz.underlying84 h;rw[show Tryz.prog.cellsOf 84=4 by kernel_rfl]at hl;obtain⟨d0,h0⟩:=eP (R:=bY) (i:=0) hf rfl (by kernel_rfl) yg;have e0:=cells_one (show(cs.drop 0).take 1=[.int .i64 d0]from h0);obtain⟨d1,h1⟩:=eP (R:=bY) (i:=1) hf rfl (by kernel_rfl) yg;have e1:=cells_one (show(cs.drop 1).take 1=[.int .i64 d1]from h1);obtain⟨d2,h2⟩:=eP (R:=(tu bY)) (i:=2) hf rfl (by kernel_rfl) opens43;obtain⟨u2,a2,s2⟩:=h2;have e2:=cells_one (show(cs.drop 2).take 1=[u2]from a2);obtain⟨d3,h3⟩:=eP (R:=bY) (i:=3) hf rfl (by kernel_rfl) yg;have e3:=cells_one (show(cs.drop 3).take 1=[.int .i64 d3]from h3);obtain⟨c0,t0,rfl,hl0⟩:=q8 hl;obtain⟨c1,t1,rfl,hl1⟩:=q8 hl0;obtain⟨c2,t2,rfl,hl2⟩:=q8 hl1;obtain⟨c3,t3,rfl,hl3⟩:=q8 hl2;obtain rfl:=List.eq_nil_of_length_eq_zero hl3;simp at e0 e1 e2 e3;subst e0 e1 e2 e3;exact⟨⟨d0,d1,d2,d3⟩,⟨_,rfl,s2⟩⟩
theorem opens35:xg Tryz.prog 35 (tu Gh):=wD Tryz.underlying35 (by kernel_rfl) opens84
theorem opens5:xg Tryz.prog 5 fI:=opens_byte Tryz.underlying5
theorem opens36:xg Tryz.prog 36 (tu fI):=wD Tryz.underlying36 (by kernel_rfl) opens5
theorem opens38:xg Tryz.prog 38 rDisk:=by
 intro H enc w spare held fuel cs x h;obtain⟨hl,n,hf⟩:=yA Tryz.underlying38 h;rw[show Tryz.prog.cellsOf 38=2 by kernel_rfl]at hl;obtain⟨d0,h0⟩:=eP (R:=(tu fI)) (i:=0) hf rfl (by kernel_rfl) opens36;obtain⟨u0,a0,s0⟩:=h0;have e0:=cells_one (show(cs.drop 0).take 1=[u0]from a0);obtain⟨d1,h1⟩:=eP (R:=(tu fI)) (i:=1) hf rfl (by kernel_rfl) opens36;obtain⟨u1,a1,s1⟩:=h1;have e1:=cells_one (show(cs.drop 1).take 1=[u1]from a1);obtain⟨c0,t0,rfl,hl0⟩:=q8 hl;obtain⟨c1,t1,rfl,hl1⟩:=q8 hl0;obtain rfl:=List.eq_nil_of_length_eq_zero hl1;simp at e0 e1;subst e0 e1;exact⟨⟨d0,d1⟩,⟨_,_,rfl,s0,s1⟩⟩
theorem opens4:xg Tryz.prog 4 rBool:=opens_bool Tryz.underlying4
theorem opens40:xg Tryz.prog 40 gD:=by
 intro H enc w spare held fuel cs x h;obtain⟨hl,n,hf⟩:=yA Tryz.underlying40 h;rw[show Tryz.prog.cellsOf 40=4 by kernel_rfl]at hl;obtain⟨d0,h0⟩:=eP (R:=(tu Gh)) (i:=0) hf rfl (by kernel_rfl) opens35;obtain⟨u0,a0,s0⟩:=h0;have e0:=cells_one (show(cs.drop 0).take 1=[u0]from a0);obtain⟨d1,h1⟩:=eP (R:=rDisk) (i:=1) hf rfl (by kernel_rfl) opens38;obtain⟨u1a,u1b,a1,s1a,s1b⟩:=rDisk_open h1;obtain⟨a1c,a1d⟩:=cells_two (show(cs.drop 1).take 2=[u1a,u1b]from a1);have e1:=cells_one a1c;have e2:=cells_one a1d;obtain⟨d2,h2⟩:=eP (R:=rBool) (i:=2) hf rfl (by kernel_rfl) opens4;have e3:=cells_one (show(cs.drop 3).take 1=[.bool d2]from h2);obtain⟨c0,t0,rfl,hl0⟩:=q8 hl;obtain⟨c1,t1,rfl,hl1⟩:=q8 hl0;obtain⟨c2,t2,rfl,hl2⟩:=q8 hl1;obtain⟨c3,t3,rfl,hl3⟩:=q8 hl2;obtain rfl:=List.eq_nil_of_length_eq_zero hl3;simp at e0 e1 e2 e3;subst e0 e1 e2 e3;exact⟨⟨d0,d1.safe,d1.wait,d2⟩,⟨_,_,_,rfl,s0,s1a,s1b⟩⟩
theorem opens23:xg Tryz.prog 23 (tu gD):=wD Tryz.underlying23 (by kernel_rfl) opens40
theorem opens45:xg Tryz.prog 45 eO:=by
 intro H enc w spare held fuel cs x h;obtain⟨hl,n,hf⟩:=yA Tryz.underlying45 h;rw[show Tryz.prog.cellsOf 45=6 by kernel_rfl]at hl;obtain⟨d0,h0⟩:=eP (R:=bY) (i:=0) hf rfl (by kernel_rfl) yg;have e0:=cells_one (show(cs.drop 0).take 1=[.int .i64 d0]from h0);obtain⟨d1,h1⟩:=eP (R:=bY) (i:=1) hf rfl (by kernel_rfl) yg;have e1:=cells_one (show(cs.drop 1).take 1=[.int .i64 d1]from h1);obtain⟨d2,h2⟩:=eP (R:=bY) (i:=2) hf rfl (by kernel_rfl) yg;have e2:=cells_one (show(cs.drop 2).take 1=[.int .i64 d2]from h2);obtain⟨d3,h3⟩:=eP (R:=bY) (i:=3) hf rfl (by kernel_rfl) yg;have e3:=cells_one (show(cs.drop 3).take 1=[.int .i64 d3]from h3);obtain⟨d4,h4⟩:=eP (R:=rBool) (i:=4) hf rfl (by kernel_rfl) opens4;have e4:=cells_one (show(cs.drop 4).take 1=[.bool d4]from h4);obtain⟨d5,h5⟩:=eP (R:=(tu bY)) (i:=5) hf rfl (by kernel_rfl) opens43;obtain⟨u5,a5,s5⟩:=h5;have e5:=cells_one (show(cs.drop 5).take 1=[u5]from a5);obtain⟨c0,t0,rfl,hl0⟩:=q8 hl;obtain⟨c1,t1,rfl,hl1⟩:=q8 hl0;obtain⟨c2,t2,rfl,hl2⟩:=q8 hl1;obtain⟨c3,t3,rfl,hl3⟩:=q8 hl2;obtain⟨c4,t4,rfl,hl4⟩:=q8 hl3;obtain⟨c5,t5,rfl,hl5⟩:=q8 hl4;obtain rfl:=List.eq_nil_of_length_eq_zero hl5;simp at e0 e1 e2 e3 e4 e5;subst e0 e1 e2 e3 e4 e5;exact⟨⟨d0,d1,d2,d3,d4,d5⟩,⟨_,rfl,s5⟩⟩
theorem opens24:xg Tryz.prog 24 (tu eO):=wD Tryz.underlying24 (by kernel_rfl) opens45
theorem opens26:xg Tryz.prog 26 rWorld:=by
 intro H enc w spare held fuel cs x h;obtain⟨hl,n,hf⟩:=yA Tryz.underlying26 h;rw[show Tryz.prog.cellsOf 26=3 by kernel_rfl]at hl;obtain⟨d0,h0⟩:=eP (R:=(tu dH)) (i:=0) hf rfl (by kernel_rfl) opens22;obtain⟨u0,a0,s0⟩:=h0;have e0:=cells_one (show(cs.drop 0).take 1=[u0]from a0);obtain⟨d1,h1⟩:=eP (R:=(tu gD)) (i:=1) hf rfl (by kernel_rfl) opens23;obtain⟨u1,a1,s1⟩:=h1;have e1:=cells_one (show(cs.drop 1).take 1=[u1]from a1);obtain⟨d2,h2⟩:=eP (R:=(tu eO)) (i:=2) hf rfl (by kernel_rfl) opens24;obtain⟨u2,a2,s2⟩:=h2;have e2:=cells_one (show(cs.drop 2).take 1=[u2]from a2);obtain⟨c0,t0,rfl,hl0⟩:=q8 hl;obtain⟨c1,t1,rfl,hl1⟩:=q8 hl0;obtain⟨c2,t2,rfl,hl2⟩:=q8 hl1;obtain rfl:=List.eq_nil_of_length_eq_zero hl2;simp at e0 e1 e2;subst e0 e1 e2;exact⟨⟨d0,d1,d2⟩,⟨_,_,_,rfl,s0,s1,s2⟩⟩
theorem opens34:xg Tryz.prog 34 rHap:=by
 intro H enc w spare held fuel cs x h;obtain⟨hl,n,hf⟩:=yA Tryz.underlying34 h;rw[show Tryz.prog.cellsOf 34=4 by kernel_rfl]at hl;obtain⟨d0,h0⟩:=eP (R:=bY) (i:=0) hf rfl (by kernel_rfl) yg;have e0:=cells_one (show(cs.drop 0).take 1=[.int .i64 d0]from h0);obtain⟨d1,h1⟩:=eP (R:=bY) (i:=1) hf rfl (by kernel_rfl) yg;have e1:=cells_one (show(cs.drop 1).take 1=[.int .i64 d1]from h1);obtain⟨d2,h2⟩:=eP (R:=bY) (i:=2) hf rfl (by kernel_rfl) yg;have e2:=cells_one (show(cs.drop 2).take 1=[.int .i64 d2]from h2);obtain⟨d3,h3⟩:=eP (R:=bY) (i:=3) hf rfl (by kernel_rfl) yg;have e3:=cells_one (show(cs.drop 3).take 1=[.int .i64 d3]from h3);obtain⟨c0,t0,rfl,hl0⟩:=q8 hl;obtain⟨c1,t1,rfl,hl1⟩:=q8 hl0;obtain⟨c2,t2,rfl,hl2⟩:=q8 hl1;obtain⟨c3,t3,rfl,hl3⟩:=q8 hl2;obtain rfl:=List.eq_nil_of_length_eq_zero hl3;simp at e0 e1 e2 e3;subst e0 e1 e2 e3;exact⟨⟨d0,d1,d2,d3⟩,rfl⟩
theorem opens51:xg Tryz.prog 51 (tu rHap):=wD Tryz.underlying51 (by kernel_rfl) opens34
theorem own:ownKnob Tryz.prog.godebug=none:=by kernel_rfl
theorem laidOut:laidOutB Tryz.prog=true:=by kernel_rfl
set_option maxHeartbeats 4000000 in
set_option maxRecDepth 100000 in
theorem lifted(os:Os)(started:os.Started)(H:Type)(enc:TypeId×Value→H):
  ReturnsInHanded {} Tryz.checked os 5 .any (fun w args=>(Rows.worldPartsSpec.pre enc Tryz.prog Tryz.f5 [] false w args∧laidMetH Tryz.prog Wd w)∧sizedMet enc Tryz.prog Tryz.f5 (OpenSpec.ofChange Rows.worldPartsSpec) false w args) (Rows.worldPartsSpec.post enc Tryz.prog Tryz.f5 false true false false):=by
 refine returns_laid (C:=Tryz.checked) (X:=fun w _=>laidMetH Tryz.prog Wd w) (fun _ _ _ hh h=>h.of_heap hh) own started (by kernel_rfl) Tryz.func5
  (ChangeSpec.witness_shaped (enc:=enc) (C:=Tryz.checked) (os:=os) (X:=fun w _=>laidMetH Tryz.prog Wd w) false (laidIn (World.doorLaid Tryz.prog 400 os) 5 (tabCells Go.Pinned.utf8First)) #[(.agg #[(.slice none 0 0),(.slice none 0 0),(.slice none 0 0)]),.slice none 0 0,.int .i64 0] 8 rfl (World.shaped_of_RefB (by kernel_rfl) (by kernel_rfl)) (by kernel_rfl) (by kernel_rfl) (by kernel_rfl) (laid_met os _)) ?_
 intro W base args ds gs before hval0 hW hcnd hL hshape;have hT:=tabs_of hL hshape;have hval:∀(j:Nat) t v,Tryz.f5.params[j]? =some t→args[j]? =some v→Value.okWide Tryz.prog W .any base t v:=hval0;have hW2:=hW;obtain⟨p,q,hA0,hV,rfl,hfz,hnd⟩:=hW;have hA:DataW.TrodAll enc Tryz.prog W 0 (fun _=>true) true Tryz.f5.params.toList args.toList ds p:=hA0;rw[Tryz.params5]at hA hval;obtain⟨v0,dN,d0,ds0,p0,q0,hargs,rfl,rfl,h0,r0⟩:=trodAll_cons hA;obtain⟨v1,vs1,d1,ds1,p1,q1,rfl,rfl,rfl,h1,r1⟩:=trodAll_cons r0;obtain⟨v2,vs2,d2,ds2,p2,q2,rfl,rfl,rfl,h2,r2⟩:=trodAll_cons r1;obtain⟨rfl,rfl,rfl⟩:=trodAll_nil r2;obtain rfl:args= #[v0,v1,v2]:=by cases args;simp_all
 obtain⟨rfl,rfl⟩:=trodVars_none hV;have k0:=h0;have lt0:∀x∈p0,x.block<W.heap.size:=by obtain⟨m,hm⟩:=k0;exact DataW.trod_lt m _ _ _ hm
 obtain⟨m0,hm0⟩:=h0;obtain⟨g0,rfl,_⟩:=okWide_struct Tryz.underlying26 (hval 0 26 _ rfl rfl);obtain⟨x0,rd0⟩:=opens26 _ enc W _ _ m0 _ _ hm0;obtain⟨q0_0,q0_1,q0_2,c0,s0_0,s0_1,s0_2⟩:=rWorld_open rd0;obtain rfl:g0= #[q0_0,q0_1,q0_2]:=Array.ext' (by simpa[Value.cells]using c0);have k1:=h1;have lt1:∀x∈p1,x.block<W.heap.size:=by obtain⟨m,hm⟩:=k1;exact DataW.trod_lt m _ _ _ hm
 obtain⟨m1,hm1⟩:=h1;obtain⟨sa1,sl1,sc1,rfl⟩:=okWide_slice Tryz.underlying51 (hval 1 51 _ rfl rfl);obtain⟨l1,u1,e1,s1⟩:=opens51 _ enc W _ _ m1 _ _ hm1;obtain rfl:Value.slice sa1 sl1 sc1=u1:=by simpa[Value.cells]using e1
 have k2:=h2;have lt2:∀x∈p2,x.block<W.heap.size:=by obtain⟨m,hm⟩:=k2;exact DataW.trod_lt m _ _ _ hm
 obtain⟨m2,hm2⟩:=h2;obtain⟨z2,rfl⟩:=okWide_int Tryz.underlying3 (hval 2 3 _ rfl rfl);clear hA0 hval0;refine(JV NN W BE nobody hT x0 q0_0 q0_1 q0_2 s0_0 s0_1 s0_2 _ l1 s1 z2 true (Pw.worldParts _ _ _ s1.bD (Pw.wts_of s0_1))).mono fun e W2⟨bel0,he⟩=>?_;have bel:=Grow.below bel0;subst he;have A0:=(Below.trod laidOut (by kernel_rfl) (Xi (by kernel_rfl)) k0 bel lt0);have A1:=(Below.trod laidOut (by kernel_rfl) (Xi (by kernel_rfl)) k1 bel lt1);have A2:=(Below.trod laidOut (by kernel_rfl) (Xi (by kernel_rfl)) k2 bel lt2);have A:=(trodAll_cons_mk A0 (trodAll_cons_mk A1 (trodAll_cons_mk A2 trodAll_mk0)));exact⟨_,rfl,_,_,_,[],_,[],hW2,trodAll_mk1 (shut_bool Tryz.underlying4 _),A,rfl,bel.frame _,fun h=>by cases h⟩
end worldPartsLaw
end Go.Proofs.YtodkbibbgakkdaaGreatDoor
