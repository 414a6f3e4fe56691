/- What the law's walk gives. -/
import Derived.Test.YteijalgmijkphaaGreatDoorStorySaysTj
import Derived.Test.YteijalgmijkphaaGreatDoorRows
import Derived.Test.YteijalgmijkphaaGreatDoorCards
import Derived.Test.YteijalgmijkphaaGreatDoorTie
import Derived.ProofKit
import Derived.SevenTiedAt
import Derived.OpenShut
import Derived.ShutString
import Derived.ChangeOld
import Derived.Below
import Derived.WideShapes
set_option linter.unusedVariables false
set_option linter.unusedSimpArgs false
namespace Go.Proofs.YteijalgmijkphaaGreatDoor
open Go Go.Proofs Go.LX
namespace storySaysLaw
open Go Go.Proofs Go.LX Go.ChangeShapes Go.WideShapes Go.ChangeAt Go.RowKit
open Go.ChangeMaps (open_string shut_string)
theorem Gd:AU Tryz.prog 3 bC:=opens_int Tryz.underlying3
theorem opens44:AU Tryz.prog 44 (oI bC):=AV Tryz.underlying44 (by kernel_rfl) Gd
theorem opens89:AU Tryz.prog 89 lJ:=by
 intro H enc w spare held fuel cs x h;obtain⟨hl,n,hf⟩:=DJ Tryz.underlying89 h;rw[show Tryz.prog.cellsOf 89=5 by kernel_rfl]at hl;obtain⟨d0,h0⟩:=gY (R:=bC) (i:=0) hf rfl (by kernel_rfl) Gd;have e0:=cells_one (show(cs.drop 0).take 1=[.int .i64 d0]from h0);obtain⟨d1,h1⟩:=gY (R:=bC) (i:=1) hf rfl (by kernel_rfl) Gd;have e1:=cells_one (show(cs.drop 1).take 1=[.int .i64 d1]from h1);obtain⟨d2,h2⟩:=gY (R:=bC) (i:=2) hf rfl (by kernel_rfl) Gd;have e2:=cells_one (show(cs.drop 2).take 1=[.int .i64 d2]from h2);obtain⟨d3,h3⟩:=gY (R:=bC) (i:=3) hf rfl (by kernel_rfl) Gd;have e3:=cells_one (show(cs.drop 3).take 1=[.int .i64 d3]from h3);obtain⟨d4,h4⟩:=gY (R:=(oI bC)) (i:=4) hf rfl (by kernel_rfl) opens44;obtain⟨u4,a4,s4⟩:=h4;have e4:=cells_one (show(cs.drop 4).take 1=[u4]from a4);obtain⟨c0,t0,rfl,hl0⟩:=yI hl;obtain⟨c1,t1,rfl,hl1⟩:=yI hl0;obtain⟨c2,t2,rfl,hl2⟩:=yI hl1;obtain⟨c3,t3,rfl,hl3⟩:=yI hl2;obtain⟨c4,t4,rfl,hl4⟩:=yI hl3;obtain rfl:=List.eq_nil_of_length_eq_zero hl4;simp at e0 e1 e2 e3 e4;subst e0 e1 e2 e3 e4;exact⟨⟨d0,d1,d2,d3,d4⟩,⟨_,rfl,s4⟩⟩
theorem opens85:AU Tryz.prog 85 (oI lJ):=AV Tryz.underlying85 (by kernel_rfl) opens89
theorem opens87:AU Tryz.prog 87 dJ:=by
 intro H enc w spare held fuel cs x h;obtain⟨hl,n,hf⟩:=DJ Tryz.underlying87 h;rw[show Tryz.prog.cellsOf 87=3 by kernel_rfl]at hl;obtain⟨d0,h0⟩:=gY (R:=bC) (i:=0) hf rfl (by kernel_rfl) Gd;have e0:=cells_one (show(cs.drop 0).take 1=[.int .i64 d0]from h0);obtain⟨d1,h1⟩:=gY (R:=bC) (i:=1) hf rfl (by kernel_rfl) Gd;have e1:=cells_one (show(cs.drop 1).take 1=[.int .i64 d1]from h1);obtain⟨d2,h2⟩:=gY (R:=(oI lJ)) (i:=2) hf rfl (by kernel_rfl) opens85;obtain⟨u2,a2,s2⟩:=h2;have e2:=cells_one (show(cs.drop 2).take 1=[u2]from a2);obtain⟨c0,t0,rfl,hl0⟩:=yI hl;obtain⟨c1,t1,rfl,hl1⟩:=yI hl0;obtain⟨c2,t2,rfl,hl2⟩:=yI hl1;obtain rfl:=List.eq_nil_of_length_eq_zero hl2;simp at e0 e1 e2;subst e0 e1 e2;exact⟨⟨d0,d1,d2⟩,⟨_,rfl,s2⟩⟩
theorem opens22:AU Tryz.prog 22 (oI dJ):=AV Tryz.underlying22 (by kernel_rfl) opens87
theorem opens75:AU Tryz.prog 75 xR:=by
 intro H enc w spare held fuel cs x h;obtain⟨hl,n,hf⟩:=DJ Tryz.underlying75 h;rw[show Tryz.prog.cellsOf 75=4 by kernel_rfl]at hl;obtain⟨d0,h0⟩:=gY (R:=bC) (i:=0) hf rfl (by kernel_rfl) Gd;have e0:=cells_one (show(cs.drop 0).take 1=[.int .i64 d0]from h0);obtain⟨d1,h1⟩:=gY (R:=bC) (i:=1) hf rfl (by kernel_rfl) Gd;have e1:=cells_one (show(cs.drop 1).take 1=[.int .i64 d1]from h1);obtain⟨d2,h2⟩:=gY (R:=(oI bC)) (i:=2) hf rfl (by kernel_rfl) opens44;obtain⟨u2,a2,s2⟩:=h2;have e2:=cells_one (show(cs.drop 2).take 1=[u2]from a2);obtain⟨d3,h3⟩:=gY (R:=bC) (i:=3) hf rfl (by kernel_rfl) Gd;have e3:=cells_one (show(cs.drop 3).take 1=[.int .i64 d3]from h3);obtain⟨c0,t0,rfl,hl0⟩:=yI hl;obtain⟨c1,t1,rfl,hl1⟩:=yI hl0;obtain⟨c2,t2,rfl,hl2⟩:=yI hl1;obtain⟨c3,t3,rfl,hl3⟩:=yI hl2;obtain rfl:=List.eq_nil_of_length_eq_zero hl3;simp at e0 e1 e2 e3;subst e0 e1 e2 e3;exact⟨⟨d0,d1,d2,d3⟩,⟨_,rfl,s2⟩⟩
theorem opens35:AU Tryz.prog 35 (oI xR):=AV Tryz.underlying35 (by kernel_rfl) opens75
theorem opens5:AU Tryz.prog 5 gN:=opens_byte Tryz.underlying5
theorem opens36:AU Tryz.prog 36 (oI gN):=AV Tryz.underlying36 (by kernel_rfl) opens5
theorem opens38:AU Tryz.prog 38 rDisk:=by
 intro H enc w spare held fuel cs x h;obtain⟨hl,n,hf⟩:=DJ Tryz.underlying38 h;rw[show Tryz.prog.cellsOf 38=2 by kernel_rfl]at hl;obtain⟨d0,h0⟩:=gY (R:=(oI gN)) (i:=0) hf rfl (by kernel_rfl) opens36;obtain⟨u0,a0,s0⟩:=h0;have e0:=cells_one (show(cs.drop 0).take 1=[u0]from a0);obtain⟨d1,h1⟩:=gY (R:=(oI gN)) (i:=1) hf rfl (by kernel_rfl) opens36;obtain⟨u1,a1,s1⟩:=h1;have e1:=cells_one (show(cs.drop 1).take 1=[u1]from a1);obtain⟨c0,t0,rfl,hl0⟩:=yI hl;obtain⟨c1,t1,rfl,hl1⟩:=yI hl0;obtain rfl:=List.eq_nil_of_length_eq_zero hl1;simp at e0 e1;subst e0 e1;exact⟨⟨d0,d1⟩,⟨_,_,rfl,s0,s1⟩⟩
theorem opens4:AU Tryz.prog 4 rBool:=opens_bool Tryz.underlying4
theorem opens40:AU Tryz.prog 40 fK:=by
 intro H enc w spare held fuel cs x h;obtain⟨hl,n,hf⟩:=DJ Tryz.underlying40 h;rw[show Tryz.prog.cellsOf 40=4 by kernel_rfl]at hl;obtain⟨d0,h0⟩:=gY (R:=(oI xR)) (i:=0) hf rfl (by kernel_rfl) opens35;obtain⟨u0,a0,s0⟩:=h0;have e0:=cells_one (show(cs.drop 0).take 1=[u0]from a0);obtain⟨d1,h1⟩:=gY (R:=rDisk) (i:=1) hf rfl (by kernel_rfl) opens38;obtain⟨u1a,u1b,a1,s1a,s1b⟩:=rDisk_open h1;obtain⟨a1c,a1d⟩:=cells_two (show(cs.drop 1).take 2=[u1a,u1b]from a1);have e1:=cells_one a1c;have e2:=cells_one a1d;obtain⟨d2,h2⟩:=gY (R:=rBool) (i:=2) hf rfl (by kernel_rfl) opens4;have e3:=cells_one (show(cs.drop 3).take 1=[.bool d2]from h2);obtain⟨c0,t0,rfl,hl0⟩:=yI hl;obtain⟨c1,t1,rfl,hl1⟩:=yI hl0;obtain⟨c2,t2,rfl,hl2⟩:=yI hl1;obtain⟨c3,t3,rfl,hl3⟩:=yI hl2;obtain rfl:=List.eq_nil_of_length_eq_zero hl3;simp at e0 e1 e2 e3;subst e0 e1 e2 e3;exact⟨⟨d0,d1.safe,d1.wait,d2⟩,⟨_,_,_,rfl,s0,s1a,s1b⟩⟩
theorem opens23:AU Tryz.prog 23 (oI fK):=AV Tryz.underlying23 (by kernel_rfl) opens40
theorem opens83:AU Tryz.prog 83 gm:=by
 intro H enc w spare held fuel cs x h;obtain⟨hl,n,hf⟩:=DJ Tryz.underlying83 h;rw[show Tryz.prog.cellsOf 83=6 by kernel_rfl]at hl;obtain⟨d0,h0⟩:=gY (R:=bC) (i:=0) hf rfl (by kernel_rfl) Gd;have e0:=cells_one (show(cs.drop 0).take 1=[.int .i64 d0]from h0);obtain⟨d1,h1⟩:=gY (R:=bC) (i:=1) hf rfl (by kernel_rfl) Gd;have e1:=cells_one (show(cs.drop 1).take 1=[.int .i64 d1]from h1);obtain⟨d2,h2⟩:=gY (R:=bC) (i:=2) hf rfl (by kernel_rfl) Gd;have e2:=cells_one (show(cs.drop 2).take 1=[.int .i64 d2]from h2);obtain⟨d3,h3⟩:=gY (R:=bC) (i:=3) hf rfl (by kernel_rfl) Gd;have e3:=cells_one (show(cs.drop 3).take 1=[.int .i64 d3]from h3);obtain⟨d4,h4⟩:=gY (R:=rBool) (i:=4) hf rfl (by kernel_rfl) opens4;have e4:=cells_one (show(cs.drop 4).take 1=[.bool d4]from h4);obtain⟨d5,h5⟩:=gY (R:=(oI bC)) (i:=5) hf rfl (by kernel_rfl) opens44;obtain⟨u5,a5,s5⟩:=h5;have e5:=cells_one (show(cs.drop 5).take 1=[u5]from a5);obtain⟨c0,t0,rfl,hl0⟩:=yI hl;obtain⟨c1,t1,rfl,hl1⟩:=yI hl0;obtain⟨c2,t2,rfl,hl2⟩:=yI hl1;obtain⟨c3,t3,rfl,hl3⟩:=yI hl2;obtain⟨c4,t4,rfl,hl4⟩:=yI hl3;obtain⟨c5,t5,rfl,hl5⟩:=yI hl4;obtain rfl:=List.eq_nil_of_length_eq_zero hl5;simp at e0 e1 e2 e3 e4 e5;subst e0 e1 e2 e3 e4 e5;exact⟨⟨d0,d1,d2,d3,d4,d5⟩,⟨_,rfl,s5⟩⟩
theorem opens24:AU Tryz.prog 24 (oI gm):=AV Tryz.underlying24 (by kernel_rfl) opens83
theorem opens26:AU Tryz.prog 26 rWorld:=by
 intro H enc w spare held fuel cs x h;obtain⟨hl,n,hf⟩:=DJ Tryz.underlying26 h;rw[show Tryz.prog.cellsOf 26=3 by kernel_rfl]at hl;obtain⟨d0,h0⟩:=gY (R:=(oI dJ)) (i:=0) hf rfl (by kernel_rfl) opens22;obtain⟨u0,a0,s0⟩:=h0;have e0:=cells_one (show(cs.drop 0).take 1=[u0]from a0);obtain⟨d1,h1⟩:=gY (R:=(oI fK)) (i:=1) hf rfl (by kernel_rfl) opens23;obtain⟨u1,a1,s1⟩:=h1;have e1:=cells_one (show(cs.drop 1).take 1=[u1]from a1);obtain⟨d2,h2⟩:=gY (R:=(oI gm)) (i:=2) hf rfl (by kernel_rfl) opens24;obtain⟨u2,a2,s2⟩:=h2;have e2:=cells_one (show(cs.drop 2).take 1=[u2]from a2);obtain⟨c0,t0,rfl,hl0⟩:=yI hl;obtain⟨c1,t1,rfl,hl1⟩:=yI hl0;obtain⟨c2,t2,rfl,hl2⟩:=yI hl1;obtain rfl:=List.eq_nil_of_length_eq_zero hl2;simp at e0 e1 e2;subst e0 e1 e2;exact⟨⟨d0,d1,d2⟩,⟨_,_,_,rfl,s0,s1,s2⟩⟩
theorem own:ownKnob Tryz.prog.godebug=none:=by kernel_rfl
theorem laidOut:laidOutB Tryz.prog=true:=by kernel_rfl
set_option maxHeartbeats 4000000 in
set_option maxRecDepth 100000 in
theorem lifted(os:Os)(started:os.Started)(H:Type)(enc:TypeId×Value→H):
  ReturnsInHanded {} Tryz.checked os 4 .any (fun w args=>(Rows.storySaysSpec.pre enc Tryz.prog Tryz.f4 [] false w args∧laidMetH Tryz.prog laidL w)∧sizedMet enc Tryz.prog Tryz.f4 (OpenSpec.ofChange Rows.storySaysSpec) false w args) (Rows.storySaysSpec.post enc Tryz.prog Tryz.f4 false true false false):=by
 refine returns_laid (C:=Tryz.checked) (X:=fun w _=>laidMetH Tryz.prog laidL w) (fun _ _ _ hh h=>h.of_heap hh) own started (by kernel_rfl) Tryz.func4
  (ChangeSpec.witness_shaped (enc:=enc) (C:=Tryz.checked) (os:=os) (X:=fun w _=>laidMetH Tryz.prog laidL w) false (laidIn (World.doorLaid Tryz.prog 400 os) 6 (tabCells Go.Pinned.utf8First)) #[(.agg #[(.slice none 0 0),(.slice none 0 0),(.slice none 0 0)]),.int .i64 0] 8 rfl (World.shaped_of_RefB (by kernel_rfl) (by kernel_rfl)) (by kernel_rfl) (by kernel_rfl) (by kernel_rfl) (laid_met os _)) ?_
 intro W base args ds gs before hval0 hW hcnd hL hshape;have hT:=tabs_of hL hshape;have hval:∀(j:Nat) t v,Tryz.f4.params[j]? =some t→args[j]? =some v→Value.okWide Tryz.prog W .any base t v:=hval0;have hW2:=hW;obtain⟨p,q,hA0,hV,rfl,hfz,hnd⟩:=hW;have hA:DataW.TrodAll enc Tryz.prog W 0 (fun _=>true) true Tryz.f4.params.toList args.toList ds p:=hA0;rw[Tryz.params4]at hA hval;obtain⟨v0,eD,d0,ds0,p0,q0,hargs,rfl,rfl,h0,r0⟩:=trodAll_cons hA;obtain⟨v1,vs1,d1,ds1,p1,q1,rfl,rfl,rfl,h1,r1⟩:=trodAll_cons r0;obtain⟨rfl,rfl,rfl⟩:=trodAll_nil r1;obtain rfl:args= #[v0,v1]:=by cases args;simp_all
 obtain⟨rfl,rfl⟩:=trodVars_none hV;have k0:=h0;have lt0:∀x∈p0,x.block<W.heap.size:=by obtain⟨m,hm⟩:=k0;exact DataW.trod_lt m _ _ _ hm
 obtain⟨m0,hm0⟩:=h0;obtain⟨g0,rfl,_⟩:=okWide_struct Tryz.underlying26 (hval 0 26 _ rfl rfl);obtain⟨x0,rd0⟩:=opens26 _ enc W _ _ m0 _ _ hm0;obtain⟨q0_0,q0_1,q0_2,c0,s0_0,s0_1,s0_2⟩:=rWorld_open rd0;obtain rfl:g0= #[q0_0,q0_1,q0_2]:=Array.ext' (by simpa[Value.cells]using c0);have k1:=h1;have lt1:∀x∈p1,x.block<W.heap.size:=by obtain⟨m,hm⟩:=k1;exact DataW.trod_lt m _ _ _ hm
 obtain⟨m1,hm1⟩:=h1;obtain⟨z1,rfl⟩:=okWide_int Tryz.underlying3 (hval 1 3 _ rfl rfl);clear hA0 hval0;refine(Og NN W BE nobody hT x0 q0_0 q0_1 q0_2 s0_0 s0_1 s0_2 z1 true (Pw.storySays _ _ (Pw.wts_of s0_1))).mono fun e W2⟨bel0,he⟩=>?_;have bel:=Grow.below bel0;subst he;have A0:=(Below.trod laidOut (by kernel_rfl) (P9 (by kernel_rfl)) k0 bel lt0);have A1:=(Below.trod laidOut (by kernel_rfl) (P9 (by kernel_rfl)) k1 bel lt1);have A:=(trodAll_cons_mk A0 (trodAll_cons_mk A1 trodAll_mk0));exact⟨_,rfl,_,_,_,[],_,[],hW2,trodAll_mk1 (shut_bool Tryz.underlying4 _),A,rfl,bel.frame _,fun h=>by cases h⟩
end storySaysLaw
end Go.Proofs.YteijalgmijkphaaGreatDoor
