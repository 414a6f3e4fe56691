/- What the law's walk gives. -/
import Derived.Test.YteijalgmijkphaaGreatDoorWorldRunsTk
import Derived.Test.YteijalgmijkphaaGreatDoorRows
import Derived.Test.YteijalgmijkphaaGreatDoorCards
import Derived.Test.YteijalgmijkphaaGreatDoorTie
import Derived.ProofKit
import Derived.SevenTiedAt
import Derived.OpenShut
import Derived.ShutString
import Derived.ChangeOld
import Derived.Below
import Derived.WideShapes
set_option linter.unusedVariables false
set_option linter.unusedSimpArgs false
namespace Go.Proofs.YteijalgmijkphaaGreatDoor
open Go Go.Proofs Go.LX
namespace worldRunsLaw
open Go Go.Proofs Go.LX Go.ChangeShapes Go.WideShapes Go.ChangeAt Go.RowKit
open Go.ChangeMaps (open_string shut_string)
theorem BN:Bd Tryz.prog 3 dL:=opens_int Tryz.underlying3
theorem opens44:Bd Tryz.prog 44 (ui dL):=Av Tryz.underlying44 (by kernel_rfl) BN
theorem opens89:Bd Tryz.prog 89 qB:=by
 intro ZD enc w spare held fuel cs x h;obtain⟨hl,n,hf⟩:=Cg Tryz.underlying89 h;rw[show Tryz.prog.cellsOf 89=5 by kernel_rfl]at hl;obtain⟨d0,h0⟩:=iA (R:=dL) (i:=0) hf rfl (by kernel_rfl) BN;have e0:=zZ (show(cs.drop 0).take 1=[.int .i64 d0]from h0);obtain⟨d1,h1⟩:=iA (R:=dL) (i:=1) hf rfl (by kernel_rfl) BN;have e1:=zZ (show(cs.drop 1).take 1=[.int .i64 d1]from h1);obtain⟨d2,h2⟩:=iA (R:=dL) (i:=2) hf rfl (by kernel_rfl) BN;have e2:=zZ (show(cs.drop 2).take 1=[.int .i64 d2]from h2);obtain⟨d3,h3⟩:=iA (R:=dL) (i:=3) hf rfl (by kernel_rfl) BN;have e3:=zZ (show(cs.drop 3).take 1=[.int .i64 d3]from h3);obtain⟨d4,h4⟩:=iA (R:=(ui dL)) (i:=4) hf rfl (by kernel_rfl) opens44;obtain⟨u4,a4,s4⟩:=h4;have e4:=zZ (show(cs.drop 4).take 1=[u4]from a4);obtain⟨c0,t0,rfl,hl0⟩:=wM hl;obtain⟨c1,t1,rfl,hl1⟩:=wM hl0;obtain⟨c2,t2,rfl,hl2⟩:=wM hl1;obtain⟨c3,t3,rfl,hl3⟩:=wM hl2;obtain⟨c4,t4,rfl,hl4⟩:=wM hl3;obtain rfl:=List.eq_nil_of_length_eq_zero hl4;simp at e0 e1 e2 e3 e4;subst e0 e1 e2 e3 e4;exact⟨⟨d0,d1,d2,d3,d4⟩,⟨_,rfl,s4⟩⟩
theorem opens85:Bd Tryz.prog 85 (ui qB):=Av Tryz.underlying85 (by kernel_rfl) opens89
theorem opens87:Bd Tryz.prog 87 iO:=by
 intro ZD enc w spare held fuel cs x h;obtain⟨hl,n,hf⟩:=Cg Tryz.underlying87 h;rw[show Tryz.prog.cellsOf 87=3 by kernel_rfl]at hl;obtain⟨d0,h0⟩:=iA (R:=dL) (i:=0) hf rfl (by kernel_rfl) BN;have e0:=zZ (show(cs.drop 0).take 1=[.int .i64 d0]from h0);obtain⟨d1,h1⟩:=iA (R:=dL) (i:=1) hf rfl (by kernel_rfl) BN;have e1:=zZ (show(cs.drop 1).take 1=[.int .i64 d1]from h1);obtain⟨d2,h2⟩:=iA (R:=(ui qB)) (i:=2) hf rfl (by kernel_rfl) opens85;obtain⟨u2,a2,s2⟩:=h2;have e2:=zZ (show(cs.drop 2).take 1=[u2]from a2);obtain⟨c0,t0,rfl,hl0⟩:=wM hl;obtain⟨c1,t1,rfl,hl1⟩:=wM hl0;obtain⟨c2,t2,rfl,hl2⟩:=wM hl1;obtain rfl:=List.eq_nil_of_length_eq_zero hl2;simp at e0 e1 e2;subst e0 e1 e2;exact⟨⟨d0,d1,d2⟩,⟨_,rfl,s2⟩⟩
theorem opens22:Bd Tryz.prog 22 (ui iO):=Av Tryz.underlying22 (by kernel_rfl) opens87
theorem opens75:Bd Tryz.prog 75 Jf:=by
 intro ZD enc w spare held fuel cs x h;obtain⟨hl,n,hf⟩:=Cg Tryz.underlying75 h;rw[show Tryz.prog.cellsOf 75=4 by kernel_rfl]at hl;obtain⟨d0,h0⟩:=iA (R:=dL) (i:=0) hf rfl (by kernel_rfl) BN;have e0:=zZ (show(cs.drop 0).take 1=[.int .i64 d0]from h0);obtain⟨d1,h1⟩:=iA (R:=dL) (i:=1) hf rfl (by kernel_rfl) BN;have e1:=zZ (show(cs.drop 1).take 1=[.int .i64 d1]from h1);obtain⟨d2,h2⟩:=iA (R:=(ui dL)) (i:=2) hf rfl (by kernel_rfl) opens44;obtain⟨u2,a2,s2⟩:=h2;have e2:=zZ (show(cs.drop 2).take 1=[u2]from a2);obtain⟨d3,h3⟩:=iA (R:=dL) (i:=3) hf rfl (by kernel_rfl) BN;have e3:=zZ (show(cs.drop 3).take 1=[.int .i64 d3]from h3);obtain⟨c0,t0,rfl,hl0⟩:=wM hl;obtain⟨c1,t1,rfl,hl1⟩:=wM hl0;obtain⟨c2,t2,rfl,hl2⟩:=wM hl1;obtain⟨c3,t3,rfl,hl3⟩:=wM hl2;obtain rfl:=List.eq_nil_of_length_eq_zero hl3;simp at e0 e1 e2 e3;subst e0 e1 e2 e3;exact⟨⟨d0,d1,d2,d3⟩,⟨_,rfl,s2⟩⟩
theorem opens35:Bd Tryz.prog 35 (ui Jf):=Av Tryz.underlying35 (by kernel_rfl) opens75
theorem opens5:Bd Tryz.prog 5 gQ:=opens_byte Tryz.underlying5
theorem opens36:Bd Tryz.prog 36 (ui gQ):=Av Tryz.underlying36 (by kernel_rfl) opens5
theorem opens38:Bd Tryz.prog 38 rDisk:=by
 intro ZD enc w spare held fuel cs x h;obtain⟨hl,n,hf⟩:=Cg Tryz.underlying38 h;rw[show Tryz.prog.cellsOf 38=2 by kernel_rfl]at hl;obtain⟨d0,h0⟩:=iA (R:=(ui gQ)) (i:=0) hf rfl (by kernel_rfl) opens36;obtain⟨u0,a0,s0⟩:=h0;have e0:=zZ (show(cs.drop 0).take 1=[u0]from a0);obtain⟨d1,h1⟩:=iA (R:=(ui gQ)) (i:=1) hf rfl (by kernel_rfl) opens36;obtain⟨u1,a1,s1⟩:=h1;have e1:=zZ (show(cs.drop 1).take 1=[u1]from a1);obtain⟨c0,t0,rfl,hl0⟩:=wM hl;obtain⟨c1,t1,rfl,hl1⟩:=wM hl0;obtain rfl:=List.eq_nil_of_length_eq_zero hl1;simp at e0 e1;subst e0 e1;exact⟨⟨d0,d1⟩,⟨_,_,rfl,s0,s1⟩⟩
theorem opens4:Bd Tryz.prog 4 rBool:=opens_bool Tryz.underlying4
theorem opens40:Bd Tryz.prog 40 iV:=by
 intro ZD enc w spare held fuel cs x h;obtain⟨hl,n,hf⟩:=Cg Tryz.underlying40 h;rw[show Tryz.prog.cellsOf 40=4 by kernel_rfl]at hl;obtain⟨d0,h0⟩:=iA (R:=(ui Jf)) (i:=0) hf rfl (by kernel_rfl) opens35;obtain⟨u0,a0,s0⟩:=h0;have e0:=zZ (show(cs.drop 0).take 1=[u0]from a0);obtain⟨d1,h1⟩:=iA (R:=rDisk) (i:=1) hf rfl (by kernel_rfl) opens38;obtain⟨u1a,u1b,a1,s1a,s1b⟩:=rDisk_open h1;obtain⟨a1c,a1d⟩:=cells_two (show(cs.drop 1).take 2=[u1a,u1b]from a1);have e1:=zZ a1c;have e2:=zZ a1d;obtain⟨d2,h2⟩:=iA (R:=rBool) (i:=2) hf rfl (by kernel_rfl) opens4;have e3:=zZ (show(cs.drop 3).take 1=[.bool d2]from h2);obtain⟨c0,t0,rfl,hl0⟩:=wM hl;obtain⟨c1,t1,rfl,hl1⟩:=wM hl0;obtain⟨c2,t2,rfl,hl2⟩:=wM hl1;obtain⟨c3,t3,rfl,hl3⟩:=wM hl2;obtain rfl:=List.eq_nil_of_length_eq_zero hl3;simp at e0 e1 e2 e3;subst e0 e1 e2 e3;exact⟨⟨d0,d1.B,d1.z,d2⟩,⟨_,_,_,rfl,s0,s1a,s1b⟩⟩
theorem opens23:Bd Tryz.prog 23 (ui iV):=Av Tryz.underlying23 (by kernel_rfl) opens40
theorem opens83:Bd Tryz.prog 83 fK:=by
 intro ZD enc w spare held fuel cs x h;obtain⟨hl,n,hf⟩:=Cg Tryz.underlying83 h;rw[show Tryz.prog.cellsOf 83=6 by kernel_rfl]at hl;obtain⟨d0,h0⟩:=iA (R:=dL) (i:=0) hf rfl (by kernel_rfl) BN;have e0:=zZ (show(cs.drop 0).take 1=[.int .i64 d0]from h0);obtain⟨d1,h1⟩:=iA (R:=dL) (i:=1) hf rfl (by kernel_rfl) BN;have e1:=zZ (show(cs.drop 1).take 1=[.int .i64 d1]from h1);obtain⟨d2,h2⟩:=iA (R:=dL) (i:=2) hf rfl (by kernel_rfl) BN;have e2:=zZ (show(cs.drop 2).take 1=[.int .i64 d2]from h2);obtain⟨d3,h3⟩:=iA (R:=dL) (i:=3) hf rfl (by kernel_rfl) BN;have e3:=zZ (show(cs.drop 3).take 1=[.int .i64 d3]from h3);obtain⟨d4,h4⟩:=iA (R:=rBool) (i:=4) hf rfl (by kernel_rfl) opens4;have e4:=zZ (show(cs.drop 4).take 1=[.bool d4]from h4);obtain⟨d5,h5⟩:=iA (R:=(ui dL)) (i:=5) hf rfl (by kernel_rfl) opens44;obtain⟨u5,a5,s5⟩:=h5;have e5:=zZ (show(cs.drop 5).take 1=[u5]from a5);obtain⟨c0,t0,rfl,hl0⟩:=wM hl;obtain⟨c1,t1,rfl,hl1⟩:=wM hl0;obtain⟨c2,t2,rfl,hl2⟩:=wM hl1;obtain⟨c3,t3,rfl,hl3⟩:=wM hl2;obtain⟨c4,t4,rfl,hl4⟩:=wM hl3;obtain⟨c5,t5,rfl,hl5⟩:=wM hl4;obtain rfl:=List.eq_nil_of_length_eq_zero hl5;simp at e0 e1 e2 e3 e4 e5;subst e0 e1 e2 e3 e4 e5;exact⟨⟨d0,d1,d2,d3,d4,d5⟩,⟨_,rfl,s5⟩⟩
theorem opens24:Bd Tryz.prog 24 (ui fK):=Av Tryz.underlying24 (by kernel_rfl) opens83
theorem opens26:Bd Tryz.prog 26 rWorld:=by
 intro ZD enc w spare held fuel cs x h;obtain⟨hl,n,hf⟩:=Cg Tryz.underlying26 h;rw[show Tryz.prog.cellsOf 26=3 by kernel_rfl]at hl;obtain⟨d0,h0⟩:=iA (R:=(ui iO)) (i:=0) hf rfl (by kernel_rfl) opens22;obtain⟨u0,a0,s0⟩:=h0;have e0:=zZ (show(cs.drop 0).take 1=[u0]from a0);obtain⟨d1,h1⟩:=iA (R:=(ui iV)) (i:=1) hf rfl (by kernel_rfl) opens23;obtain⟨u1,a1,s1⟩:=h1;have e1:=zZ (show(cs.drop 1).take 1=[u1]from a1);obtain⟨d2,h2⟩:=iA (R:=(ui fK)) (i:=2) hf rfl (by kernel_rfl) opens24;obtain⟨u2,a2,s2⟩:=h2;have e2:=zZ (show(cs.drop 2).take 1=[u2]from a2);obtain⟨c0,t0,rfl,hl0⟩:=wM hl;obtain⟨c1,t1,rfl,hl1⟩:=wM hl0;obtain⟨c2,t2,rfl,hl2⟩:=wM hl1;obtain rfl:=List.eq_nil_of_length_eq_zero hl2;simp at e0 e1 e2;subst e0 e1 e2;exact⟨⟨d0,d1,d2⟩,⟨_,_,_,rfl,s0,s1,s2⟩⟩
theorem opens28:Bd Tryz.prog 28 rHap:=by
 intro ZD enc w spare held fuel cs x h;obtain⟨hl,n,hf⟩:=Cg Tryz.underlying28 h;rw[show Tryz.prog.cellsOf 28=4 by kernel_rfl]at hl;obtain⟨d0,h0⟩:=iA (R:=dL) (i:=0) hf rfl (by kernel_rfl) BN;have e0:=zZ (show(cs.drop 0).take 1=[.int .i64 d0]from h0);obtain⟨d1,h1⟩:=iA (R:=dL) (i:=1) hf rfl (by kernel_rfl) BN;have e1:=zZ (show(cs.drop 1).take 1=[.int .i64 d1]from h1);obtain⟨d2,h2⟩:=iA (R:=dL) (i:=2) hf rfl (by kernel_rfl) BN;have e2:=zZ (show(cs.drop 2).take 1=[.int .i64 d2]from h2);obtain⟨d3,h3⟩:=iA (R:=dL) (i:=3) hf rfl (by kernel_rfl) BN;have e3:=zZ (show(cs.drop 3).take 1=[.int .i64 d3]from h3);obtain⟨c0,t0,rfl,hl0⟩:=wM hl;obtain⟨c1,t1,rfl,hl1⟩:=wM hl0;obtain⟨c2,t2,rfl,hl2⟩:=wM hl1;obtain⟨c3,t3,rfl,hl3⟩:=wM hl2;obtain rfl:=List.eq_nil_of_length_eq_zero hl3;simp at e0 e1 e2 e3;subst e0 e1 e2 e3;exact⟨⟨d0,d1,d2,d3⟩,rfl⟩
theorem opens56:Bd Tryz.prog 56 (ui rHap):=Av Tryz.underlying56 (by kernel_rfl) opens28
theorem own:ownKnob Tryz.prog.godebug=none:=by kernel_rfl
theorem laidOut:laidOutB Tryz.prog=true:=by kernel_rfl
set_option maxHeartbeats 4000000 in
set_option maxRecDepth 100000 in
theorem lifted(os:Os)(started:os.Started)(ZD:Type)(enc:TypeId×Value→ZD):
  ReturnsInHanded {} Tryz.checked os 5 .any (λw args=>(Rows.worldRunsSpec.pre enc Tryz.prog Tryz.f5 [] false w args∧laidMetH Tryz.prog HI w)∧sizedMet enc Tryz.prog Tryz.f5 (OpenSpec.ofChange Rows.worldRunsSpec) false w args) (Rows.worldRunsSpec.post enc Tryz.prog Tryz.f5 false true false false):=by
 refine returns_laid (C:=Tryz.checked) (X:=λw _=>laidMetH Tryz.prog HI w) (λ_ _ _ hh h=>h.of_heap hh) own started (by kernel_rfl) Tryz.func5
  (ChangeSpec.witness_shaped (enc:=enc) (C:=Tryz.checked) (os:=os) (X:=λw _=>laidMetH Tryz.prog HI w) false (laidIn (World.doorLaid Tryz.prog 400 os) 6 (tabCells Go.Pinned.utf8First)) #[(.agg #[(.slice none 0 0),(.slice none 0 0),(.slice none 0 0)]),.slice none 0 0] 8 rfl (World.shaped_of_RefB (by kernel_rfl) (by kernel_rfl)) (by kernel_rfl) (by kernel_rfl) (by kernel_rfl) (laid_met os _)) ?_
 intro hs base args ds gs before hval0 hW hcnd hL hshape;have hT:=tabs_of hL hshape;have hval:∀(j:Nat) t v,Tryz.f5.params[j]? =some t→args[j]? =some v→Value.okWide Tryz.prog hs .any base t v:=hval0;have hW2:=hW;obtain⟨p,q,hA0,hV,rfl,hfz,hnd⟩:=hW;have hA:DataW.TrodAll enc Tryz.prog hs 0 (λ_=>true) true Tryz.f5.params.toList args.toList ds p:=hA0;rw[Tryz.params5]at hA hval;obtain⟨v0,gN,d0,ds0,p0,q0,hargs,rfl,rfl,h0,r0⟩:=trodAll_cons hA;obtain⟨v1,vs1,d1,ds1,p1,q1,rfl,rfl,rfl,h1,r1⟩:=trodAll_cons r0;obtain⟨rfl,rfl,rfl⟩:=trodAll_nil r1;obtain rfl:args= #[v0,v1]:=by cases args;simp_all
 obtain⟨rfl,rfl⟩:=trodVars_none hV;have k0:=h0;have lt0:∀x∈p0,x.block<hs.heap.size:=by obtain⟨m,hm⟩:=k0;exact DataW.trod_lt m _ _ _ hm
 obtain⟨m0,hm0⟩:=h0;obtain⟨g0,rfl,_⟩:=okWide_struct Tryz.underlying26 (hval 0 26 _ rfl rfl);obtain⟨x0,rd0⟩:=opens26 _ enc hs _ _ m0 _ _ hm0;obtain⟨q0_0,q0_1,q0_2,c0,s0_0,s0_1,s0_2⟩:=rWorld_open rd0;obtain rfl:g0= #[q0_0,q0_1,q0_2]:=Array.ext' (by simpa[Value.cells]using c0);have k1:=h1;have lt1:∀x∈p1,x.block<hs.heap.size:=by obtain⟨m,hm⟩:=k1;exact DataW.trod_lt m _ _ _ hm
 obtain⟨m1,hm1⟩:=h1;obtain⟨sa1,sl1,sc1,rfl⟩:=okWide_slice Tryz.underlying56 (hval 1 56 _ rfl rfl);obtain⟨l1,u1,e1,s1⟩:=opens56 _ enc hs _ _ m1 _ _ hm1;obtain rfl:Value.slice sa1 sl1 sc1=u1:=by simpa[Value.cells]using e1
 clear hA0 hval0;refine(QQ NN hs BE nobody hT x0 q0_0 q0_1 q0_2 s0_0 s0_1 s0_2 _ l1 s1 true (Pw.worldRuns _ _ (Pw.wts_of s0_1))).mono λe W2⟨bel0,he⟩=>?_;have bel:=Grow.below bel0;subst he;have A0:=(Below.trod laidOut (by kernel_rfl) (UP (by kernel_rfl)) k0 bel lt0);have A1:=(Below.trod laidOut (by kernel_rfl) (UP (by kernel_rfl)) k1 bel lt1);have A:=(trodAll_cons_mk A0 (trodAll_cons_mk A1 trodAll_mk0));exact⟨_,rfl,_,_,_,[],_,[],hW2,trodAll_mk1 (shut_bool Tryz.underlying4 _),A,rfl,bel.frame _,λh=>by cases h⟩
end worldRunsLaw
end Go.Proofs.YteijalgmijkphaaGreatDoor
