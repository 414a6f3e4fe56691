/-
  What the law WorldRuns needs of our own library and of the walks, no more.
-/
import Derived.Test.YteijalgmijkphaaGreatDoorWorldRunsTi
set_option linter.unusedSimpArgs false
set_option linter.unusedVariables false
set_option maxRecDepth 10000
set_option maxHeartbeats 4000000
open Bool renaming and_self->mw,eq_false_iff->fy,false_and->ju,false_eq_true->cL,false_or->pd,not_false->en,not_true->cE,or_false->sA,true_and->gw,true_eq_false->sv,false->aw,true->bh
open Decidable renaming decide->G
open Eq renaming mpr->tm
open Go.Sort.insOuter renaming eq_def->ga
open Int renaming toNat_natCast->ba
open List renaming any_cons->vf,append_assoc->cg,drop_zero->fF,filter_cons->hZ,find?_cons->eS,find?_eq_none->sq,findIdx?_eq_none_iff->tU,getElem?_eq_getElem->bl,getElem_mem->cw,length->O,length_append->bm,length_cons->br,length_nil->eR,length_pos_iff->mN,map_cons->cr,mem_cons_of_mem->bo,nil_append->cc,pairwise_cons->ea
open Option renaming bind->ao,bind_some->cJ,getD_some->fR,isSome_none->jI,isSome_some->ri,some->U
namespace Go.Proofs.YteijalgmijkphaaGreatDoor
open Go Go.Proofs Go.LX
namespace Pw
open Dk
def toP(x:dD):U5:=⟨x.D,⟨x.B,x.z⟩,x.up⟩
def toW(w:aH):Bc:=⟨w.r,w.m.map toP,w.s⟩
def FU(x:mQ):Hap:=⟨x.h,x.o,x.t,x.n⟩
def Po(x:U5):dD:=⟨x.D,x.d.B,x.d.z,x.up⟩
def qA(w:Bc):aH:=⟨w.r,w.m.map Po,w.s⟩
theorem of_to(w:aH):qA (toW w)=w:=by
 have:w.m.map (Po∘toP)=w.m:=List.map_id _;unfold qA toW;simp only[List.map_map,this]
theorem idx_map{α β:Type}(f:α->β)(l:H α)(k:Int):vx (l.map f) k=(vx l k).map f:=by
 unfold vx;split<;>simp
section
variable{w:Bc}{k:Int}
theorem HU(h:0<=k/\k<O w.m):vx (qA w).m k=U (Po (iK w k)):=by
 show vx (w.m.map Po) k=_;rw[idx_map,(pAt_eq h).1];rfl
theorem HO(w:Bc)(k:Int)(x:U5):(⟨w.r,(qA w).m.set k.toNat (Po x),w.s⟩:aH)=qA (zx w k x):=by
 unfold qA zx;simp only[List.map_set]
theorem U7(h:WR w)(a:On k):0<=k/\k<O w.m:=by
 have:=h.many;have:=a.1;have:=a.2;omega
theorem ID{d:gz}(h:ji d=0):O d.z<=60000:=by
 have:=(Dk.uN h).1;omega
theorem put_wait(d:gz)(r:vA):O (zm d r).1.z<=60000:=by
 unfold zm We;repeat' split
 all_goals first|(show O ([]:vh)<=60000;simp)|(simp only[bm,br,eR];omega)
variable{r:vA}{N:Nat}
theorem Xs(h:WR w)(f:On k)(i:Q4 r)(hN:60002<=N):
    ze N (qA w) k r=U ((kK (iK w k) r).2,qA (zx w k (kK (iK w k) r).1)):=by
  have a:=U7 h f;have J:=h.at f;have j:=ID J.disk;have g:=put_wait (iK w k).d r;have W:qA w=qA (zx w k<|iK w k):=by rw[G0 a]
  unfold ze kK;rw[HU a];simp only[vt];rw[next_eq N V];simp only[vt];by_cases c:(kX (iK w k).D r).2=0
  · rw[dF (show¬(kX (Po (iK w k)).D r).2≠0 from λh=>h c),Z2,Z4 (show¬(kX (iK w k).D r).2≠0 from λh=>h c)];show(Mv N (iK w k).d r).bind _=_;rw[put_eq N hN _ r V i];simp only[vt];unfold OW;by_cases b:(zm (iK w k).d r).2=0
    · rw[dF (show¬(zm (iK w k).d r).2≠0 from λh=>h b),Z2,Z4 (show¬(zm (iK w k).d r).2≠0 from λh=>h b)];show(P8 N (zm (iK w k).d r).1).bind _=_;rw[sync_eq N hN _ V];simp only[vt];by_cases e:(J6 (zm (iK w k).d r).1).2=0
      · rw[dF (show¬(J6 (zm (iK w k).d r).1).2≠0 from λh=>h e),Z2,Z4 (show¬(J6 (zm (iK w k).d r).1).2≠0 from λh=>h e)];rw[<-HO,List.set_set];rfl
      · rw[dT (show(J6 (zm (iK w k).d r).1).2≠0 from e),Z1,Z3 e,<-W]
    · rw[dT (show(zm (iK w k).d r).2≠0 from b),Z1,Z3 b,<-W]
  · rw[dT (show(kX (Po (iK w k)).D r).2≠0 from c),Z1,Z3 c,<-W];rfl
theorem tear_g(h:WR w)(e:On k)(f:Q4 r)(n:Int)(hN:60002<=N):
    MM N (qA w) k r n=U ((Q6 (iK w k) r n).2,qA (zx w k (Q6 (iK w k) r n).1)):=by
  have a:=U7 h e;have J:=h.at e;have i:=ID J.disk;have g:=put_wait (iK w k).d r;have W:qA w=qA (zx w k<|iK w k):=by rw[G0 a]
  unfold MM Q6;rw[HU a];simp only[vt];rw[next_eq N V];simp only[vt];by_cases c:(kX (iK w k).D r).2=0
  · rw[dF (show¬(kX (Po (iK w k)).D r).2≠0 from λh=>h c),Z2,Z4 (show¬(kX (iK w k).D r).2≠0 from λh=>h c)];show(Mv N (iK w k).d r).bind _=_;rw[put_eq N hN _ r V f];simp only[vt];unfold OY;by_cases b:(zm (iK w k).d r).2=0
    · rw[dF (show¬(zm (iK w k).d r).2≠0 from λh=>h b),Z2,Z4 (show¬(zm (iK w k).d r).2≠0 from λh=>h b)];show(ML N (zm (iK w k).d r).1 _).bind _=_;rw[crash_eq N hN _ _ V];simp only[vt];rw[<-HO];rfl
    · rw[dT (show(zm (iK w k).d r).2≠0 from b),Z1,Z3 b,<-W]
  · rw[dT (show(kX (Po (iK w k)).D r).2≠0 from c),Z1,Z3 c,<-W];rfl
theorem send_g(w:Bc)(m:dJ):ET (qA w) m=U (qA ⟨w.r,w.m,Cc w.s m⟩):=by
  unfold ET;show(Ub w.s m).bind _=_;rw[wSend];simp only[vt];unfold Cc;by_cases b:eD w.s=0
  · rw[Z4 (show¬eD w.s≠0 from λh=>h b)];by_cases a:eD [m]=0
    · rw[Z4 (show¬eD [m]≠0 from λh=>h a),Z4 (show¬(eD w.s≠0\/eD [m]≠0) by simp[b,a])];rw[dT rfl,Z1];rfl
    · rw[Z3 (show eD [m]≠0 from a),Z3 (show(eD w.s≠0\/eD [m]≠0)from .inr a)];rw[dF a,Z2]
  · rw[Z3 (show eD w.s≠0 from b),Z3 (show(eD w.s≠0\/eD [m]≠0)from .inl b)];rw[dF b,Z2]
theorem offer_g(w:Bc)(k:Int)(c:Co)(a:j6 (c.k+1)):Jz (qA w) k c=U (qA ⟨w.r,w.m,Cc w.s (IP k c)⟩):=by
 unfold Jz;rw[gH a,send_g];rfl
variable{x:U5}
theorem VO(h:ji x.d=0)(hN:60002<=N):vP N (⟨(Po x).B,(Po x).z⟩:gz)=U ((Ob x.d).1,mi x.d,0):=by
 show vP N x.d=_;have:=ID h;rw[recover_eq N hN _ V];unfold Pc;rw[Z4 (show¬ji x.d≠0 from λe=>e h)];rfl
theorem Kx{α:Type}{p:α->YU}{l:H α}:(l.findIdx? p).isSome=l.any p:=by
  induction l with
  |nil=>rfl
  |cons x l ih=>
    rw[List.findIdx?_cons,vf];cases p x
    · simp[ih]
    · simp
theorem had_g(h:ji x.d=0)(i e:Int)(hN:60002<=N):Vt N (Po x) i e=U (IB x i e):=by
 unfold Vt IB;rw[VO h hN];simp only[vt,ba];rw[PD (λr:vA=>(G ((r.h:Int)=4)&&G ((r.t:Int)=i))&&G ((e:Int)<=r.k)) (λn=>U (G ((0:Int)<=n))) (mi x.d) (λn r b a=>by
  unfold Ws;rw[show vx (mi x.d) (n:Int)=U r by unfold vx;rw[Z3 V,ba];exact a];rfl)]
 rw[<-Kx];cases hf:(mi x.d).findIdx? (λr:vA=>(G ((r.h:Int)=4)&&G ((r.t:Int)=i))&&G ((e:Int)<=r.k))with
 |none=>rfl
 |some n=>simp only[ri];rw[dT V]
end
end Pw
open Go Go.Proofs Go.LX
namespace Pw
open Dk
theorem nn{x:Int}(h:x=0):¬x≠0:=λe=>e h
theorem find_g(a:H Co)(i:Int):(vC a i=U (-1)/\qw i a=none)\/∃(n:Int) (c:Co),vC a i=U n/\qw i a=U c/\vx a n=U c/\0<=n:=by
  rw[findEq];unfold qw;cases h:a.findIdx? (λx=>G (x.y=i))with
  |none=>
    refine .inl ⟨Z,?_⟩;rw[tU]at h;rw[sq];intro x d;rw[h x d];simp
  |some n=>
    obtain⟨b,e,f⟩:=List.findIdx?_eq_some_iff_getElem.1 h;refine .inr ⟨n,a[n],Z,?_,?_,by omega⟩
    · rw[List.find?_eq_some_iff_getElem];exact⟨e,n,b,Z,λj g=>by simpa using f j g⟩
    · unfold vx;rw[Z3 V,ba];exact bl b
section
variable{w:Bc}{k:Int}{c:Co}{N:Nat}
theorem slice_g(h:WR w){fuel:Int}(y:1<=fuel/\fuel<=2000)(hN:60002<=N):
    ∃r,Oz N (qA w) k c fuel=U (r,(qY w.r k c fuel).2,qA w)/\((qY w.r k c fuel).2=0->r=(qY w.r k c fuel).1):=by
  have J:=h.C;have q:=nk J;unfold Oz qY;by_cases j:0<=c.E
  · rw[dT j,Z1,Z3 j];exact⟨_,Z,λ_=>rfl⟩
  · rw[dF j,Z2,Z4 j];show∃r,(wF N w.r c.u).bind _=_/\_;rw[G8 _ _ V];simp only[vt];unfold MK;by_cases f:(eP w.r c.u).2=0
    · rw[dF (nn f),Z2,Z4 (nn f)];have i:=Mb J f;have st:=W5 i.st;generalize (eP w.r c.u).1=s at i st⊢;have go:∀t:LX.State,t=DS s->t.q=0->(DS s).q=0->∃r,z8 N (qA w) fuel c t.i t.j t.q t.bC=U (r,0,qA w)/\r=(⟨2,c.y,c.k,0,(xH w.r fuel.toNat [] 0<|DS s).2.1,Ap<|jY (xH w.r fuel.toNat [] 0<|DS s).1⟩:vA):=by
        intro t v x m;unfold z8;show∃r,(HA N w.r t fuel).bind _=_/\_;rw[Ss _ _ _ V,v];rw[Z4 (nn J),Z4 (nn (Ku.2 st)),Z4 V,Z4 (nn m)];simp only[vt];rw[dF V,Z2];show∃r,(Iy N w.r _).bind _=_/\_;rw[Fl _ _ V,Z4 (nn J),Z4 (nn (Ku.2 (VL q fuel.toNat [] 0 _ st C7).1))];exact⟨_,Z,Z⟩
      by_cases b:s.q=3
      · have a:DS s=⟨s.i,s.j,0,0⟩:=by unfold DS;rw[Z3 b]
        by_cases d:0<=s.bC/\s.bC<3/\s.bC≠k
        · rw[dT b,Z1,show((G ((0:Int)<=s.bC)&&G ((s.bC:Int)<3))&&G ((s.bC:Int)≠k))=bh by
            rw[dT d.1,dT d.2.1,dT d.2.2];rfl,Z1,Z3 ⟨b,d⟩]
          exact⟨_,Z,λ_=>rfl⟩
        · rw[dT b,Z1,show((G ((0:Int)<=s.bC)&&G ((s.bC:Int)<3))&&G ((s.bC:Int)≠k))=aw by
            simp only[Bool.and_eq_false_iff,decide_eq_false_iff_not];by_cases p:0<=s.bC
            · by_cases o:s.bC<3
              · exact .inr λu=>d ⟨p,o,u⟩
              · exact .inl<|.inr o
            · exact .inl (.inl p),Z2,Z4 (λe=>d e.2)]
          show∃r,(ZR w.r s).bind _=_/\_;rw[vm_Wake_eq,Z4 (nn J),Z4 (nn (Ku.2 i.st)),Z4 (show¬s.q≠3 from λe=>e b)];simp only[vt];rw[dF V,Z2,Z4 (nn (by rw[a]))];obtain⟨r,n,l⟩:=go ⟨s.i,s.j,0,0⟩ a.symm Z (by rw[a]);exact⟨r,n,λ_=>l⟩
      · have a:DS s=s:=by unfold DS;rw[Z4 b]
        rw[dF b,Z2,Z4 (λe=>b e.1)];by_cases g:s.q=0
        · rw[Z4 (nn (by rw[a];exact g))];obtain⟨r,n,l⟩:=go s a.symm g (by rw[a];exact g);exact⟨r,n,λ_=>l⟩
        · rw[Z3 (show(DS s).q≠0 by rw[a];exact g)];unfold z8;show∃r,(HA N w.r s fuel).bind _=_/\_;rw[Ss _ _ _ V];rw[Z4 (nn J),Z4 (nn (Ku.2 i.st)),Z4 V,Z3 g];exact⟨_,Z,λe=>ZL e C7⟩
    · rw[dT (show(eP w.r c.u).2≠0 from f),Z1,Z3 f];exact⟨_,Z,λ_=>rfl⟩
theorem co_of(h:WR w)(b:On k)(a:c∈(iK w k).D):X1 c:=(h.at b).good.1.ok c a
theorem img_I64{p:H bM}(J:Lt p=0){l:H Int}(h:(eP p l).2=0):∀x∈l,j6 x:=(Se (nk J) (Mb J h)).1
def Is(o:L (Int×aH))(q:Bc×Int):Prop:=∃v,o=U (q.2,qA v)/\(q.2=0->v=q.1)
theorem Is.mk(v:Bc)(e:Int):Is (U (e,qA v)) (v,e):=⟨v,rfl,λ_=>rfl⟩
theorem Is.err{v u:Bc}{e:Int}(h:e≠0):Is (U (e,qA v)) (u,e):=⟨v,rfl,λa=>ZL a h⟩
theorem Is.pair{o:L (Int×aH)}{q:Bc×Int}(h:Is o q):Is (ao o λy=>U (y.1,y.2)) q:=by
 obtain⟨v,rfl,a⟩:=h;exact⟨v,Z,a⟩
def runK(w:Bc)(b a m:Int)(c:Co)(fuel:Int):Bc×Int:=
 if fuel<1\/2000<fuel then(w,3)else
 if(qY w.r a c fuel).2≠0 then(w,(qY w.r a c fuel).2)else
 if b=9 then(zx w a (Q6 (iK w a) (qY w.r a c fuel).1 m).1,(Q6 (iK w a) (qY w.r a c fuel).1 m).2)else
 if(kK (iK w a) (qY w.r a c fuel).1).2≠0 then(w,(kK (iK w a) (qY w.r a c fuel).1).2)else
 if(qY w.r a c fuel).1.h=3 then(⟨w.r,(zx w a (kK (iK w a) (qY w.r a c fuel).1).1).m,Cc w.s (IP a ⟨c.y,c.k,c.u,(qY w.r a c fuel).1.o⟩)⟩,0)else(zx w a (kK (iK w a) (qY w.r a c fuel).1).1,0)
theorem runW_eq(w:Bc)(x:Hap):runW w x=match qw x.t (iK w x.o).D with
 |none=>(w,5)
 |some c=>runK w x.h x.o x.n c (if x.h=9 then 2000 else x.n):=rfl
variable{r:vA}
theorem L7{x:U5}(h:(kK x r).2=0):(kX x.D r).2=0/\(kK x r).1.D=(kX x.D r).1:=by
  unfold kK at h⊢;by_cases a:(kX x.D r).2=0
  · rw[Z4 (nn a)]at h⊢;by_cases b:(zm x.d r).2=0
    · rw[Z4 (nn b)]at h⊢;by_cases c:(J6 (zm x.d r).1).2=0
      · rw[Z4 (nn c)];exact⟨a,Z⟩
      · rw[Z3 c]at h;exact ZL h c
    · rw[Z3 b]at h;exact ZL h b
  · rw[Z3 a]at h;exact ZL h a
variable{n:Int}
theorem next3_idx{a:H Co}(h:(kX a r).2=0)(u:r.h=3)(o:Dk.Good a)(hn:vx a n=U c)(t:c.y=r.t):vx (kX a r).1 n=U ⟨c.y,c.k,c.u,r.o⟩:=by
  have b:0<=n/\a[n.toNat]? =U c:=by
    unfold vx at hn;split at hn
    · exact⟨by assumption,hn⟩
    · cases hn
  unfold kX at h⊢;by_cases j:gF a=0
  · rw[Z4 (nn j)]at h⊢;by_cases f:eF r=0
    · rw[Z4 (nn f)]at h⊢;rcases FG r a with⟨e1,e2,-⟩|⟨k,c',e1,e2,e3,e4⟩
      · exfalso;rw[tU]at e2;have:=e2 c<|List.mem_of_getElem? b.2;simp[t]at this
      · have g:k=n.toNat:=by
          have p:=o.up;unfold Up at p;rw[List.pairwise_iff_getElem]at p;have i:=OM e3;have l:=OM b.2;have e:=bl i;have d:=bl l;rw[e3]at e;rw[b.2]at d;have e:=osi e;have d:=osi d;rcases Nat.lt_trichotomy k n.toNat with hlt|heq|hgt
          · have:=p k n.toNat i l hlt;rw[<-e,<-d]at this;omega
          · exact heq
          · have:=p n.toNat k l i hgt;rw[<-e,<-d]at this;omega
        subst g;have m:c'=c:=by rw[b.2]at e3;exact(osi e3).symm
        subst m;rw[e1]at h⊢;simp only at h⊢;rw[Z4 (show¬(r.h=1\/r.h=4) by omega)]at h⊢;split at h
        · simp at h
        · rename_i q;rw[Z4 q];rw[Z4 (show¬r.h=5 by omega),Z4 (show¬r.h=2 by omega)]at h⊢;split at h
          · simp at h
          · rename_i s;rw[Z4 s];simp only;rw[<-H4 r a n.toNat c' ⟨c'.y,c'.k,c'.u,r.o⟩ o.up e3 e4 e4];unfold vx;rw[Z3 b.1];exact qa b.2
    · rw[Z3 f]at h;exact ZL h f
  · rw[Z3 j]at h;exact ZL h j
variable{x:mQ}
theorem runK_g(h:WR w)(f:On x.o)(p:c∈(iK w x.o).D)(hn:vx (iK w x.o).D n=U c)(fuel:Int)(hN:60002<=N):
    Is (Gu N (qA w) (Po (iK w x.o)) n x fuel) (runK w x.h x.o x.n c fuel):=by
  have a:=U7 h f;have i:=co_of h f p;unfold Gu runK;by_cases j:fuel<1\/2000<fuel
  · rw[show(G ((fuel:Int)<1)||G ((2000:Int)<fuel))=bh by simpa using j,Z1,Z3 j];exact .mk _ _
  · rw[show(G ((fuel:Int)<1)||G ((2000:Int)<fuel))=aw by simpa using j,Z2,Z4 j];show Is ((vx (iK w x.o).D n).bind _) _;rw[hn];simp only[vt];obtain⟨r,o,m⟩:=slice_g h (k:=x.o) (c:=c) (fuel:=fuel) V hN;rw[o];simp only[vt];show Is (KZ N x n r.h r.t r.k r.o r.H r.u (qY w.r x.o c fuel).2 w.r (qA w).m w.s) _;unfold KZ;by_cases b:(qY w.r x.o c fuel).2=0
    · rw[dF (nn b),Z2,Z4 (nn b)];have W:=ON h.C i (r:=r) (fuel:=fuel) (k:=x.o) (by rw[m b,<-b]);rw[<-m b];show Is (bif G ((x.h:Int)=9)then(MM N (qA w) x.o r x.n).bind _ else(ze N (qA w) x.o r).bind _) _;by_cases l:x.h=9
      · rw[dT l,Z1,Z3 l,tear_g h f W.w x.n hN];simp only[vt];exact .mk _ _
      · rw[dF l,Z2,Z4 l,Xs h f W.w hN];simp only[vt];by_cases d:(kK (iK w x.o) r).2=0
        · rw[dF (nn d),Z2,Z4 (nn d)];by_cases e:r.h=3
          · rw[dT e,Z1,Z3 e];have g:0<=x.o/\x.o<O (zx w x.o (kK (iK w x.o) r).1).m:=by unfold zx;simp only[List.length_set];exact a
            rw[HU g];simp only[vt];rw[pAt_set _ a a,Z3 rfl];show Is ((vx (kK (iK w x.o) r).1.D n).bind _) _;rw[(L7 d).2,next3_idx (L7 d).1 e (h.at f).good.1 hn W.t.symm];simp only[vt];rw[offer_g _ _ _ (Ha (by have:=i.2.2;simp only;omega))];simp only[vt];exact .mk _ _
          · rw[dF e,Z2,Z4 e];show Is (U ((0:Int),qA<|zx w x.o (kK (iK w x.o) r).1)) _;exact .mk _ _
        · rw[dT (show(kK (iK w x.o) r).2≠0 from d),Z1,Z3 d];exact .err d
    · rw[dT (show(qY w.r x.o c fuel).2≠0 from b),Z1,Z3 b];exact .mk _ _
theorem run_g(h:WR w)(d:On x.o)(hN:60002<=N):Is (Vy N (qA w) x) (runW w (FU x)):=by
  have b:=U7 h d;rw[runW_eq];unfold Vy;rw[HU b];simp only[vt];show Is ((vC (iK w x.o).D x.t).bind _) _;rcases find_g (iK w x.o).D x.t with⟨e1,e2⟩|⟨n,c,e1,e2,e3,e4⟩
  · rw[e1];simp only[vt];rw[dT V,Z1];show Is _ (match qw x.t (iK w x.o).D with|none=>_|some c=>_);rw[e2];exact .mk _ _
  · rw[e1];simp only[vt];rw[dF (show¬n<0 by omega),Z2];show Is _ (match qw x.t (iK w x.o).D with|none=>_|some c=>runK w x.h x.o x.n c (if x.h=9 then 2000 else x.n));rw[e2];have e:=(Hd e2).2;by_cases a:x.h=9
    · rw[dT a,Z1,Z3 a];exact runK_g h d e e3 _ hN
    · rw[dF a,Z2,Z4 a];exact runK_g h d e e3 _ hN
end
end Pw
open Go Go.Proofs Go.LX
namespace Pw
open Dk
theorem resend_g{w:Bc}(h:WR w){x:mQ}(e:On x.o):Is (KY (qA w) x) (E4 w (FU x)):=by
  have b:=U7 h e;unfold KY;rw[HU b];simp only[vt];show Is ((vC (iK w x.o).D x.t).bind _) (match qw x.t (iK w x.o).D with|none=>_|some c=>if c.E<0 then(w,7)else(⟨w.r,w.m,Cc w.s<|IP x.o c⟩,0));rcases find_g (iK w x.o).D x.t with⟨e1,e2⟩|⟨n,c,e1,e2,e3,e4⟩
  · rw[e1,e2];simp only[vt];rw[dT V,Z1];exact .mk _ _
  · rw[e1,e2];simp only[vt];rw[dF (show¬n<0 by omega),Z2];show Is ((vx (iK w x.o).D n).bind _) _;rw[e3];simp only[vt];by_cases a:c.E<0
    · rw[dT a,Z1,Z3 a];exact .mk _ _
    · have d:=co_of h e (Hd e2).2;rw[dF a,Z2,Z4 a,offer_g _ _ _ (Ha (by have:=d.2.2;omega))];exact .mk _ _
theorem up_g(x:U5):(Po x).up=x.up:=rfl
theorem Ht{w:Bc}{N:Nat}(hN:60002<=N){l:H dJ}{m:dJ}{e:Int}(h:WR ⟨w.r,w.m,l⟩)(b:U6 m):
  Is (Bz N (qA w) (l,m,e) bh) (⟨w.r,w.m,l⟩,0)/\
  Is (Bz N (qA w) (l,m,e) aw) (zx ⟨w.r,w.m,l⟩ m.x (kK (iK ⟨w.r,w.m,l⟩ m.x) ⟨5,m.t,m.k-1,0,[],[]⟩).1,(kK (iK ⟨w.r,w.m,l⟩ m.x) ⟨5,m.t,m.k-1,0,[],[]⟩).2):=by
 obtain⟨m1,m2,c,d,-⟩:=b;refine⟨.mk ⟨w.r,w.m,l⟩ 0,?_⟩;unfold Bz;rw[Z2,gH (Ha (by simp only;omega))];show Is ((ze N (qA ⟨w.r,w.m,l⟩) m.x _).bind _) _;rw[Xs h m2 (Hf V c (by simp only;omega) V (λx a=>by cases a) (λx a=>by cases a)) hN];exact .mk _ _
theorem hear_g{w:Bc}(h:WR w)(i:Int)(t:YU){N:Nat}(hN:60002<=N):Is (RD N (qA w) i t) (L3 w i t):=by
  unfold RD L3;show Is ((Ms w.s i t).bind _) _;rw[wTake,Z4 (nn ((NI _).2 ⟨h.mlen,h.mok⟩))];by_cases e:i<0\/(O w.s:Int)<=i
  · rw[Z3 e,Z3 e];exact .mk _ _
  · rw[Z4 e,Z4 e];simp only[vt];have hi:i.toNat<O w.s:=by omega
    have j:w.s[i.toNat]? =U w.s[i.toNat]:=bl hi;have a:w.s[i.toNat]∈w.s:=cw hi;generalize w.s[i.toNat]=m at j a;rw[j];simp only[fR];have ok:=h.mok m a;have f:=U7 h ok.2.1;rw[dF V,Z2,HU f];simp only[vt];rw[up_g];by_cases g:(iK w m.x).up=aw
    · rw[g,Z3 rfl];exact .mk _ _
    · rw[Z4 g];have o:(iK w m.x).up=true:=by simpa using g
      rw[o];simp only[cE,Z2];have hl:WR ⟨w.r,w.m,if t=bh then w.s else w.s.take i.toNat++w.s.drop (i.toNat+1)⟩:=by
        cases t
        · exact h.drop i.toNat
        · exact h
      generalize (if t=bh then w.s else w.s.take i.toNat++w.s.drop (i.toNat+1))=l at hl⊢;have J:iK ⟨w.r,w.m,l⟩ m.x=iK w m.x:=rfl;cases ht:m.G with
      |true=>
        simp only[Z1,if_true];show Is ((vC (iK w m.x).D m.t).bind _) (match qw m.t (iK ⟨w.r,w.m,l⟩ m.x).D with|none=>_|some c=>_);rw[J];rcases find_g (iK w m.x).D m.t with⟨e1,e2⟩|⟨n,c,e1,e2,e3,e4⟩
        · rw[e1,e2];simp only[vt];rw[dT V,Z1];exact(Ht hN hl ok).1
        · rw[e1,e2];simp only[vt];rw[dF (show¬n<0 by omega),Z2];show Is ((vx (iK w m.x).D n).bind _) _;rw[e3];simp only[vt];rw[gH (Ha (by have:=ok.2.2.2.1;omega))];by_cases d:c.k≠m.k-1\/c.E≠m.from_
          · rw[show(G ((c.k:Int)≠(m.k-1))||G ((c.E:Int)≠m.from_))=bh by simpa using d,Z3 d];exact(Ht hN hl ok).1
          · rw[show(G ((c.k:Int)≠(m.k-1))||G ((c.E:Int)≠m.from_))=aw by simpa using d,Z4 d];exact(Ht hN hl ok).2
      |false=>
        simp only[Z2,cL,if_false];rw[had_g (h.at ok.2.1).disk _ _ hN];simp only[vt];rw[J];cases hh:IB (iK w m.x) m.t m.k with
        |true=>
          simp only[cE,Z2,if_true];unfold Ep;show Is ((ET (qA ⟨w.r,w.m,l⟩) _).bind _) _;rw[send_g];exact .mk _ _
        |false=>
          simp only[en,Z1,cL,if_false];show Is ((ze N (qA ⟨w.r,w.m,l⟩) m.x _).bind _) _;rw[Xs hl ok.2.1 (Hf V ok.2.2.1 (by have:=ok.2.2.2.1;omega) V (λx k=>by cases k) (img_I64 h.C (h.mimg m a ht))) hN];simp only[vt];rw[J];by_cases b:(kK (iK w m.x) ⟨4,m.t,m.k,0,[],m.u⟩).2=0
          · rw[dF (nn b),Z2,Z4 (nn b)];unfold Ep;show Is ((ET (qA<|zx ⟨w.r,w.m,l⟩ m.x _) _).bind _) _;rw[send_g];exact .mk _ _
          · rw[dT (show(kK (iK w m.x) ⟨4,m.t,m.k,0,[],m.u⟩).2≠0 from b),Z1,Z3 b];exact .err b
theorem V0{N:Nat}(hN:60002<=N)(a:aH)(k:Unit->L (Int×aH)):∀(l:H Co) (i:Int),
    ic (λj(x:Co)s c=>ao (wF N a.r x.u) λq=>BA a c q.2) k i l ()=if He a.r l≠0 then U (He a.r l,a)else k ()
  |[],i=>by rw[Va];simp[He]
  |x::l,i=>by
    rw[Ay,G8 _ _ V];simp only[vt];unfold BA;by_cases h:(eP a.r x.u).2=0
    · rw[dF (nn h),Z2];have b:=V0 hN a k l<|i+1;unfold BA at b;rw[b,show He a.r (x::l)=He a.r l by rw[He,Z4 (nn h)]]
    · rw[dT (show(eP a.r x.u).2≠0 from h),Z1,show He a.r (x::l)=(eP a.r x.u).2 by rw[He,Z3 h],Z3 h]
theorem boot_g{w:Bc}(h:WR w){k:Int}(f:On k){N:Nat}(hN:60002<=N):Is (RF N (qA w) k) (TO w k):=by
  have c:=U7 h f;have m:=(h.at f).disk;unfold RF TO;rw[HU c];simp only[vt];rw[up_g];by_cases e:(iK w k).up=bh
  · rw[e,Z3 rfl];exact .mk _ _
  · have o:(iK w k).up=false:=by simpa using e
    rw[Z4 e,o,Z2,VO m hN];simp only[vt];rw[dF V,Z2,Sf N V,Z4 (show¬120<O (mi (iK w k).d) by have:=(dOk m).len;omega)];simp only[vt];by_cases a:(ru [] (mi (iK w k).d)).2=0
    · rw[dF (nn a),Z2,Z4 (nn a),ba];rw[LN (g:=λj(x:Co)s l=>ao (wF N (qA w).r x.u) λq=>BA (qA w) l q.2) (ru [] (mi (iK w k).d)).1 (λi x s l n=>by
        unfold Wu;rw[kz,n];rfl)]
      rw[V0 hN (qA w)];show Is (if He w.r (ru []<|mi (iK w k).d).1≠0 then _ else _) _;by_cases b:He w.r (ru [] (mi (iK w k).d)).1=0
      · rw[Z4 (nn b),Z4 (nn b)];unfold Ue;have:=HO w k ⟨(ru []<|mi (iK w k).d).1,(Ob (iK w k).d).1,bh⟩;show Is (U ((0:Int),(⟨w.r,(qA w).m.set k.toNat<|Po ⟨(ru []<|mi (iK w k).d).1,(Ob (iK w k).d).1,bh⟩,w.s⟩:aH))) _;rw[this];exact .mk _ _
      · rw[Z3 b,Z3 b];exact .mk _ _
    · rw[dT (show(ru [] (mi (iK w k).d)).2≠0 from a),Z1,Z3 a];exact .mk _ _
theorem begin_g{w:Bc}(h:WR w){k i:Int}(a:On k){N:Nat}(hN:60002<=N):Is (Oy N (qA w) k i) (Gk w k i):=by
  have b:=U7 h a;have j:=(h.at a).disk;unfold Oy Gk;by_cases c:i=k
  · subst c;rw[dF C7,Z2,Z4 C7,HU b];simp only[vt];rw[VO j hN];simp only[vt,ba];rw[PD (λr:vA=>G ((r.h:Int)=1)) (λn=>Bn N (qA w) i i (G ((0:Int)<=n))) (mi (iK w i).d) (λn r l g=>by
      unfold Sr;rw[kz,g];rfl)]
    rw[<-Kx];cases hf:(mi (iK w i).d).findIdx? (λr:vA=>G ((r.h:Int)=1))with
    |some n=>
      simp only[ri,if_true];rw[dT V];exact .mk _ _
    |none=>
      simp only[jI,cL,if_false];unfold Su Bn;rw[Z2];show Is ((Lw w.r).bind _) _;rw[vm_New_eq,Z4 (nn h.C)];simp only[vt];rw[dF V,Z2];show Is ((Iy N w.r<|A9 w.r).bind _) _;have f:=N1<|nk h.C;rw[Fl _ _ V,Z4 (nn h.C),Z4 (nn (Ku.2 f))];simp only[vt];rw[dF V,Z2,Xs h a (Hf V a V V (λx e=>by cases e) (Se (nk h.C) (Hv h.C)).1) hN];exact .mk _ _
  · rw[dT (show i≠k from c),Z1,Z3 c];exact .mk _ _
end Pw
open Go Go.Proofs Go.LX
namespace Pw
open Dk
section
variable{w:Bc}{N:Nat}
theorem step6_g(h:WR w){x:mQ}(g:1<=x.h/\x.h<=9/\x.h≠4/\x.h≠5/\x.h≠6)(hN:60002<=N):Is (uj N x (qA w) bh) (jP w (FU x)):=by
  have f:jP w (FU x)=if x.o<0\/(O w.m:Int)<=x.o then(w,5)else
      if x.h=8 then TO w x.o else
      if(iK w x.o).up=aw then(w,7)else
      if x.h=1 then Gk w x.o x.t else
      if x.h=3 then E4 w (FU x)else
      if x.h=7 then(zx w x.o ⟨[],(iK w x.o).d,aw⟩,0)else runW w (FU x):=by
    unfold jP;rw[Z4 (show¬((FU x).h=4\/(FU x).h=5) by simp only[FU];omega),Z4 (show¬(FU x).h=6 by simp only[FU];omega),Z4 (show¬((FU x).h<1\/9<(FU x).h) by simp only[FU];omega)];rfl
  rw[f];unfold uj;rw[Z1];have hl:(O (qA w).m:Int)=O w.m:=by unfold qA;simp
  rw[hl];by_cases e:x.o<0\/(O w.m:Int)<=x.o
  · rw[show(G ((x.o:Int)<0)||G (((O w.m:Int):Int)<=x.o))=bh by simpa using e,Z3 e];exact .mk _ _
  · rw[show(G ((x.o:Int)<0)||G (((O w.m:Int):Int)<=x.o))=aw by simpa using e,Z4 e,Z2];have i:=h.many;have J:On x.o:=⟨by omega,by omega⟩;by_cases c:x.h=8
    · rw[dT c,Z3 c];exact(boot_g h J hN).pair
    · rw[dF c,Z4 c,Z2,HU (U7 h J)];simp only[vt];rw[up_g];cases hu:(iK w x.o).up with
      |false=>exact .mk _ _
      |true=>
        simp only[cE,Z2,sv,if_false];by_cases k1:x.h=1
        · rw[dT k1,Z3 k1];exact(begin_g h J hN).pair
        · rw[dF k1,Z4 k1,Z2];by_cases a:x.h=3
          · rw[dT a,Z3 a];exact(resend_g h J).pair
          · rw[dF a,Z4 a,Z2];by_cases b:x.h=7
            · rw[dT b,Z3 b];have:=HO w x.o ⟨[],(iK w x.o).d,aw⟩;show Is (U ((0:Int),(⟨w.r,(qA w).m.set x.o.toNat<|Po ⟨[],(iK w x.o).d,aw⟩,w.s⟩:aH))) _;rw[this];exact .mk _ _
            · rw[dF b,Z4 b];exact(run_g h J hN).pair
theorem step45_g(h:WR w)(x:mQ)(a:x.h=4\/x.h=5)(hN:60002<=N):Is (zf N (qA w) x) (jP w (FU x)):=by
  have b:jP w (FU x)=L3 w x.n (decide<|x.h=5):=by unfold jP;rw[Z3 (show((FU x).h=4\/(FU x).h=5)from a)];rfl
  have c:zf N (qA w) x=rA N x (qA w) true:=by
    unfold zf;rcases a with h4|h5
    · rw[dT h4,Z1]
    · rw[dF (show¬x.h=4 by omega),dT h5,Z2,Z1]
  rw[b,c];unfold rA;rw[Z1,dT (show x.h≠6 by omega),Z1];exact(hear_g h _ _ hN).pair
theorem step_g(h:WR w)(x:mQ)(hN:60002<=N):Is (zf N (qA w) x) (jP w (FU x)):=by
  by_cases a:x.h=4\/x.h=5
  · exact step45_g h x a hN
  · by_cases c:x.h=6
    · have d:jP w (FU x)=if x.n<0\/(O w.s:Int)<=x.n then(w,5)else(⟨w.r,w.m,w.s.take x.n.toNat++w.s.drop (x.n.toNat+1)⟩,0):=by
        unfold jP;rw[Z4 (show¬((FU x).h=4\/(FU x).h=5)from a),Z3 (show(FU x).h=6 from c)];rfl
      have g:zf N (qA w) x=rA N x (qA w) true:=by
        unfold zf;rw[dF (show¬x.h=4 by omega),dF (show¬x.h=5 by omega),dT c,Z2,Z2]
      rw[d,g];unfold rA;rw[Z1,dF (show¬x.h≠6 by omega),Z2];show Is ((Ms w.s x.n aw).bind _) _;rw[wTake,Z4 (nn ((NI _).2 ⟨h.mlen,h.mok⟩))];unfold OZ;by_cases b:x.n<0\/(O w.s:Int)<=x.n
      · rw[Z3 b,Z3 b];exact .mk _ _
      · rw[Z4 b,Z4 b];exact .mk ⟨w.r,w.m,w.s.take x.n.toNat++w.s.drop (x.n.toNat+1)⟩ 0
    · have g:zf N (qA w) x=rA N x (qA w) false:=by
        unfold zf;rw[dF (show¬x.h=4 by omega),dF (show¬x.h=5 by omega),dF c,Z2,Z2]
      rw[g];unfold rA;rw[Z2];by_cases kk:1<=x.h/\x.h<=9
      · have f:=step6_g h (x:=x) V hN;have:x.h=1\/x.h=2\/x.h=3\/x.h=7\/x.h=8\/x.h=9:=by omega
        rcases this with e|e|e|e|e|e<;>(rw[e];simp only[show G ((1:Int)=1)=bh from rfl,show G ((2:Int)=1)=aw from rfl,show G ((2:Int)=2)=bh from rfl,show G ((3:Int)=1)=aw from rfl,show G ((3:Int)=2)=aw from rfl,show G ((3:Int)=3)=bh from rfl,show G ((7:Int)=1)=aw from rfl,show G ((7:Int)=2)=aw from rfl,show G ((7:Int)=3)=aw from rfl,show G ((7:Int)=7)=bh from rfl,show G ((8:Int)=1)=aw from rfl,show G ((8:Int)=2)=aw from rfl,show G ((8:Int)=3)=aw from rfl,show G ((8:Int)=7)=aw from rfl,show G ((8:Int)=8)=bh from rfl,show G ((9:Int)=1)=aw from rfl,show G ((9:Int)=2)=aw from rfl,show G ((9:Int)=3)=aw from rfl,show G ((9:Int)=7)=aw from rfl,show G ((9:Int)=8)=aw from rfl,show G ((9:Int)=9)=bh from rfl,Z1,Z2];exact f)
      · have d:jP w (FU x)=(w,4):=by
          unfold jP;rw[Z4 (show¬((FU x).h=4\/(FU x).h=5)from a),Z4 (show¬(FU x).h=6 from c),Z3 (show(FU x).h<1\/9<(FU x).h by simp only[FU];omega)]
        rw[d,dF (show¬x.h=1 by omega),dF (show¬x.h=2 by omega),dF (show¬x.h=3 by omega),dF (show¬x.h=7 by omega),dF (show¬x.h=8 by omega),dF (show¬x.h=9 by omega)];exact .mk _ _
theorem Sh{p:H bM}(hN:60002<=N):∀l:H Co,vq (Mq N p) TU l ()=U (He p l)
  |[]=>rfl
  |x::l=>by
    rw[fQ];have a:=Sh (p:=p) hN l;unfold Mq at a⊢;rw[G8 _ _ V];simp only[vt];by_cases h:(eP p x.u).2=0
    · rw[dF (nn h),Z2,a,He,Z4 (nn h)]
    · rw[dT (show(eP p x.u).2≠0 from h),Z1,He,Z3 h]
theorem plc_g(p:H bM)(x:U5)(g:O x.d.z<=9223372036854775807)(hN:60002<=N):Ov N p (Po x)=U (yT p x):=by
  unfold Ov yT;show(yY N x.d).bind _=_;rw[Dk.J2 N hN _ g];simp only[vt];by_cases b:ji x.d=0
  · rw[dF (nn b),Z2,Z4 (nn b),up_g];cases hu:x.up with
    |false=>
      show(bif G ((0:Int)<(O x.D:Int))then _ else _)=U (if x.D=[]then 0 else 4);by_cases a:x.D=[]
      · rw[a,Z3 rfl];rfl
      · rw[Z4 a,dT (by have:=mN.2 a;omega)];rfl
    |true=>
      simp only[cE,Z2,sv,if_false];show(bif G ((0:Int)<(O x.d.z:Int))then _ else _)=_;by_cases a:x.d.z=[]
      · rw[a,Z4 C7];rw[dF C7,Z2,VO b hN];simp only[vt];rw[Sf N V,Z4 (show¬120<O (mi x.d) by have:=(dOk b).len;omega)];simp only[vt];by_cases f:(ru [] (mi x.d)).2=0
        · rw[dF (nn f),Z2,Z4 (nn f),coSame];simp only[vt];show(bif !decide ((ru []<|mi x.d).1=x.D)then _ else _)=_;by_cases c:(ru [] (mi x.d)).1=x.D
          · rw[dT c,Z4 (λe=>e c)];exact Sh hN x.D
          · rw[dF c,Z3 c];rfl
        · rw[dT (show(ru [] (mi x.d)).2≠0 from f),Z1,Z3 f]
      · rw[Z3 a,dT (by have:=mN.2 a;omega),Z1]
  · rw[dT (show ji x.d≠0 from b),Z1,Z3 b]
theorem OS{w:aH}(hN:60002<=N):∀l:H dJ,vq (CE N w) Mr l ()=U (OH w.r l)
  |[]=>rfl
  |m::l=>by
    rw[fQ];have a:=OS (w:=w) hN l;generalize vq (CE N w) Mr l=F at a⊢;unfold CE OH;cases ht:m.G with
    |true=>exact a
    |false=>
      rw[Z2,G8 _ _ V,Z4 C7];simp only[vt];by_cases h:(eP w.r m.u).2=0
      · rw[dF (nn h),Z2,a,Z4 (nn h)]
      · rw[dT (show(eP w.r m.u).2≠0 from h),Z1,Z3 h]
theorem Un{w:aH}(hN:60002<=N)(k:Unit->L Int):∀l:H U5,(∀x∈l,O x.d.z<=9223372036854775807)->vq (CF N w) k (l.map Po) ()=if NJ w.r l≠0 then U (NJ w.r l)else k ()
  |[],_=>by simp[NJ,kJ]
  |x::l,hw=>by
    rw[cr,fQ];have a:=Un (w:=w) hN k l λy b=>hw y<|bo _ b;generalize vq (CF N w) k (l.map Po)=F at a⊢;unfold CF;rw[plc_g _ _ (hw x C7) hN];simp only[vt];by_cases h:yT w.r x=0
    · rw[dF (nn h),Z2,a,show NJ w.r (x::l)=NJ w.r l by rw[NJ,Z4 (nn h)]]
    · rw[dT (show yT w.r x≠0 from h),Z1,show NJ w.r (x::l)=yT w.r x by rw[NJ,Z3 h],Z3 h]
def Wts(w:Bc):Prop:=∀x∈w.m,O x.d.z<=9223372036854775807
theorem check_g(d:Wts w)(hN:60002<=N):Ow N (qA w)=U (IL w):=by
  unfold Ow IL;show(tX w.r).bind _=_;rw[G4];simp only[vt];by_cases a:Lt w.r=0
  · rw[dF (nn a),Z2,Z4 (nn a)];have hl:(O (qA w).m:Int)=O w.m:=by unfold qA;simp
    rw[hl];by_cases e:O w.m=3
    · rw[dF V,Z2,Z4 V];show(bif G ((eD w.s:Int)≠0)then U (eD w.s)else _)=_;by_cases c:eD w.s=0
      · rw[dF (nn c),Z2,Z4 (nn c)];show vq (CF N<|qA w) _ (w.m.map Po) ()=_;rw[Un hN _ _ d];unfold Sq;show(if NJ w.r w.m≠0 then _ else vq (CE N<|qA w) _ w.s ())=_;rw[OS hN];by_cases b:NJ w.r w.m=0
        · rw[Z4 (nn b),Z4 (nn b)];rfl
        · rw[Z3 b,Z3 b];rfl
      · rw[dT (show eD w.s≠0 from c),Z1,Z3 c]
    · rw[dT V,Z1,Z3 V]
  · rw[dT (show Lt w.r≠0 from a),Z1,Z3 a]
end
end Pw
open Go Go.Proofs Go.LX
namespace Pw
open Dk
theorem QT(F:Unit->L (H bM)):∀l:H An,(∀c∈l,O c.args<=3)->vq En (I4 F) l ()=F ()
 |[],_=>rfl
 |c::l,h=>by
  rw[fQ];have a:=QT F l λx b=>h x<|bo _ b;generalize vq En (I4 F) l=al at a⊢;unfold En;have:=h c C7;rw[vO V V];exact a
theorem code_copy{p:H bM}(h:O p<=4/\∀x∈p,wy x/\∀c∈x.C,O c.args<=3):Le p=U p:=by
 unfold Le;rw[vO V V];simp only[vt,ba];have b:∀(m i:Nat),i+m=O p->Ax (yZ p) (Eo p) (i:Int) m ()=U p:=by
  intro m;induction m with
  |zero=>intro i _;rfl
  |succ m ih=>
   intro i hi;have e:i<O p:=by omega
   show yZ p (i:Int) () (Ax (yZ p) (Eo p) ((i:Int)+1) m)=_;have a:=ih (i+1) V;rw[show((i+1:Nat):Int)=(i:Int)+1 from rfl]at a;generalize Ax (yZ p) (Eo p) ((i:Int)+1) m=nx at a⊢;unfold yZ;have d:=h.2 p[i]<|cw e;have hl:=d.1;unfold wy at hl;rw[rC e];simp only[vt];rw[vO V V];simp only[vt];rw[QT _ _ d.2];exact a
 simpa using b (O p) 0 V
theorem chk_good{p:H bM}(h:Lt p=0):O p<=4/\∀x∈p,wy x/\∀c∈x.C,O c.args<=3:=by
 obtain⟨y,a,b⟩:=SO p;rw[G4]at a;exact b (by rw[<-osi a];exact h)
theorem copy_g{w:Bc}(h:WR w):Ii (qA w)=U (qA w):=by
 have k:=chk_good h.C;unfold Ii;show(Le w.r).bind _=_;rw[code_copy k];simp only[vt];have c:=h.many;show(Dd 80<|w.m.map Po).bind _=_;rw[vO (by simp;omega) (by simp;omega)];simp only[vt];show(Gn w.s).bind _=_;rw[wCopy h.mlen (λm c=>(h.mok m c).2.2.2.2.2)];simp only[vt];unfold OV;rw[ba];have b:∀(m i:Nat),i+m=O (w.m.map Po)->Ax Bv (I5 w.r w.s) (i:Int) m (w.m.map Po)=U (qA w):=by
  intro m;induction m with
  |zero=>intro i _;rfl
  |succ m ih=>
   intro i hi;have f:i<O (w.m.map Po):=by omega
   show Bv (i:Int) (w.m.map Po) (Ax Bv (I5 w.r w.s) ((i:Int)+1) m)=_;have a:=ih (i+1) V;rw[show((i+1:Nat):Int)=(i:Int)+1 from rfl]at a;generalize Ax Bv (I5 w.r w.s) ((i:Int)+1) m=nx at a⊢;unfold Bv;rw[rC f];have j:i<O w.m:=by simpa using f
   have e:(w.m.map Po)[i]=Po w.m[i]:=by simp
   have J:=h.pl w.m[i]<|cw j;have l:=(Dk.uN J.disk).1;simp only[vt];rw[show(w.m.map Po)[i].D=w.m[i].D by rw[e];rfl,show(w.m.map Po)[i].B=w.m[i].d.B by rw[e];rfl,show(w.m.map Po)[i].z=w.m[i].d.z by rw[e];rfl];rw[coCopy J.good.1.len (λx g=>(J.good.1.ok x g).2.2.2.2.2.2.2),vO V V];simp only[vt];rw[vO V V];simp only[vt,ba];rw[List.set_set,show(⟨w.m[i].D,w.m[i].d.B,w.m[i].d.z,(w.m.map Po)[i].up⟩:dD)=(w.m.map Po)[i] by rw[e];rfl,List.set_getElem_self];exact a
 simpa using b (O (w.m.map Po)) 0 V
def zW:aH:=⟨[],[],[]⟩
theorem S5{N:Nat}(hN:60002<=N):∀(l:H mQ) (a:H Int) (w:Bc),WR w->O a+O l<=120->
    vq (I8 N) I9 l (a,w.r,(qA w).m,w.s)=U (qA (Sj w (l.map FU)).1,a++(Sj w (l.map FU)).2,0)
  |[],a,w,_,_=>by simp[kJ,I9,Sj,qA]
  |x::l,a,w,h,hl=>by
    rw[fQ];simp only[br]at hl;have c:=λs w h W=>S5 hN l s w h W;generalize vq (I8 N) I9 l=F at c⊢;unfold I8;show(Ii<|qA w).bind _=_;rw[copy_g h];simp only[vt];obtain⟨v,f,g⟩:=step_g h x hN;rw[f];simp only[vt];unfold I7;rw[cr,QJ];have d:Room 8 a [(jP w (FU x)).2]:=Room.mk (by simp;omega) (by simp;omega);by_cases b:(jP w (FU x)).2=0
    · rw[dT b,Z1,Z3 b,gH d,g b];have e:=(step_ev h (Prod.ext Z b:jP w (FU x)=((jP w<|FU x).1,0))).1;have:=c (a++[(jP w (FU x)).2]) _ e (by simp;omega);rw[show(qA (jP w (FU x)).1).r=(jP w (FU x)).1.r from rfl,show(qA (jP w (FU x)).1).s=(jP w (FU x)).1.s from rfl,this,cg];rfl
    · rw[dF b,Z2,Z4 b,gH d];rw[c (a++[(jP w (FU x)).2]) w h (by simp;omega),cg];rfl
theorem runs_g{w:Bc}(c:Wts w)(l:H mQ){N:Nat}(hN:60002<=N):Qm N (qA w) l=U (if IL w≠0 then(zW,[],IL w)else if 120<O l then(zW,[],2)else(qA (Sj w (l.map FU)).1,(Sj w (l.map FU)).2,0)):=by
  unfold Qm;rw[check_g c hN];simp only[vt];by_cases a:IL w=0
  · rw[dF (nn a),Z2,Z4 (nn a)];by_cases b:120<O l
    · rw[dT V,Z1,Z3 b];rfl
    · have h:=(w_iff w).1 a;rw[dF V,Z2,Z4 b,copy_g h];simp only[vt];exact(S5 hN l [] w h (by simp;omega)).trans (by rw[cc])
  · rw[dT (show IL w≠0 from a),Z1,Z3 a];rfl
end Pw
open Go Go.Proofs Go.LX
namespace Pw
open Dk
theorem wts_of{l:H dD}{w:World}{aq A:BS}{v:Value}(h:ek iV w aq A v l):∀x∈l,O x.z<=9223372036854775807:=by
 obtain⟨a,cap,_,_,_,_,f⟩:=h;intro x c;obtain⟨i,hi,rfl⟩:=List.getElem_of_mem c;obtain⟨b,o,cells,E,g,_,_,_,e⟩:=f i hi;obtain⟨_,_,_,_,_,_,d⟩:=fM e;exact d.aZ
theorem wts_to{a:aH}(h:∀x∈a.m,O x.z<=9223372036854775807):Wts (toW a):=by
 intro x b;obtain⟨y,c,rfl⟩:=List.mem_map.1 b;exact h y c
theorem Lu{ρ:Type}{body:Int->Unit->(Unit->ρ)->ρ}{k:Unit->ρ}:∀(m:Nat) (i:Nat),(∀(j:Nat) (a:Unit->ρ),i<=j->j<i+m->body (j:Int) () a=a ())->Ax body k (i:Int) m ()=k ()
 |0,i,_=>rfl
 |m+1,i,h=>by
  show body (i:Int) () (Ax body k ((i:Int)+1) m)=_;rw[h i _ (Nat.le_refl _) V];exact Lu m (i+1) λj a c b=>h j a V V
theorem gl(w:Bc):O (qA w).m=O w.m:=by unfold qA;simp
theorem U8{α β:Type}{body:Int->α->Unit->(Unit->L YU)->L YU}{kk:Unit->L YU}(p:α->β->YU)(a:H α)(b:H β)(hl:O a=O b)
  (e:∀(i:Nat) x y nx,b[i]? =U y->body (i:Int) x () nx=bif p x y then nx ()else U aw):ic body kk 0 a ()=bif Ek p a b then kk ()else U false:=by
 have c:∀(l:H α) (i:Nat),i+O l=O b->ic body kk (i:Int) l ()=bif Ek p l (b.drop i)then kk ()else U false:=by
  intro l;induction l with
  |nil=>
   intro i h;rw[List.drop_eq_nil_of_le (by simp at h;omega)];rfl
  |cons x l ih=>
   intro i h;have d:i<O b:=by simp at h;omega
   rw[List.drop_eq_getElem_cons d];show body (i:Int) x () (ic body kk ((i:Int)+1) l)=_;rw[e i x b[i] _ (bl d)];cases J:p x b[i]with
   |true=>simp only[Z1,Ek,J,gw];exact ih (i+1) (by simp at h;omega)
   |false=>simp[Ek,J]
 have:=c a 0 V;simpa using this
theorem code_same(a b:H bM):Db a b=U (G (a=b)):=by
  unfold Db;by_cases h:O a=O b
  · rw[dF V];simp only[Z2];rw[U8 (λx y=>G (x=y)) a b h (λi x y s c=>by
      obtain⟨C,r,f⟩:=x;obtain⟨A,al,d⟩:=y;unfold N8;rw[kz,c,cJ];simp only;by_cases k:C=A
      · by_cases g:r=al
        · subst k g;simp only[decide_true,mw,Z1];by_cases j:O f=O d
          · rw[dF V];simp only[Z2];rw[U8 (λx y=>G (x=y)) f d j (λi x y s c=>by
              obtain⟨v,E,z,p,u⟩:=x;obtain⟨aq,w0,w,q,l⟩:=y;unfold NZ;rw[kz,c,cJ];simp only[eqInt,cJ,ym,pq,An.mk.injEq];by_cases m:v=aq<;>by_cases o:E=w0<;>by_cases n:z=w<;>by_cases t:p=q<;>by_cases F:u=l<;>simp[m,o,n,t,F]),Dn (λ_ _=>rfl)]
            simp[N7,pq]
          · rw[dT V];have:f≠d:=λe=>j (by rw[e]);simp[this,pq]
        · simp[g,pq]
      · simp[k,pq]),Dn (λ_ _=>rfl)]
    unfold N9;by_cases e:a=b<;>simp[e]
  · rw[dT V];have:a≠b:=λe=>h (by rw[e]);rw[dF this];rfl
theorem hN:60002<=NN:=by decide
end Pw
open Go Go.Proofs Go.LX
namespace Pw
open Dk
theorem errSame(a:H Int):xC a a=U true:=by
 unfold xC;rw[dF C7,Z2,ba];refine(Lu (O a) 0 λj c _ b=>?_).trans Z;unfold H6;have h:j<O a:=by omega
 rw[kz,bl h];simp only[vt];rw[dF C7,Z2]
end Pw
open Go Go.Proofs Go.LX
theorem moved_ok:yO NN=U true:=by
 unfold yO;rw[program_p];kernel_rfl
namespace Dk
theorem Wa{x y:Co}(a:0<=x.y/\x.y<=2)(b:0<=y.y/\y.y<=2):T1 x y=G (x.y<y.y):=by
 unfold T1 T6;rw[show RowKit.wrap64 (x.y-y.y)=x.y-y.y by unfold RowKit.wrap64;omega,decide_eq_decide];omega
theorem sort_few(o:H Co)(c:Co)(ho:O o<=3)(e:Up o)(a:∀x∈o,0<=x.y/\x.y<=2)(f:0<=c.y/\c.y<=2)(b:∀x∈o,x.y≠c.y):Jy T1 (o++[c])=G9 c o:=by
  unfold Jy Sort.insertionSort
  match o,ho,e,a,b with
  |[],_,_,_,_=>
    rw[ga];simp[G9]
  |[x],_,_,a,b=>
    have d:=a x C7;have j:=b x C7;rw[ga,ga];simp[Sort.insInner,G9,Wa f d,Sort.swp];by_cases h:c.y<x.y
    · rw[Z3 h,Z4 V]
    · rw[Z4 h,Z3 V]
  |[x,y],_,e,a,b=>
    have d:=a x C7;have g:=a y C7;have j:=b x C7;have l:=b y C7;have k:x.y<y.y:=by simp[Up]at e;exact e
    rw[ga,ga,ga];simp[Sort.insInner,G9,Wa f d,Wa f g,Wa g d,Sort.swp,show¬y.y<x.y by omega];by_cases h:c.y<y.y
    · by_cases i:c.y<x.y
      · simp[h,i,Wa f d,show¬x.y<c.y by omega]
      · simp[h,i,Wa f d,show x.y<c.y by omega,show¬y.y<c.y by omega]
    · simp[h,show x.y<c.y by omega,show y.y<c.y by omega]
  |[x,y,z],_,e,a,b=>
    have d:=a x C7;have g:=a y C7;have m:=a z C7;have j:=b x C7;have l:=b y C7;have n:=b z C7;simp[Up]at e;omega
  |x::y::z::u::r,h,_,_,_=>simp at h
theorem SU(b:vA):∀(l:H Co) (h:L Co) (o:H Co),l.Pairwise (λx y=>x.y≠y.y)->(∀y,h=U y->∀x∈l,x.y≠b.t)->O o+O l<=3->
    vq (vS b) (oV b) l (h,o)=oV b ((match Dl b l with|some x=>U x|none=>h),o++Lx b l)
  |[],h,o,_,_,_=>by simp[kJ,Dl,Lx]
  |x::r,h,o,J,hh,hl=>by
    rw[ea]at J;simp only[br]at hl;rw[fQ];have f:=SU b r;generalize vq (vS b) (oV b) r=nx at f⊢;unfold vS;simp only;by_cases a:x.y=b.t
    · rw[dT a];simp only[Z1];have i:∀y∈r,y.y≠b.t:=λy c e=>J.1 y c<|a.trans e.symm;rw[f (U x) o J.2 (λ_ _=>i) V];have j:Dl b r=none:=by
        unfold Dl;rw[sq];intro y c;simpa using i y c
      have d:Dl b (x::r)=U x:=by unfold Dl;rw[eS];simp[a]
      have g:Lx b (x::r)=Lx b r:=by unfold Lx;rw[hZ];simp[a]
      rw[j,d,g]
    · rw[dF a];simp only[Z2];rw[gH (Room.mk (by simp;omega) (by simp;omega)),f h (o++[x]) J.2 (λy c z k=>hh y c z (bo _ k)) (by simp;omega)];have d:Dl b (x::r)=Dl b r:=by unfold Dl;rw[eS];simp[a]
      have g:Lx b (x::r)=x::Lx b r:=by unfold Lx;rw[hZ];simp[a]
      rw[d,g,cg,List.singleton_append]
theorem j10_eq(b:vA)(a:H Co)(g:Good a)(c1 c2 f:Int)(d:H Int)(i:c1=b.t)(e:0<=b.t/\b.t<=2):p8 (Lx b a) c1 c2 d f=U (G9 ⟨c1,c2,d,f⟩ (Lx b a),0):=by
 unfold p8;have hl:=oth_len b a;have j:=g.len;rw[gH (Room.mk (by simp;omega) (by simp;omega)),gH (by simp;omega)];rw[sort_few (Lx b a) ⟨c1,c2,d,f⟩ V (oth_up b g.up) (λx c=>by have:=g.ok x (VM c).1;exact⟨this.1,this.2.1⟩) (by subst i;exact e) (λx c=>by have:=(VM c).2;rw[i];exact this)]
theorem Hn(a:H Co)(b:vA):qz a b=U (kX a b):=by
  unfold qz kX;by_cases e:gF a=0
  · by_cases j:eF b=0
    · have g:=(No a).1 e;have gr:=HB b j;rw[e,j];simp only[ne_eq,not_true_eq_false,decide_false,Z2,if_false];rw[SU b a none [] (g.up.imp (λh=>by omega)) (λy n=>by cases n) (by simpa using g.len),cc];have f:∀s:L Co×H Co,oV b s=tC s.1 b s.2 (decide<|b.h=1\/b.h=4):=by
        rintro⟨o,p⟩;unfold oV;simp only;by_cases d:b.h=1
        · simp[d]
        · simp[d]
      rw[f];simp only;unfold tC;have m:=gr.h;cases hh:Dl b a with
      |none=>
        simp only;by_cases d:b.h=1\/b.h=4
        · rw[dT d,Z3 d];simp only[Z1,jI,Z2];cases (G (b.k=1) !=G (b.h=1))with
          |true=>rfl
          |false=>
            simp only[Z2,cL,if_false];exact j10_eq b a g b.t b.k (-1) b.u Z gr.t
        · rw[dF d,Z4 d];rfl
      |some c=>
        have l:c.y=b.t:=by
          have:=List.find?_some hh;simpa using this
        simp only;by_cases d:b.h=1\/b.h=4
        · rw[dT d,Z3 d];rfl
        · rw[dF d,Z4 d];simp only[Z2,Option.isNone_some,vt];cases (G (b.k≠c.k)||(G (c.E≠ -1) !=G (b.h=5)))with
          |true=>rfl
          |false=>
            simp only[Z2,cL,if_false];by_cases k:b.h=5
            · rw[dT k,Z3 k];rfl
            · rw[dF k,Z4 k];simp only[Z2];by_cases k2:b.h=2
              · rw[dT k2,Z3 k2];exact j10_eq b a g _ _ _ _ l gr.t
              · rw[dF k2,Z4 k2];simp only[Z2];by_cases i:c.k=100
                · rw[dT i,Z3 i];rfl
                · rw[dF i,Z4 i];exact j10_eq b a g _ _ _ _ l gr.t
    · rw[e];simp only[ne_eq,not_true_eq_false,decide_false,Z2,if_false];rw[show G (¬eF b=0)=bh from dT j,Z3 j];rfl
  · rw[show G (gF a≠0)=bh from dT e,Z3 e];rfl
theorem WI:∀(l:H vA) (a:H Co),vq Ac FD l a=U (ru a l)
  |[],a=>rfl
  |x::l,a=>by
    rw[fQ,Ac,Hn];simp only[vt];rw[ru];by_cases h:(kX a x).2=0
    · rw[dF (show¬(kX a x).2≠0 from λe=>e h),Z2,WI l,Z4 (λe=>e h)]
    · rw[dT (show(kX a x).2≠0 from h),Z1,Z3 h]
theorem HM(l:H vA):uK l=U (if 120<O l then([],2)else ru [] l):=by
  unfold uK;by_cases h:120<O l
  · rw[dT V,Z1,Z3 h]
  · rw[dF V,Z2,WI,Z4 h]
end Dk
open Go Go.Proofs Go.LX
namespace Pw
open Dk
theorem coSameR(a b:H Co):zC a b=U (G (a=b)):=by
 rw[<-coSame];rfl
theorem VP{N:Nat}(w:aH)(b:Unit->L Int){e:Int}(a:e≠0):∀l:H Co,vq (lZ N w) (l7 b) l e=U e
 |[]=>by rw[kJ];unfold l7;rw[dT a,Z1]
 |x::l=>by
  rw[fQ];have c:=VP (N:=N) w b a l;generalize vq (lZ N w) (l7 b) l=F at c⊢;unfold lZ;rw[dF a,Z2,c]
theorem imgsR{N:Nat}(hN:60002<=N){w:aH}(J:Lt w.r=0)(a:Unit->L Int):∀l:H Co,vq (lZ N w) (l7 a) l 0=if He w.r l≠0 then U (He w.r l)else a ()
  |[]=>by rw[kJ];unfold l7;rw[dF tS,Z2];rfl
  |x::l=>by
    rw[fQ,lZ,dT rfl,Z1,OG J _ V];simp only[vt]
    skip
    rw[He];by_cases h:(eP w.r x.u).2=0
    · rw[h,Z4 (show¬((0:Int)≠0)from λe=>e rfl),imgsR hN J a l]
    · rw[Z3 h,Z3 h,VP w a h]
theorem plcR{N:Nat}(hN:60002<=N){w:aH}(J:Lt w.r=0)(x:U5)(i:O x.d.z<=9223372036854775807)(f:Unit->L Int):ou N w (Po x) () f=if yT w.r x≠0 then U (yT w.r x)else f ():=by
  unfold ou yT;show(pY x.d).bind _=_;rw[Uy _ i];simp only[vt];by_cases b:ji x.d=0
  · rw[dF (nn b),Z2,Z4 (nn b),up_g];cases hu:x.up with
    |false=>
      simp only[en,gw,ju,sA,Z1,if_true];show(bif G ((0:Int)<(O x.D:Int))then _ else _)=_;by_cases a:x.D=[]
      · rw[a,Z3 rfl];rfl
      · rw[Z4 a,dT (by have:=mN.2 a;omega)];rfl
    |true=>
      simp only[cE,gw,ju,pd,Z2,sv,if_false];show(bif G ((0:Int)<(O x.d.z:Int))then _ else _)=_;by_cases a:x.d.z=[]
      · rw[Z4 (show¬x.d.z≠[]from λe=>e a)];rw[dF (by rw[a];simp),Z2];show(jh x.d).bind _=_;rw[K7 _ b];simp only[vt];rw[show(Ob x.d).2=mi x.d from rfl,HM,Z4 (show¬120<O (mi x.d) by have:=(dOk b).len;omega)];simp only[vt];by_cases c:(ru [] (mi x.d)).2=0
        · rw[dT c,Z1,Z4 (nn c),coSameR];simp only[vt];unfold oo om;show(bif !decide ((ru []<|mi x.d).1=x.D)then _ else _)=_;by_cases g:(ru [] (mi x.d)).1=x.D
          · rw[dT g,Z4 (show¬(ru [] (mi x.d)).1≠x.D from λe=>e g),c,g,cE,Z2];exact imgsR hN J f x.D
          · rw[dF g,Z3 g,Z3 tS,en,Z1];exact VP w f tS _
        · rw[dF c,Z2,Z3 c,Z3 c];unfold oo om;rw[Z2];exact VP w f c _
      · rw[Z3 a,dT (by have:=mN.2 a;omega),Z1,Z3 tS]
  · rw[dT (show ji x.d≠0 from b),Z1,Z3 b,Z3 b]
theorem plcsR{N:Nat}(hN:60002<=N){w:aH}(J:Lt w.r=0)(k:Unit->L Int):∀l:H U5,(∀x∈l,O x.d.z<=9223372036854775807)->vq (ou N w) k (l.map Po) ()=if NJ w.r l≠0 then U (NJ w.r l)else k ()
  |[],_=>by simp[NJ,kJ]
  |x::l,hw=>by
    rw[cr,fQ,plcR hN J x (hw x C7),plcsR hN J k l (λy a=>hw y (bo _ a)),NJ];by_cases h:yT w.r x=0
    · rw[Z4 (nn h),Z4 (nn h)]
    · rw[Z3 h,Z3 h,Z3 h]
theorem mailsR{w:aH}(J:Lt w.r=0){N:Nat}(hN:60002<=N):∀l:H dJ,vq (oq N w) xg l ()=U (OH w.r l)
  |[]=>rfl
  |m::l=>by
    rw[fQ];have a:=mailsR (w:=w) J hN l;generalize vq (oq N w) xg l=F at a⊢;unfold oq OH;rw[OG J _ V];simp only[vt];cases ht:m.G with
    |true=>exact a
    |false=>
      rw[Z4 C7,en,gw];by_cases h:(eP w.r m.u).2=0
      · rw[dF (nn h),Z2,a,Z4 (nn h)]
      · rw[dT (show(eP w.r m.u).2≠0 from h),Z1,Z3 h]
theorem checkR{w:Bc}(e:Wts w){N:Nat}(hN:60002<=N):vX N (qA w)=U (IL w):=by
  unfold vX IL;show(pX w.r).bind _=_;rw[chk_eq2];simp only[vt];by_cases a:Lt w.r=0
  · rw[dF (nn a),Z2,Z4 (nn a)];have hl:(O (qA w).m:Int)=O w.m:=by unfold qA;simp
    rw[hl,<-Dk.IL];by_cases d:O w.m=3
    · rw[dF V,Z2,Z4 V];show(bif G ((eD w.s:Int)≠0)then U (eD w.s)else _)=_;by_cases c:eD w.s=0
      · rw[dF (nn c),Z2,Z4 (nn c)];show vq (ou N<|qA w) _ (w.m.map Po) ()=_;rw[plcsR hN (show Lt (qA w).r=0 from a) _ _ e];unfold CX;show(if NJ w.r w.m≠0 then _ else vq (oq N<|qA w) _ w.s ())=_;rw[mailsR (show Lt (qA w).r=0 from a) hN];by_cases b:NJ w.r w.m=0
        · rw[Z4 (nn b),Z4 (nn b)];rfl
        · rw[Z3 b,Z3 b];rfl
      · rw[dT (show eD w.s≠0 from c),Z1,Z3 c]
    · rw[dT V,Z1,Z3 d]
  · rw[dT (show Lt w.r≠0 from a),Z1,Z3 a]
end Pw
open Go Go.Proofs Go.LX
namespace Pw
open Dk
def Hs(o:L (aH×Int))(q:Bc×Int):Prop:=o=U (if q.2=0 then(qA q.1,0)else(zW,q.2))
theorem Hs.ok(v:Bc):Hs (U (qA v,0)) (v,0):=rfl
theorem Hs.bad{u:Bc}{e:Int}(h:e≠0):Hs (U (zW,e)) (u,e):=by unfold Hs;rw[Z4 h]
theorem RR{d:gz}(h:ji d=0){r:vA}(e:(We d r).2=0):ji (We d r).1=0:=by
  have ok:=Dk.uN h;unfold We at e⊢;by_cases b:(uw r).2=0
  · rw[Z4 V]at e⊢;by_cases a:60000<O d.B+O d.z+O (uw r).1+1
    · rw[Z3 a]at e;simp at e
    · rw[Z4 a];unfold ji;simp only;rw[Z4 (by simp only[bm,br,eR];omega)];exact ok.2
  · rw[Z3 b]at e;exact ZL e b
theorem H2{w:Bc}(hl:O w.m=3){k:Int}(j:On k)(g:ji (iK w k).d=0){r:vA}(l:Q4 r):kW (qA w) k r=U ((kK (iK w k) r).2,qA (zx w k (kK (iK w k) r).1)):=by
  have f:0<=k/\k<O w.m:=by unfold On at j;omega
  have a:qA (zx w k<|iK w k)=qA w:=by rw[G0 f]
  unfold kW kK zm;rw[HU f,vt];show(qz (iK w k).D r).bind _=_;rw[Hn,vt,Z4 (nn g)];by_cases c:(kX (iK w k).D r).2=0
  · rw[dT c,Z1,Z4 (nn c)];show(si (iK w k).d r).bind _=_;rw[putOn_eq _ _ g l,vt];unfold uM;by_cases b:(We (iK w k).d r).2=0
    · rw[dT b,Z1,Z4 (nn b)];show(xE (We (iK w k).d r).1).bind _=_;have i:=RR g b;unfold J6;rw[synced_eq _ i,vt,Z4 (nn i)];unfold qH;by_cases e:(HD (We (iK w k).d r).1).2=0
      · rw[dT e,Z1,Z4 (nn e),e];exact ZS (λz=>U ((0:Int),z))<|HO w k ⟨(kX (iK w k).D r).1,(HD (We (iK w k).d r).1).1,(iK w k).up⟩
      · rw[dF e,Z2,Z3 e,a]
    · rw[dF b,Z2,Z3 b];unfold qH;rw[dF b,Z2,a]
  · rw[dF c,Z2,Z3 c];unfold uM qH;rw[dF c];simp only[Z2];rw[a]
theorem send_q{w:Bc}(h:WR w){m:dJ}(b:U6 m)(F:H dJ->L (aH×Int)):(bif G ((O w.s:Int)<40)then iC (Room 64 w.s [m]) (F (w.s++[m]))else F w.s)=F (Cc w.s m):=by
  rw[Lo h];by_cases a:O w.s<40
  · rw[dT V,Z1,gH (Room.mk (by simp;omega) (by simp;omega)),Z3 ⟨b,a⟩]
  · rw[dF V,Z2,Z4 (λx=>a x.2)]
theorem RM{w:Bc}{x:U5}{e:Int}{al:aH->L (aH×Int)}{q:Bc}(k:Int)(a:e=0->Hs (al (qA (zx w k x))) (q,0)):
    Hs (bif G (e≠0)then U ((⟨[],[],[]⟩:aH),e)else al (qA (zx w k x))) (q,e):=by
  by_cases h:e=0
  · rw[dF (nn h),Z2,h];exact a h
  · rw[dT (show e≠0 from h),Z1];exact .bad h
theorem taken_q{w:Bc}(hl:O w.m=3){m:dJ}(f:U6 m)(i:ji (iK w m.x).d=0):∀l:H Co,Up l->(∀c∈l,X1 c)->
    Hs (vq (zi m (qA w) w.s) (EB (qA w) w.s) l ())
      (match qw m.t l with
      |none=>(w,0)
      |some c=>if c.k≠m.k-1\/c.E≠m.from_ then(w,0)else
        (zx w m.x (kK (iK w m.x) ⟨5,m.t,m.k-1,0,[],[]⟩).1,(kK (iK w m.x) ⟨5,m.t,m.k-1,0,[],[]⟩).2))
  |[],_,_=>by unfold qw;exact .ok w
  |c::l,hu,hok=>by
    rw[Up,ea]at hu;have e:=taken_q hl f i l hu.2 λx a=>hok x<|.tail _ a;obtain⟨o1,o2,p,n,j,r,k,o⟩:=hok c<|.head _;rw[fQ];unfold zi um;unfold qw at e⊢;rw[eS];by_cases g:c.y=m.t
    · rw[dT g,Z1,gH (Ha V)];have hn:l.find? (λc=>decide<|c.y=m.t)=none:=by
        rw[sq];intro x a;have:=hu.1 x a;rw[dF V];simp
      rw[hn]at e;simp only;by_cases b:c.k≠m.k-1\/c.E≠m.from_
      · rw[Z3 b,show(G (((c.k+1):Int)=m.k)&&G ((c.E:Int)=m.from_))=aw by
          rcases b with b|b
          · rw[dF V];rfl
          · rw[dF b,Bool.and_false],Z2]
        exact e
      · rw[Z4 b,dT V,dT (show c.E=m.from_ by omega),show c.k=m.k-1 by omega,g];simp only[mw,Z1,cc];show Hs ((kW (qA w) m.x _).bind _) _;rw[H2 hl f.2.1 i (Hf V f.2.2.1 (by have:=f.2.2.2.1;omega) V (λx a=>by cases a) (λx a=>by cases a))];simp only[vt];exact RM (al:=λv=>U (v,0)) m.x λq=>.ok _
    · rw[dF g,Z2];exact e
theorem had_q(m:dJ)(F:YU->L (aH×Int)):∀(l:H vA) (b:YU),vq (zk m) F l b=F (b||l.any λr=>G (r.h=4)&&G (r.t=m.t)&&G (m.k<=r.k))
 |[],b=>by rw[List.any_nil,sA];rfl
 |x::l,b=>by
  show vq (zk m) F l _=_;rw[had_q m F l,vf,Bool.or_assoc]
theorem catMail{a b:H dJ}(h:O a+O b<=1000):xD [a,b]=U (a++b):=by
 show xP a 0 (λs=>xP b s<|BL [a,b])=_;unfold xP;rw[gI V V,dF V,Z2];simp only[];rw[gI V V,dF V,Z2];unfold BL Hy;rw[gH (by constructor<;>omega)];show xO a [] (λs=>xO b s H7)=_;unfold xO;rw[gH (Room.mk (by simp;omega) (by simp;omega)),cc];simp only[];rw[gH (Room.mk V V)];rfl
theorem mail_q{w:Bc}{x:mQ}{m:dJ}{Zs:H dJ}(h:WR ⟨w.r,w.m,Zs⟩)(a:U6 m)(hi:m.G=aw->(eP w.r m.u).2=0)(e:x.h≠6):
    Hs (lC x (qA w) m Zs) (if(iK w m.x).up=aw then(w,7)else
      if m.G then
        match qw m.t (iK w m.x).D with
        |none=>(⟨w.r,w.m,Zs⟩,0)
        |some c=>if c.k≠m.k-1\/c.E≠m.from_ then(⟨w.r,w.m,Zs⟩,0)else
          (zx ⟨w.r,w.m,Zs⟩ m.x (kK (iK w m.x) ⟨5,m.t,m.k-1,0,[],[]⟩).1,(kK (iK w m.x) ⟨5,m.t,m.k-1,0,[],[]⟩).2)
      else if IB (iK w m.x) m.t m.k then(⟨w.r,w.m,Cc Zs (PF m)⟩,0)else
        if(kK (iK w m.x) ⟨4,m.t,m.k,0,[],m.u⟩).2≠0 then(⟨w.r,w.m,Zs⟩,(kK (iK w m.x) ⟨4,m.t,m.k,0,[],m.u⟩).2)else
        (⟨w.r,(zx w m.x (kK (iK w m.x) ⟨4,m.t,m.k,0,[],m.u⟩).1).m,Cc Zs (PF m)⟩,0)):=by
  have D2:PlR w.r (iK w m.x):=h.at a.2.1;have i:=D2.good.1;have j:O w.m=3:=h.many;have b:U6 (PF m):=⟨a.2.1,a.1,a.2.2.1,a.2.2.2.1,by simp[PF],by simp[PF]⟩;unfold lC;rw[dF e,Z2,cc,HU (w:=w) (by have:=a.2.1;omega)];simp only[vt];rw[up_g];by_cases g:(iK w m.x).up=aw
  · rw[g,Z3 rfl];exact .bad V
  · rw[Z4 g];have n:(iK w m.x).up=true:=by simpa using g
    rw[n];simp only[cE,Z2];cases ht:m.G with
    |true=>
      simp only[Z1,if_true];exact taken_q (w:=⟨w.r,w.m,Zs⟩) j a D2.disk _ i.up i.ok
    |false=>
      simp only[Z2,cL,if_false];show Hs ((jh (iK w m.x).d).bind _) _;rw[K7 _ D2.disk];simp only[vt];rw[had_q,pd];show Hs (zl _ _ _<|IB (iK w m.x) m.t m.k) _;unfold zl uq uo;rw[cc];cases hh:IB (iK w m.x) m.t m.k with
      |true=>
        simp only[cE,Z2,if_true];refine tm (ZS (λz=>Hs z _)<|send_q h b λl=>U ((⟨w.r,(qA w).m,l⟩:aH),(0:Int))) ?_;exact .ok ⟨w.r,w.m,Cc Zs<|PF m⟩
      |false=>
        simp only[en,Z1,cL,if_false];show Hs ((kW (qA ⟨w.r,w.m,Zs⟩) m.x ⟨4,m.t,m.k,0,[],m.u⟩).bind _) _;rw[H2 (w:=⟨w.r,w.m,Zs⟩) (r:=⟨4,m.t,m.k,0,[],m.u⟩) j a.2.1 D2.disk (Hf V a.2.2.1 (by have:=a.2.2.2.1;omega) V (λx k=>by cases k) (img_I64 h.C (hi ht)))];simp only[vt];by_cases e:(kK (iK w m.x) ⟨4,m.t,m.k,0,[],m.u⟩).2=0
        · rw[Z4 (nn e)];have f:(kK (iK ⟨w.r,w.m,Zs⟩ m.x) ⟨4,m.t,m.k,0,[],m.u⟩).2=0:=e;rw[dF (nn f),Z2];have:=send_q h b λl=>U ((⟨w.r,(qA<|zx w m.x (kK (iK w m.x) ⟨4,m.t,m.k,0,[],m.u⟩).1).m,l⟩:aH),(0:Int));refine tm (ZS (λz=>Hs z _) this) ?_;exact .ok ⟨w.r,(zx w m.x (kK (iK w m.x) ⟨4,m.t,m.k,0,[],m.u⟩).1).m,Cc Zs<|PF m⟩
        · rw[Z3 e];have f:(kK (iK ⟨w.r,w.m,Zs⟩ m.x) ⟨4,m.t,m.k,0,[],m.u⟩).2≠0:=e;rw[dT f,Z1];exact .bad e
end Pw
open Go Go.Proofs Go.LX
namespace Pw
open Dk
theorem in_i(n a b:Int):aN n a b=bh↔a<=n/\n<=b:=by simp[aN]
theorem VQ(n m:Int):aJ n m=bh↔0<=n/\n<m:=by simp[aJ]
theorem epoch_of{w:Bc}{k:Int}{c:Co}(e:Dk.Good (iK w k).D){r:vA}(b:qw r.t (iK w k).D=U c)(h:(kX (iK w k).D r).2=0)(f:r.h=3):c.k≠100:=by
  obtain⟨-,a,-⟩:=Hq h;rw[b]at a;rcases a with⟨y,_,_⟩|⟨y,_,_⟩|⟨_,y,_,_,_,_⟩|⟨d,y,hx,hde,_,hdx,_⟩|⟨_,y,_,_,_,_⟩
  · omega
  · omega
  · omega
  · obtain rfl:=osi hx;omega
  · omega
def recK(w:Bc)(x:mQ)(c:Co)(r:vA):Bc×Int:=
 if x.h=9 then(zx w x.o (Q6 (iK w x.o) r x.n).1,(Q6 (iK w x.o) r x.n).2)else
 if(kK (iK w x.o) r).2≠0 then(w,(kK (iK w x.o) r).2)else
 if r.h=3 then(⟨w.r,(zx w x.o (kK (iK w x.o) r).1).m,Cc w.s (IP x.o ⟨c.y,c.k,c.u,r.o⟩)⟩,0)else(zx w x.o (kK (iK w x.o) r).1,0)
theorem rec_q{w:Bc}(h:WR w){x:mQ}(o:On x.o){c:Co}(q:c∈(iK w x.o).D){fuel:Int}{r:vA}(S:Sliced w.r x.o c fuel r):
    Hs (pI x (Po (iK w x.o)) c (qA w) r.h r.o r.H r.u)
      (recK w x c r):=by
  have v:=U7 h o;have D2:=h.at o;have k:=D2.disk;obtain⟨o1,o2,aq,E,A,F,p,t⟩:=D2.good.1.ok c q;have s:(⟨r.h,c.y,c.k,r.o,r.H,r.u⟩:vA)=r:=by rw[<-S.t,<-S.k]
  unfold pI yn pG recK;simp only[s,cc];by_cases m:x.h=9
  · rw[dT m,Z1,Z3 m];unfold Q6 zm;rw[Hn,Z4 (nn k)];simp only[vt];show Hs (bif G ((kX (iK w x.o).D r).2≠0)then _ else(si (iK w x.o).d r).bind _) _;by_cases g:(kX (iK w x.o).D r).2=0
    · rw[dF (nn g),Z2,Z4 (nn g),putOn_eq _ _ k S.w];simp only[vt];by_cases e:(We (iK w x.o).d r).2=0
      · have j:=RR k e;rw[dF (nn e),Z2,Z4 (nn e)];generalize (We (iK w x.o).d r).1=d at j;unfold NH;rw[Z4 (nn j),Z4 V];have W:=Sl (l:=d.z) (a:=0) (b:=(max 0<|min x.n (O d.z:Int)).toNat) V V;rw[fF,show((0:Nat):Int)=0 from rfl]at W;rw[show min (max x.n 0) (O d.z:Int)=(((max 0 (min x.n (O d.z:Int))).toNat:Nat):Int) by omega,W];simp only[vt];refine tm (ZS (λz=>Hs (U (z,(0:Int))) _)<|HO w x.o ⟨[],⟨d.B,d.z.take (max 0<|min x.n (O d.z:Int)).toNat⟩,aw⟩) ?_;exact .ok _
      · rw[dT (show(We (iK w x.o).d r).2≠0 from e),Z1,Z3 e];exact .bad e
    · rw[dT (show(kX (iK w x.o).D r).2≠0 from g),Z1,Z3 g];exact .bad g
  · rw[dF m,Z2,Z4 m];show Hs ((kW (qA w) x.o r).bind _) _;rw[H2 h.many o k S.w];simp only[vt];by_cases f:(kK (iK w x.o) r).2=0
    · rw[dF (nn f),Z2,Z4 (nn f)];by_cases i:r.h=3
      · rw[dT i,Z1,Z3 i,gH (Ha V)];have J:On r.o:=by
          rcases S.how with hh|hh
          · omega
          · exact hh.2.1
        have C:=epoch_of D2.good.1 (by rw[S.t];exact Hp D2.good.1.up q) (L7 f).1 i;have u:U6 ⟨x.o,r.o,c.y,c.k+1,aw,c.u⟩:=by
          refine⟨o,J,⟨o1,o2⟩,by simp only;omega,?_,t⟩;constructor
          · intro y;cases y
          · intro y;have:c.u=[]:=y;rw[this]at p;simp at p
        refine tm (ZS (λz=>Hs z _)<|send_q h u λl=>U ((⟨w.r,(qA<|zx w x.o (kK (iK w x.o) r).1).m,l⟩:aH),(0:Int))) ?_;exact Hs.ok (⟨w.r,(zx w x.o (kK (iK w x.o) r).1).m,Cc w.s<|IP x.o ⟨c.y,c.k,c.u,r.o⟩⟩:Bc)
      · rw[dF i,Z2,Z4 i];exact .ok<|zx w x.o (kK (iK w x.o) r).1
    · rw[dT (show(kK (iK w x.o) r).2≠0 from f),Z1,Z3 f];exact .bad f
theorem run_q{w:Bc}(h:WR w){x:mQ}(p:On x.o){c:Co}(o:c∈(iK w x.o).D)(fuel:Int){N:Nat}(hN:60002<=N):
    Hs (pK N c (qA w) x (Po (iK w x.o)) fuel) (runK w x.h x.o x.n c fuel):=by
  have J:=h.C;have m:=nk J;have g:=co_of h p o;unfold pK runK;by_cases v:fuel<1\/2000<fuel
  · rw[show aN fuel 1 2000=aw by rw[fy];intro e;have:=(in_i _ _ _).1 e;omega,Z3 v];exact .bad V
  · rw[show aN fuel 1 2000=bh from(in_i _ _ _).2 V,Z4 v];simp only[cE,Z2];by_cases z:c.E= -1
    · have d:=λr e=>rec_q h p o<|ON (r:=r) J (fuel:=fuel) (k:=x.o) g e;have hi:=(h.at p).img c o;have u:=Mb J hi;have st:=W5 u.st;rw[dF (show¬c.E≠ -1 by omega),Z2];show Hs ((j4 N w.r c.u).bind _) _;rw[OG J _ V];simp only[vt];obtain⟨q,a⟩:∃q,qY w.r x.o c fuel=q:=⟨_,Z⟩;have b:=a;unfold qY at b;rw[Z4 (show¬0<=c.E by omega),Z4 (nn hi)]at b;have W:eP w.r c.u=((eP w.r c.u).1,0):=Prod.ext Z hi;generalize (eP w.r c.u).1=s at W u st b⊢;rw[W];by_cases f:s.q=3/\0<=s.bC/\s.bC<3/\s.bC≠x.o
      · rw[show((G ((s.q:Int)=3)&&G ((s.bC:Int)≠x.o))&&aJ s.bC 3)=bh by
          rw[dT f.1,dT f.2.2.2,(VQ _ _).2 ⟨f.2.1,f.2.2.1⟩];rfl,Z1]
        rw[Z3 f]at b;rw[<-b]at a;have:=d _ a;rw[a];simp only[ne_eq,not_true_eq_false,if_false];exact this
      · rw[show((G ((s.q:Int)=3)&&G ((s.bC:Int)≠x.o))&&aJ s.bC 3)=aw by
          rw[fy];intro e;simp only[Bool.and_eq_true,decide_eq_true_eq,VQ]at e;exact f ⟨e.1.1,e.2.1,e.2.2,e.1.2⟩,Z2]
        rw[Z4 f]at b;have go:∀t:LX.State,t=DS s->Hs (pJ N (qA w) (s,0) fuel x (Po<|iK w x.o) c t.q t.bC) (if(qY w.r x.o c fuel).2≠0 then(w,(qY w.r x.o c fuel).2)else recK w x c (qY w.r x.o c fuel).1):=by
          intro t l;unfold pJ;by_cases i:(DS s).q=0
          · have y:(⟨s.i,s.j,t.q,t.bC⟩:LX.State)=DS s:=by
              rw[l];unfold DS;split<;>rfl
            rw[Z4 (nn i)]at b;rw[<-b]at a;rw[l,dF (nn i),Z2,a];simp only[ne_eq,not_true_eq_false,if_false];rw[l]at y;rw[y];show Hs ((yQ N w.r (DS s) fuel).bind _) _;rw[ranOn_eq m st i V V];simp only[vt];rw[Tr m (VL m fuel.toNat [] 0 _ st C7).1 V];simp only[vt];exact d _ a
          · rw[Z3 i]at b;rw[<-b]at a;rw[l,dT (show(DS s).q≠0 from i),Z1,a];exact .bad C7
        by_cases j:s.q=3
        · rw[dT j,Z1];exact go ⟨s.i,s.j,0,0⟩ (wake_eq s j).symm
        · rw[dF j,Z2];exact go s (by unfold DS;rw[Z4 j])
    · rw[dT (show c.E≠ -1 from z),Z1];have a:qY w.r x.o c fuel=(⟨2,c.y,c.k,0,[],[]⟩,7):=by
        unfold qY;rw[Z3 (by have:=g;obtain⟨o1,o2,aq,C,A,E,-⟩:=this;omega)]
      rw[a];exact .bad C7
end Pw
open Go Go.Proofs Go.LX
namespace Pw
open Dk
theorem boot_q{a:aH}(J:Lt a.r=0){N:Nat}(hN:60002<=N)(F:Int->L (aH×Int)):∀(l:H Co) (i e:Int),
    ic (λ_(x:Co)s c=>bif G (s=0)then Option.bind (j4 N a.r x.u) λq=>c q.2 else c s) F i l e=F (if e≠0 then e else He a.r l)
  |[],i,e=>by
    rw[Va,He];by_cases h:e=0
    · rw[Z4 (nn h),h]
    · rw[Z3 h]
  |x::l,i,e=>by
    rw[Ay]
    skip
    by_cases h:e=0
    · rw[dT h,Z1,OG J _ V,Z4 (nn h)];simp only[vt];have b:=boot_q J hN F l (i+1) (eP a.r x.u).2
      skip
      rw[b,He]
    · rw[dF h,Z2,Z3 h];have b:=boot_q J hN F l (i+1) e
      skip
      rw[b,Z3 h]
theorem find_q(a:H Co)(i:Int):(a.findIdx? (λx=>G (x.y=i))=none/\qw i a=none)\/∃(n:Nat) (c:Co),a.findIdx? (λx=>G (x.y=i))=U n/\qw i a=U c/\vx a n=U c:=by
  have:=find_g a i;rw[findEq]at this;cases h:a.findIdx? (λx=>G (x.y=i))with
  |none=>
    rw[h]at this;rcases this with⟨_,e⟩|⟨n,c,e1,_,_,e4⟩
    · exact .inl ⟨Z,e⟩
    · simp at e1;omega
  |some n=>
    rw[h]at this;rcases this with⟨e,_⟩|⟨m,c,e1,e2,e3,_⟩
    · simp at e
    · simp at e1;subst e1;exact .inr ⟨n,c,Z,e2,e3⟩
theorem act_q{w:Bc}(h:WR w){x:mQ}(k4:¬(x.h=4\/x.h=5\/x.h=6)){N:Nat}(hN:60002<=N):Hs (j5 N x (qA w) aw) (jP w (FU x)):=by
  have S:=h.many;unfold j5 jP FU;simp only[Z2,cc];rw[Z4 (show¬(x.h=4\/x.h=5) by omega),Z4 (show¬x.h=6 by omega)];by_cases K:x.h<1\/9<x.h
  · rw[show aN x.h 1 9=aw by rw[fy];intro e;have:=(in_i _ _ _).1 e;omega,Z3 K];exact .bad V
  rw[show aN x.h 1 9=bh from(in_i _ _ _).2 V,Z4 K];by_cases h2:x.o<0\/3<=x.o
  · rw[show aJ x.o 3=aw by rw[fy];intro e;have:=(VQ _ _).1 e;omega,Z3 (show x.o<0\/(O w.m:Int)<=x.o by omega)];exact .bad V
  rw[show aJ x.o 3=bh from(VQ _ _).2 V,Z4 (show¬(x.o<0\/(O w.m:Int)<=x.o) by omega)];have f:On x.o:=⟨by omega,by omega⟩;have D2:=h.at f;have aq:=D2.disk;simp only[cE,Z2];rw[HU (U7 h f)];simp only[vt];rw[up_g];by_cases A:x.h=8
  · rw[Z3 A,dT A];unfold TO;by_cases b:(iK w x.o).up=bh
    · rw[b,Z3 rfl];exact .bad V
    · rw[Z4 b,show(iK w x.o).up=aw by simpa using b];show Hs ((jh (iK w x.o).d).bind _) _;rw[K7 _ aq];simp only[vt];rw[HM,show(Ob (iK w x.o).d).2=mi (iK w x.o).d from rfl,Z4 (show¬120<O (mi (iK w x.o).d) by have:=(dOk aq).len;omega)];simp only[vt,ba];rw[LN (g:=λ_(x:Co)s k=>bif G (s=0)then Option.bind (j4 N (qA w).r x.u) λq=>k q.2 else k s) (ru [] (mi (iK w x.o).d)).1 (λi c s k E=>by
        unfold D5;rw[kz,E];rfl)]
      rw[boot_q (a:=qA w) h.C hN];unfold D6;rw[show(qA w).r=w.r from rfl,cc];by_cases j:(ru [] (mi (iK w x.o).d)).2=0
      · rw[Z4 (nn j),Z4 (nn j)];by_cases p:He w.r (ru [] (mi (iK w x.o).d)).1=0
        · rw[Z4 (nn p),dF (nn p),Z2];refine tm (ZS (λz=>Hs (U (z,(0:Int))) _)<|HO w x.o ⟨(ru []<|mi (iK w x.o).d).1,(Ob (iK w x.o).d).1,bh⟩) ?_;exact .ok _
        · rw[Z3 p,dT (show He w.r (ru [] (mi (iK w x.o).d)).1≠0 from p),Z1];exact .bad p
      · rw[Z3 j,Z3 j,dT (show(ru [] (mi (iK w x.o).d)).2≠0 from j),Z1];exact .bad j
  rw[Z4 A,dF A];by_cases b:(iK w x.o).up=aw
  · rw[b,Z3 rfl];exact .bad V
  rw[Z4 b,show(iK w x.o).up=bh by simpa using b];simp only[beq_true,Bool.true_beq,Z2,cE,en];by_cases C:x.h=7
  · rw[dT C,Z4 V,Z4 V,Z3 C];refine tm (ZS (λz=>Hs (U (z,(0:Int))) _)<|HO w x.o ⟨[],(iK w x.o).d,aw⟩) ?_;exact .ok _
  rw[dF C];by_cases t:x.h=1
  · rw[Z3 t,dT t];simp only[Z1,Z2];unfold Gk;by_cases M:x.t=x.o
    · rw[dF (show¬x.t≠x.o by omega),Z4 (show¬x.t≠x.o by omega)];show Hs ((jh (iK w x.o).d).bind _) _;rw[K7 _ aq];simp only[vt,ba];rw[show(Ob (iK w x.o).d)=((Ob (iK w x.o).d).1,mi (iK w x.o).d)from rfl];rw[PD (λr:vA=>G ((r.h:Int)=1)) (λn=>pF N (qA w) x (G ((0:Int)<=n))) (mi (iK w x.o).d) (λn r k o=>by
        unfold D7;rw[kz,o];rfl)]
      rw[<-Kx];cases hf:(mi (iK w x.o).d).findIdx? (λr:vA=>G ((r.h:Int)=1))with
      |some n=>
        simp only[ri,if_true];rw[dT V];exact .bad V
      |none=>
        simp only[jI,cL,if_false];unfold D8 pF;have w0:=N1<|nk h.C;have o:Q4 ⟨1,x.t,1,0,[],Ap (jY (A9 w.r))⟩:=Hf V (by have:=f;unfold On at this;omega) V V (λx E=>by cases E) (Se (nk h.C) (Hv h.C)).1;obtain⟨y,F⟩:=YN<|nk h.C;have P:=((nk h.C).mem F).2.2.1;have sc:A9 w.r=⟨[⟨0,0,List.replicate y.regs.toNat ⟨0,0⟩,0⟩],[],0,0⟩:=by unfold A9;rw[F];rfl
        rw[Z2,show(qA w).r=w.r from rfl,F];simp only[vt,cc];rw[gH V,<-sc,Tr (nk h.C) w0 V];simp only[vt];show Hs ((kW (qA w) x.o ⟨1,x.t,1,0,[],Ap<|jY<|A9 w.r⟩).bind _) _;rw[H2 S f aq o];simp only[vt];exact RM (al:=λv=>U (v,0)) x.o λhe=>.ok _
    · rw[dT (show x.t≠x.o from M),Z3 M];exact .bad V
  rw[Z4 t,dF t];simp only[Z2,ba];rw[show(Po (iK w x.o)).D=(iK w x.o).D from rfl];rw[PD (λc:Co=>G ((c.y:Int)=x.t)) (λn=>mq N (Po (iK w x.o)) x (qA w) n) (iK w x.o).D (λn r k o=>by
    unfold D9;rw[show(Po (iK w x.o)).D=(iK w x.o).D from rfl,kz,o];rfl)]
  unfold E4;rw[runW_eq];simp only;rcases find_q (iK w x.o).D x.t with⟨e1,e2⟩|⟨n,c,e1,e2,e3⟩
  · rw[e1,e2];simp only;unfold Ea mq;rw[dT V,Z1];split
    · exact .bad V
    · exact .bad V
  · rw[e1,e2];have u:=(Hd e2).2;obtain⟨o1,o2,X,o4,o5,T,Zs,ab⟩:=D2.good.1.ok c u;simp only;unfold mq;rw[dF V,Z2,show(Po (iK w x.o)).D=(iK w x.o).D from rfl,e3];simp only[vt,cc];by_cases W:x.h=3
    · rw[dT W,Z1,Z3 W];by_cases ho:c.E= -1
      · rw[dT ho,Z1,Z3 V];exact .bad V
      · rw[dF ho,Z2,Z4 V,gH (Ha V)];have R:U6 (IP x.o c):=by
          have:=D2.good.2 c u ho;refine⟨f,⟨by simp only[IP];omega,T⟩,⟨o1,o2⟩,by simp only[IP];omega,?_,ab⟩;constructor
          · intro y;cases y
          · intro y;have:c.u=[]:=y;rw[this]at Zs;simp at Zs
        unfold sQ;refine tm (ZS (λz=>Hs z _)<|send_q h R λl=>U ((⟨w.r,(qA w).m,l⟩:aH),(0:Int))) ?_;exact Hs.ok (⟨w.r,w.m,Cc w.s<|IP x.o c⟩:Bc)
    · rw[dF W,Z2,Z4 W,Z4 C];by_cases m:x.h=2
      · rw[dT m,Z1,Z4 V];exact run_q h f u _ hN
      · rw[dF m,Z2,Z3 V];exact run_q h f u _ hN
theorem mails_q{w:Bc}(h:WR w){x:mQ}(s:x.h=4\/x.h=5\/x.h=6){N:Nat}:Hs (j5 N x (qA w) bh) (jP w (FU x)):=by
  have hl:=h.mlen;unfold j5 jP FU L3;simp only[Z1,cc];show Hs (bif !aJ x.n (O w.s:Int)then _ else(vx w.s x.n).bind _) _;by_cases f:x.n<0\/(O w.s:Int)<=x.n
  · rw[show aJ x.n (O w.s:Int)=aw by rw[fy];intro e;have:=(VQ _ _).1 e;omega];rw[Z3 f,Z3 f];split
    · exact .bad V
    · rw[Z3 V];exact .bad V
  · rw[show aJ x.n (O w.s:Int)=bh from(VQ _ _).2 V,Z4 f,Z4 f];have hi:x.n.toNat<O w.s:=by omega
    have p:w.s[x.n.toNat]? =U w.s[x.n.toNat]:=bl hi;have d:w.s[x.n.toNat]∈w.s:=cw hi;have j:vx w.s x.n=U w.s[x.n.toNat]:=by unfold vx;rw[Z3 V,p]
    rw[j];simp only[cE,Z2,vt];rw[p];simp only[fR];generalize w.s[x.n.toNat]=m at d;have ok:=h.mok m d;have r:∀F:H dJ->L (aH×Int),(bif G (x.h≠5)then iC (j6<|x.n+1) (ao (sub? (qA w).s 0 x.n) λa=>ao (sub? (qA w).s (x.n+1) (O (qA w).s:Int)) λb=>ao (xD [a,b]) λc=>F c)else F (qA w).s)=F (if x.h=5 then w.s else w.s.take x.n.toNat++w.s.drop (x.n.toNat+1)):=by
      intro F;show(bif G (x.h≠5)then iC (j6<|x.n+1) (ao (sub? w.s 0 x.n) λa=>ao (sub? w.s (x.n+1) (O w.s:Int)) λb=>ao (xD [a,b]) λc=>F c)else F w.s)=_;by_cases g:x.h=5
      · rw[dF V,Z2,Z3 g]
      · rw[dT (show x.h≠5 from g),Z1,Z4 g,gH (Ha V)];have k:=Sl (l:=w.s) (a:=0) (b:=x.n.toNat) V V;have o:=Sl (l:=w.s) (a:=x.n.toNat+1) (b:=O w.s) V V;rw[fF,show((0:Nat):Int)=0 from rfl,show(x.n.toNat:Int)=x.n by omega]at k;rw[List.take_length,show((x.n.toNat+1:Nat):Int)=x.n+1 by omega]at o;rw[k];simp only[vt];rw[o];simp only[vt];rw[catMail (by rw[List.length_take,List.length_drop];omega)];rfl
    refine tm (ZS (λz=>Hs z _)<|r λl=>lC x (qA w) m l) ?_;by_cases i:x.h=6
    · rw[Z4 V,Z4 V,Z3 i];unfold lC;rw[dT i,Z1,cc];exact Hs.ok (⟨w.r,w.m,w.s.take x.n.toNat++w.s.drop (x.n.toNat+1)⟩:Bc)
    · rw[Z3 (show x.h=4\/x.h=5 by omega)];have hl:WR ⟨w.r,w.m,if x.h=5 then w.s else w.s.take x.n.toNat++w.s.drop (x.n.toNat+1)⟩:=by
        split
        · exact h
        · exact h.drop _
      have q:(if G (x.h=5)=bh then w.s else w.s.take x.n.toNat++w.s.drop (x.n.toNat+1))=(if x.h=5 then w.s else w.s.take x.n.toNat++w.s.drop (x.n.toNat+1)):=by simp only[decide_eq_true_eq]
      rw[q];exact mail_q hl ok (h.mimg m d) i
theorem happened_q{w:Bc}(h:WR w)(x:mQ){N:Nat}(hN:60002<=N):Hs (qK N (qA w) x) (jP w (FU x)):=by
  unfold qK Aj;rw[gH (Room.mk (by rw[gl];have:=h.many;simp;omega) (by rw[gl];have:=h.many;simp;omega)),gH (Room.mk (by have:=h.mlen;simp[qA];omega) (by have:=h.mlen;simp[qA];omega))];by_cases b:x.h=4
  · rw[dT b,Z1];exact mails_q h (.inl b)
  · rw[dF b,Z2];by_cases a:x.h=5
    · rw[dT a,Z1];exact mails_q h (.inr<|.inl a)
    · rw[dF a,Z2];by_cases c:x.h=6
      · rw[dT c];exact mails_q h (.inr<|.inr c)
      · rw[dF c];exact act_q h V hN
end Pw
open Go Go.Proofs Go.LX
namespace Pw
open Dk
noncomputable instance:DecidableEq dD:=λ_ _=>Classical.propDecidable _
noncomputable instance:DecidableEq aH:=λ_ _=>Classical.propDecidable _
theorem sameR(a b:aH):tJ a b=U (G (a=b)):=by
  obtain⟨j,g,m⟩:=a;obtain⟨k,d,o⟩:=b;unfold tJ;rw[show Db j k=U (G (j=k))from code_same _ _,rSame];simp only[vt,aH.mk.injEq];by_cases c:j=k
  · by_cases f:m=o
    · by_cases l:O g=O d
      · rw[dT c,dT f,Z1,Z1,dF V,Z2];rw[U8 (λx y=>G (x=y)) g d l (λi x y C v=>by
          obtain⟨n,A,s,r⟩:=x;obtain⟨t,q,z,aq⟩:=y;unfold DY pE;simp only;rw[kz,v];simp only[vt,coSameR,diskSame2,dD.mk.injEq,gz.mk.injEq];by_cases w:n=t<;>by_cases p:A=q<;>by_cases u:s=z<;>cases r<;>cases aq<;>simp[w,p,u]),Dn (λ_ _=>rfl)]
        unfold DZ;by_cases e:g=d<;>simp[e,c,f]
      · rw[dT c,dT f,Z1,Z1,dT V,Z1];have:g≠d:=λe=>l (by rw[e]);simp[this]
    · simp[c,f]
  · simp[c]
theorem Rd{N:Nat}(hN:60002<=N)(K:H Int×H bM×H dD×H dJ->L YU):∀(l:H mQ) (a:H Int) (w:Bc),WR w->O a+O l<=120->
    vq (sU N) K l (a,w.r,(qA w).m,w.s)=K (a++(Sj w (l.map FU)).2,(Sj w (l.map FU)).1.r,(qA (Sj w (l.map FU)).1).m,(Sj w (l.map FU)).1.s)
  |[],a,w,_,_=>by simp[kJ,Sj]
  |x::l,a,w,h,hl=>by
    rw[fQ];simp only[br]at hl;have c:=λs w h W=>Rd hN K l s w h W;generalize vq (sU N) K l=F at c⊢;unfold sU;show(qK N (qA w) x).bind _=_;rw[show qK N (qA w) x=_ from happened_q h x hN];simp only[vt];unfold sS;rw[cr,QJ];have d:∀e,Room 8 a [e]:=λe=>Room.mk (by simp;omega) (by simp;omega);by_cases b:(jP w (FU x)).2=0
    · rw[Z3 b,Z3 b,b,dT rfl,Z1,gH (d _)];have f:=(step_ev h (Prod.ext Z b:jP w (FU x)=((jP w<|FU x).1,0))).1;have:=c (a++[0]) _ f (by simp;omega);exact this.trans (by rw[cg];rfl)
    · rw[Z4 b,dF b,Z2,Z4 b,gH (d _)];rw[c (a++[(jP w (FU x)).2]) w h (by simp;omega),cg];rfl
theorem runs_err{a:aH}{b:H mQ}{e:Int}(h:e≠0):mU NN (zW,[],e) b a e=U true:=by
 unfold mU;rw[moved_ok];simp only[vt];rw[dT h];simp only[Bool.or_true,Z1,vt,eR,Int.ofNat_zero,Int.natCast_zero,decide_true,mw];rw[show(⟨[],[],[]⟩:aH)=zW from rfl,sameR,dT rfl];rfl
theorem worldRuns(a:aH)(b:H mQ)(f:∀x∈a.m,O x.z<=9223372036854775807):BM NN a b=U true:=by
  have d:=wts_to f;rw[<-of_to a];generalize toW a=w at d;unfold BM;rw[runs_g d b hN];simp only[vt];rw[checkR d hN];simp only[vt];by_cases c:IL w=0
  · rw[Z4 (nn c),dT c,gw];by_cases e:120<O b
    · rw[Z3 e,dT V,Z1];exact runs_err V
    · have h:=(w_iff w).1 c;rw[Z4 e,dF V,Z2,c];unfold mU;rw[moved_ok];simp only[vt];rw[dF (nn rfl)];simp only[cE,sA,Z2];refine(Rd hN _ b [] w h (by simp;omega)).trans ?_;rw[cc];unfold Eb;simp only;rw[errSame,dT trivial];simp only[vt,Z1];rw[show(⟨(Sj w (b.map FU)).1.r,(qA (Sj w (b.map FU)).1).m,(Sj w (b.map FU)).1.s⟩:aH)=qA (Sj w (b.map FU)).1 from rfl,sameR,dT rfl];rfl
  · rw[Z3 c,dF c,ju,Z2];exact runs_err c
end Pw
end Go.Proofs.YteijalgmijkphaaGreatDoor