/-
  What the law WorldParts needs of our own library and of the walks, no more.
-/
import Derived.Test.YtodkbibbgakkdaaGreatDoorWorldPartsTh
set_option linter.unusedSimpArgs false
set_option linter.unusedVariables false
set_option maxRecDepth 10000
namespace Go.Proofs.YtodkbibbgakkdaaGreatDoor
open Go Go.Proofs Go.LX
theorem moved_ok:uH NN=some true:=by
 unfold uH;rw[program_p];kernel_rfl
namespace Pw
open Dk
def toP(x:gJ):Pj:=⟨x.cos,⟨x.safe,x.wait⟩,x.up⟩
def toW(w:aY):xO:=⟨w.prog,w.places.map toP,w.bU⟩
def FO(x:qh):Hap:=⟨x.kind,x.place,x.co,x.n⟩
def M0(x:Pj):gJ:=⟨x.cos,x.d.safe,x.d.wait,x.up⟩
def uX(w:xO):aY:=⟨w.prog,w.places.map M0,w.bU⟩
theorem of_to(w:aY):uX (toW w)=w:=by
 have:w.places.map (M0∘toP)=w.places:=List.map_id _;unfold uX toW;simp only[List.map_map,this]
theorem idx_map{α β:Type}(f:α->β)(l:List α)(k:Int):idx (l.map f) k=(idx l k).map f:=by
 unfold idx;split<;>simp
theorem g_at{w:xO}{k:Int}(h:0<=k/\k<w.places.length):idx (uX w).places k=some (M0 (jr w k)):=by
 show idx (w.places.map M0) k=_;rw[idx_map,(pAt_eq h).1];rfl
theorem g_set(w:xO)(k:Int)(x:Pj):(⟨w.prog,(uX w).places.set k.toNat (M0 x),w.bU⟩:aY)=uX (EC w k x):=by
 unfold uX EC;simp only[List.map_set]
theorem Tn{w:xO}(h:WR w){k:Int}(a:On k):0<=k/\k<w.places.length:=by
 have:=h.many;have:=a.1;have:=a.2;omega
theorem Tp{d:gZ}(h:jB d=0):d.wait.length<=60000:=by
 have:=(Dk.wo h).1;omega
theorem put_wait(d:gZ)(r:Rec):(wu d r).1.wait.length<=60000:=by
 unfold wu putT;repeat' split
 all_goals first|(show([]:Str).length<=60000;simp)|(simp only[List.length_append,List.length_cons,List.length_nil];omega)
theorem note_g{w:xO}(h:WR w){k:Int}(g:On k){r:Rec}(j:PH r){N:Nat}(hN:60002<=N):
    uS N (uX w) k r=some ((oJ (jr w k) r).2,uX (EC w k (oJ (jr w k) r).1)):=by
  have a:=Tn h g;have hp:=h.at g;have l:=Tp hp.disk;have i:=put_wait (jr w k).d r;have f:uX w=uX (EC w k<|jr w k):=by rw[setP_self a]
  unfold uS oJ;rw[g_at a];simp only[bnd];rw[next_eq N V];simp only[bnd];by_cases c:(kV (jr w k).cos r).2=0
  · rw[dF (show¬(kV (M0 (jr w k)).cos r).2≠0 from fun h=>h c),cond_false,if_neg (show¬(kV (jr w k).cos r).2≠0 from fun h=>h c)];show(Ig N (jr w k).d r).bind _=_;rw[put_eq N hN _ r V j];simp only[bnd];unfold JO;by_cases e:(wu (jr w k).d r).2=0
    · rw[dF (show¬(wu (jr w k).d r).2≠0 from fun h=>h e),cond_false,if_neg (show¬(wu (jr w k).d r).2≠0 from fun h=>h e)];show(KT N (wu (jr w k).d r).1).bind _=_;rw[sync_eq N hN _ V];simp only[bnd];by_cases b:(Gc (wu (jr w k).d r).1).2=0
      · rw[dF (show¬(Gc (wu (jr w k).d r).1).2≠0 from fun h=>h b),cond_false,if_neg (show¬(Gc (wu (jr w k).d r).1).2≠0 from fun h=>h b)];rw[<-g_set,List.set_set];rfl
      · rw[dT (show(Gc (wu (jr w k).d r).1).2≠0 from b),cond_true,if_pos b,<-f]
    · rw[dT (show(wu (jr w k).d r).2≠0 from e),cond_true,if_pos e,<-f]
  · rw[dT (show(kV (M0 (jr w k)).cos r).2≠0 from c),cond_true,if_pos c,<-f];rfl
theorem tear_g{w:xO}(h:WR w){k:Int}(f:On k){r:Rec}(i:PH r)(n:Int){N:Nat}(hN:60002<=N):
    IE N (uX w) k r n=some ((PZ (jr w k) r n).2,uX (EC w k (PZ (jr w k) r n).1)):=by
  have a:=Tn h f;have hp:=h.at f;have j:=Tp hp.disk;have g:=put_wait (jr w k).d r;have e:uX w=uX (EC w k<|jr w k):=by rw[setP_self a]
  unfold IE PZ;rw[g_at a];simp only[bnd];rw[next_eq N V];simp only[bnd];by_cases b:(kV (jr w k).cos r).2=0
  · rw[dF (show¬(kV (M0 (jr w k)).cos r).2≠0 from fun h=>h b),cond_false,if_neg (show¬(kV (jr w k).cos r).2≠0 from fun h=>h b)];show(Ig N (jr w k).d r).bind _=_;rw[put_eq N hN _ r V i];simp only[bnd];unfold JS;by_cases c:(wu (jr w k).d r).2=0
    · rw[dF (show¬(wu (jr w k).d r).2≠0 from fun h=>h c),cond_false,if_neg (show¬(wu (jr w k).d r).2≠0 from fun h=>h c)];show(IC N (wu (jr w k).d r).1 _).bind _=_;rw[crash_eq N hN _ _ V];simp only[bnd];rw[<-g_set];rfl
    · rw[dT (show(wu (jr w k).d r).2≠0 from c),cond_true,if_pos c,<-e]
  · rw[dT (show(kV (M0 (jr w k)).cos r).2≠0 from b),cond_true,if_pos b,<-e];rfl
theorem send_g(w:xO)(m:gM):Bn (uX w) m=some (uX ⟨w.prog,w.places,Gd w.bU m⟩):=by
  unfold Bn;show(NR w.bU m).bind _=_;rw[wSend];simp only[bnd];unfold Gd;by_cases a:dO w.bU=0
  · rw[if_neg (show¬dO w.bU≠0 from fun h=>h a)];by_cases b:dO [m]=0
    · rw[if_neg (show¬dO [m]≠0 from fun h=>h b),if_neg (show¬(dO w.bU≠0\/dO [m]≠0) by simp[a,b])];rw[dT rfl,cond_true];rfl
    · rw[if_pos (show dO [m]≠0 from b),if_pos (show(dO w.bU≠0\/dO [m]≠0)from .inr b)];rw[dF b,cond_false]
  · rw[if_pos (show dO w.bU≠0 from a),if_pos (show(dO w.bU≠0\/dO [m]≠0)from .inl a)];rw[dF a,cond_false]
theorem offer_g(w:xO)(k:Int)(c:Co)(a:ku (c.aM+1)):FC (uX w) k c=some (uX ⟨w.prog,w.places,Gd w.bU (Rk k c)⟩):=by
 unfold FC;rw[j5 a,send_g];rfl
theorem Pm{x:Pj}(h:jB x.d=0){N:Nat}(hN:60002<=N):qJ N (⟨(M0 x).safe,(M0 x).wait⟩:gZ)=some ((Ri x.d).1,mG x.d,0):=by
 show qJ N x.d=_;have:=Tp h;rw[recover_eq N hN _ V];unfold Zk;rw[if_neg (show¬jB x.d≠0 from fun e=>e h)];rfl
theorem any_find{α:Type}{p:α->Bool}{l:List α}:(l.findIdx? p).isSome=l.any p:=by
  induction l with
  |nil=>rfl
  |cons x l ih=>
    rw[List.findIdx?_cons,List.any_cons];cases p x
    · simp[ih]
    · simp
theorem had_g{x:Pj}(h:jB x.d=0)(i e:Int){N:Nat}(hN:60002<=N):OZ N (M0 x) i e=some (hadP x i e):=by
 unfold OZ hadP;rw[Pm h hN];simp only[bnd,Int.toNat_natCast];rw[TA (fun r:Rec=>(decide ((r.kind:Int)=4)&&decide ((r.co:Int)=i))&&decide ((e:Int)<=r.aM)) (fun n=>some (decide ((0:Int)<=n))) (mG x.d) (fun n r b a=>by
  unfold JR;rw[show idx (mG x.d) (n:Int)=some r by unfold idx;rw[if_pos V,Int.toNat_natCast];exact a];rfl)]
 rw[<-any_find];cases hf:(mG x.d).findIdx? (fun r:Rec=>(decide ((r.kind:Int)=4)&&decide ((r.co:Int)=i))&&decide ((e:Int)<=r.aM))with
 |none=>rfl
 |some n=>simp only[Option.isSome_some];rw[dT V]
end Pw
open Go Go.Proofs Go.LX
namespace Pw
open Dk
theorem nn{x:Int}(h:x=0):¬x≠0:=fun e=>e h
theorem find_g(a:List Co)(i:Int):(qj a i=some (-1)/\pY i a=none)\/∃(n:Int) (c:Co),qj a i=some n/\pY i a=some c/\idx a n=some c/\0<=n:=by
  rw[findEq];unfold pY;cases h:a.findIdx? (fun x=>decide (x.lI=i))with
  |none=>
    refine .inl ⟨Z,?_⟩;rw[List.findIdx?_eq_none_iff]at h;rw[List.find?_eq_none];intro x d;rw[h x d];simp
  |some n=>
    obtain⟨b,g,e⟩:=List.findIdx?_eq_some_iff_getElem.1 h;refine .inr ⟨n,a[n],Z,?_,?_,by omega⟩
    · rw[List.find?_eq_some_iff_getElem];exact⟨g,n,b,Z,fun j f=>by simpa using e j f⟩
    · unfold idx;rw[if_pos V,Int.toNat_natCast];exact List.getElem?_eq_getElem b
theorem slice_g{w:xO}(h:WR w){k:Int}{c:Co}{fuel:Int}(x:1<=fuel/\fuel<=2000){N:Nat}(hN:60002<=N):
    ∃r,Jw N (uX w) k c fuel=some (r,(sM w.prog k c fuel).2,uX w)/\((sM w.prog k c fuel).2=0->r=(sM w.prog k c fuel).1):=by
  have hp:=h.code;have u:=pX hp;unfold Jw sM;by_cases i:0<=c.offered
  · rw[dT i,cond_true,if_pos i];exact⟨_,Z,fun _=>rfl⟩
  · rw[dF i,cond_false,if_neg i];show∃r,(qU N w.prog c.image).bind _=_/\_;rw[DF _ _ V];simp only[bnd];unfold IB;by_cases f:(dV w.prog c.image).2=0
    · rw[dF (nn f),cond_false,if_neg (nn f)];have j:=img_of hp f;have st:=wake_ok j.st;generalize (dV w.prog c.image).1=s at j st⊢;have go:∀t:LX.State,t=wake s->t.status=0->(wake s).status=0->∃r,vY N (uX w) fuel c t.frames t.cells t.status t.bP=some (r,0,uX w)/\r=(⟨2,c.lI,c.aM,0,(zT w.prog fuel.toNat [] 0<|wake s).2.1,Ad<|jo (zT w.prog fuel.toNat [] 0<|wake s).1⟩:Rec):=by
        intro t q y n;unfold vY;show∃r,(Va N w.prog t fuel).bind _=_/\_;rw[vm_Run_eq _ _ _ V,q];rw[if_neg (nn hp),if_neg (nn (IY.2 st)),if_neg V,if_neg (nn n)];simp only[bnd];rw[dF V,cond_false];show∃r,(Ew N w.prog _).bind _=_/\_;rw[Ti _ _ V,if_neg (nn hp),if_neg (nn (IY.2 (VE u fuel.toNat [] 0 _ st zq3).1))];exact⟨_,Z,Z⟩
      by_cases b:s.status=3
      · have a:wake s=⟨s.frames,s.cells,0,0⟩:=by unfold wake;rw[if_pos b]
        by_cases d:0<=s.bP/\s.bP<3/\s.bP≠k
        · rw[dT b,cond_true,show((decide ((0:Int)<=s.bP)&&decide ((s.bP:Int)<3))&&decide ((s.bP:Int)≠k))=true by
            rw[dT d.1,dT d.2.1,dT d.2.2];rfl,cond_true,if_pos ⟨b,d⟩]
          exact⟨_,Z,fun _=>rfl⟩
        · rw[dT b,cond_true,show((decide ((0:Int)<=s.bP)&&decide ((s.bP:Int)<3))&&decide ((s.bP:Int)≠k))=false by
            simp only[Bool.and_eq_false_iff,decide_eq_false_iff_not];by_cases p:0<=s.bP
            · by_cases o:s.bP<3
              · exact .inr fun v=>d ⟨p,o,v⟩
              · exact .inl<|.inr o
            · exact .inl (.inl p),cond_false,if_neg (fun e=>d e.2)]
          show∃r,(Sz w.prog s).bind _=_/\_;rw[vm_Wake_eq,if_neg (nn hp),if_neg (nn (IY.2 j.st)),if_neg (show¬s.status≠3 from fun e=>e b)];simp only[bnd];rw[dF V,cond_false,if_neg (nn (by rw[a]))];obtain⟨r,m,l⟩:=go ⟨s.frames,s.cells,0,0⟩ a.symm Z (by rw[a]);exact⟨r,m,fun _=>l⟩
      · have a:wake s=s:=by unfold wake;rw[if_neg b]
        rw[dF b,cond_false,if_neg (fun e=>b e.1)];by_cases g:s.status=0
        · rw[if_neg (nn (by rw[a];exact g))];obtain⟨r,m,l⟩:=go s a.symm g (by rw[a];exact g);exact⟨r,m,fun _=>l⟩
        · rw[if_pos (show(wake s).status≠0 by rw[a];exact g)];unfold vY;show∃r,(Va N w.prog s fuel).bind _=_/\_;rw[vm_Run_eq _ _ _ V];rw[if_neg (nn hp),if_neg (nn (IY.2 j.st)),if_neg V,if_pos g];exact⟨_,Z,fun e=>absurd e zq3⟩
    · rw[dT (show(dV w.prog c.image).2≠0 from f),cond_true,if_pos f];exact⟨_,Z,fun _=>rfl⟩
theorem co_of{w:xO}(h:WR w){k:Int}(b:On k){c:Co}(a:c∈(jr w k).cos):coOk c:=(h.at b).good.1.ok c a
theorem img_I64{p:List bL}(hp:Pb p=0){l:List Int}(h:(dV p l).2=0):∀x∈l,ku x:=(img_b (pX hp) (img_of hp h)).1
def Is(o:Option (Int×aY))(q:xO×Int):Prop:=∃v,o=some (q.2,uX v)/\(q.2=0->v=q.1)
theorem Is.mk(v:xO)(e:Int):Is (some (e,uX v)) (v,e):=⟨v,rfl,fun _=>rfl⟩
theorem Is.err{v u:xO}{e:Int}(h:e≠0):Is (some (e,uX v)) (u,e):=⟨v,rfl,fun a=>absurd a h⟩
theorem Is.pair{o:Option (Int×aY)}{q:xO×Int}(h:Is o q):Is (o.bind fun y=>some (y.1,y.2)) q:=by
 obtain⟨v,rfl,a⟩:=h;exact⟨v,Z,a⟩
def runK(w:xO)(b a m:Int)(c:Co)(fuel:Int):xO×Int:=
 if fuel<1\/2000<fuel then(w,3)else
 if(sM w.prog a c fuel).2≠0 then(w,(sM w.prog a c fuel).2)else
 if b=9 then(EC w a (PZ (jr w a) (sM w.prog a c fuel).1 m).1,(PZ (jr w a) (sM w.prog a c fuel).1 m).2)else
 if(oJ (jr w a) (sM w.prog a c fuel).1).2≠0 then(w,(oJ (jr w a) (sM w.prog a c fuel).1).2)else
 if(sM w.prog a c fuel).1.kind=3 then(⟨w.prog,(EC w a (oJ (jr w a) (sM w.prog a c fuel).1).1).places,Gd w.bU (Rk a ⟨c.lI,c.aM,c.image,(sM w.prog a c fuel).1.place⟩)⟩,0)else(EC w a (oJ (jr w a) (sM w.prog a c fuel).1).1,0)
theorem runW_eq(w:xO)(x:Hap):runW w x=match pY x.co (jr w x.place).cos with
 |none=>(w,5)
 |some c=>runK w x.kind x.place x.n c (if x.kind=9 then 2000 else x.n):=rfl
theorem note_log{x:Pj}{r:Rec}(h:(oJ x r).2=0):(kV x.cos r).2=0/\(oJ x r).1.cos=(kV x.cos r).1:=by
  unfold oJ at h⊢;by_cases a:(kV x.cos r).2=0
  · rw[if_neg (nn a)]at h⊢;by_cases c:(wu x.d r).2=0
    · rw[if_neg (nn c)]at h⊢;by_cases b:(Gc (wu x.d r).1).2=0
      · rw[if_neg (nn b)];exact⟨a,Z⟩
      · rw[if_pos b]at h;exact absurd h b
    · rw[if_pos c]at h;exact absurd h c
  · rw[if_pos a]at h;exact absurd h a
theorem next3_idx{a:List Co}{r:Rec}{c:Co}{n:Int}(h:(kV a r).2=0)(u:r.kind=3)(o:Dk.Good a)(hn:idx a n=some c)(t:c.lI=r.co):idx (kV a r).1 n=some ⟨c.lI,c.aM,c.image,r.place⟩:=by
  have b:0<=n/\a[n.toNat]? =some c:=by
    unfold idx at hn;split at hn
    · exact⟨by assumption,hn⟩
    · cases hn
  unfold kV at h⊢;by_cases f:gW a=0
  · rw[if_neg (nn f)]at h⊢;by_cases l:gV r=0
    · rw[if_neg (nn l)]at h⊢;rcases Tm r a with⟨e1,e2,-⟩|⟨k,c',e1,e2,e3,e4⟩
      · exfalso;rw[List.findIdx?_eq_none_iff]at e2;have:=e2 c<|List.mem_of_getElem? b.2;simp[t]at this
      · have i:k=n.toNat:=by
          have p:=o.up;unfold Up at p;rw[List.pairwise_iff_getElem]at p;have g:=Lv e3;have j:=Lv b.2;have d:=List.getElem?_eq_getElem g;have e:=List.getElem?_eq_getElem j;rw[e3]at d;rw[b.2]at e;have d:=osi d;have e:=osi e;rcases Nat.lt_trichotomy k n.toNat with hlt|heq|hgt
          · have:=p k n.toNat g j hlt;rw[<-d,<-e]at this;omega
          · exact heq
          · have:=p n.toNat k j g hgt;rw[<-d,<-e]at this;omega
        subst i;have m:c'=c:=by rw[b.2]at e3;exact(osi e3).symm
        subst m;rw[e1]at h⊢;simp only at h⊢;rw[if_neg (show¬(r.kind=1\/r.kind=4) by omega)]at h⊢;split at h
        · simp at h
        · rename_i q;rw[if_neg q];rw[if_neg (show¬r.kind=5 by omega),if_neg (show¬r.kind=2 by omega)]at h⊢;split at h
          · simp at h
          · rename_i s;rw[if_neg s];simp only;rw[<-WM r a n.toNat c' ⟨c'.lI,c'.aM,c'.image,r.place⟩ o.up e3 e4 e4];unfold idx;rw[if_pos b.1];exact nC b.2
    · rw[if_pos l]at h;exact absurd h l
  · rw[if_pos f]at h;exact absurd h f
theorem runK_g{w:xO}(h:WR w){x:qh}(g:On x.place){n:Int}{c:Co}(p:c∈(jr w x.place).cos)(hn:idx (jr w x.place).cos n=some c)(fuel:Int){N:Nat}(hN:60002<=N):
    Is (Dp N (uX w) (M0 (jr w x.place)) n x fuel) (runK w x.kind x.place x.n c fuel):=by
  have a:=Tn h g;have e:=co_of h g p;unfold Dp runK;by_cases j:fuel<1\/2000<fuel
  · rw[show(decide ((fuel:Int)<1)||decide ((2000:Int)<fuel))=true by simpa using j,cond_true,if_pos j];exact .mk _ _
  · rw[show(decide ((fuel:Int)<1)||decide ((2000:Int)<fuel))=false by simpa using j,cond_false,if_neg j];show Is ((idx (jr w x.place).cos n).bind _) _;rw[hn];simp only[bnd];obtain⟨r,q,o⟩:=slice_g h (k:=x.place) (c:=c) (fuel:=fuel) V hN;rw[q];simp only[bnd];show Is (GG N x n r.kind r.co r.aM r.place r.says r.image (sM w.prog x.place c fuel).2 w.prog (uX w).places w.bU) _;unfold GG;by_cases d:(sM w.prog x.place c fuel).2=0
    · rw[dF (nn d),cond_false,if_neg (nn d)];have m:=slice_ok h.code e (r:=r) (fuel:=fuel) (k:=x.place) (by rw[o d,<-d]);rw[<-o d];show Is (bif decide ((x.kind:Int)=9)then(IE N (uX w) x.place r x.n).bind _ else(uS N (uX w) x.place r).bind _) _;by_cases l:x.kind=9
      · rw[dT l,cond_true,if_pos l,tear_g h g m.w x.n hN];simp only[bnd];exact .mk _ _
      · rw[dF l,cond_false,if_neg l,note_g h g m.w hN];simp only[bnd];by_cases b:(oJ (jr w x.place) r).2=0
        · rw[dF (nn b),cond_false,if_neg (nn b)];by_cases i:r.kind=3
          · rw[dT i,cond_true,if_pos i];have f:0<=x.place/\x.place<(EC w x.place (oJ (jr w x.place) r).1).places.length:=by unfold EC;simp only[List.length_set];exact a
            rw[g_at f];simp only[bnd];rw[pAt_set _ a a,if_pos rfl];show Is ((idx (oJ (jr w x.place) r).1.cos n).bind _) _;rw[(note_log b).2,next3_idx (note_log b).1 i (h.at g).good.1 hn m.co.symm];simp only[bnd];rw[offer_g _ _ _ (J4 (by have:=e.2.2;simp only;omega))];simp only[bnd];exact .mk _ _
          · rw[dF i,cond_false,if_neg i];show Is (some ((0:Int),uX<|EC w x.place (oJ (jr w x.place) r).1)) _;exact .mk _ _
        · rw[dT (show(oJ (jr w x.place) r).2≠0 from b),cond_true,if_pos b];exact .err b
    · rw[dT (show(sM w.prog x.place c fuel).2≠0 from d),cond_true,if_pos d];exact .mk _ _
theorem run_g{w:xO}(h:WR w){x:qh}(b:On x.place){N:Nat}(hN:60002<=N):Is (O7 N (uX w) x) (runW w (FO x)):=by
  have d:=Tn h b;rw[runW_eq];unfold O7;rw[g_at d];simp only[bnd];show Is ((qj (jr w x.place).cos x.co).bind _) _;rcases find_g (jr w x.place).cos x.co with⟨e1,e2⟩|⟨n,c,e1,e2,e3,e4⟩
  · rw[e1];simp only[bnd];rw[dT V,cond_true];show Is _ (match pY x.co (jr w x.place).cos with|none=>_|some c=>_);rw[e2];exact .mk _ _
  · rw[e1];simp only[bnd];rw[dF (show¬n<0 by omega),cond_false];show Is _ (match pY x.co (jr w x.place).cos with|none=>_|some c=>runK w x.kind x.place x.n c (if x.kind=9 then 2000 else x.n));rw[e2];have e:=(FN e2).2;by_cases a:x.kind=9
    · rw[dT a,cond_true,if_pos a];exact runK_g h b e e3 _ hN
    · rw[dF a,cond_false,if_neg a];exact runK_g h b e e3 _ hN
end Pw
open Go Go.Proofs Go.LX
namespace Pw
open Dk
theorem resend_g{w:xO}(h:WR w){x:qh}(e:On x.place):Is (GD (uX w) x) (WN w (FO x)):=by
  have b:=Tn h e;unfold GD;rw[g_at b];simp only[bnd];show Is ((qj (jr w x.place).cos x.co).bind _) (match pY x.co (jr w x.place).cos with|none=>_|some c=>if c.offered<0 then(w,7)else(⟨w.prog,w.places,Gd w.bU<|Rk x.place c⟩,0));rcases find_g (jr w x.place).cos x.co with⟨e1,e2⟩|⟨n,c,e1,e2,e3,e4⟩
  · rw[e1,e2];simp only[bnd];rw[dT V,cond_true];exact .mk _ _
  · rw[e1,e2];simp only[bnd];rw[dF (show¬n<0 by omega),cond_false];show Is ((idx (jr w x.place).cos n).bind _) _;rw[e3];simp only[bnd];by_cases a:c.offered<0
    · rw[dT a,cond_true,if_pos a];exact .mk _ _
    · have d:=co_of h e (FN e2).2;rw[dF a,cond_false,if_neg a,offer_g _ _ _ (J4 (by have:=d.2.2;omega))];exact .mk _ _
theorem up_g(x:Pj):(M0 x).up=x.up:=rfl
theorem VJ{w:xO}{N:Nat}(hN:60002<=N){l:List gM}{m:gM}{e:Int}(h:WR ⟨w.prog,w.places,l⟩)(b:Zo m):
  Is (xM N (uX w) (l,m,e) true) (⟨w.prog,w.places,l⟩,0)/\
  Is (xM N (uX w) (l,m,e) false) (EC ⟨w.prog,w.places,l⟩ m.jy (oJ (jr ⟨w.prog,w.places,l⟩ m.jy) ⟨5,m.co,m.aM-1,0,[],[]⟩).1,(oJ (jr ⟨w.prog,w.places,l⟩ m.jy) ⟨5,m.co,m.aM-1,0,[],[]⟩).2):=by
 obtain⟨m1,m2,c,d,-⟩:=b;refine⟨.mk ⟨w.prog,w.places,l⟩ 0,?_⟩;unfold xM;rw[cond_false,j5 (J4 (by simp only;omega))];show Is ((uS N (uX ⟨w.prog,w.places,l⟩) m.jy _).bind _) _;rw[note_g h m2 (JB V c (by simp only;omega) V (fun x a=>by cases a) (fun x a=>by cases a)) hN];exact .mk _ _
theorem hear_g{w:xO}(h:WR w)(i:Int)(t:Bool){N:Nat}(hN:60002<=N):Is (Ml N (uX w) i t) (hearW w i t):=by
  unfold Ml hearW;show Is ((Ie w.bU i t).bind _) _;rw[wTake,if_neg (nn ((IZ _).2 ⟨h.mlen,h.mok⟩))];by_cases f:i<0\/(w.bU.length:Int)<=i
  · rw[if_pos f,if_pos f];exact .mk _ _
  · rw[if_neg f,if_neg f];simp only[bnd];have p:i.toNat<w.bU.length:=by omega
    have o:w.bU[i.toNat]? =some w.bU[i.toNat]:=List.getElem?_eq_getElem p;have a:w.bU[i.toNat]∈w.bU:=List.getElem_mem p;generalize w.bU[i.toNat]=m at o a;rw[o];simp only[Option.getD_some];have b:=h.mok m a;have k:=Tn h b.2.1;rw[dF V,cond_false,g_at k];simp only[bnd];rw[up_g];by_cases j:(jr w m.jy).up=false
    · rw[j,if_pos rfl];exact .mk _ _
    · rw[if_neg j];have r:(jr w m.jy).up=true:=by simpa using j
      rw[r];simp only[Bool.not_true,cond_false];have e:WR ⟨w.prog,w.places,if t=true then w.bU else w.bU.take i.toNat++w.bU.drop (i.toNat+1)⟩:=by
        cases t
        · exact h.drop i.toNat
        · exact h
      generalize (if t=true then w.bU else w.bU.take i.toNat++w.bU.drop (i.toNat+1))=l at e⊢;have hp:jr ⟨w.prog,w.places,l⟩ m.jy=jr w m.jy:=rfl;cases ht:m.taken with
      |true=>
        simp only[cond_true,if_true];show Is ((qj (jr w m.jy).cos m.co).bind _) (match pY m.co (jr ⟨w.prog,w.places,l⟩ m.jy).cos with|none=>_|some c=>_);rw[hp];rcases find_g (jr w m.jy).cos m.co with⟨e1,e2⟩|⟨n,c,e1,e2,e3,e4⟩
        · rw[e1,e2];simp only[bnd];rw[dT V,cond_true];exact(VJ hN e b).1
        · rw[e1,e2];simp only[bnd];rw[dF (show¬n<0 by omega),cond_false];show Is ((idx (jr w m.jy).cos n).bind _) _;rw[e3];simp only[bnd];rw[j5 (J4 (by have:=b.2.2.2.1;omega))];by_cases g:c.aM≠m.aM-1\/c.offered≠m.from_
          · rw[show(decide ((c.aM:Int)≠(m.aM-1))||decide ((c.offered:Int)≠m.from_))=true by simpa using g,if_pos g];exact(VJ hN e b).1
          · rw[show(decide ((c.aM:Int)≠(m.aM-1))||decide ((c.offered:Int)≠m.from_))=false by simpa using g,if_neg g];exact(VJ hN e b).2
      |false=>
        simp only[cond_false,Bool.false_eq_true,if_false];rw[had_g (h.at b.2.1).disk _ _ hN];simp only[bnd];rw[hp];cases hh:hadP (jr w m.jy) m.co m.aM with
        |true=>
          simp only[Bool.not_true,cond_false,if_true];unfold Ay;show Is ((Bn (uX ⟨w.prog,w.places,l⟩) _).bind _) _;rw[send_g];exact .mk _ _
        |false=>
          simp only[Bool.not_false,cond_true,Bool.false_eq_true,if_false];show Is ((uS N (uX ⟨w.prog,w.places,l⟩) m.jy _).bind _) _;rw[note_g e b.2.1 (JB V b.2.2.1 (by have:=b.2.2.2.1;omega) V (fun x q=>by cases q) (img_I64 h.code (h.mimg m a ht))) hN];simp only[bnd];rw[hp];by_cases d:(oJ (jr w m.jy) ⟨4,m.co,m.aM,0,[],m.image⟩).2=0
          · rw[dF (nn d),cond_false,if_neg (nn d)];unfold Ay;show Is ((Bn (uX<|EC ⟨w.prog,w.places,l⟩ m.jy _) _).bind _) _;rw[send_g];exact .mk _ _
          · rw[dT (show(oJ (jr w m.jy) ⟨4,m.co,m.aM,0,[],m.image⟩).2≠0 from d),cond_true,if_pos d];exact .err d
theorem imgs_loop{N:Nat}(hN:60002<=N)(a:aY)(k:Unit->Option (Int×aY)):∀(l:List Co) (i:Int),
    fM (fun j(x:Co)s c=>(qU N a.prog x.image).bind fun q=>vV a c q.2) k i l ()=if J5 a.prog l≠0 then some (J5 a.prog l,a)else k ()
  |[],i=>by rw[Ox];simp[J5]
  |x::l,i=>by
    rw[wH,DF _ _ V];simp only[bnd];unfold vV;by_cases h:(dV a.prog x.image).2=0
    · rw[dF (nn h),cond_false];have b:=imgs_loop hN a k l<|i+1;unfold vV at b;rw[b,show J5 a.prog (x::l)=J5 a.prog l by rw[J5,if_neg (nn h)]]
    · rw[dT (show(dV a.prog x.image).2≠0 from h),cond_true,show J5 a.prog (x::l)=(dV a.prog x.image).2 by rw[J5,if_pos h],if_pos h]
theorem boot_g{w:xO}(h:WR w){k:Int}(m:On k){N:Nat}(hN:60002<=N):Is (Mm N (uX w) k) (bootW w k):=by
  have e:=Tn h m;have f:=(h.at m).disk;unfold Mm bootW;rw[g_at e];simp only[bnd];rw[up_g];by_cases c:(jr w k).up=true
  · rw[c,if_pos rfl];exact .mk _ _
  · have o:(jr w k).up=false:=by simpa using c
    rw[if_neg c,o,cond_false,Pm f hN];simp only[bnd];rw[dF V,cond_false,replay_eq N V,if_neg (show¬120<(mG (jr w k).d).length by have:=(dOk f).len;omega)];simp only[bnd];by_cases b:(sK [] (mG (jr w k).d)).2=0
    · rw[dF (nn b),cond_false,if_neg (nn b),Int.toNat_natCast];rw[upto_eachI (g:=fun j(x:Co)s l=>(qU N (uX w).prog x.image).bind fun q=>vV (uX w) l q.2) (sK [] (mG (jr w k).d)).1 (fun i x s l n=>by
        unfold Ii;rw[kD,n];rfl)]
      rw[imgs_loop hN (uX w)];show Is (if J5 w.prog (sK []<|mG (jr w k).d).1≠0 then _ else _) _;by_cases a:J5 w.prog (sK [] (mG (jr w k).d)).1=0
      · rw[if_neg (nn a),if_neg (nn a)];unfold Ij;have:=g_set w k ⟨(sK []<|mG (jr w k).d).1,(Ri (jr w k).d).1,true⟩;show Is (some ((0:Int),(⟨w.prog,(uX w).places.set k.toNat<|M0 ⟨(sK []<|mG (jr w k).d).1,(Ri (jr w k).d).1,true⟩,w.bU⟩:aY))) _;rw[this];exact .mk _ _
      · rw[if_pos a,if_pos a];exact .mk _ _
    · rw[dT (show(sK [] (mG (jr w k).d)).2≠0 from b),cond_true,if_pos b];exact .mk _ _
theorem begin_g{w:xO}(h:WR w){k i:Int}(a:On k){N:Nat}(hN:60002<=N):Is (Jv N (uX w) k i) (Zr w k i):=by
  have c:=Tn h a;have e:=(h.at a).disk;unfold Jv Zr;by_cases b:i=k
  · subst b;rw[dF zq3,cond_false,if_neg zq3,g_at c];simp only[bnd];rw[Pm e hN];simp only[bnd,Int.toNat_natCast];rw[TA (fun r:Rec=>decide ((r.kind:Int)=1)) (fun n=>xA N (uX w) i i (decide ((0:Int)<=n))) (mG (jr w i).d) (fun n r l f=>by
      unfold FU;rw[kD,f];rfl)]
    rw[<-any_find];cases hf:(mG (jr w i).d).findIdx? (fun r:Rec=>decide ((r.kind:Int)=1))with
    |some n=>
      simp only[Option.isSome_some,if_true];rw[dT V];exact .mk _ _
    |none=>
      simp only[Option.isSome_none,Bool.false_eq_true,if_false];unfold FV xA;rw[cond_false];show Is ((Ye w.prog).bind _) _;rw[vm_New_eq,if_neg (nn h.code)];simp only[bnd];rw[dF V,cond_false];show Is ((Ew N w.prog<|Bp w.prog).bind _) _;have j:=begin_ok<|pX h.code;rw[Ti _ _ V,if_neg (nn h.code),if_neg (nn (IY.2 j))];simp only[bnd];rw[dF V,cond_false,note_g h a (JB V a V V (fun x g=>by cases g) (img_b (pX h.code) (begin_img h.code)).1) hN];exact .mk _ _
  · rw[dT (show i≠k from b),cond_true,if_pos b];exact .mk _ _
end Pw
open Go Go.Proofs Go.LX
namespace Pw
open Dk
theorem step6_g{w:xO}(h:WR w){x:qh}(j:1<=x.kind/\x.kind<=9/\x.kind≠4/\x.kind≠5/\x.kind≠6){N:Nat}(hN:60002<=N):Is (pz N x (uX w) true) (jZ w (FO x)):=by
  have g:jZ w (FO x)=if x.place<0\/(w.places.length:Int)<=x.place then(w,5)else
      if x.kind=8 then bootW w x.place else
      if(jr w x.place).up=false then(w,7)else
      if x.kind=1 then Zr w x.place x.co else
      if x.kind=3 then WN w (FO x)else
      if x.kind=7 then(EC w x.place ⟨[],(jr w x.place).d,false⟩,0)else runW w (FO x):=by
    unfold jZ;rw[if_neg (show¬((FO x).kind=4\/(FO x).kind=5) by simp only[FO];omega),if_neg (show¬(FO x).kind=6 by simp only[FO];omega),if_neg (show¬((FO x).kind<1\/9<(FO x).kind) by simp only[FO];omega)];rfl
  rw[g];unfold pz;rw[cond_true];have f:((uX w).places.length:Int)=w.places.length:=by unfold uX;simp
  rw[f];by_cases a:x.place<0\/(w.places.length:Int)<=x.place
  · rw[show(decide ((x.place:Int)<0)||decide (((w.places.length:Int):Int)<=x.place))=true by simpa using a,if_pos a];exact .mk _ _
  · rw[show(decide ((x.place:Int)<0)||decide (((w.places.length:Int):Int)<=x.place))=false by simpa using a,if_neg a,cond_false];have i:=h.many;have hp:On x.place:=⟨by omega,by omega⟩;by_cases e:x.kind=8
    · rw[dT e,if_pos e];exact(boot_g h hp hN).pair
    · rw[dF e,if_neg e,cond_false,g_at (Tn h hp)];simp only[bnd];rw[up_g];cases hu:(jr w x.place).up with
      |false=>exact .mk _ _
      |true=>
        simp only[Bool.not_true,cond_false,Bool.true_eq_false,if_false];by_cases k1:x.kind=1
        · rw[dT k1,if_pos k1];exact(begin_g h hp hN).pair
        · rw[dF k1,if_neg k1,cond_false];by_cases c:x.kind=3
          · rw[dT c,if_pos c];exact(resend_g h hp).pair
          · rw[dF c,if_neg c,cond_false];by_cases b:x.kind=7
            · rw[dT b,if_pos b];have:=g_set w x.place ⟨[],(jr w x.place).d,false⟩;show Is (some ((0:Int),(⟨w.prog,(uX w).places.set x.place.toNat<|M0 ⟨[],(jr w x.place).d,false⟩,w.bU⟩:aY))) _;rw[this];exact .mk _ _
            · rw[dF b,if_neg b];exact(run_g h hp hN).pair
theorem step45_g{w:xO}(h:WR w)(x:qh)(a:x.kind=4\/x.kind=5){N:Nat}(hN:60002<=N):Is (uT N (uX w) x) (jZ w (FO x)):=by
  have c:jZ w (FO x)=hearW w x.n (decide<|x.kind=5):=by unfold jZ;rw[if_pos (show((FO x).kind=4\/(FO x).kind=5)from a)];rfl
  have b:uT N (uX w) x=nA N x (uX w) true:=by
    unfold uT;rcases a with h4|h5
    · rw[dT h4,cond_true]
    · rw[dF (show¬x.kind=4 by omega),dT h5,cond_false,cond_true]
  rw[c,b];unfold nA;rw[cond_true,dT (show x.kind≠6 by omega),cond_true];exact(hear_g h _ _ hN).pair
theorem step_g{w:xO}(h:WR w)(x:qh){N:Nat}(hN:60002<=N):Is (uT N (uX w) x) (jZ w (FO x)):=by
  by_cases a:x.kind=4\/x.kind=5
  · exact step45_g h x a hN
  · by_cases c:x.kind=6
    · have d:jZ w (FO x)=if x.n<0\/(w.bU.length:Int)<=x.n then(w,5)else(⟨w.prog,w.places,w.bU.take x.n.toNat++w.bU.drop (x.n.toNat+1)⟩,0):=by
        unfold jZ;rw[if_neg (show¬((FO x).kind=4\/(FO x).kind=5)from a),if_pos (show(FO x).kind=6 from c)];rfl
      have g:uT N (uX w) x=nA N x (uX w) true:=by
        unfold uT;rw[dF (show¬x.kind=4 by omega),dF (show¬x.kind=5 by omega),dT c,cond_false,cond_false]
      rw[d,g];unfold nA;rw[cond_true,dF (show¬x.kind≠6 by omega),cond_false];show Is ((Ie w.bU x.n false).bind _) _;rw[wTake,if_neg (nn ((IZ _).2 ⟨h.mlen,h.mok⟩))];unfold JU;by_cases b:x.n<0\/(w.bU.length:Int)<=x.n
      · rw[if_pos b,if_pos b];exact .mk _ _
      · rw[if_neg b,if_neg b];exact .mk ⟨w.prog,w.places,w.bU.take x.n.toNat++w.bU.drop (x.n.toNat+1)⟩ 0
    · have g:uT N (uX w) x=nA N x (uX w) false:=by
        unfold uT;rw[dF (show¬x.kind=4 by omega),dF (show¬x.kind=5 by omega),dF c,cond_false,cond_false]
      rw[g];unfold nA;rw[cond_false];by_cases i:1<=x.kind/\x.kind<=9
      · have f:=step6_g h (x:=x) V hN;have:x.kind=1\/x.kind=2\/x.kind=3\/x.kind=7\/x.kind=8\/x.kind=9:=by omega
        rcases this with e|e|e|e|e|e<;>(rw[e];simp only[show decide ((1:Int)=1)=true from rfl,show decide ((2:Int)=1)=false from rfl,show decide ((2:Int)=2)=true from rfl,show decide ((3:Int)=1)=false from rfl,show decide ((3:Int)=2)=false from rfl,show decide ((3:Int)=3)=true from rfl,show decide ((7:Int)=1)=false from rfl,show decide ((7:Int)=2)=false from rfl,show decide ((7:Int)=3)=false from rfl,show decide ((7:Int)=7)=true from rfl,show decide ((8:Int)=1)=false from rfl,show decide ((8:Int)=2)=false from rfl,show decide ((8:Int)=3)=false from rfl,show decide ((8:Int)=7)=false from rfl,show decide ((8:Int)=8)=true from rfl,show decide ((9:Int)=1)=false from rfl,show decide ((9:Int)=2)=false from rfl,show decide ((9:Int)=3)=false from rfl,show decide ((9:Int)=7)=false from rfl,show decide ((9:Int)=8)=false from rfl,show decide ((9:Int)=9)=true from rfl,cond_true,cond_false];exact f)
      · have d:jZ w (FO x)=(w,4):=by
          unfold jZ;rw[if_neg (show¬((FO x).kind=4\/(FO x).kind=5)from a),if_neg (show¬(FO x).kind=6 from c),if_pos (show(FO x).kind<1\/9<(FO x).kind by simp only[FO];omega)]
        rw[d,dF (show¬x.kind=1 by omega),dF (show¬x.kind=2 by omega),dF (show¬x.kind=3 by omega),dF (show¬x.kind=7 by omega),dF (show¬x.kind=8 by omega),dF (show¬x.kind=9 by omega)];exact .mk _ _
theorem imgs_each{p:List bL}{N:Nat}(hN:60002<=N):∀l:List Co,each (Db N p) Ic l ()=some (J5 p l)
  |[]=>rfl
  |x::l=>by
    rw[iC];have a:=imgs_each (p:=p) hN l;unfold Db at a⊢;rw[DF _ _ V];simp only[bnd];by_cases h:(dV p x.image).2=0
    · rw[dF (nn h),cond_false,a,J5,if_neg (nn h)]
    · rw[dT (show(dV p x.image).2≠0 from h),cond_true,J5,if_pos h]
theorem plc_g(p:List bL)(x:Pj)(g:x.d.wait.length<=9223372036854775807){N:Nat}(hN:60002<=N):Js N p (M0 x)=some (AJ p x):=by
  unfold Js AJ;show(uO N x.d).bind _=_;rw[Dk.Lf N hN _ g];simp only[bnd];by_cases b:jB x.d=0
  · rw[dF (nn b),cond_false,if_neg (nn b),up_g];cases hu:x.up with
    |false=>
      show(bif decide ((0:Int)<(x.cos.length:Int))then _ else _)=some (if x.cos=[]then 0 else 4);by_cases a:x.cos=[]
      · rw[a,if_pos rfl];rfl
      · rw[if_neg a,dT (by have:=List.length_pos_iff.2 a;omega)];rfl
    |true=>
      simp only[Bool.not_true,cond_false,Bool.true_eq_false,if_false];show(bif decide ((0:Int)<(x.d.wait.length:Int))then _ else _)=_;by_cases a:x.d.wait=[]
      · rw[a,if_neg zq3];rw[dF zq3,cond_false,Pm b hN];simp only[bnd];rw[replay_eq N V,if_neg (show¬120<(mG x.d).length by have:=(dOk b).len;omega)];simp only[bnd];by_cases c:(sK [] (mG x.d)).2=0
        · rw[dF (nn c),cond_false,if_neg (nn c),coSame];simp only[bnd];show(bif !decide ((sK []<|mG x.d).1=x.cos)then _ else _)=_;by_cases f:(sK [] (mG x.d)).1=x.cos
          · rw[dT f,if_neg (fun e=>e f)];exact imgs_each hN x.cos
          · rw[dF f,if_pos f];rfl
        · rw[dT (show(sK [] (mG x.d)).2≠0 from c),cond_true,if_pos c]
      · rw[if_pos a,dT (by have:=List.length_pos_iff.2 a;omega),cond_true]
  · rw[dT (show jB x.d≠0 from b),cond_true,if_pos b]
theorem Zt{w:aY}{N:Nat}(hN:60002<=N):∀l:List gM,each (vT N w) A8 l ()=some (MI w.prog l)
  |[]=>rfl
  |m::l=>by
    rw[iC];have a:=Zt (w:=w) hN l;generalize each (vT N w) A8 l=F at a⊢;unfold vT Dc MI;cases ht:m.taken with
    |true=>exact a
    |false=>
      rw[cond_false,DF _ _ V,if_neg zq3];simp only[bnd];by_cases h:(dV w.prog m.image).2=0
      · rw[dF (nn h),cond_false,a,if_neg (nn h)]
      · rw[dT (show(dV w.prog m.image).2≠0 from h),cond_true,if_pos h]
theorem plcs_each{w:aY}{N:Nat}(hN:60002<=N)(k:Unit->Option Int):∀l:List Pj,(∀x∈l,x.d.wait.length<=9223372036854775807)->each (uj N w) k (l.map M0) ()=if Ov w.prog l≠0 then some (Ov w.prog l)else k ()
  |[],_=>by simp[Ov,qw]
  |x::l,hw=>by
    rw[List.map_cons,iC];have a:=plcs_each (w:=w) hN k l fun y b=>hw y<|List.mem_cons_of_mem _ b;generalize each (uj N w) k (l.map M0)=F at a⊢;unfold uj;rw[plc_g _ _ (hw x zq3) hN];simp only[bnd];by_cases h:AJ w.prog x=0
    · rw[dF (nn h),cond_false,a,show Ov w.prog (x::l)=Ov w.prog l by rw[Ov,if_neg (nn h)]]
    · rw[dT (show AJ w.prog x≠0 from h),cond_true,show Ov w.prog (x::l)=AJ w.prog x by rw[Ov,if_pos h],if_pos h]
def Wts(w:xO):Prop:=∀x∈w.places,x.d.wait.length<=9223372036854775807
theorem WR.wts{w:xO}(h:WR w):Wts w:=fun x a=>by have:=Tp (h.pl x a).disk;omega
theorem check_g{w:xO}(d:Wts w){N:Nat}(hN:60002<=N):Fy N (uX w)=some (J6 w):=by
  unfold Fy J6;show(rV w.prog).bind _=_;rw[YZ];simp only[bnd];by_cases c:Pb w.prog=0
  · rw[dF (nn c),cond_false,if_neg (nn c)];have e:((uX w).places.length:Int)=w.places.length:=by unfold uX;simp
    rw[e];by_cases f:w.places.length=3
    · rw[dF V,cond_false,if_neg V];show(bif decide ((dO w.bU:Int)≠0)then some (dO w.bU)else _)=_;by_cases a:dO w.bU=0
      · rw[dF (nn a),cond_false,if_neg (nn a)];show each (uj N<|uX w) _ (w.places.map M0) ()=_;rw[plcs_each hN _ _ d];unfold FT;show(if Ov w.prog w.places≠0 then _ else each (vT N<|uX w) _ w.bU ())=_;rw[Zt hN];by_cases b:Ov w.prog w.places=0
        · rw[if_neg (nn b),if_neg (nn b)];rfl
        · rw[if_pos b,if_pos b];rfl
      · rw[dT (show dO w.bU≠0 from a),cond_true,if_pos a]
    · rw[dT V,cond_true,if_pos V]
  · rw[dT (show Pb w.prog≠0 from c),cond_true,if_pos c]
end Pw
open Go Go.Proofs Go.LX
namespace Pw
open Dk
theorem args_each(a:Unit->Option (List bL)):∀l:List Ins,(∀c∈l,c.args.length<=3)->each Ap (EJ a) l ()=a ()
 |[],_=>rfl
 |c::l,h=>by
  rw[iC];have b:=args_each a l fun x d=>h x<|List.mem_cons_of_mem _ d;generalize each Ap (EJ a) l=G at b⊢;unfold Ap;have:=h c zq3;rw[qF V V];exact b
theorem code_copy{p:List bL}(h:p.length<=4/\∀x∈p,sU x/\∀c∈x.code,c.args.length<=3):GU p=some p:=by
 unfold GU;rw[qF V V];simp only[bnd,Int.toNat_natCast];have b:∀(m i:Nat),i+m=p.length->upto (uM p) (Aq p) (i:Int) m ()=some p:=by
  intro m;induction m with
  |zero=>intro i _;rfl
  |succ m ih=>
   intro i g;have e:i<p.length:=by omega
   show uM p (i:Int) () (upto (uM p) (Aq p) ((i:Int)+1) m)=_;have a:=ih (i+1) V;rw[show((i+1:Nat):Int)=(i:Int)+1 from rfl]at a;generalize upto (uM p) (Aq p) ((i:Int)+1) m=nx at a⊢;unfold uM;have d:=h.2 p[i]<|List.getElem_mem e;have f:=d.1;unfold sU at f;rw[wI e];simp only[bnd];rw[qF V V];simp only[bnd];rw[args_each _ _ d.2];exact a
 simpa using b p.length 0 V
theorem chk_good{p:List bL}(h:Pb p=0):p.length<=4/\∀x∈p,sU x/\∀c∈x.code,c.args.length<=3:=by
 obtain⟨y,a,b⟩:=check_tot p;rw[YZ]at a;exact b (by rw[<-osi a];exact h)
theorem copy_g{w:xO}(h:WR w):Ei (uX w)=some (uX w):=by
 have k:=chk_good h.code;unfold Ei;show(GU w.prog).bind _=_;rw[code_copy k];simp only[bnd];have c:=h.many;show(clone 80<|w.places.map M0).bind _=_;rw[qF (by simp;omega) (by simp;omega)];simp only[bnd];show(De w.bU).bind _=_;rw[wCopy h.mlen (fun m c=>(h.mok m c).2.2.2.2.2)];simp only[bnd];unfold JN;rw[Int.toNat_natCast];have b:∀(m i:Nat),i+m=(w.places.map M0).length->upto uR (Aw w.prog w.bU) (i:Int) m (w.places.map M0)=some (uX w):=by
  intro m;induction m with
  |zero=>intro i _;rfl
  |succ m ih=>
   intro i n;have f:i<(w.places.map M0).length:=by omega
   show uR (i:Int) (w.places.map M0) (upto uR (Aw w.prog w.bU) ((i:Int)+1) m)=_;have a:=ih (i+1) V;rw[show((i+1:Nat):Int)=(i:Int)+1 from rfl]at a;generalize upto uR (Aw w.prog w.bU) ((i:Int)+1) m=nx at a⊢;unfold uR;rw[wI f];have j:i<w.places.length:=by simpa using f
   have e:(w.places.map M0)[i]=M0 w.places[i]:=by simp
   have hp:=h.pl w.places[i]<|List.getElem_mem j;have l:=(Dk.wo hp.disk).1;simp only[bnd];rw[show(w.places.map M0)[i].cos=w.places[i].cos by rw[e];rfl,show(w.places.map M0)[i].safe=w.places[i].d.safe by rw[e];rfl,show(w.places.map M0)[i].wait=w.places[i].d.wait by rw[e];rfl];rw[coCopy hp.good.1.len (fun x g=>(hp.good.1.ok x g).2.2.2.2.2.2.2),qF V V];simp only[bnd];rw[qF V V];simp only[bnd,Int.toNat_natCast];rw[List.set_set,show(⟨w.places[i].cos,w.places[i].d.safe,w.places[i].d.wait,(w.places.map M0)[i].up⟩:gJ)=(w.places.map M0)[i] by rw[e];rfl,List.set_getElem_self];exact a
 simpa using b (w.places.map M0).length 0 V
def zW:aY:=⟨[],[],[]⟩
theorem runs_loop{N:Nat}(hN:60002<=N):∀(l:List qh) (a:List Int) (w:xO),WR w->a.length+l.length<=120->
    each (Az N) AA l (a,w.prog,(uX w).places,w.bU)=some (uX (I8 w (l.map FO)).1,a++(I8 w (l.map FO)).2,0)
  |[],a,w,_,_=>by simp[qw,AA,I8,uX]
  |x::l,a,w,h,hl=>by
    rw[iC];simp only[List.length_cons]at hl;have c:=fun s w h e=>runs_loop hN l s w h e;generalize each (Az N) AA l=F at c⊢;unfold Az;show(Ei<|uX w).bind _=_;rw[copy_g h];simp only[bnd];obtain⟨v,i,g⟩:=step_g h x hN;rw[i];simp only[bnd];unfold EL;rw[List.map_cons,Pk];have d:Room 8 a [(jZ w (FO x)).2]:=Room.mk (by simp;omega) (by simp;omega);by_cases b:(jZ w (FO x)).2=0
    · rw[dT b,cond_true,if_pos b,j5 d,g b];have f:=(step_ev h (Prod.ext Z b:jZ w (FO x)=((jZ w<|FO x).1,0))).1;have:=c (a++[(jZ w (FO x)).2]) _ f (by simp;omega);rw[show(uX (jZ w (FO x)).1).prog=(jZ w (FO x)).1.prog from rfl,show(uX (jZ w (FO x)).1).bU=(jZ w (FO x)).1.bU from rfl,this,List.append_assoc];rfl
    · rw[dF b,cond_false,if_neg b,j5 d];rw[c (a++[(jZ w (FO x)).2]) w h (by simp;omega),List.append_assoc];rfl
theorem runs_g{w:xO}(c:Wts w)(l:List qh){N:Nat}(hN:60002<=N):BP N (uX w) l=some (if J6 w≠0 then(zW,[],J6 w)else if 120<l.length then(zW,[],2)else(uX (I8 w (l.map FO)).1,(I8 w (l.map FO)).2,0)):=by
  unfold BP;rw[check_g c hN];simp only[bnd];by_cases a:J6 w=0
  · rw[dF (nn a),cond_false,if_neg (nn a)];by_cases b:120<l.length
    · rw[dT V,cond_true,if_pos b];rfl
    · have h:=(w_iff w).1 a;rw[dF V,cond_false,if_neg b,copy_g h];simp only[bnd];exact(runs_loop hN l [] w h (by simp;omega)).trans (by rw[List.nil_append])
  · rw[dT (show J6 w≠0 from a),cond_true,if_pos a];rfl
end Pw
open Go Go.Proofs Go.LX
namespace Pw
open Dk
theorem wts_of{l:List gJ}{w:World}{B A:BS}{v:Value}(h:ed gD w B A v l):∀x∈l,x.wait.length<=9223372036854775807:=by
 obtain⟨a,cap,_,_,_,_,c⟩:=h;intro x f;obtain⟨i,g,rfl⟩:=List.getElem_of_mem f;obtain⟨b,o,cells,E,j,_,_,_,d⟩:=c i g;obtain⟨_,_,_,_,_,_,e⟩:=fO d;exact e.bD
theorem wts_to{a:aY}(h:∀x∈a.places,x.wait.length<=9223372036854775807):Wts (toW a):=by
 intro x b;obtain⟨y,c,rfl⟩:=List.mem_map.1 b;exact h y c
theorem G6{ρ:Type}{body:Int->Unit->(Unit->ρ)->ρ}{k:Unit->ρ}:∀(m:Nat) (i:Nat),(∀(j:Nat) (a:Unit->ρ),i<=j->j<i+m->body (j:Int) () a=a ())->upto body k (i:Int) m ()=k ()
 |0,i,_=>rfl
 |m+1,i,h=>by
  show body (i:Int) () (upto body k ((i:Int)+1) m)=_;rw[h i _ (Nat.le_refl _) V];exact G6 m (i+1) fun j a b c=>h j a V V
theorem V9{α β:Type}{body:Int->α->Unit->(Unit->Option Bool)->Option Bool}{c:Unit->Option Bool}(p:α->β->Bool)(a:List α)(b:List β)(g:a.length=b.length)
  (f:∀(i:Nat) x y nx,b[i]? =some y->body (i:Int) x () nx=bif p x y then nx ()else some false):fM body c 0 a ()=bif all2 p a b then c ()else some false:=by
 have d:∀(l:List α) (i:Nat),i+l.length=b.length->fM body c (i:Int) l ()=bif all2 p l (b.drop i)then c ()else some false:=by
  intro l;induction l with
  |nil=>
   intro i h;rw[List.drop_eq_nil_of_le (by simp at h;omega)];rfl
  |cons x l ih=>
   intro i h;have e:i<b.length:=by simp at h;omega
   rw[List.drop_eq_getElem_cons e];show body (i:Int) x () (fM body c ((i:Int)+1) l)=_;rw[f i x b[i] _ (List.getElem?_eq_getElem e)];cases hp:p x b[i]with
   |true=>simp only[cond_true,all2,hp,Bool.true_and];exact ih (i+1) (by simp at h;omega)
   |false=>simp[all2,hp]
 have:=d a 0 V;simpa using this
theorem code_same(a b:List bL):O9 a b=some (decide (a=b)):=by
  unfold O9;by_cases h:a.length=b.length
  · rw[dF V];simp only[cond_false];rw[V9 (fun x y=>decide (x=y)) a b h (fun i x y A d=>by
      obtain⟨p,s,f⟩:=x;obtain⟨w,q,c⟩:=y;unfold IP;rw[kD,d,Option.bind_some];simp only;by_cases k:p=w
      · by_cases g:s=q
        · subst k g;simp only[decide_true,Bool.and_self,cond_true];by_cases j:f.length=c.length
          · rw[dF V];simp only[cond_false];rw[V9 (fun x y=>decide (x=y)) f c j (fun i x y A d=>by
              obtain⟨B,m,J,I,n⟩:=x;obtain⟨o,E,l,u,r⟩:=y;unfold IL;rw[kD,d,Option.bind_some];simp only[eqInt,Option.bind_some,Dr,mo,Ins.mk.injEq];by_cases z:B=o<;>by_cases G:m=E<;>by_cases C:J=l<;>by_cases v:I=u<;>by_cases t:n=r<;>simp[z,G,C,v,t]),Cc (fun _ _=>rfl)]
            simp[IM,mo]
          · rw[dT V];have:f≠c:=fun e=>j (by rw[e]);simp[this,mo]
        · simp[g,mo]
      · simp[k,mo]),Cc (fun _ _=>rfl)]
    unfold IQ;by_cases e:a=b<;>simp[e]
  · rw[dT V];have:a≠b:=fun e=>h (by rw[e]);rw[dF this];rfl
theorem same_g(w:xO):IU (uX w) (uX w)=some true:=by
 unfold IU;rw[code_same];simp only[bnd];rw[dT trivial,cond_true,dF zq3,cond_false];have b:∀(l:List gJ) (i:Nat),(w.places.map M0).drop i=l->fM (zm<|uX w) (zn (uX w)<|uX w) (i:Int) l ()=some true:=by
  intro l;induction l with
  |nil=>intro i _;rw[Ox];unfold zn;rw[wSame];simp[bnd]
  |cons x l ih=>
   intro i c;rw[wH];have a:=ih (i+1) (by rw[<-List.drop_drop,c];rfl);rw[show((i+1:Nat):Int)=(i:Int)+1 from rfl]at a;generalize fM (zm (uX w)) (zn (uX w) (uX w)) ((i:Int)+1) l=F at a⊢;unfold zm;have d:(w.places.map M0)[i]? =some x:=by
    have:=congrArg (fun l=>l[0]?) c;simpa[List.getElem?_drop]using this
   show(idx (w.places.map M0) (i:Int)).bind _=_;rw[kD,d];simp only[bnd];rw[coSame,diskSame];simp only[bnd,beq_self_eq_true,cond_true,decide_true,Bool.not_true];exact a
 exact b _ 0 Z
theorem hN:60002<=NN:=by decide
end Pw
open Go Go.Proofs Go.LX
namespace Pw
open Dk
theorem errSame(a:List Int):sG a a=some true:=by
 unfold sG;rw[dF zq3,cond_false,Int.toNat_natCast];refine(G6 a.length 0 fun j b _ c=>?_).trans Z;unfold yf;have h:j<a.length:=by omega
 rw[kD,List.getElem?_eq_getElem h];simp only[bnd];rw[dF zq3,cond_false]
theorem errCat{a b:List Int}(h:a.length+b.length<=1000):Af [a,b]=some (a++b):=by
 show nW a 0 (fun s=>nW b s<|qK [a,b])=_;unfold nW;rw[gI V V,dF V,cond_false];simp only[];rw[gI V V,dF V,cond_false];unfold qK Kb;rw[j5 (by constructor<;>omega)];show nV a [] (fun s=>nV b s wV)=_;unfold nV;rw[j5 (Room.mk (by simp;omega) (by simp;omega)),List.nil_append];simp only[];rw[j5 (Room.mk V V)];rfl
theorem Zu:∀(l:List Hap) (w:xO),(I8 w l).2.length=l.length
 |[],w=>rfl
 |x::l,w=>by rw[Pk];simp[Zu l]
theorem worldParts(a:aY)(b:List qh)(c:Int)(z:b.length<=9223372036854775807)(t:∀x∈a.places,x.wait.length<=9223372036854775807):wW NN a b c=some true:=by
  have m:a=uX (toW a):=(of_to a).symm;have e:=wts_to t;generalize toW a=w at m e;subst m;unfold wW;rw[runs_g e _ hN,moved_ok];simp only[bnd,Bool.not_true,Bool.false_or];rw[check_g e hN];simp only[bnd];by_cases i:J6 w=0
  · rw[if_neg (nn i)];by_cases o:120<b.length
    · rw[if_pos o];simp only[];rw[dT V,cond_true,cond_true,dT (show(120:Int)<(b.length:Int) by omega),Bool.or_true]
    · rw[if_neg o];simp only[];rw[dF V,cond_false,gI V V];have h:=(w_iff w).1 i;obtain⟨k,v,u,y⟩:=at_eq c (n:=(b.length:Int)+1) V V;rw[v];simp only[bnd];obtain⟨n,rfl⟩:=Int.eq_ofNat_of_zero_le u;have hn:n<=b.length:=by omega
      have s:=VN (l:=b) (a:=0) (b:=n) V hn;rw[show((0:Nat):Int)=0 from rfl,List.drop_zero]at s;rw[s];simp only[bnd];rw[runs_g e _ hN,if_neg (nn i),if_neg (by rw[List.length_take];omega)];simp only[bnd];unfold tX;have p:=VN (l:=b) (a:=n) (b:=b.length) hn<|Nat.le_refl _;rw[List.take_length]at p;rw[p];simp only[bnd];have j:=runL_ok ((b.take n).map FO) w h;have d:b.map FO=(b.take n).map FO++(b.drop n).map FO:=by rw[<-List.map_append,List.take_append_drop]
      rw[d,runL_app];have g:=Zu ((b.take n).map FO) w;have f:=Zu ((b.drop n).map FO) (I8 w ((b.take n).map FO)).1;rw[List.length_map,List.length_take]at g;rw[List.length_map,List.length_drop]at f;generalize I8 w ((b.take n).map FO)=q at j g f⊢;show(BP NN (uX q.1)<|b.drop n).bind _=_;rw[runs_g j.wts _ hN,if_neg (nn ((w_iff _).2 j)),if_neg (by rw[List.length_drop];omega)];simp only[bnd];generalize I8 q.1 ((b.drop n).map FO)=r at f⊢;unfold tV;show(bif (decide ((0:Int)=0)&&decide ((0:Int)=0))then(IU (uX r.1)<|uX r.1).bind _ else _)=_;rw[same_g];simp only[bnd,decide_true,Bool.and_self,cond_true];rw[errCat V];simp only[bnd];rw[errSame];rfl
  · rw[if_pos i];simp only[];rw[dT (show J6 w≠0 from i),cond_true,Bool.true_or];rfl
end Pw
end Go.Proofs.YtodkbibbgakkdaaGreatDoor