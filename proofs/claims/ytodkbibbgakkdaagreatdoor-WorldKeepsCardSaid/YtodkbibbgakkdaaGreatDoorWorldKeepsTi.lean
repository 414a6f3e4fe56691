/-
  What the law WorldKeeps needs of our own library and of the walks, no more.
-/
import Derived.Test.YtodkbibbgakkdaaGreatDoorWorldKeepsTh
set_option linter.unusedSimpArgs false
set_option linter.unusedVariables false
set_option maxRecDepth 10000
namespace Go.Proofs.YtodkbibbgakkdaaGreatDoor
open Go Go.Proofs Go.LX
theorem moved_ok:uB NN=some true:=by
 unfold uB;rw[program_p];kernel_rfl
namespace Pw
open Dk
def toP(x:iJ):KT:=⟨x.cos,⟨x.safe,x.wait⟩,x.up⟩
def toW(w:aX):wS:=⟨w.prog,w.places.map toP,w.bD⟩
def xD(x:oI):Hap:=⟨x.kind,x.place,x.co,x.n⟩
def KR(x:KT):iJ:=⟨x.cos,x.d.safe,x.d.wait,x.up⟩
def wT(w:wS):aX:=⟨w.prog,w.places.map KR,w.bD⟩
theorem of_to(w:aX):wT (toW w)=w:=by
 have:w.places.map (KR∘toP)=w.places:=List.map_id _;unfold wT toW;simp only[List.map_map,this]
theorem idx_map{α β:Type}(f:α->β)(l:List α)(k:Int):idx (l.map f) k=(idx l k).map f:=by
 unfold idx;split<;>simp
theorem g_at{w:wS}{k:Int}(h:0<=k/\k<w.places.length):idx (wT w).places k=some (KR (iM w k)):=by
 show idx (w.places.map KR) k=_;rw[idx_map,(pAt_eq h).1];rfl
theorem g_set(w:wS)(k:Int)(x:KT):(⟨w.prog,(wT w).places.set k.toNat (KR x),w.bD⟩:aX)=wT (BI w k x):=by
 unfold wT BI;simp only[List.map_set]
theorem SB{w:wS}(h:WR w){k:Int}(a:On k):0<=k/\k<w.places.length:=by
 have:=h.many;have:=a.1;have:=a.2;omega
theorem SC{d:gH}(h:jr d=0):d.wait.length<=60000:=by
 have:=(Dk.vS h).1;omega
theorem put_wait(d:gH)(r:Rec):(vT d r).1.wait.length<=60000:=by
 unfold vT putT;repeat' split
 all_goals first|(show([]:Str).length<=60000;simp)|(simp only[List.length_append,List.length_cons,List.length_nil];omega)
theorem note_g{w:wS}(h:WR w){k:Int}(g:On k){r:Rec}(j:OT r){N:Nat}(hN:60002<=N):
    uM N (wT w) k r=some ((oF (iM w k) r).2,wT (BI w k (oF (iM w k) r).1)):=by
  have a:=SB h g;have hp:=h.at g;have l:=SC hp.disk;have i:=put_wait (iM w k).d r;have f:wT w=wT (BI w k<|iM w k):=by rw[setP_self a]
  unfold uM oF;rw[g_at a];simp only[bnd];rw[next_eq N V];simp only[bnd];by_cases c:(kV (iM w k).cos r).2=0
  · rw[dF (show¬(kV (KR (iM w k)).cos r).2≠0 from fun h=>h c),cond_false,if_neg (show¬(kV (iM w k).cos r).2≠0 from fun h=>h c)];show(Ho N (iM w k).d r).bind _=_;rw[put_eq N hN _ r V j];simp only[bnd];unfold Jq;by_cases e:(vT (iM w k).d r).2=0
    · rw[dF (show¬(vT (iM w k).d r).2≠0 from fun h=>h e),cond_false,if_neg (show¬(vT (iM w k).d r).2≠0 from fun h=>h e)];show(Kw N (vT (iM w k).d r).1).bind _=_;rw[sync_eq N hN _ V];simp only[bnd];by_cases b:(FP (vT (iM w k).d r).1).2=0
      · rw[dF (show¬(FP (vT (iM w k).d r).1).2≠0 from fun h=>h b),cond_false,if_neg (show¬(FP (vT (iM w k).d r).1).2≠0 from fun h=>h b)];rw[<-g_set,List.set_set];rfl
      · rw[dT (show(FP (vT (iM w k).d r).1).2≠0 from b),cond_true,if_pos b,<-f]
    · rw[dT (show(vT (iM w k).d r).2≠0 from e),cond_true,if_pos e,<-f]
  · rw[dT (show(kV (KR (iM w k)).cos r).2≠0 from c),cond_true,if_pos c,<-f];rfl
theorem tear_g{w:wS}(h:WR w){k:Int}(e:On k){r:Rec}(i:OT r)(n:Int){N:Nat}(hN:60002<=N):
    Ib N (wT w) k r n=some ((Pm (iM w k) r n).2,wT (BI w k (Pm (iM w k) r n).1)):=by
  have a:=SB h e;have hp:=h.at e;have j:=SC hp.disk;have g:=put_wait (iM w k).d r;have f:wT w=wT (BI w k<|iM w k):=by rw[setP_self a]
  unfold Ib Pm;rw[g_at a];simp only[bnd];rw[next_eq N V];simp only[bnd];by_cases b:(kV (iM w k).cos r).2=0
  · rw[dF (show¬(kV (KR (iM w k)).cos r).2≠0 from fun h=>h b),cond_false,if_neg (show¬(kV (iM w k).cos r).2≠0 from fun h=>h b)];show(Ho N (iM w k).d r).bind _=_;rw[put_eq N hN _ r V i];simp only[bnd];unfold Jv;by_cases c:(vT (iM w k).d r).2=0
    · rw[dF (show¬(vT (iM w k).d r).2≠0 from fun h=>h c),cond_false,if_neg (show¬(vT (iM w k).d r).2≠0 from fun h=>h c)];show(Ia N (vT (iM w k).d r).1 _).bind _=_;rw[crash_eq N hN _ _ V];simp only[bnd];rw[<-g_set];rfl
    · rw[dT (show(vT (iM w k).d r).2≠0 from c),cond_true,if_pos c,<-f]
  · rw[dT (show(kV (KR (iM w k)).cos r).2≠0 from b),cond_true,if_pos b,<-f];rfl
theorem send_g(w:wS)(m:fV):AY (wT w) m=some (wT ⟨w.prog,w.places,Ak w.bD m⟩):=by
  unfold AY;show(Nk w.bD m).bind _=_;rw[wSend];simp only[bnd];unfold Ak;by_cases a:dL w.bD=0
  · rw[if_neg (show¬dL w.bD≠0 from fun h=>h a)];by_cases b:dL [m]=0
    · rw[if_neg (show¬dL [m]≠0 from fun h=>h b),if_neg (show¬(dL w.bD≠0\/dL [m]≠0) by simp[a,b])];rw[dT rfl,cond_true];rfl
    · rw[if_pos (show dL [m]≠0 from b),if_pos (show(dL w.bD≠0\/dL [m]≠0)from .inr b)];rw[dF b,cond_false]
  · rw[if_pos (show dL w.bD≠0 from a),if_pos (show(dL w.bD≠0\/dL [m]≠0)from .inl a)];rw[dF a,cond_false]
theorem offer_g(w:wS)(k:Int)(c:Co)(a:kg (c.aM+1)):EZ (wT w) k c=some (wT ⟨w.prog,w.places,Ak w.bD (QR k c)⟩):=by
 unfold EZ;rw[kM a,send_g];rfl
theorem OC{x:KT}(h:jr x.d=0){N:Nat}(hN:60002<=N):qI N (⟨(KR x).safe,(KR x).wait⟩:gH)=some ((QP x.d).1,mF x.d,0):=by
 show qI N x.d=_;have:=SC h;rw[recover_eq N hN _ V];unfold YG;rw[if_neg (show¬jr x.d≠0 from fun e=>e h)];rfl
theorem any_find{α:Type}{p:α->Bool}{l:List α}:(l.findIdx? p).isSome=l.any p:=by
  induction l with
  |nil=>rfl
  |cons x l ih=>
    rw[List.findIdx?_cons,List.any_cons];cases p x
    · simp[ih]
    · simp
theorem had_g{x:KT}(h:jr x.d=0)(i e:Int){N:Nat}(hN:60002<=N):Om N (KR x) i e=some (hadP x i e):=by
 unfold Om hadP;rw[OC h hN];simp only[bnd,Int.toNat_natCast];rw[S9 (fun r:Rec=>(decide ((r.kind:Int)=4)&&decide ((r.co:Int)=i))&&decide ((e:Int)<=r.aM)) (fun n=>some (decide ((0:Int)<=n))) (mF x.d) (fun n r b a=>by
  unfold Js;rw[show idx (mF x.d) (n:Int)=some r by unfold idx;rw[if_pos V,Int.toNat_natCast];exact a];rfl)]
 rw[<-any_find];cases hf:(mF x.d).findIdx? (fun r:Rec=>(decide ((r.kind:Int)=4)&&decide ((r.co:Int)=i))&&decide ((e:Int)<=r.aM))with
 |none=>rfl
 |some n=>simp only[Option.isSome_some];rw[dT V]
end Pw
open Go Go.Proofs Go.LX
namespace Pw
open Dk
theorem nn{x:Int}(h:x=0):¬x≠0:=fun e=>e h
theorem find_g(a:List Co)(i:Int):(qi a i=some (-1)/\pV i a=none)\/∃(n:Int) (c:Co),qi a i=some n/\pV i a=some c/\idx a n=some c/\0<=n:=by
  rw[findEq];unfold pV;cases h:a.findIdx? (fun x=>decide (x.lI=i))with
  |none=>
    refine .inl ⟨Z,?_⟩;rw[List.findIdx?_eq_none_iff]at h;rw[List.find?_eq_none];intro x g;rw[h x g];simp
  |some n=>
    obtain⟨b,f,e⟩:=List.findIdx?_eq_some_iff_getElem.1 h;refine .inr ⟨n,a[n],Z,?_,?_,by omega⟩
    · rw[List.find?_eq_some_iff_getElem];exact⟨f,n,b,Z,fun j d=>by simpa using e j d⟩
    · unfold idx;rw[if_pos V,Int.toNat_natCast];exact List.getElem?_eq_getElem b
theorem slice_g{w:wS}(h:WR w){k:Int}{c:Co}{fuel:Int}(y:1<=fuel/\fuel<=2000){N:Nat}(hN:60002<=N):
    ∃r,I9 N (wT w) k c fuel=some (r,(sI w.prog k c fuel).2,wT w)/\((sI w.prog k c fuel).2=0->r=(sI w.prog k c fuel).1):=by
  have hp:=h.code;have v:=pU hp;unfold I9 sI;by_cases j:0<=c.offered
  · rw[dT j,cond_true,if_pos j];exact⟨_,Z,fun _=>rfl⟩
  · rw[dF j,cond_false,if_neg j];show∃r,(qP N w.prog c.image).bind _=_/\_;rw[C8 _ _ V];simp only[bnd];unfold H9;by_cases f:(dW w.prog c.image).2=0
    · rw[dF (nn f),cond_false,if_neg (nn f)];have i:=img_of hp f;have st:=wake_ok i.st;generalize (dW w.prog c.image).1=s at i st⊢;have go:∀t:LX.State,t=wake s->t.status=0->(wake s).status=0->∃r,vP N (wT w) fuel c t.frames t.cells t.status t.bO=some (r,0,wT w)/\r=(⟨2,c.lI,c.aM,0,(zI w.prog fuel.toNat [] 0<|wake s).2.1,zS<|jl (zI w.prog fuel.toNat [] 0<|wake s).1⟩:Rec):=by
        intro t u x l;unfold vP;show∃r,(UK N w.prog t fuel).bind _=_/\_;rw[aaB _ _ _ V,u];rw[if_neg (nn hp),if_neg (nn (Io.2 st)),if_neg V,if_neg (nn l)];simp only[bnd];rw[dF V,cond_false];show∃r,(DX N w.prog _).bind _=_/\_;rw[Sq _ _ V,if_neg (nn hp),if_neg (nn (Io.2 (U9 v fuel.toNat [] 0 _ st zq3).1))];exact⟨_,Z,Z⟩
      by_cases a:s.status=3
      · have b:wake s=⟨s.frames,s.cells,0,0⟩:=by unfold wake;rw[if_pos a]
        by_cases d:0<=s.bO/\s.bO<3/\s.bO≠k
        · rw[dT a,cond_true,show((decide ((0:Int)<=s.bO)&&decide ((s.bO:Int)<3))&&decide ((s.bO:Int)≠k))=true by
            rw[dT d.1,dT d.2.1,dT d.2.2];rfl,cond_true,if_pos ⟨a,d⟩]
          exact⟨_,Z,fun _=>rfl⟩
        · rw[dT a,cond_true,show((decide ((0:Int)<=s.bO)&&decide ((s.bO:Int)<3))&&decide ((s.bO:Int)≠k))=false by
            simp only[Bool.and_eq_false_iff,decide_eq_false_iff_not];by_cases p:0<=s.bO
            · by_cases o:s.bO<3
              · exact .inr fun q=>d ⟨p,o,q⟩
              · exact .inl<|.inr o
            · exact .inl (.inl p),cond_false,if_neg (fun e=>d e.2)]
          show∃r,(RX w.prog s).bind _=_/\_;rw[vm_Wake_eq,if_neg (nn hp),if_neg (nn (Io.2 i.st)),if_neg (show¬s.status≠3 from fun e=>e a)];simp only[bnd];rw[dF V,cond_false,if_neg (nn (by rw[b]))];obtain⟨r,m,n⟩:=go ⟨s.frames,s.cells,0,0⟩ b.symm Z (by rw[b]);exact⟨r,m,fun _=>n⟩
      · have b:wake s=s:=by unfold wake;rw[if_neg a]
        rw[dF a,cond_false,if_neg (fun e=>a e.1)];by_cases g:s.status=0
        · rw[if_neg (nn (by rw[b];exact g))];obtain⟨r,m,n⟩:=go s b.symm g (by rw[b];exact g);exact⟨r,m,fun _=>n⟩
        · rw[if_pos (show(wake s).status≠0 by rw[b];exact g)];unfold vP;show∃r,(UK N w.prog s fuel).bind _=_/\_;rw[aaB _ _ _ V];rw[if_neg (nn hp),if_neg (nn (Io.2 i.st)),if_neg V,if_pos g];exact⟨_,Z,fun e=>absurd e zq3⟩
    · rw[dT (show(dW w.prog c.image).2≠0 from f),cond_true,if_pos f];exact⟨_,Z,fun _=>rfl⟩
theorem co_of{w:wS}(h:WR w){k:Int}(a:On k){c:Co}(b:c∈(iM w k).cos):coOk c:=(h.at a).good.1.ok c b
theorem img_I64{p:List bP}(hp:Oy p=0){l:List Int}(h:(dW p l).2=0):∀x∈l,kg x:=(img_b (pU hp) (img_of hp h)).1
def Is(o:Option (Int×aX))(q:wS×Int):Prop:=∃v,o=some (q.2,wT v)/\(q.2=0->v=q.1)
theorem Is.mk(v:wS)(e:Int):Is (some (e,wT v)) (v,e):=⟨v,rfl,fun _=>rfl⟩
theorem Is.err{v u:wS}{e:Int}(h:e≠0):Is (some (e,wT v)) (u,e):=⟨v,rfl,fun a=>absurd a h⟩
theorem Is.pair{o:Option (Int×aX)}{q:wS×Int}(h:Is o q):Is (o.bind fun y=>some (y.1,y.2)) q:=by
 obtain⟨v,rfl,a⟩:=h;exact⟨v,Z,a⟩
def runK(w:wS)(b a m:Int)(c:Co)(fuel:Int):wS×Int:=
 if fuel<1\/2000<fuel then(w,3)else
 if(sI w.prog a c fuel).2≠0 then(w,(sI w.prog a c fuel).2)else
 if b=9 then(BI w a (Pm (iM w a) (sI w.prog a c fuel).1 m).1,(Pm (iM w a) (sI w.prog a c fuel).1 m).2)else
 if(oF (iM w a) (sI w.prog a c fuel).1).2≠0 then(w,(oF (iM w a) (sI w.prog a c fuel).1).2)else
 if(sI w.prog a c fuel).1.kind=3 then(⟨w.prog,(BI w a (oF (iM w a) (sI w.prog a c fuel).1).1).places,Ak w.bD (QR a ⟨c.lI,c.aM,c.image,(sI w.prog a c fuel).1.place⟩)⟩,0)else(BI w a (oF (iM w a) (sI w.prog a c fuel).1).1,0)
theorem runW_eq(w:wS)(x:Hap):runW w x=match pV x.co (iM w x.place).cos with
 |none=>(w,5)
 |some c=>runK w x.kind x.place x.n c (if x.kind=9 then 2000 else x.n):=rfl
theorem note_log{x:KT}{r:Rec}(h:(oF x r).2=0):(kV x.cos r).2=0/\(oF x r).1.cos=(kV x.cos r).1:=by
  unfold oF at h⊢;by_cases a:(kV x.cos r).2=0
  · rw[if_neg (nn a)]at h⊢;by_cases c:(vT x.d r).2=0
    · rw[if_neg (nn c)]at h⊢;by_cases b:(FP (vT x.d r).1).2=0
      · rw[if_neg (nn b)];exact⟨a,Z⟩
      · rw[if_pos b]at h;exact absurd h b
    · rw[if_pos c]at h;exact absurd h c
  · rw[if_pos a]at h;exact absurd h a
theorem next3_idx{a:List Co}{r:Rec}{c:Co}{n:Int}(h:(kV a r).2=0)(u:r.kind=3)(o:Dk.Good a)(hn:idx a n=some c)(q:c.lI=r.co):idx (kV a r).1 n=some ⟨c.lI,c.aM,c.image,r.place⟩:=by
  have b:0<=n/\a[n.toNat]? =some c:=by
    unfold idx at hn;split at hn
    · exact⟨by assumption,hn⟩
    · cases hn
  unfold kV at h⊢;by_cases l:gQ a=0
  · rw[if_neg (nn l)]at h⊢;by_cases g:gP r=0
    · rw[if_neg (nn g)]at h⊢;rcases Sv r a with⟨e1,e2,-⟩|⟨k,c',e1,e2,e3,e4⟩
      · exfalso;rw[List.findIdx?_eq_none_iff]at e2;have:=e2 c<|List.mem_of_getElem? b.2;simp[q]at this
      · have i:k=n.toNat:=by
          have p:=o.up;unfold Up at p;rw[List.pairwise_iff_getElem]at p;have f:=K6 e3;have j:=K6 b.2;have d:=List.getElem?_eq_getElem f;have e:=List.getElem?_eq_getElem j;rw[e3]at d;rw[b.2]at e;have d:=osi d;have e:=osi e;rcases Nat.lt_trichotomy k n.toNat with hlt|heq|hgt
          · have:=p k n.toNat f j hlt;rw[<-d,<-e]at this;omega
          · exact heq
          · have:=p n.toNat k j f hgt;rw[<-d,<-e]at this;omega
        subst i;have m:c'=c:=by rw[b.2]at e3;exact(osi e3).symm
        subst m;rw[e1]at h⊢;simp only at h⊢;rw[if_neg (show¬(r.kind=1\/r.kind=4) by omega)]at h⊢;split at h
        · simp at h
        · rename_i s;rw[if_neg s];rw[if_neg (show¬r.kind=5 by omega),if_neg (show¬r.kind=2 by omega)]at h⊢;split at h
          · simp at h
          · rename_i t;rw[if_neg t];simp only;rw[<-V4 r a n.toNat c' ⟨c'.lI,c'.aM,c'.image,r.place⟩ o.up e3 e4 e4];unfold idx;rw[if_pos b.1];exact ny b.2
    · rw[if_pos g]at h;exact absurd h g
  · rw[if_pos l]at h;exact absurd h l
theorem runK_g{w:wS}(h:WR w){x:oI}(i:On x.place){n:Int}{c:Co}(p:c∈(iM w x.place).cos)(hn:idx (iM w x.place).cos n=some c)(fuel:Int){N:Nat}(hN:60002<=N):
    Is (CX N (wT w) (KR (iM w x.place)) n x fuel) (runK w x.kind x.place x.n c fuel):=by
  have d:=SB h i;have e:=co_of h i p;unfold CX runK;by_cases l:fuel<1\/2000<fuel
  · rw[show(decide ((fuel:Int)<1)||decide ((2000:Int)<fuel))=true by simpa using l,cond_true,if_pos l];exact .mk _ _
  · rw[show(decide ((fuel:Int)<1)||decide ((2000:Int)<fuel))=false by simpa using l,cond_false,if_neg l];show Is ((idx (iM w x.place).cos n).bind _) _;rw[hn];simp only[bnd];obtain⟨r,q,o⟩:=slice_g h (k:=x.place) (c:=c) (fuel:=fuel) V hN;rw[q];simp only[bnd];show Is (Gf N x n r.kind r.co r.aM r.place r.says r.image (sI w.prog x.place c fuel).2 w.prog (wT w).places w.bD) _;unfold Gf;by_cases b:(sI w.prog x.place c fuel).2=0
    · rw[dF (nn b),cond_false,if_neg (nn b)];have m:=slice_ok h.code e (r:=r) (fuel:=fuel) (k:=x.place) (by rw[o b,<-b]);rw[<-o b];show Is (bif decide ((x.kind:Int)=9)then(Ib N (wT w) x.place r x.n).bind _ else(uM N (wT w) x.place r).bind _) _;by_cases j:x.kind=9
      · rw[dT j,cond_true,if_pos j,tear_g h i m.w x.n hN];simp only[bnd];exact .mk _ _
      · rw[dF j,cond_false,if_neg j,note_g h i m.w hN];simp only[bnd];by_cases a:(oF (iM w x.place) r).2=0
        · rw[dF (nn a),cond_false,if_neg (nn a)];by_cases f:r.kind=3
          · rw[dT f,cond_true,if_pos f];have g:0<=x.place/\x.place<(BI w x.place (oF (iM w x.place) r).1).places.length:=by unfold BI;simp only[List.length_set];exact d
            rw[g_at g];simp only[bnd];rw[pAt_set _ d d,if_pos rfl];show Is ((idx (oF (iM w x.place) r).1.cos n).bind _) _;rw[(note_log a).2,next3_idx (note_log a).1 f (h.at i).good.1 hn m.co.symm];simp only[bnd];rw[offer_g _ _ _ (FD (by have:=e.2.2;simp only;omega))];simp only[bnd];exact .mk _ _
          · rw[dF f,cond_false,if_neg f];show Is (some ((0:Int),wT<|BI w x.place (oF (iM w x.place) r).1)) _;exact .mk _ _
        · rw[dT (show(oF (iM w x.place) r).2≠0 from a),cond_true,if_pos a];exact .err a
    · rw[dT (show(sI w.prog x.place c fuel).2≠0 from b),cond_true,if_pos b];exact .mk _ _
theorem run_g{w:wS}(h:WR w){x:oI}(d:On x.place){N:Nat}(hN:60002<=N):Is (Ox N (wT w) x) (runW w (xD x)):=by
  have b:=SB h d;rw[runW_eq];unfold Ox;rw[g_at b];simp only[bnd];show Is ((qi (iM w x.place).cos x.co).bind _) _;rcases find_g (iM w x.place).cos x.co with⟨e1,e2⟩|⟨n,c,e1,e2,e3,e4⟩
  · rw[e1];simp only[bnd];rw[dT V,cond_true];show Is _ (match pV x.co (iM w x.place).cos with|none=>_|some c=>_);rw[e2];exact .mk _ _
  · rw[e1];simp only[bnd];rw[dF (show¬n<0 by omega),cond_false];show Is _ (match pV x.co (iM w x.place).cos with|none=>_|some c=>runK w x.kind x.place x.n c (if x.kind=9 then 2000 else x.n));rw[e2];have e:=(Fg e2).2;by_cases a:x.kind=9
    · rw[dT a,cond_true,if_pos a];exact runK_g h d e e3 _ hN
    · rw[dF a,cond_false,if_neg a];exact runK_g h d e e3 _ hN
end Pw
open Go Go.Proofs Go.LX
namespace Pw
open Dk
theorem resend_g{w:wS}(h:WR w){x:oI}(e:On x.place):Is (Gd (wT w) x) (Sy w (xD x)):=by
  have b:=SB h e;unfold Gd;rw[g_at b];simp only[bnd];show Is ((qi (iM w x.place).cos x.co).bind _) (match pV x.co (iM w x.place).cos with|none=>_|some c=>if c.offered<0 then(w,7)else(⟨w.prog,w.places,Ak w.bD<|QR x.place c⟩,0));rcases find_g (iM w x.place).cos x.co with⟨e1,e2⟩|⟨n,c,e1,e2,e3,e4⟩
  · rw[e1,e2];simp only[bnd];rw[dT V,cond_true];exact .mk _ _
  · rw[e1,e2];simp only[bnd];rw[dF (show¬n<0 by omega),cond_false];show Is ((idx (iM w x.place).cos n).bind _) _;rw[e3];simp only[bnd];by_cases a:c.offered<0
    · rw[dT a,cond_true,if_pos a];exact .mk _ _
    · have d:=co_of h e (Fg e2).2;rw[dF a,cond_false,if_neg a,offer_g _ _ _ (FD (by have:=d.2.2;omega))];exact .mk _ _
theorem up_g(x:KT):(KR x).up=x.up:=rfl
theorem Vg{w:wS}{N:Nat}(hN:60002<=N){l:List fV}{m:fV}{e:Int}(h:WR ⟨w.prog,w.places,l⟩)(c:YK m):
  Is (xB N (wT w) (l,m,e) true) (⟨w.prog,w.places,l⟩,0)/\
  Is (xB N (wT w) (l,m,e) false) (BI ⟨w.prog,w.places,l⟩ m.iX (oF (iM ⟨w.prog,w.places,l⟩ m.iX) ⟨5,m.co,m.aM-1,0,[],[]⟩).1,(oF (iM ⟨w.prog,w.places,l⟩ m.iX) ⟨5,m.co,m.aM-1,0,[],[]⟩).2):=by
 obtain⟨m1,m2,b,d,-⟩:=c;refine⟨.mk ⟨w.prog,w.places,l⟩ 0,?_⟩;unfold xB;rw[cond_false,kM (FD (by simp only;omega))];show Is ((uM N (wT ⟨w.prog,w.places,l⟩) m.iX _).bind _) _;rw[note_g h m2 (Jd V b (by simp only;omega) V (fun x a=>by cases a) (fun x a=>by cases a)) hN];exact .mk _ _
theorem hear_g{w:wS}(h:WR w)(i:Int)(t:Bool){N:Nat}(hN:60002<=N):Is (LM N (wT w) i t) (Sz w i t):=by
  unfold LM Sz;show Is ((Hm w.bD i t).bind _) _;rw[wTake,if_neg (nn ((Ip _).2 ⟨h.YN,h.mok⟩))];by_cases f:i<0\/(w.bD.length:Int)<=i
  · rw[if_pos f,if_pos f];exact .mk _ _
  · rw[if_neg f,if_neg f];simp only[bnd];have o:i.toNat<w.bD.length:=by omega
    have p:w.bD[i.toNat]? =some w.bD[i.toNat]:=List.getElem?_eq_getElem o;have a:w.bD[i.toNat]∈w.bD:=List.getElem_mem o;generalize w.bD[i.toNat]=m at p a;rw[p];simp only[Option.getD_some];have b:=h.mok m a;have j:=SB h b.2.1;rw[dF V,cond_false,g_at j];simp only[bnd];rw[up_g];by_cases k:(iM w m.iX).up=false
    · rw[k,if_pos rfl];exact .mk _ _
    · rw[if_neg k];have q:(iM w m.iX).up=true:=by simpa using k
      rw[q];simp only[Bool.not_true,cond_false];have e:WR ⟨w.prog,w.places,if t=true then w.bD else w.bD.take i.toNat++w.bD.drop (i.toNat+1)⟩:=by
        cases t
        · exact h.drop i.toNat
        · exact h
      generalize (if t=true then w.bD else w.bD.take i.toNat++w.bD.drop (i.toNat+1))=l at e⊢;have hp:iM ⟨w.prog,w.places,l⟩ m.iX=iM w m.iX:=rfl;cases ht:m.taken with
      |true=>
        simp only[cond_true,if_true];show Is ((qi (iM w m.iX).cos m.co).bind _) (match pV m.co (iM ⟨w.prog,w.places,l⟩ m.iX).cos with|none=>_|some c=>_);rw[hp];rcases find_g (iM w m.iX).cos m.co with⟨e1,e2⟩|⟨n,c,e1,e2,e3,e4⟩
        · rw[e1,e2];simp only[bnd];rw[dT V,cond_true];exact(Vg hN e b).1
        · rw[e1,e2];simp only[bnd];rw[dF (show¬n<0 by omega),cond_false];show Is ((idx (iM w m.iX).cos n).bind _) _;rw[e3];simp only[bnd];rw[kM (FD (by have:=b.2.2.2.1;omega))];by_cases g:c.aM≠m.aM-1\/c.offered≠m.from_
          · rw[show(decide ((c.aM:Int)≠(m.aM-1))||decide ((c.offered:Int)≠m.from_))=true by simpa using g,if_pos g];exact(Vg hN e b).1
          · rw[show(decide ((c.aM:Int)≠(m.aM-1))||decide ((c.offered:Int)≠m.from_))=false by simpa using g,if_neg g];exact(Vg hN e b).2
      |false=>
        simp only[cond_false,Bool.false_eq_true,if_false];rw[had_g (h.at b.2.1).disk _ _ hN];simp only[bnd];rw[hp];cases hh:hadP (iM w m.iX) m.co m.aM with
        |true=>
          simp only[Bool.not_true,cond_false,if_true];unfold Ah;show Is ((AY (wT ⟨w.prog,w.places,l⟩) _).bind _) _;rw[send_g];exact .mk _ _
        |false=>
          simp only[Bool.not_false,cond_true,Bool.false_eq_true,if_false];show Is ((uM N (wT ⟨w.prog,w.places,l⟩) m.iX _).bind _) _;rw[note_g e b.2.1 (Jd V b.2.2.1 (by have:=b.2.2.2.1;omega) V (fun x r=>by cases r) (img_I64 h.code (h.mimg m a ht))) hN];simp only[bnd];rw[hp];by_cases d:(oF (iM w m.iX) ⟨4,m.co,m.aM,0,[],m.image⟩).2=0
          · rw[dF (nn d),cond_false,if_neg (nn d)];unfold Ah;show Is ((AY (wT<|BI ⟨w.prog,w.places,l⟩ m.iX _) _).bind _) _;rw[send_g];exact .mk _ _
          · rw[dT (show(oF (iM w m.iX) ⟨4,m.co,m.aM,0,[],m.image⟩).2≠0 from d),cond_true,if_pos d];exact .err d
theorem imgs_loop{N:Nat}(hN:60002<=N)(a:aX)(k:Unit->Option (Int×aX)):∀(l:List Co) (i:Int),
    gU (fun j(x:Co)s c=>(qP N a.prog x.image).bind fun q=>vN a c q.2) k i l ()=if JG a.prog l≠0 then some (JG a.prog l,a)else k ()
  |[],i=>by rw[SN];simp[JG]
  |x::l,i=>by
    rw[yf,C8 _ _ V];simp only[bnd];unfold vN;by_cases h:(dW a.prog x.image).2=0
    · rw[dF (nn h),cond_false];have b:=imgs_loop hN a k l<|i+1;unfold vN at b;rw[b,show JG a.prog (x::l)=JG a.prog l by rw[JG,if_neg (nn h)]]
    · rw[dT (show(dW a.prog x.image).2≠0 from h),cond_true,show JG a.prog (x::l)=(dW a.prog x.image).2 by rw[JG,if_pos h],if_pos h]
theorem boot_g{w:wS}(h:WR w){k:Int}(m:On k){N:Nat}(hN:60002<=N):Is (LP N (wT w) k) (bootW w k):=by
  have c:=SB h m;have f:=(h.at m).disk;unfold LP bootW;rw[g_at c];simp only[bnd];rw[up_g];by_cases e:(iM w k).up=true
  · rw[e,if_pos rfl];exact .mk _ _
  · have n:(iM w k).up=false:=by simpa using e
    rw[if_neg e,n,cond_false,OC f hN];simp only[bnd];rw[dF V,cond_false,replay_eq N V,if_neg (show¬120<(mF (iM w k).d).length by have:=(dOk f).len;omega)];simp only[bnd];by_cases b:(sH [] (mF (iM w k).d)).2=0
    · rw[dF (nn b),cond_false,if_neg (nn b),Int.toNat_natCast];rw[upto_eachI (g:=fun j(x:Co)s l=>(qP N (wT w).prog x.image).bind fun q=>vN (wT w) l q.2) (sH [] (mF (iM w k).d)).1 (fun i x s l o=>by
        unfold Hq;rw[kC,o];rfl)]
      rw[imgs_loop hN (wT w)];show Is (if JG w.prog (sH []<|mF (iM w k).d).1≠0 then _ else _) _;by_cases a:JG w.prog (sH [] (mF (iM w k).d)).1=0
      · rw[if_neg (nn a),if_neg (nn a)];unfold Hr;have:=g_set w k ⟨(sH []<|mF (iM w k).d).1,(QP (iM w k).d).1,true⟩;show Is (some ((0:Int),(⟨w.prog,(wT w).places.set k.toNat<|KR ⟨(sH []<|mF (iM w k).d).1,(QP (iM w k).d).1,true⟩,w.bD⟩:aX))) _;rw[this];exact .mk _ _
      · rw[if_pos a,if_pos a];exact .mk _ _
    · rw[dT (show(sH [] (mF (iM w k).d)).2≠0 from b),cond_true,if_pos b];exact .mk _ _
theorem begin_g{w:wS}(h:WR w){k i:Int}(a:On k){N:Nat}(hN:60002<=N):Is (I8 N (wT w) k i) (Vf w k i):=by
  have b:=SB h a;have e:=(h.at a).disk;unfold I8 Vf;by_cases c:i=k
  · subst c;rw[dF zq3,cond_false,if_neg zq3,g_at b];simp only[bnd];rw[OC e hN];simp only[bnd,Int.toNat_natCast];rw[S9 (fun r:Rec=>decide ((r.kind:Int)=1)) (fun n=>xn N (wT w) i i (decide ((0:Int)<=n))) (mF (iM w i).d) (fun n r l g=>by
      unfold Fs;rw[kC,g];rfl)]
    rw[<-any_find];cases hf:(mF (iM w i).d).findIdx? (fun r:Rec=>decide ((r.kind:Int)=1))with
    |some n=>
      simp only[Option.isSome_some,if_true];rw[dT V];exact .mk _ _
    |none=>
      simp only[Option.isSome_none,Bool.false_eq_true,if_false];unfold Fu xn;rw[cond_false];show Is ((XD w.prog).bind _) _;rw[vm_New_eq,if_neg (nn h.code)];simp only[bnd];rw[dF V,cond_false];show Is ((DX N w.prog<|A7 w.prog).bind _) _;have f:=begin_ok<|pU h.code;rw[Sq _ _ V,if_neg (nn h.code),if_neg (nn (Io.2 f))];simp only[bnd];rw[dF V,cond_false,note_g h a (Jd V a V V (fun x j=>by cases j) (img_b (pU h.code) (begin_img h.code)).1) hN];exact .mk _ _
  · rw[dT (show i≠k from c),cond_true,if_pos c];exact .mk _ _
end Pw
open Go Go.Proofs Go.LX
namespace Pw
open Dk
theorem step6_g{w:wS}(h:WR w){x:oI}(j:1<=x.kind/\x.kind<=9/\x.kind≠4/\x.kind≠5/\x.kind≠6){N:Nat}(hN:60002<=N):Is (o8 N x (wT w) true) (mo w (xD x)):=by
  have f:mo w (xD x)=if x.place<0\/(w.places.length:Int)<=x.place then(w,5)else
      if x.kind=8 then bootW w x.place else
      if(iM w x.place).up=false then(w,7)else
      if x.kind=1 then Vf w x.place x.co else
      if x.kind=3 then Sy w (xD x)else
      if x.kind=7 then(BI w x.place ⟨[],(iM w x.place).d,false⟩,0)else runW w (xD x):=by
    unfold mo;rw[if_neg (show¬((xD x).kind=4\/(xD x).kind=5) by simp only[xD];omega),if_neg (show¬(xD x).kind=6 by simp only[xD];omega),if_neg (show¬((xD x).kind<1\/9<(xD x).kind) by simp only[xD];omega)];rfl
  rw[f];unfold o8;rw[cond_true];have g:((wT w).places.length:Int)=w.places.length:=by unfold wT;simp
  rw[g];by_cases e:x.place<0\/(w.places.length:Int)<=x.place
  · rw[show(decide ((x.place:Int)<0)||decide (((w.places.length:Int):Int)<=x.place))=true by simpa using e,if_pos e];exact .mk _ _
  · rw[show(decide ((x.place:Int)<0)||decide (((w.places.length:Int):Int)<=x.place))=false by simpa using e,if_neg e,cond_false];have i:=h.many;have hp:On x.place:=⟨by omega,by omega⟩;by_cases c:x.kind=8
    · rw[dT c,if_pos c];exact(boot_g h hp hN).pair
    · rw[dF c,if_neg c,cond_false,g_at (SB h hp)];simp only[bnd];rw[up_g];cases hu:(iM w x.place).up with
      |false=>exact .mk _ _
      |true=>
        simp only[Bool.not_true,cond_false,Bool.true_eq_false,if_false];by_cases k1:x.kind=1
        · rw[dT k1,if_pos k1];exact(begin_g h hp hN).pair
        · rw[dF k1,if_neg k1,cond_false];by_cases b:x.kind=3
          · rw[dT b,if_pos b];exact(resend_g h hp).pair
          · rw[dF b,if_neg b,cond_false];by_cases a:x.kind=7
            · rw[dT a,if_pos a];have:=g_set w x.place ⟨[],(iM w x.place).d,false⟩;show Is (some ((0:Int),(⟨w.prog,(wT w).places.set x.place.toNat<|KR ⟨[],(iM w x.place).d,false⟩,w.bD⟩:aX))) _;rw[this];exact .mk _ _
            · rw[dF a,if_neg a];exact(run_g h hp hN).pair
theorem step45_g{w:wS}(h:WR w)(x:oI)(a:x.kind=4\/x.kind=5){N:Nat}(hN:60002<=N):Is (qm N (wT w) x) (mo w (xD x)):=by
  have b:mo w (xD x)=Sz w x.n (decide<|x.kind=5):=by unfold mo;rw[if_pos (show((xD x).kind=4\/(xD x).kind=5)from a)];rfl
  have c:qm N (wT w) x=nu N x (wT w) true:=by
    unfold qm;rcases a with h4|h5
    · rw[dT h4,cond_true]
    · rw[dF (show¬x.kind=4 by omega),dT h5,cond_false,cond_true]
  rw[b,c];unfold nu;rw[cond_true,dT (show x.kind≠6 by omega),cond_true];exact(hear_g h _ _ hN).pair
theorem step_g{w:wS}(h:WR w)(x:oI){N:Nat}(hN:60002<=N):Is (qm N (wT w) x) (mo w (xD x)):=by
  by_cases a:x.kind=4\/x.kind=5
  · exact step45_g h x a hN
  · by_cases c:x.kind=6
    · have f:mo w (xD x)=if x.n<0\/(w.bD.length:Int)<=x.n then(w,5)else(⟨w.prog,w.places,w.bD.take x.n.toNat++w.bD.drop (x.n.toNat+1)⟩,0):=by
        unfold mo;rw[if_neg (show¬((xD x).kind=4\/(xD x).kind=5)from a),if_pos (show(xD x).kind=6 from c)];rfl
      have g:qm N (wT w) x=nu N x (wT w) true:=by
        unfold qm;rw[dF (show¬x.kind=4 by omega),dF (show¬x.kind=5 by omega),dT c,cond_false,cond_false]
      rw[f,g];unfold nu;rw[cond_true,dF (show¬x.kind≠6 by omega),cond_false];show Is ((Hm w.bD x.n false).bind _) _;rw[wTake,if_neg (nn ((Ip _).2 ⟨h.YN,h.mok⟩))];unfold Jw;by_cases b:x.n<0\/(w.bD.length:Int)<=x.n
      · rw[if_pos b,if_pos b];exact .mk _ _
      · rw[if_neg b,if_neg b];exact .mk ⟨w.prog,w.places,w.bD.take x.n.toNat++w.bD.drop (x.n.toNat+1)⟩ 0
    · have g:qm N (wT w) x=nu N x (wT w) false:=by
        unfold qm;rw[dF (show¬x.kind=4 by omega),dF (show¬x.kind=5 by omega),dF c,cond_false,cond_false]
      rw[g];unfold nu;rw[cond_false];by_cases i:1<=x.kind/\x.kind<=9
      · have d:=step6_g h (x:=x) V hN;have:x.kind=1\/x.kind=2\/x.kind=3\/x.kind=7\/x.kind=8\/x.kind=9:=by omega
        rcases this with e|e|e|e|e|e<;>(rw[e];simp only[show decide ((1:Int)=1)=true from rfl,show decide ((2:Int)=1)=false from rfl,show decide ((2:Int)=2)=true from rfl,show decide ((3:Int)=1)=false from rfl,show decide ((3:Int)=2)=false from rfl,show decide ((3:Int)=3)=true from rfl,show decide ((7:Int)=1)=false from rfl,show decide ((7:Int)=2)=false from rfl,show decide ((7:Int)=3)=false from rfl,show decide ((7:Int)=7)=true from rfl,show decide ((8:Int)=1)=false from rfl,show decide ((8:Int)=2)=false from rfl,show decide ((8:Int)=3)=false from rfl,show decide ((8:Int)=7)=false from rfl,show decide ((8:Int)=8)=true from rfl,show decide ((9:Int)=1)=false from rfl,show decide ((9:Int)=2)=false from rfl,show decide ((9:Int)=3)=false from rfl,show decide ((9:Int)=7)=false from rfl,show decide ((9:Int)=8)=false from rfl,show decide ((9:Int)=9)=true from rfl,cond_true,cond_false];exact d)
      · have f:mo w (xD x)=(w,4):=by
          unfold mo;rw[if_neg (show¬((xD x).kind=4\/(xD x).kind=5)from a),if_neg (show¬(xD x).kind=6 from c),if_pos (show(xD x).kind<1\/9<(xD x).kind by simp only[xD];omega)]
        rw[f,dF (show¬x.kind=1 by omega),dF (show¬x.kind=2 by omega),dF (show¬x.kind=3 by omega),dF (show¬x.kind=7 by omega),dF (show¬x.kind=8 by omega),dF (show¬x.kind=9 by omega)];exact .mk _ _
theorem imgs_each{p:List bP}{N:Nat}(hN:60002<=N):∀l:List Co,each (CK N p) Hl l ()=some (JG p l)
  |[]=>rfl
  |x::l=>by
    rw[iH];have a:=imgs_each (p:=p) hN l;unfold CK at a⊢;rw[C8 _ _ V];simp only[bnd];by_cases h:(dW p x.image).2=0
    · rw[dF (nn h),cond_false,a,JG,if_neg (nn h)]
    · rw[dT (show(dW p x.image).2≠0 from h),cond_true,JG,if_pos h]
theorem plc_g(p:List bP)(x:KT)(g:x.d.wait.length<=9223372036854775807){N:Nat}(hN:60002<=N):I4 N p (KR x)=some (Aj p x):=by
  unfold I4 Aj;show(uJ N x.d).bind _=_;rw[Dk.KP N hN _ g];simp only[bnd];by_cases b:jr x.d=0
  · rw[dF (nn b),cond_false,if_neg (nn b),up_g];cases hu:x.up with
    |false=>
      show(bif decide ((0:Int)<(x.cos.length:Int))then _ else _)=some (if x.cos=[]then 0 else 4);by_cases a:x.cos=[]
      · rw[a,if_pos rfl];rfl
      · rw[if_neg a,dT (by have:=List.length_pos_iff.2 a;omega)];rfl
    |true=>
      simp only[Bool.not_true,cond_false,Bool.true_eq_false,if_false];show(bif decide ((0:Int)<(x.d.wait.length:Int))then _ else _)=_;by_cases a:x.d.wait=[]
      · rw[a,if_neg zq3];rw[dF zq3,cond_false,OC b hN];simp only[bnd];rw[replay_eq N V,if_neg (show¬120<(mF x.d).length by have:=(dOk b).len;omega)];simp only[bnd];by_cases c:(sH [] (mF x.d)).2=0
        · rw[dF (nn c),cond_false,if_neg (nn c),coSame];simp only[bnd];show(bif !decide ((sH []<|mF x.d).1=x.cos)then _ else _)=_;by_cases f:(sH [] (mF x.d)).1=x.cos
          · rw[dT f,if_neg (fun e=>e f)];exact imgs_each hN x.cos
          · rw[dF f,if_pos f];rfl
        · rw[dT (show(sH [] (mF x.d)).2≠0 from c),cond_true,if_pos c]
      · rw[if_pos a,dT (by have:=List.length_pos_iff.2 a;omega),cond_true]
  · rw[dT (show jr x.d≠0 from b),cond_true,if_pos b]
theorem YO{w:aX}{N:Nat}(hN:60002<=N):∀l:List fV,each (vL N w) AA l ()=some (Mh w.prog l)
  |[]=>rfl
  |m::l=>by
    rw[iH];have a:=YO (w:=w) hN l;generalize each (vL N w) AA l=F at a⊢;unfold vL CL Mh;cases ht:m.taken with
    |true=>exact a
    |false=>
      rw[cond_false,C8 _ _ V,if_neg zq3];simp only[bnd];by_cases h:(dW w.prog m.image).2=0
      · rw[dF (nn h),cond_false,a,if_neg (nn h)]
      · rw[dT (show(dW w.prog m.image).2≠0 from h),cond_true,if_pos h]
theorem plcs_each{w:aX}{N:Nat}(hN:60002<=N)(k:Unit->Option Int):∀l:List KT,(∀x∈l,x.d.wait.length<=9223372036854775807)->each (tX N w) k (l.map KR) ()=if NQ w.prog l≠0 then some (NQ w.prog l)else k ()
  |[],_=>by simp[NQ,qW]
  |x::l,hw=>by
    rw[List.map_cons,iH];have a:=plcs_each (w:=w) hN k l fun y b=>hw y<|List.mem_cons_of_mem _ b;generalize each (tX N w) k (l.map KR)=F at a⊢;unfold tX;rw[plc_g _ _ (hw x zq3) hN];simp only[bnd];by_cases h:Aj w.prog x=0
    · rw[dF (nn h),cond_false,a,show NQ w.prog (x::l)=NQ w.prog l by rw[NQ,if_neg (nn h)]]
    · rw[dT (show Aj w.prog x≠0 from h),cond_true,show NQ w.prog (x::l)=Aj w.prog x by rw[NQ,if_pos h],if_pos h]
def Wts(w:wS):Prop:=∀x∈w.places,x.d.wait.length<=9223372036854775807
theorem WR.wts{w:wS}(h:WR w):Wts w:=fun x a=>by have:=SC (h.pl x a).disk;omega
theorem check_g{w:wS}(d:Wts w){N:Nat}(hN:60002<=N):Bt N (wT w)=some (FE w):=by
  unfold Bt FE;show(rP w.prog).bind _=_;rw[Yk];simp only[bnd];by_cases b:Oy w.prog=0
  · rw[dF (nn b),cond_false,if_neg (nn b)];have e:((wT w).places.length:Int)=w.places.length:=by unfold wT;simp
    rw[e];by_cases f:w.places.length=3
    · rw[dF V,cond_false,if_neg V];show(bif decide ((dL w.bD:Int)≠0)then some (dL w.bD)else _)=_;by_cases a:dL w.bD=0
      · rw[dF (nn a),cond_false,if_neg (nn a)];show each (tX N<|wT w) _ (w.places.map KR) ()=_;rw[plcs_each hN _ _ d];unfold Fq;show(if NQ w.prog w.places≠0 then _ else each (vL N<|wT w) _ w.bD ())=_;rw[YO hN];by_cases c:NQ w.prog w.places=0
        · rw[if_neg (nn c),if_neg (nn c)];rfl
        · rw[if_pos c,if_pos c];rfl
      · rw[dT (show dL w.bD≠0 from a),cond_true,if_pos a]
    · rw[dT V,cond_true,if_pos V]
  · rw[dT (show Oy w.prog≠0 from b),cond_true,if_pos b]
end Pw
open Go Go.Proofs Go.LX
namespace Pw
open Dk
theorem args_each(a:Unit->Option (List bP)):∀l:List Ins,(∀c∈l,c.args.length<=3)->each Ac (Ei a) l ()=a ()
 |[],_=>rfl
 |c::l,h=>by
  rw[iH];have b:=args_each a l fun x d=>h x<|List.mem_cons_of_mem _ d;generalize each Ac (Ei a) l=G at b⊢;unfold Ac;have:=h c zq3;rw[p9 V V];exact b
theorem code_copy{p:List bP}(h:p.length<=4/\∀x∈p,sO x/\∀c∈x.code,c.args.length<=3):Gr p=some p:=by
 unfold Gr;rw[p9 V V];simp only[bnd,Int.toNat_natCast];have b:∀(m i:Nat),i+m=p.length->upto (uI p) (Ad p) (i:Int) m ()=some p:=by
  intro m;induction m with
  |zero=>intro i _;rfl
  |succ m ih=>
   intro i g;have d:i<p.length:=by omega
   show uI p (i:Int) () (upto (uI p) (Ad p) ((i:Int)+1) m)=_;have a:=ih (i+1) V;rw[show((i+1:Nat):Int)=(i:Int)+1 from rfl]at a;generalize upto (uI p) (Ad p) ((i:Int)+1) m=nx at a⊢;unfold uI;have e:=h.2 p[i]<|List.getElem_mem d;have f:=e.1;unfold sO at f;rw[wy d];simp only[bnd];rw[p9 V V];simp only[bnd];rw[args_each _ _ e.2];exact a
 simpa using b p.length 0 V
theorem chk_good{p:List bP}(h:Oy p=0):p.length<=4/\∀x∈p,sO x/\∀c∈x.code,c.args.length<=3:=by
 obtain⟨y,a,b⟩:=aat p;rw[Yk]at a;exact b (by rw[<-osi a];exact h)
theorem copy_g{w:wS}(h:WR w):DI (wT w)=some (wT w):=by
 have g:=chk_good h.code;unfold DI;show(Gr w.prog).bind _=_;rw[code_copy g];simp only[bnd];have f:=h.many;show(clone 80<|w.places.map KR).bind _=_;rw[p9 (by simp;omega) (by simp;omega)];simp only[bnd];show(CO w.bD).bind _=_;rw[wCopy h.YN (fun m f=>(h.mok m f).2.2.2.2.2)];simp only[bnd];unfold Jp;rw[Int.toNat_natCast];have b:∀(m i:Nat),i+m=(w.places.map KR).length->upto uL (Ag w.prog w.bD) (i:Int) m (w.places.map KR)=some (wT w):=by
  intro m;induction m with
  |zero=>intro i _;rfl
  |succ m ih=>
   intro i n;have c:i<(w.places.map KR).length:=by omega
   show uL (i:Int) (w.places.map KR) (upto uL (Ag w.prog w.bD) ((i:Int)+1) m)=_;have a:=ih (i+1) V;rw[show((i+1:Nat):Int)=(i:Int)+1 from rfl]at a;generalize upto uL (Ag w.prog w.bD) ((i:Int)+1) m=nx at a⊢;unfold uL;rw[wy c];have j:i<w.places.length:=by simpa using c
   have e:(w.places.map KR)[i]=KR w.places[i]:=by simp
   have hp:=h.pl w.places[i]<|List.getElem_mem j;have l:=(Dk.vS hp.disk).1;simp only[bnd];rw[show(w.places.map KR)[i].cos=w.places[i].cos by rw[e];rfl,show(w.places.map KR)[i].safe=w.places[i].d.safe by rw[e];rfl,show(w.places.map KR)[i].wait=w.places[i].d.wait by rw[e];rfl];rw[coCopy hp.good.1.len (fun x k=>(hp.good.1.ok x k).2.2.2.2.2.2.2),p9 V V];simp only[bnd];rw[p9 V V];simp only[bnd,Int.toNat_natCast];rw[List.set_set,show(⟨w.places[i].cos,w.places[i].d.safe,w.places[i].d.wait,(w.places.map KR)[i].up⟩:iJ)=(w.places.map KR)[i] by rw[e];rfl,List.set_getElem_self];exact a
 simpa using b (w.places.map KR).length 0 V
def zW:aX:=⟨[],[],[]⟩
theorem do_of{w:wS}(c:Wts w)(x:oI){N:Nat}(hN:60002<=N){q:wS×Int}(d:WR w->Is (qm N (wT w) x) q):NH N (wT w) x=some (if FE w≠0 then(zW,FE w)else if q.2≠0 then(zW,q.2)else(wT q.1,0)):=by
  unfold NH;rw[check_g c hN];simp only[bnd];by_cases a:FE w=0
  · rw[dF (nn a),cond_false,if_neg (nn a)];have h:=(w_iff w).1 a;rw[copy_g h];simp only[bnd];obtain⟨v,e,f⟩:=d h;rw[e];simp only[bnd];by_cases b:q.2=0
    · rw[dF (nn b),cond_false,if_neg (nn b),f b]
    · rw[dT (show q.2≠0 from b),cond_true,if_pos b];rfl
  · rw[dT (show FE w≠0 from a),cond_true,if_pos a];rfl
theorem do_g{w:wS}(a:Wts w)(x:oI){N:Nat}(hN:60002<=N):NH N (wT w) x=some (if FE w≠0 then(zW,FE w)else if(mo w (xD x)).2≠0 then(zW,(mo w (xD x)).2)else(wT (mo w (xD x)).1,0)):=do_of a x hN fun h=>step_g h x hN
end Pw
open Go Go.Proofs Go.LX
namespace Pw
open Dk
theorem wts_of{l:List iJ}{w:World}{B A:BS}{v:Value}(h:ed fQ w B A v l):∀x∈l,x.wait.length<=9223372036854775807:=by
 obtain⟨a,cap,_,_,_,_,d⟩:=h;intro x g;obtain⟨i,c,rfl⟩:=List.getElem_of_mem g;obtain⟨b,o,cells,E,j,_,_,_,f⟩:=d i c;obtain⟨_,_,_,_,_,_,e⟩:=fI f;exact e.bI
theorem wts_to{a:aX}(h:∀x∈a.places,x.wait.length<=9223372036854775807):Wts (toW a):=by
 intro x c;obtain⟨y,b,rfl⟩:=List.mem_map.1 c;exact h y b
theorem Gx{ρ:Type}{body:Int->Unit->(Unit->ρ)->ρ}{k:Unit->ρ}:∀(m:Nat) (i:Nat),(∀(j:Nat) (a:Unit->ρ),i<=j->j<i+m->body (j:Int) () a=a ())->upto body k (i:Int) m ()=k ()
 |0,i,_=>rfl
 |m+1,i,h=>by
  show body (i:Int) () (upto body k ((i:Int)+1) m)=_;rw[h i _ (Nat.le_refl _) V];exact Gx m (i+1) fun j a b c=>h j a V V
theorem gl(w:wS):(wT w).places.length=w.places.length:=by unfold wT;simp
theorem idx_g{w:wS}{j:Nat}(h:j<w.places.length):idx (wT w).places (j:Int)=some (KR w.places[j]):=by
 show idx (w.places.map KR) (j:Int)=_;rw[idx_map,kC,List.getElem?_eq_getElem h];rfl
theorem pSame(x:KT):Dz (KR x).cos (KR x).cos=some true:=by rw[coSame];simp
theorem dSame(x:KT):KL (⟨(KR x).safe,(KR x).wait⟩:gH) (⟨(KR x).safe,(KR x).wait⟩:gH)=some true:=by rw[diskSame];simp
theorem hN:60002<=NN:=by decide
theorem worldKeeps(a:aX)(b:oI)(N:∀x∈a.places,x.wait.length<=9223372036854775807):wM NN a b=some true:=by
  have C:a=wT (toW a):=(of_to a).symm;have s:=wts_to N;generalize toW a=w at C s;subst C;unfold wM;rw[do_g s _ hN,moved_ok];simp only[bnd,Bool.not_true,Bool.false_or];by_cases z:FE w=0
  · rw[if_neg (nn z)];by_cases v:(mo w (xD b)).2=0
    · rw[if_neg (nn v)];simp only[];rw[dF V,cond_false];have h:=(w_iff w).1 z;have e:mo w (xD b)=((mo w<|xD b).1,0):=Prod.ext Z v;have t:=(step_ev h e).1;obtain⟨k1,k2⟩:=keeps h e;generalize (mo w (xD b)).1=y at e t k1 k2;rw[check_g t.wts hN];simp only[bnd];rw[dF (nn ((w_iff y).2 t)),cond_false];have J:=h.YN;have K:=t.YN;have p:∀d:Int,d=atP w (xD b)->lN (wT w) (wT y,0) b d=some true:=by
        intro d M;unfold lN;rw[gl,Int.toNat_natCast];refine(Gx w.places.length 0 fun j P _ Q=>?_).trans ?_
        · unfold sj jQ nQ;have u:j<w.places.length:=by omega
          have q:j<y.places.length:=by rw[t.many];have:=h.many;omega
          simp only[];rw[idx_g u,idx_g q];simp only[bnd];have B:On (j:Int):=⟨by omega,by have:=h.many;omega⟩;by_cases A:(j:Int)≠d\/b.kind=6
          · rw[show(decide (((j:Int))≠d)||decide ((b.kind:Int)=6))=true by simpa using A,cond_true];have hp:=k1 j B (by rw[<-M];exact A);have O:iM y (j:Int)=y.places[j]:=by unfold iM;rw[kC,List.getElem?_eq_getElem q];rfl
            have I:iM w (j:Int)=w.places[j]:=by unfold iM;rw[kC,List.getElem?_eq_getElem u];rfl
            rw[O,I]at hp;rw[hp,pSame];simp only[bnd,bne_self_eq_false,cond_false,Bool.not_true];rw[dSame];rfl
          · rw[show(decide (((j:Int))≠d)||decide ((b.kind:Int)=6))=false by simpa using A];rfl
        · unfold su;show(clone 64 w.bD).bind _=_;rw[p9 V V];simp only[bnd];have o:∀L:List fV,L=SA w (xD b)->L.length<=40->lD (wT y,0) L=some true:=by
            intro L G E;unfold lD;rw[kM (FD V)];show(bif (decide (((y.bD.length:Int):Int)<=((L.length:Int)+1))&&decide (((L.length:Int):Int)<=(y.bD.length:Int)))then(sub? y.bD 0 (L.length:Int)).bind _ else _)=_;rw[<-G]at k2;have r:y.bD.length<=L.length+1/\L.length<=y.bD.length/\y.bD.take L.length=L:=by
              rcases k2 with e|⟨m,e⟩<;>rw[e]<;>simp
            rw[dT V,dT V];have:=Wh (l:=y.bD) (a:=0) (b:=L.length) V r.2.1;simp only[Bool.and_self,cond_true];rw[show(0:Int)=((0:Nat):Int)from rfl,this];simp only[bnd];rw[List.drop_zero,r.2.2,wSame];simp[bnd]
          by_cases g:b.kind=4\/b.kind=6
          · rw[show(decide ((b.kind:Int)=4)||decide ((b.kind:Int)=6))=true by simpa using g,cond_true];have hn:0<=b.n/\b.n<w.bD.length:=by
              have c:=congrArg Prod.snd e;unfold mo at c;rcases g with k4|k6
              · rw[if_pos (show((xD b).kind=4\/(xD b).kind=5)from .inl k4)]at c;unfold Sz at c;by_cases k:(xD b).n<0\/(w.bD.length:Int)<=(xD b).n
                · rw[if_pos k]at c;simp at c
                · simp only[xD]at k;omega
              · rw[if_neg (show¬((xD b).kind=4\/(xD b).kind=5) by simp only[xD];omega),if_pos (show(xD b).kind=6 from k6)]at c;by_cases k:(xD b).n<0\/(w.bD.length:Int)<=(xD b).n
                · rw[if_pos k]at c;simp at c
                · simp only[xD]at k;omega
            obtain⟨n,f⟩:=Int.eq_ofNat_of_zero_le hn.1;rw[f,kM (FD V),del_s1 V];simp only[bnd];refine o _ ?_ (by simp;omega);unfold SA;rw[if_pos (show(xD b).kind=4\/(xD b).kind=6 from g)];simp only[xD,f,Int.toNat_natCast]
          · rw[show(decide ((b.kind:Int)=4)||decide ((b.kind:Int)=6))=false by simpa using g,cond_false];refine o _ ?_ V;unfold SA;rw[if_neg (show¬((xD b).kind=4\/(xD b).kind=6)from g)]
      by_cases i:b.kind=4\/b.kind=5\/b.kind=6
      · rw[show((decide ((b.kind:Int)=4)||decide ((b.kind:Int)=5))||decide ((b.kind:Int)=6))=true by simpa[or_assoc]using i,cond_true];have hn:0<=b.n/\b.n<w.bD.length:=by
          have c:=congrArg Prod.snd e;unfold mo at c;rcases(show(b.kind=4\/b.kind=5)\/b.kind=6 by omega)with k4|k6
          · rw[if_pos (show((xD b).kind=4\/(xD b).kind=5)from k4)]at c;unfold Sz at c;by_cases k:(xD b).n<0\/(w.bD.length:Int)<=(xD b).n
            · rw[if_pos k]at c;simp at c
            · simp only[xD]at k;omega
          · rw[if_neg (show¬((xD b).kind=4\/(xD b).kind=5) by simp only[xD];omega),if_pos (show(xD b).kind=6 from k6)]at c;by_cases k:(xD b).n<0\/(w.bD.length:Int)<=(xD b).n
            · rw[if_pos k]at c;simp at c
            · simp only[xD]at k;omega
        obtain⟨n,f⟩:=Int.eq_ofNat_of_zero_le hn.1;show(idx w.bD b.n).bind _=_;rw[f,kC,List.getElem?_eq_getElem V];simp only[bnd];refine p _ ?_;unfold atP;rw[if_pos (show(xD b).kind=4\/(xD b).kind=5\/(xD b).kind=6 from i)];simp only[xD,f,Int.toNat_natCast];rw[List.getElem?_eq_getElem V];rfl
      · rw[show((decide ((b.kind:Int)=4)||decide ((b.kind:Int)=5))||decide ((b.kind:Int)=6))=false by simp only[Bool.or_eq_false_iff,decide_eq_false_iff_not];omega,cond_false];refine p _ ?_;unfold atP;rw[if_neg (show¬((xD b).kind=4\/(xD b).kind=5\/(xD b).kind=6)from i)];rfl
    · rw[if_pos v];simp only[];rw[dT (show(mo w (xD b)).2≠0 from v),cond_true]
  · rw[if_pos z];simp only[];rw[dT (show FE w≠0 from z),cond_true]
end Pw
end Go.Proofs.YtodkbibbgakkdaaGreatDoor