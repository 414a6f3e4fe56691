/-
  What the law WorldRuns needs of our own library and of the walks, no more.
-/
import Derived.Test.YteijalgmijkphaaGreatDoorWorldRunsTh
set_option linter.unusedSimpArgs false
set_option linter.unusedVariables false
set_option maxRecDepth 10000
set_option maxHeartbeats 4000000
open Go.LX renaming State->Ys
open Go.LX renaming Frame->Ya
open Bool renaming and_eq_false_iff->cm,and_false->qC,and_self->mw,eq_iff_iff->dI,false_and->ju,false_eq_true->cL,false_or->pd,not_false->en,not_true->cE,or_eq_false_iff->cV,or_eq_true->dC,or_false->sA,true_and->gw,false->aw,true->bh
open Decidable renaming not_not->eN,decide->G
open Go.Lib renaming atoiAll_bounds->zp,itoa->dw
open Int renaming eq_ofNat_of_zero_le->ck,reduceEq->bq,toNat_natCast->ba,toNat_of_nonneg->rS
open List renaming Pairwise->uF,append_assoc->cg,append_nil->eK,concat_eq_append->lr,cons_append->ei,dropLast_concat->iS,drop_eq_getElem_cons->cy,drop_eq_nil_of_le->cC,drop_replicate->wx,drop_zero->fF,eq_nil_of_length_eq_zero->cA,eq_nil_or_concat->lp,eq_of_mem_replicate->oT,filter_cons->hZ,filter_eq_self->sd,find?_cons->eS,findIdx?_cons->xU,flatMap_cons->hH,getElem?_cons_succ->uS,getElem?_cons_zero->uJ,getElem?_eq_getElem->bl,getElem?_eq_none->bE,getElem?_eq_some_iff->oa,getElem?_set->fL,getElem_idxOf->so,getElem_map->Ak,getElem_mem->cw,getLast?_append->ft,getLast?_singleton->eY,headD_cons->tl,idxOf_append->zj,idxOf_cons->A3,idxOf_lt_length_of_mem->fY,length->O,length_append->bm,length_cons->br,length_flatMap->cI,length_map->dr,length_nil->eR,length_replicate->mv,length_set->cp,length_take->cf,mapM_cons->ra,map_append->cY,map_cons->cr,map_map->ps,mem_append->dq,mem_cons->bs,mem_cons_of_mem->bo,mem_cons_self->fp,mem_filter->A4,mem_flatMap->lR,mem_map->fi,mem_of_getElem?->jj,mem_of_mem_drop->qD,mem_of_mem_take->mj,mem_or_eq_of_mem_set->oc,mem_singleton->gA,nil_append->cc,pairwise_cons->ea,prefix_append->sn,prefix_refl->hY,replicate->bw,set_getElem_self->pN,singleton_append->vu,sum_cons->mh,take_left->jz,take_length->te,take_succ_cons->rh,take_zero->tI
open Nat renaming add_assoc->kj,le_refl->cl,lt_or_ge->cG
open Option renaming bind->ao,bind_some->cJ,getD_some->fR,isSome_none->jI,map_eq_some_iff->ux,map_some->dt,some_or->iG,none->bd,some->U
open Prod renaming ext->pw,fst->ml,snd->hU
namespace Go.Proofs.YteijalgmijkphaaGreatDoor
open Go Go.Proofs Go.LX
def ren(l:H Int)(v:tp):tp:=if v.h=2 then⟨v.h,(l.idxOf v.n:Nat)⟩else v
def Pm(l:H Int)(f:Ya):Ya:={f with regs:=f.regs.map (ren l)}
def roots(a:H Ya):H tp:=a.flatMap (·.regs)
def mK(s:Ys):H Int:=Pk s.j (roots s.i)
def jY(s:Ys):Ys:=⟨s.i.map (Pm (mK s)),(mK s).map (λk=>(A6 s.j k).map (ren (mK s))),s.q,s.bC⟩
structure SwOk(s:Ys):Prop where
 small:EV s
 j:wz s.j
 vals:∀f∈s.i,∀v∈f.regs,lJ s.j.length v
section
variable{s:Ys}
theorem Au.sw{a:H bM}(h:Au a s)(ha:oW a):SwOk s where
 small:=h.small ha
 j:=h.j
 vals f hf:=by obtain⟨x,g⟩:=DW h.i f hf;exact g.vals
theorem SwOk.roots(h:SwOk s):∀v∈roots s.i,lJ (O s.j) v:=by
 intro v a;unfold YteijalgmijkphaaGreatDoor.roots at a;obtain⟨f,b,a⟩:=lR.1 a;exact h.vals f b v a
theorem roots_len(a:H Ya)(h:∀f∈a,O f.regs<=40):O (roots a)<=40*O a:=by
 induction a with
 |nil=>simp[roots]
 |cons f l ih=>
  have:=h f C7;have:=ih λg b=>h g<|bo _ b;unfold roots at*;rw[hH,bm,br];omega
theorem SwOk.rlen(h:SwOk s):O (YteijalgmijkphaaGreatDoor.roots s.i)<=400:=by
 have:=roots_len s.i h.small.regs;have:=h.small.i;omega
theorem SwOk.reach(h:SwOk s):Ao (O s.j) (mK s)/\uf (YteijalgmijkphaaGreatDoor.roots s.i) (mK s)/\∀x∈mK s,uf (A6 s.j x) (mK s):=reach_ok h.j h.roots
variable{α ρ:Type}{body:Int->H α->(H α->L ρ)->L ρ}{g:α->α}{P:α->Prop}
theorem map_loop{K:H α->L ρ}(e:∀(i:Nat) (x:H α) a nx,x[i]? =U a->P a->body (i:Int) x nx=nx (x.set i (g a))):
  ∀(d c:H α),(∀a∈d,P a)->Ax body K (O c:Int) (O d) (c++d)=K (c++d.map g)
 |[],c,_=>by simp[Ax]
 |a::d,c,h=>by
  rw[br,QU,e (O c) (c++a::d) a _ C7 (h a C7)];have:=map_loop (K:=K) e d (c++[g a]) λb e=>h b<|bo _ e;rw[show(c++a::d).set (O c) (g a)=(c++[g a])++d by simp,show((O c:Int)+1)=(O (c++[g a]):Nat) by simp,this];simp
theorem QX{K:H α->L ρ}(b:∀(i:Nat) (x:H α) a nx,x[i]? =U a->P a->body (i:Int) x nx=nx (x.set i (g a)))(l:H α)(J:∀a∈l,P a):Ax body K 0 (O l) l=K (l.map g):=by
 have:=map_loop (K:=K) b l [] J;simpa using this
def Nx(l:H Int)(m:H (Int×Int)):Prop:=∀k,lk k m=if k∈l then U ((l.idxOf k:Nat):Int)else bd
variable{l:H Int}{m:H (Int×Int)}
theorem turn_eq(h:Nx l m)(vs:H tp)(f:uf vs l):Mu vs m=U (vs.map (ren l)):=by
  unfold Mu;rw[ba];refine QX (P:=λv=>v.h=2->v.n∈l) (λi x a g c J=>?_) vs λv d=>f v d;unfold SM;rw[kz,c,vt];by_cases b:a.h=2
  · rw[dT b,Z1,h a.n,Z3 (J b)];simp[ren,b]
  · rw[dF b,Z2];have:x.set i a=x:=by
      obtain⟨e,rfl⟩:=oa.1 c;exact pN e
    simp[ren,b,this]
theorem LL(l:wz s.j){K:H (H tp)×H Int×H (Int×Int)->L Ys}:∀(b a:H Int) (m:H (Int×Int)),Ao (O s.j) (a++b)->Nx a m->
    ∃g,Nx (a++b) g/\ic (Gm s) K (O a:Int) b (a.map (A6 s.j),a,m)=K ((a++b).map (A6 s.j),a++b,g)
  |[],a,m,_,h=>⟨m,by simpa using h,by simp[ic]⟩
  |k::b,a,m,hm,h=>by
    have i:a++k::b=(a++[k])++b:=by simp
    have f:k∉a:=by
      intro f;exact(List.nodup_append.1 hm.1).2.2 k f k C7 Z
    have hl:=hm.len;have hn:=l.1;simp only[bm,br]at hl;have n:=hm.2 k C7;rw[Ay];obtain⟨g,o,j⟩:=LL l (K:=K) b (a++[k]) (VT k (O a:Int) m) (by rw[<-i];exact hm) (λq=>by
      rw[lk_lput];by_cases e:q=k
      · subst e;rw[Z3 rfl,Z3 C7,zj,Z4 f];simp
      · rw[Z4 e,h q];by_cases d:q∈a
        · rw[Z3 d,Z3 (by simp[d]),zj,Z3 d]
        · rw[Z4 d,Z4 (by simp[d,e])])
    refine⟨g,by rw[i];exact o,?_⟩;have c:((O (a++[k]):Nat):Int)=(O a:Int)+1:=by simp
    rw[c]at j;rw[i,<-j];generalize ic (Gm s) K ((O a:Int)+1) b=K1;unfold Gm;simp only;rw[(IK n).1,vt,gH f,gH (A5 (by simp;omega) tS),cY];rfl
theorem frames_sweep(h:Nx l m)(K:H Ya->L Ys)(b:H Ya)(d:∀f∈b,uf f.regs l):Ax (RA m) K 0 (O b) b=K (b.map (Pm l)):=
 QX (P:=λf=>uf f.regs l) (λi x a e c J=>by
  unfold RA;rw[kz,c,vt,turn_eq h a.regs J,vt];simp[Pm]) b d
theorem cells_sweep(h:Nx l m)(K:H (H tp)->L Ys)(cs:H (H tp))(d:∀c∈cs,uf c l):Ax (TS m) K 0 (O cs) cs=K (cs.map (λc=>c.map (ren l))):=
 QX (P:=λc=>uf c l) (λi x a e b J=>by
  unfold TS;rw[kz,b,vt,turn_eq h a J,vt];simp) cs d
variable{K:H tp->L Ys}
theorem S4:∀(b:H Ya) (a:H tp),O a+O (roots b)<=1000->vq KV K b a=K (a++roots b)
 |[],a,_=>by simp[kJ,roots]
 |f::b,a,h=>by
  have e:roots (f::b)=f.regs++roots b:=rfl;rw[e,bm]at h;rw[fQ];have c:=S4 b (a++f.regs) (by simp;omega);generalize vq KV K b=K1 at c⊢;unfold KV;rw[gH (A5 V tS),c,e,cg]
theorem Fm{a:H Ya}(h:uf (roots a) l):∀f∈a,uf f.regs l:=λf d v b c=>h v (lR.2 ⟨f,d,b⟩) c
variable{N:Nat}
theorem N5(hN:100<=N)(h:SwOk s):Mi N s=U (jY s):=by
 have d:=h.reach;unfold Mi;rw[S4 s.i [] (by have:=h.rlen;simp;omega),cc];unfold ZC;rw[reach_eq hN h.j h.roots h.rlen,vt,dF C7,Z2,HX h.small,vt];have e:Pk s.j (roots s.i)=mK s:=rfl;simp only[e];obtain⟨j,a,f⟩:=LL h.j (K:=KU s) (mK s) [] [] (by simpa using d.1) (λk=>by simp[lk]);have b:ic (Gm s) (KU s) 0 (mK s) ([],([]:H Int),([]:H (Int×Int)))=_:=f;rw[b];simp only[cc]at a⊢;unfold KU;simp only[ba];rw[frames_sweep a _ _ (Fm d.2.1)];unfold ZB;rw[ba,cells_sweep a _ _ (λc i=>by
  obtain⟨k,g,rfl⟩:=fi.1 i;exact d.2.2 k g)]
 unfold ZA jY;rw[ps];rfl
theorem ren_ref{v:tp}(h:v.h=2->v.n∈l):yL v l=U (ren l v):=by
  unfold yL vk ren;by_cases a:v.h=2
  · rw[dT a,Z1,GP (h a),vt,Z3 a]
  · rw[dF a,Z2,Z4 a]
theorem regs_ref(K:H tp->L Ys)(vs:H tp)(d:uf vs l):Ax (BI l) K 0 (O vs) vs=K (vs.map (ren l)):=
 QX (P:=λv=>v.h=2->v.n∈l) (λi x a e b J=>by
  unfold BI;rw[kz,b,vt,ren_ref J,vt];simp) vs (λv c=>d v c)
theorem frames_ref(K:H Ya->L Ys)(b:H Ya)(d:∀f∈b,uf f.regs l):Ax (AR l) K 0 (O b) b=K (b.map (Pm l)):=
 QX (P:=λf=>uf f.regs l) (λi x a e c J=>by
  unfold AR;rw[kz,c,vt,ba,regs_ref _ _ J];unfold HZ;simp[Pm]) b d
theorem cell_ref(K:H tp->L Ys):∀(vs a:H tp),uf vs l->O a+O vs<=1000->vq (rT l) K vs a=K (a++vs.map (ren l))
  |[],a,_,_=>by simp[kJ]
  |v::vs,a,hr,hl=>by
    simp only[br]at hl;rw[fQ];have c:=cell_ref K vs (a++[ren l v]) (λw d=>hr w (bo _ d)) (by simp;omega);generalize vq (rT l) K vs=K1 at c⊢;have e:rT l v a K1=K1 (a++[ren l v]):=by
      unfold rT vT ren;by_cases b:v.h=2
      · rw[dT b,Z1,GP (hr v C7 b),vt,Z3 b,gH (A5 (by simp;omega) tS)]
      · rw[dF b,Z2,Z4 b,gH (A5 (by simp;omega) tS)]
    rw[e,c];simp
theorem Ts(c:wz s.j)(hl:Ao (O s.j) l)(e:∀x∈l,uf (A6 s.j x) l)(K:H (H tp)->L Ys):
  ∀(m i:Nat) (a:H (H tp)),i+m=O l->O a=i->Ax (rU l s) K (i:Int) m a=K (a++(l.drop i).map (λk=>(A6 s.j k).map (ren l)))
 |0,i,a,h,_=>by rw[show l.drop i=[]from cC V];simp[Ax]
 |m+1,i,a,h,ha=>by
  rw[QU];have hi:i<O l:=by omega
  have d:=hl.2 _<|cw hi;have b:=Ts c hl e K m (i+1) (a++[(A6 s.j l[i]).map (ren l)]) V (by simp;omega);rw[show(((i+1:Nat)):Int)=(i:Int)+1 by omega]at b;generalize Ax (rU l s) K ((i:Int)+1) m=K1 at b⊢;unfold rU;have g:=(c.at d).1.2;have f:=hl.len;have j:=c.1;rw[rC hi,vt,(IK d).1,vt,cell_ref _ _ _ (e _ (cw hi)) (by simp;omega)];unfold Gw;rw[cc,gH (A5 (by simp;omega) tS),b,cy hi,cr];simp only[cg,ei,cc]
theorem root_ref:∀(b:H Ya) (a:H tp),O a+O (roots b)<=1000->vq vU K b a=K (a++roots b)
 |[],a,_=>by simp[kJ,roots]
 |f::b,a,h=>by
  have e:roots (f::b)=f.regs++roots b:=rfl;rw[e,bm]at h;rw[fQ];have c:=root_ref b (a++f.regs) (by simp;omega);generalize vq vU K b=K1 at c⊢;unfold vU;rw[gH (A5 V tS),c,e,cg]
theorem Iw(hN:100<=N)(h:SwOk s):rV N s=U (jY s):=by
 have a:=h.reach;unfold rV;rw[root_ref s.i [] (by have:=h.rlen;simp;omega),cc];unfold Gy;rw[met_eq hN h.j h.roots h.rlen,vt,own_eq h.small,vt];have e:Pk s.j (roots s.i)=mK s:=rfl;rw[e,ba,frames_ref _ _ (Fm a.2.1)];unfold Gx;rw[ba];have:=Ts h.j a.1 a.2.2 (AQ (s.i.map<|Pm<|mK s) s) (O (mK s)) 0 [] V Z;have b:Ax (rU (mK s) s) (AQ (s.i.map<|Pm<|mK s) s) 0 (O (mK s)) []=_:=this;rw[b];rfl
end
open Go Go.Proofs Go.LX
def pV(r:H tp)(i:Int):tp:=(vx r i).getD ⟨0,0⟩
def opP(k:Int)(b c:tp):L tp:=
 if k=5 then U ⟨1,if b=c then 1 else 0⟩else if b.h≠1\/c.h≠1 then bd else if k=4 then U ⟨1,if b.n<c.n then 1 else 0⟩else
 let n:=if k=1 then b.n+c.n else if k=2 then b.n-c.n else b.n*c.n
 if-1000000000<=n/\n<=1000000000 then U ⟨1,n⟩else bd
def Tm(f:Ya)(x:bM):Ya:={f with at_:=min (f.at_+1) ((O x.C:Int)-1)}
def PU(s:Ys)(c:An):L Ys:=
 if O s.j=24 then bd else U ⟨s.i.dropLast++(s.i.getLast?.map λh=>{h with regs:=h.regs.set c.a.toNat ⟨2,O s.j⟩}).toList,s.j++[bw c.b.toNat ⟨0,0⟩],s.q,s.bC⟩
def mM(a:H bM)(pre:H Ya)(f:Ya)(cells:H (H tp))(st wh:Int)(x:bM)(c:An):L (Ys×L Int×YU):=
  let g:=Tm f x;let r:=pV f.regs;let put:=fun(v:tp)=>(⟨pre++[{g with regs:=f.regs.set c.a.toNat v}],cells,st,wh⟩:Ys);let d:=(⟨pre++[g],cells,st,wh⟩:Ys);let jump:=(⟨pre++[{g with at_:=c.b}],cells,st,wh⟩:Ys);let bad:=fun(v:tp)=>v.h≠2\/(O (A6 cells v.n):Int)<=c.c
  if c.op=1 then U (put ⟨1,c.b⟩,bd,aw)else
  if c.op=2 then U (put (r c.b),bd,aw)else
  if c.op=3 then(opP (c.args.headD 0) (r c.b) (r c.c)).map λv=>(put v,bd,aw)else
  if c.op=4 then(if bad (r c.b)then bd else U (put (pV (A6 cells (r c.b).n) c.c),bd,aw))else
  if c.op=6 then(if bad (r c.a)then bd else U (⟨pre++[g],cells.set (r c.a).n.toNat ((A6 cells (r c.a).n).set c.c.toNat (r c.b)),st,wh⟩,bd,aw))else
  if c.op=5 then(PU (if O cells=24 then jY d else d) c).map λt=>(t,bd,aw)else
  if c.op=7 then(if O pre+1=10 then bd else U (⟨pre++[g]++[⟨c.b,0,c.args.map r++bw (((vx a c.b).map (·.regs)).getD 0-O c.args).toNat ⟨0,0⟩,c.a⟩],cells,st,wh⟩,bd,aw))else
  if c.op=8 then U (match pre.getLast? with
    |none=>⟨[],cells,1,wh⟩
    |some h=>⟨pre.dropLast++[{h with regs:=h.regs.set f.x.toNat (r c.a)}],cells,st,wh⟩,bd,aw)else
  if c.op=9 then(if(r c.a).h=1 then U (d,U (r c.a).n,aw)else bd)else
  if c.op=11 then(if(r c.a).h=1 then U (⟨pre++[g],cells,3,(r c.a).n⟩,bd,bh)else bd)else
  if c.op=12 then U (jump,bd,aw)else
  if c.op=13 then U (if(r c.a).h≠2/\(r c.a).n=0 then jump else d,bd,aw)else
  U (d,bd,bh)
def R1(r:L (WT×YU×Ys))(q:L (Ys×L Int×YU)):Prop:=∃o ok a,r=U (o,ok,a)/\match q with|none=>ok=aw|some (t,said,p)=>ok=bh/\a=t/\o=⟨said.isSome,said.getD 0,p⟩
def R2(r:L (H Int×YU×YU×Ys))(q:L (Ys×L Int×YU)):Prop:=∃l p ok a,r=U (l,p,ok,a)/\match q with|none=>ok=aw|some (t,said,pz)=>ok=bh/\a=t/\l=said.toList/\p=pz
theorem ND{R:Int}{r:H tp}(c:(O r:Int)=R){i:Int}(h:Ei R i):vx r i=U (pV r i)/\pV r i∈r:=by
 obtain⟨a,b⟩:=h;obtain⟨n,rfl⟩:=ck a;unfold pV;rw[rC V];exact⟨Z,cw _⟩
theorem uu(pre:H Ya)(f:Ya):vx (pre++[f]) (O pre:Int)=U f:=by rw[kz];simp
theorem qo(pre:H Ya)(f g:Ya):(pre++[f]).set (O pre) g=pre++[g]:=by simp
theorem mH(pre:H Ya)(f:Ya):((O (pre++[f]):Int)-1)=(O pre:Int):=by simp
theorem mul_bd{x y:Int}(a: -1000000000<=x/\x<=1000000000)(c: -1000000000<=y/\y<=1000000000): -1000000000000000000<=x*y/\x*y<=1000000000000000000:=by
 have b:(x*y).natAbs<=1000000000*1000000000:=by
  rw[Int.natAbs_mul];exact Nat.mul_le_mul V V
 omega
theorem lJ.int{n:Nat}{v:tp}(h:lJ n v)(a:v.h=1): -1000000000<=v.n/\v.n<=1000000000:=by unfold lJ at h;omega
theorem op_eq{n:Nat}{k:Int}{b c:tp}(m:1<=k/\k<=5)(g:lJ n b)(i:lJ n c):∃v,vm_op k b c=U (v,(opP k b c).isSome)/\∀w,opP k b c=U w->v=w:=by
  unfold vm_op opP Qa;by_cases a:k=5
  · rw[dT a,Z1,Z3 a];by_cases e:b=c
    · subst e;simp
    · rw[Z4 e];have:(G (b.h=c.h)&&G (b.n=c.n))=false:=by
        obtain⟨k1,p⟩:=b;obtain⟨k2,o⟩:=c;rw[cm];simp at e⊢;by_cases h:k1=k2
        · right;exact e h
        · left;exact h
      rw[this];simp
  rw[dF a,Z2,Z4 a];by_cases hi:b.h=1/\c.h=1
  · rw[show(G ((b.h:Int)≠1)||G ((c.h:Int)≠1))=aw by simp[hi.1,hi.2],Z2,Z4 (by simp[hi.1,hi.2])];have j:=g.int hi.1;have c1:=i.int hi.2;have m1:=mul_bd j c1;have fin:∀z:Int,∃v,U ((⟨1,z⟩:tp),G ((-1000000000:Int)<=z)&&G ((z:Int)<=1000000000))=U (v,(if-1000000000<=z/\z<=1000000000 then U (⟨1,z⟩:tp)else bd).isSome)/\∀w,(if-1000000000<=z/\z<=1000000000 then U (⟨1,z⟩:tp)else bd)=U w->v=w:=by
      intro z;by_cases h: -1000000000<=z/\z<=1000000000
      · rw[Z3 h,dT h.1,dT h.2];exact⟨_,Z,λw e=>by cases e;rfl⟩
      · rw[Z4 h];refine⟨⟨1,z⟩,?_,λw e=>by cases e⟩
        · congr 2;rw[jI,cm];simp only[decide_eq_false_iff_not];omega
    by_cases d:k=4
    · subst d;rw[Z3 rfl];simp only[bq,decide_false,decide_true,Z2,Z1];by_cases e:b.n<c.n<;>simp[e]
    rw[Z4 d];by_cases l:k=1
    · subst l;simp only[bq,decide_true,Z1,if_true];rw[gI V V];exact fin _
    by_cases f:k=2
    · subst f;simp only[bq,decide_true,decide_false,Z1,Z2,if_true,if_false];rw[gI V V];exact fin _
    · obtain rfl:k=3:=by omega
      simp only[bq,decide_true,decide_false,Z1,Z2,if_true,if_false];rw[gI V V];exact fin _
  · rw[show(G ((b.h:Int)≠1)||G ((c.h:Int)≠1))=bh by simp;omega,Z1,Z3 V];exact⟨_,Z,λw e=>by cases e⟩
theorem reckon_eq{n:Nat}{k:Int}{b c:tp}(m:1<=k/\k<=5)(g:lJ n b)(i:lJ n c):∃v,A8 k b c=U (v,(opP k b c).isSome)/\∀w,opP k b c=U w->v=w:=by
  unfold A8 opP;by_cases a:k=5
  · rw[dT a,Z1,Z3 a];by_cases e:b=c
    · subst e;simp
    · rw[Z4 e];have:(G (b.h=c.h)&&G (b.n=c.n))=false:=by
        obtain⟨k1,p⟩:=b;obtain⟨k2,o⟩:=c;rw[cm];simp at e⊢;by_cases h:k1=k2
        · right;exact e h
        · left;exact h
      rw[this];simp
  rw[dF a,Z2,Z4 a];by_cases hi:b.h=1/\c.h=1
  · rw[show(G ((b.h:Int)≠1)||G ((c.h:Int)≠1))=aw by simp[hi.1,hi.2],Z2,Z4 (by simp[hi.1,hi.2])];have j:=g.int hi.1;have c1:=i.int hi.2;have m1:=mul_bd j c1;have fin:∀z:Int,∃v,U ((⟨1,z⟩:tp),jq z)=U (v,(if-1000000000<=z/\z<=1000000000 then U (⟨1,z⟩:tp)else bd).isSome)/\∀w,(if-1000000000<=z/\z<=1000000000 then U (⟨1,z⟩:tp)else bd)=U w->v=w:=by
      intro z;unfold jq aN;by_cases h: -1000000000<=z/\z<=1000000000
      · rw[Z3 h,dT h.1,dT h.2];exact⟨_,Z,λw e=>by cases e;rfl⟩
      · rw[Z4 h];refine⟨⟨1,z⟩,?_,λw e=>by cases e⟩
        · congr 2;rw[jI,cm];simp only[decide_eq_false_iff_not];omega
    by_cases d:k=4
    · subst d;rw[Z3 rfl];simp only[bq,decide_false,decide_true,Z2,Z1];by_cases e:b.n<c.n<;>simp[e]
    rw[Z4 d,dF d,Z2,gI V V,gI V V,gI V V];by_cases l:k=1
    · subst l;exact fin _
    by_cases f:k=2
    · subst f;exact fin _
    · obtain rfl:k=3:=by omega
      exact fin _
  · rw[show(G ((b.h:Int)≠1)||G ((c.h:Int)≠1))=bh by simp;omega,Z1,Z3 V];exact⟨_,Z,λw e=>by cases e⟩
section
variable{a:H bM}{f:Ya}
theorem wG{n:Nat}:∀{l:H Ya} {t:Int},qL a n t (l++[f])↔qL a n t l/\(∃x,Pj a n f x)/\(0<=f.x/\f.x<(match l.getLast? with|none=>t|some g=>O g.regs))
 |[],t=>by simp[qL]
 |g::l,t=>by
  show((∃x,Pj a n g x)/\(0<=g.x/\g.x<t)/\qL a n (O g.regs) (l++[f]))↔_;rw[wG (l:=l)];have e:(match (g::l).getLast? with|none=>t|some g=>(O g.regs:Int))=(match l.getLast? with|none=>((O g.regs:Int))|some g=>(O g.regs:Int)):=by
   rw[List.getLast?_cons];cases l.getLast?<;>rfl
  rw[e];simp only[qL,and_assoc]
structure uh(a:List bM)(pre:List Ya)(f:Ya)(cells:List (List tp))(x0:bM)(c:An):Prop where
 fr:Pj a cells.length f x0
 ins:vx x0.C f.at_=U c
 good:Tk a x0.regs x0.C.length c
 chain:qL a cells.length 1 pre
 x:0<=f.x/\f.x<ahead pre
 many:pre.length+1<=10
 cok:wz cells
 F:(1<=x0.regs/\x0.regs<=40)/\wy x0
variable{pre:H Ya}{cells:H (H tp)}{st wh:Int}
theorem top_ok(e:oW a)(h:Au a ⟨pre++[f],cells,st,wh⟩):∃x c,uh a pre f cells x c:=by
 obtain⟨i,⟨x,g⟩,j⟩:=wG.1 h.i;have d:=e.mem g.F;have D2:=g.at_;obtain⟨n,hn⟩:=ck D2.1;have b:n<O x.C:=by omega
 refine⟨x,x.C[n],g,by rw[hn,rC b],e.ins x d.1 _<|cw _,i,j,?_,h.j,⟨by omega,d.2.2.2⟩⟩;have:=h.many;simpa using this
variable{x:bM}{c:An}
theorem uh.Tm(h:uh a pre f cells x c):Pj a (O cells) (Tm f x) x where
 F:=h.fr.F
 at_:=by
  have:=h.fr.at_;have:=h.F.2;unfold wy at this;simp only[YteijalgmijkphaaGreatDoor.Tm];omega
 regs:=h.fr.regs
 vals:=h.fr.vals
theorem uh.reg(h:uh a pre f cells x c){i:Int}(hi:Ei x.regs i):vx f.regs i=U (pV f.regs i)/\lJ (O cells) (pV f.regs i):=by
 have:=ND h.fr.regs hi;exact⟨this.1,h.fr.vals _ this.2⟩
theorem uh.sw(ha:oW a)(h:uh a pre f cells x c){g:Ya}(hg:Pj a (O cells) g x):SwOk ⟨pre++[g],cells,st,wh⟩ where
  small:=⟨by have:=h.many;simp;omega,λk hk=>by
    rcases dq.1 hk with hk|hk
    · obtain⟨y,hy⟩:=DW h.chain k hk;have:=hy.regs;have:=(ha.mem hy.F).2.2.1;omega
    · simp at hk;subst hk;have:=hg.regs;have:=h.F.1;omega,h.cok.1,λc hc=>(h.cok.2 c hc).1.2⟩
  j:=h.cok
  vals k hk:=by
    rcases dq.1 hk with hk|hk
    · obtain⟨y,hy⟩:=DW h.chain k hk;exact hy.vals
    · simp at hk;subst hk;exact hg.vals
end
section
variable{a:H bM}{pre:H Ya}{f:Ya}{cells:H (H tp)}{st wh:Int}{x:bM}{c:An}{N:Nat}
theorem G7(h:uh a pre f cells x c):AL N ⟨pre++[f],cells,st,wh⟩ a=(bif G ((c.op:Int)=1)then Option.bind (vx f.regs c.a) λk=>vD aw (pre++[{Tm f x with regs:=(f.regs.set (c.a).toNat (⟨1,c.b⟩:tp))}]) cells st wh else bif G ((c.op:Int)=2)then Option.bind (vx f.regs c.b) λl=>ao (vx f.regs c.a) λm=>vD aw (pre++[{Tm f x with regs:=(f.regs.set (c.a).toNat l)}]) cells st wh else bif G ((c.op:Int)=3)then Option.bind (vx c.args 0) λj=>ao (vx f.regs c.b) λe=>ao (vx f.regs c.c) λg=>ao (vm_op j e g) λd=>ao (vx f.regs c.a) λi=>RL ⟨pre++[f],cells,st,wh⟩ d.2 (pre++[{Tm f x with regs:=(f.regs.set (c.a).toNat d.1)}])else bif G ((c.op:Int)=4)then qy N ⟨pre++[f],cells,st,wh⟩ f x c a (G ((c.op:Int)=4))else qy N ⟨pre++[f],cells,st,wh⟩ f x c a (G ((c.op:Int)=6))):=by
 have n:=h.many;have D2:=h.fr.at_;have hl:=h.F.2;unfold wy at hl;unfold AL;simp only[mH];rw[gI V V,uu,vt,h.fr.F,vt,h.ins,vt,gI V V,gI V V];simp only[ba,qo];rfl
theorem step1(h:uh a pre f cells x c)(b:c.op=1)(d:Ei x.regs c.a):R1 (AL N ⟨pre++[f],cells,st,wh⟩ a) (mM a pre f cells st wh x c):=by
 rw[G7 h,b];simp only[bq,decide_true,decide_false,Z1,Z2];rw[(h.reg d).1,vt];unfold mM;simp only[b,if_true];exact⟨_,_,_,Z,Z,Z,Z⟩
theorem step2(h:uh a pre f cells x c)(d:c.op=2)(e:Ei x.regs c.a)(g:Ei x.regs c.b):R1 (AL N ⟨pre++[f],cells,st,wh⟩ a) (mM a pre f cells st wh x c):=by
 rw[G7 h,d];simp only[bq,decide_true,decide_false,Z1,Z2];rw[(h.reg g).1,vt,(h.reg e).1,vt];unfold mM;simp only[d,bq,if_true,if_false];exact⟨_,_,_,Z,Z,Z,Z⟩
theorem step3(h:uh a pre f cells x c)(d:c.op=3)(l:Ei x.regs c.a)(i:Ei x.regs c.b)(j:Ei x.regs c.c){n:Int}(hn:c.args=[n])(g:1<=n/\n<=5):R1 (AL N ⟨pre++[f],cells,st,wh⟩ a) (mM a pre f cells st wh x c):=by
 rw[G7 h,d,hn];simp only[bq,decide_true,decide_false,Z1,Z2];obtain⟨v,m,k⟩:=op_eq g (h.reg i).2 (h.reg j).2;rw[QS,vt,(h.reg i).1,vt,(h.reg j).1,vt,m,vt,(h.reg l).1,vt];unfold mM RL;simp only[d,hn,bq,if_true,if_false,tl];cases e:opP n (pV f.regs c.b) (pV f.regs c.c)with
 |none=>exact⟨_,_,_,rfl,rfl⟩
 |some w=>rw[k w e];exact⟨_,_,_,Z,Z,Z,Z⟩
theorem Fi{v:tp}(c:wz cells)(h:lJ (O cells) v)(b:v.h=2):vx cells v.n=U (A6 cells v.n)/\(1<=O (A6 cells v.n)/\O (A6 cells v.n)<=4):=by
 have a:=h.ref b;exact⟨(IK a).1,(c.at a).1⟩
theorem HW{v:tp}{i:Int}(hi:0<=i)(h:i<(O (A6 cells v.n):Int)):vx (A6 cells v.n) i=U (pV (A6 cells v.n) i):=(ND Z ⟨hi,h⟩).1
theorem field_get(h:uh a pre f cells x c)(e:c.op=4)(l:Ei x.regs c.a)(j:Ei x.regs c.b)(k:0<=c.c/\c.c<4):R1 (AL N ⟨pre++[f],cells,st,wh⟩ a) (mM a pre f cells st wh x c):=by
  rw[G7 h,e];simp only[bq,decide_true,decide_false,Z1,Z2];unfold qy ZT JB JA;simp only[mH,ba,qo,e,bq,decide_true,decide_false,Z1,Z2];have i:=h.reg j;rw[i.1];simp only[vt];unfold mM;simp only[e,bq,if_true,if_false];by_cases g:(pV f.regs c.b).h=2
  · have d:=Fi h.cok i.2 g;rw[dF V,Z2,d.1];simp only[vt];by_cases hl:(O (A6 cells (pV f.regs c.b).n):Int)<=c.c
    · rw[dT hl,Z1,Z3 V];exact⟨_,_,_,Z,Z⟩
    · rw[dF hl,Z2,Z4 V,HW k.1 V,vt,(h.reg l).1,vt];exact⟨_,_,_,Z,Z,Z,Z⟩
  · rw[dT g,Z1,Z3 (.inl g)];exact⟨_,_,_,Z,Z⟩
theorem field_put(h:uh a pre f cells x c)(e:c.op=6)(l:Ei x.regs c.a)(j:Ei x.regs c.b)(k:0<=c.c/\c.c<4):R1 (AL N ⟨pre++[f],cells,st,wh⟩ a) (mM a pre f cells st wh x c):=by
  rw[G7 h,e];simp only[bq,decide_true,decide_false,Z1,Z2];unfold qy ZT JB JA;simp only[mH,ba,qo,e,bq,decide_true,decide_false,Z1,Z2];have i:=h.reg l;rw[i.1];simp only[vt];unfold mM;simp only[e,bq,if_true,if_false];by_cases g:(pV f.regs c.a).h=2
  · have d:=Fi h.cok i.2 g;rw[dF V,Z2,d.1];simp only[vt];by_cases hl:(O (A6 cells (pV f.regs c.a).n):Int)<=c.c
    · rw[dT hl,Z1,Z3 V];exact⟨_,_,_,Z,Z⟩
    · rw[dF hl,Z2,Z4 V,(h.reg j).1,vt,HW k.1 V,vt];exact⟨_,_,_,Z,Z,Z,Z⟩
  · rw[dT g,Z1,Z3 (.inl g)];exact⟨_,_,_,Z,Z⟩
theorem G1(g:Ya):jY ⟨pre++[g],cells,st,wh⟩=⟨pre.map (Pm (mK ⟨pre++[g],cells,st,wh⟩))++[Pm (mK ⟨pre++[g],cells,st,wh⟩) g],(jY ⟨pre++[g],cells,st,wh⟩).j,st,wh⟩:=by
 unfold jY;simp
theorem Q2{s:Ys}(h:SwOk s):O (jY s).j<=O s.j/\O (jY s).j<=24:=by
 have a:=h.reach.1.len;have:=h.j.1;unfold jY;simp;omega
theorem fresh_j1(d:H Ya)(g:Ya)(cs:H (H tp))(hl:O d<=20)(f:O cs<=24)(e:Ei (O g.regs) c.a)(i:1<=c.b/\c.b<=4):∃ok t,CO c (d++[g]) cs st wh=U (ok,t)/\match PU ⟨d++[g],cs,st,wh⟩ c with|none=>ok=aw|some u=>ok=bh/\t=u:=by
  unfold CO PU;simp only[mH];by_cases h:O cs=24
  · rw[dT V,Z1,Z3 h];exact⟨_,_,Z,Z⟩
  · rw[dF V,Z2,Z4 h,gI V V,uu,vt,(ND rfl e).1,vt,gH V,gH (A5 (by simp;omega) tS),ba,qo];refine⟨_,_,Z,Z,?_⟩;simp
theorem step5(n:oW a)(hN:100<=N)(h:uh a pre f cells x c)(g:c.op=5)(p:Ei x.regs c.a)(m:1<=c.b/\c.b<=4):R1 (AL N ⟨pre++[f],cells,st,wh⟩ a) (mM a pre f cells st wh x c):=by
  rw[G7 h,g];simp only[bq,decide_true,decide_false,Z1,Z2];unfold qy My;simp only[mH,ba,qo,g,bq,decide_true,decide_false,Z1,Z2];unfold mM;simp only[g,bq,if_true,if_false];have r:=h.many;have i:=uh.sw n h (st:=st) (wh:=wh) h.Tm;have k:Ei (O (Tm f x).regs) c.a:=by have:=h.Tm.regs;rw[this];exact p
  have fin:∀d:Ys,(∃ok t,CO c d.i d.j d.q d.bC=U (ok,t)/\match PU d c with|none=>ok=aw|some u=>ok=bh/\t=u)->
      R1 (ao (CO c d.i d.j d.q d.bC) λy=>U ((⟨aw,0,aw⟩:WT),y.1,y.2)) ((PU d c).map λt=>(t,bd,aw)):=by
    rintro d⟨ok,t,q,j⟩;rw[q,vt];cases e:PU d c with
    |none=>rw[e]at j;exact⟨_,_,_,Z,j⟩
    |some u=>rw[e]at j;exact⟨_,_,_,Z,j.1,j.2,Z⟩
  by_cases l:O cells=24
  · rw[dT V,Z1,Z3 l];have o:({f with at_:=min (f.at_+1) ((O x.C:Int)-1)}:Ya)=Tm f x:=rfl;rw[o,N5 hN i,vt];refine fin _ ?_;rw[G1];exact fresh_j1 _ _ _ (by simp;omega) (Q2 i).2 (by simpa[Pm]using k) m
  · rw[dF V,Z2,Z4 l];exact fin ⟨pre++[Tm f x],cells,st,wh⟩<|fresh_j1 _ _ _ V h.cok.1 k m
theorem GS{ρ:Type}{body:Int->Int->H tp->(H tp->L ρ)->L ρ}{K:H tp->L ρ}{r:Int->tp}{P:Int->Prop}
  (b:∀(i:Nat) k y nx,i<O y->P k->body (i:Int) k y nx=nx (y.set i (r k))):∀(l:H Int) (a rest:H tp),(∀k∈l,P k)->O l<=O rest->ic body K (O a:Int) l (a++rest)=K (a++l.map r++rest.drop (O l))
 |[],a,rest,_,_=>by simp[ic]
 |k::l,a,z::rest,h,hl=>by
  rw[Ay,b (O a) k (a++z::rest) _ C7 (h k C7),show(a++z::rest).set (O a) (r k)=(a++[r k])++rest by simp,show((O a:Int)+1)=(O (a++[r k]):Nat) by simp,GS b l (a++[r k]) rest (λq c=>h q (bo _ c)) (by simpa using hl)];simp
 |k::l,a,[],h,hl=>by simp at hl
theorem step7(m:oW a)(h:uh a pre f cells x c)(j:c.op=7)(v:Ei x.regs c.a){p:bM}(J:vx a c.b=U p)(hl:(O c.args:Int)=p.params)(e:∀k∈c.args,Ei x.regs k):R1 (AL N ⟨pre++[f],cells,st,wh⟩ a) (mM a pre f cells st wh x c):=by
  rw[G7 h,j];simp only[bq,decide_true,decide_false,Z1,Z2];unfold qy XY;simp only[mH,ba,qo,j,bq,decide_true,decide_false,Z1,Z2];unfold mM;simp only[j,bq,if_true,if_false];have w:=h.many;have t:=m.mem J;by_cases l:O pre+1=10
  · rw[dT (by simp;omega),Z1,Z3 l];exact⟨_,_,_,Z,Z⟩
  · rw[dF (by simp;omega),Z2,Z4 l,J,vt,gH V];have g:=GS (K:=RJ ⟨pre++[Tm f x],cells,st,wh⟩ c a) (body:=RI ⟨pre++[Tm f x],cells,st,wh⟩) (r:=pV f.regs) (P:=λk=>Ei x.regs k) (λi k y q hi n=>by
      unfold RI;simp only[mH];rw[gI V V,uu,vt];show(ao (vx f.regs k) λs=>ao (vx y (i:Int)) λu=>q<|y.set ((i:Int)).toNat s)=_;rw[(h.reg n).1,vt,rC hi,vt,ba]) c.args [] (bw p.regs.toNat ⟨0,0⟩) e (by simp;omega)
    have d:ic (RI ⟨pre++[Tm f x],cells,st,wh⟩) (RJ ⟨pre++[Tm f x],cells,st,wh⟩ c a) 0 c.args (bw p.regs.toNat ⟨0,0⟩)=_:=g;have o:({f with at_:=min (f.at_+1) ((O x.C:Int)-1)}:Ya)=Tm f x:=rfl;rw[o,d];unfold RJ;simp only;rw[gH (A5 (by simp;omega) tS),vt];refine⟨_,_,_,Z,Z,?_,Z⟩;simp only[cc,wx,J,dt,fR];rw[show p.regs.toNat-O c.args=(p.regs-(O c.args:Int)).toNat by omega]
theorem step8(j:oW a)(h:uh a pre f cells x c)(b:c.op=8)(i:Ei x.regs c.a):R1 (AL N ⟨pre++[f],cells,st,wh⟩ a) (mM a pre f cells st wh x c):=by
  rw[G7 h,b];simp only[bq,decide_true,decide_false,Z1,Z2];unfold qy vm_back;simp only[mH,ba,qo,b,bq,decide_true,decide_false,Z1,Z2];unfold mM;simp only[b,bq,if_true,if_false];have e:=h.many;rw[(h.reg i).1,vt,gI V V];rw[show sub? (pre++[({f with at_:=min (f.at_+1) ((O x.C:Int)-1)}:Ya)]) 0 (O pre:Int)=U pre by unfold sub?;rw[Z3 (by simp;omega)];simp[cut],vt];rw[show(pre++[({f with at_:=min (f.at_+1) ((O x.C:Int)-1)}:Ya)]).take (O pre)=pre by simp];rcases lp pre with J|⟨q,g,J⟩
  · subst J;exact⟨_,_,_,Z,Z,Z,Z⟩
  · rw[lr]at J;subst J;have d:=h.x;rw[Sc]at d;simp only[bm,br,eR]at e;rw[dF (by simp;omega),Z2,mH,gI V V,uu,vt,(ND Z d).1,vt,ba,qo,vt];simp only[ft,eY,iG,iS];exact⟨_,_,_,Z,Z,Z,Z⟩
theorem QY(h:uh a pre f cells x c)(b:(c.op=9\/c.op=11\/c.op=13)/\Ei x.regs c.a\/c.op=10\/c.op=12):R1 (AL N ⟨pre++[f],cells,st,wh⟩ a) (mM a pre f cells st wh x c):=by
  rw[G7 h];rcases b with⟨b|b|b,hr⟩|b|b
  · rw[b];simp only[bq,decide_true,decide_false,Z1,Z2];unfold qy;simp only[mH,ba,qo,b,bq,decide_true,decide_false,Z1,Z2];unfold mM;simp only[b,bq,if_true,if_false];rw[(h.reg hr).1,vt];by_cases d:(pV f.regs c.a).h=1
    · rw[dT d,Z3 d];exact⟨_,_,_,Z,Z,Z,Z⟩
    · rw[dF d,Z4 d];exact⟨_,_,_,Z,Z⟩
  · rw[b];simp only[bq,decide_true,decide_false,Z1,Z2];unfold qy;simp only[mH,ba,qo,b,bq,decide_true,decide_false,Z1,Z2];unfold mM;simp only[b,bq,if_true,if_false];rw[(h.reg hr).1,vt];by_cases d:(pV f.regs c.a).h=1
    · rw[dF V,Z2,Z3 d];exact⟨_,_,_,Z,Z,Z,Z⟩
    · rw[dT d,Z1,Z4 d];exact⟨_,_,_,Z,Z⟩
  · rw[b];simp only[bq,decide_true,decide_false,Z1,Z2];unfold qy;simp only[mH,ba,qo,b,bq,decide_true,decide_false,Z1,Z2];unfold mM;simp only[b,bq,if_true,if_false];have g:=h.reg hr;rw[g.1,vt];have e:=g.2;unfold lJ at e;by_cases d:(pV f.regs c.a).h≠2/\(pV f.regs c.a).n=0
    · rw[Z3 d,show(G ((pV f.regs c.a).h=0)||(G ((pV f.regs c.a).h=1)&&G ((pV f.regs c.a).n=0)))=bh by simp;omega,Z1];exact⟨_,_,_,Z,Z,Z,Z⟩
    · rw[Z4 d,show(G ((pV f.regs c.a).h=0)||(G ((pV f.regs c.a).h=1)&&G ((pV f.regs c.a).n=0)))=aw by rw[cV,cm];simp only[decide_eq_false_iff_not];omega,Z2];exact⟨_,_,_,Z,Z,Z,Z⟩
  · rw[b];simp only[bq,decide_true,decide_false,Z1,Z2];unfold qy;simp only[mH,ba,qo,b,bq,decide_true,decide_false,Z1,Z2];unfold mM;simp only[b,bq,if_true,if_false];exact⟨_,_,_,Z,Z,Z,Z⟩
  · rw[b];simp only[bq,decide_true,decide_false,Z1,Z2];unfold qy;simp only[mH,ba,qo,b,bq,decide_true,decide_false,Z1,Z2];unfold mM;simp only[b,bq,if_true,if_false];exact⟨_,_,_,Z,Z,Z,Z⟩
theorem vm_step_ok(e:oW a)(hN:100<=N)(h:uh a pre f cells x c):R1 (AL N ⟨pre++[f],cells,st,wh⟩ a) (mM a pre f cells st wh x c):=by
  rcases h.good with g|g|g|g|g|g|g|g|g|g
  · exact step1 h g.1 g.2.1
  · exact step2 h g.1 g.2.1 g.2.2
  · obtain⟨g1,g2,d,b,n,i,j,k⟩:=g;exact step3 h g1 g2 d b i ⟨j,k⟩
  · obtain⟨g1|g1,g2,d,b⟩:=g
    · exact field_get h g1 g2 d b
    · exact field_put h g1 g2 d b
  · exact step5 e hN h g.1 g.2.1 g.2.2
  · obtain⟨g1,g2,⟨p,d,b⟩,i⟩:=g;exact step7 e h g1 g2 d b i
  · obtain⟨g1|g1|g1,g2⟩:=g
    · exact step8 e h g1 g2
    · exact QY h<|.inl ⟨.inl g1,g2⟩
    · exact QY h<|.inl ⟨.inr<|.inl g1,g2⟩
  · exact QY h<|.inr<|.inl g
  · exact QY h<|.inr<|.inr g.1
  · exact QY h<|.inl ⟨.inr<|.inr g.1,g.2.1⟩
end
open Go Go.Proofs Go.LX
section
variable{a:H bM}{pre:H Ya}{f:Ya}{cells:H (H tp)}{st wh:Int}{x:bM}{c:An}{N:Nat}
theorem yR(h:uh a pre f cells x c):iF N ⟨pre++[f],cells,st,wh⟩ a=eZ N ⟨pre++[f],cells,st,wh⟩ c a (pre++[Tm f x]):=by
  have d:=h.many;have D2:=h.fr.at_;have hl:=h.F.2;unfold wy at hl;unfold iF;simp only[mH];rw[gI V V,uu,vt,h.fr.F,vt,h.ins,vt,gI V V];by_cases b:f.at_<(O x.C:Int)-1
  · rw[dT b,Z1,gI V V,ba,qo];have e:Tm f x={f with at_:=f.at_+1}:=by unfold Tm;rw[show min (f.at_+1) ((O x.C:Int)-1)=f.at_+1 by omega]
    rw[e]
  · rw[dF b,Z2];have e:Tm f x=f:=by unfold Tm;rw[show min (f.at_+1) ((O x.C:Int)-1)=f.at_ by omega]
    rw[e]
theorem U0(h:uh a pre f cells x c){i:Int}(hi:Ei x.regs i):vx (Tm f x).regs i=U (pV f.regs i):=(h.reg hi).1
theorem ref1(h:uh a pre f cells x c)(b:c.op=1)(d:Ei x.regs c.a):R2 (iF N ⟨pre++[f],cells,st,wh⟩ a) (mM a pre f cells st wh x c):=by
 rw[yR h];unfold eZ mM;simp only[b,bq,decide_true,decide_false,Z1,Z2,if_true,if_false,mH,uu,vt,U0 h d,ba,qo];exact⟨_,_,_,_,Z,Z,Z,Z,Z⟩
theorem ref2(h:uh a pre f cells x c)(d:c.op=2)(e:Ei x.regs c.a)(g:Ei x.regs c.b):R2 (iF N ⟨pre++[f],cells,st,wh⟩ a) (mM a pre f cells st wh x c):=by
 rw[yR h];unfold eZ mM;simp only[d,bq,decide_true,decide_false,Z1,Z2,if_true,if_false,mH,uu,vt,U0 h e,U0 h g,ba,qo];exact⟨_,_,_,_,Z,Z,Z,Z,Z⟩
theorem ref3(h:uh a pre f cells x c)(g:c.op=3)(l:Ei x.regs c.a)(i:Ei x.regs c.b)(j:Ei x.regs c.c){n:Int}(hn:c.args=[n])(d:1<=n/\n<=5):R2 (iF N ⟨pre++[f],cells,st,wh⟩ a) (mM a pre f cells st wh x c):=by
 rw[yR h];obtain⟨v,m,k⟩:=reckon_eq d (h.reg i).2 (h.reg j).2;unfold eZ mM Ah;simp only[g,hn,bq,decide_true,decide_false,Z1,Z2,if_true,if_false,mH,uu,vt,U0 h l,U0 h i,U0 h j,ba,qo,QS,m,tl];cases e:opP n (pV f.regs c.b) (pV f.regs c.c)with
 |none=>exact⟨_,_,_,_,rfl,rfl⟩
 |some w=>rw[k w e];exact⟨_,_,_,_,Z,Z,Z,Z,Z⟩
theorem Tl{α:Type}{l:H α}(h:1<=O l):l≠[]:=λe=>by subst e;simp at h
theorem ref4(h:uh a pre f cells x c)(g:c.op=4)(l:Ei x.regs c.a)(i:Ei x.regs c.b)(k:0<=c.c/\c.c<4):R2 (iF N ⟨pre++[f],cells,st,wh⟩ a) (mM a pre f cells st wh x c):=by
  rw[yR h];have j:=h.reg i;unfold eZ mM vo;simp only[g,bq,decide_true,decide_false,Z1,Z2,if_true,if_false,mH,uu,vt,U0 h l,U0 h i,ba,qo];by_cases e:(pV f.regs c.b).h=2
  · have d:=Fi h.cok j.2 e;rw[dF V,Z2,d.1];simp only[vt];by_cases hl:(O (A6 cells (pV f.regs c.b).n):Int)<=c.c
    · rw[dT hl,Z1,Z3 V];exact⟨_,_,_,_,Z,Z⟩
    · rw[dF hl,Z2,Z4 V,gH (Tl d.2.1),HW k.1 V,vt];exact⟨_,_,_,_,Z,Z,Z,Z,Z⟩
  · rw[dT e,Z1,Z3 (.inl e)];exact⟨_,_,_,_,Z,Z⟩
theorem ref6(h:uh a pre f cells x c)(g:c.op=6)(i:Ei x.regs c.a)(j:Ei x.regs c.b)(l:0<=c.c/\c.c<4):R2 (iF N ⟨pre++[f],cells,st,wh⟩ a) (mM a pre f cells st wh x c):=by
  rw[yR h];have k:=h.reg i;unfold eZ mM vv;simp only[g,bq,decide_true,decide_false,Z1,Z2,if_true,if_false,mH,uu,vt,U0 h i,U0 h j,ba,qo];by_cases e:(pV f.regs c.a).h=2
  · have d:=Fi h.cok k.2 e;rw[dF V,Z2,d.1];simp only[vt];by_cases hl:(O (A6 cells (pV f.regs c.a).n):Int)<=c.c
    · rw[dT hl,Z1,Z3 V];exact⟨_,_,_,_,Z,Z⟩
    · rw[dF hl,Z2,Z4 V,gH (Tl d.2.1),HW l.1 V,vt];exact⟨_,_,_,_,Z,Z,Z,Z,Z⟩
  · rw[dT e,Z1,Z3 (.inl e)];exact⟨_,_,_,_,Z,Z⟩
theorem ref_j30(d:H Ya)(g:Ya)(cs:H (H tp))(hl:O d<=20)(f:O cs<=24)(e:Ei (O g.regs) c.a)(i:1<=c.b/\c.b<=4):R2 (qI c a (d++[g]) cs st wh) ((PU ⟨d++[g],cs,st,wh⟩ c).map λt=>(t,bd,aw)):=by
  unfold qI PU;simp only[mH];by_cases h:O cs=24
  · rw[dT V,Z1,Z3 h];exact⟨_,_,_,_,Z,Z⟩
  · rw[dF V,Z2,Z4 h,gI V V,uu,vt,(ND rfl e).1,vt,gH V,gH (A5 (by simp;omega) tS),ba,qo];refine⟨_,_,_,_,Z,Z,?_,Z,Z⟩;simp
theorem ref5(l:oW a)(hN:100<=N)(h:uh a pre f cells x c)(i:c.op=5)(k:Ei x.regs c.a)(j:1<=c.b/\c.b<=4):R2 (iF N ⟨pre++[f],cells,st,wh⟩ a) (mM a pre f cells st wh x c):=by
  rw[yR h];unfold eZ mM;simp only[i,bq,decide_true,decide_false,Z1,Z2,if_true,if_false,mH,uu,vt,U0 h k];have m:=h.many;have d:=uh.sw l h (st:=st) (wh:=wh) h.Tm;have e:Ei (O (Tm f x).regs) c.a:=by have:=h.Tm.regs;rw[this];exact k
  by_cases g:O cells=24
  · rw[dT V,Z1,Z3 g,Iw hN d,vt,G1];exact ref_j30 _ _ _ (by simp;omega) (Q2 d).2 (by simpa[Pm]using e) j
  · rw[dF V,Z2,Z4 g];exact ref_j30 _ _ _ V h.cok.1 e j
theorem ref7(m:oW a)(h:uh a pre f cells x c)(l:c.op=7)(o:Ei x.regs c.a){p:bM}(J:vx a c.b=U p)(hl:(O c.args:Int)=p.params)(e:∀k∈c.args,Ei x.regs k):R2 (iF N ⟨pre++[f],cells,st,wh⟩ a) (mM a pre f cells st wh x c):=by
  rw[yR h];unfold eZ mM;simp only[l,bq,decide_true,decide_false,Z1,Z2,if_true,if_false,mH,uu,vt,U0 h o];have t:=h.many;have q:=m.mem J;by_cases j:O pre+1=10
  · rw[dT (by simp;omega),Z1,Z3 j];exact⟨_,_,_,_,Z,Z⟩
  · rw[dF (by simp;omega),Z2,Z4 j,J,vt,gH V];have g:=GS (K:=vz (pre++[Tm f x]) c a ⟨pre++[f],cells,st,wh⟩) (body:=vw (Tm f x)) (r:=pV f.regs) (P:=λk=>Ei x.regs k) (λi k y s hi n=>by
      unfold vw;rw[U0 h n,vt,rC hi,vt,ba]) c.args [] (bw p.regs.toNat ⟨0,0⟩) e (by simp;omega)
    have d:ic (vw<|Tm f x) (vz (pre++[Tm f x]) c a ⟨pre++[f],cells,st,wh⟩) 0 c.args (bw p.regs.toNat ⟨0,0⟩)=_:=g;rw[d];unfold vz;rw[gH (A5 (by simp;omega) tS)];refine⟨_,_,_,_,Z,Z,?_,Z,Z⟩;simp only[cc,wx,J,dt,fR];rw[show p.regs.toNat-O c.args=(p.regs-(O c.args:Int)).toNat by omega]
theorem ref8(k:oW a)(h:uh a pre f cells x c)(d:c.op=8)(j:Ei x.regs c.a):R2 (iF N ⟨pre++[f],cells,st,wh⟩ a) (mM a pre f cells st wh x c):=by
  rw[yR h];unfold eZ mM;simp only[d,bq,decide_true,decide_false,Z1,Z2,if_true,if_false,mH,uu,vt,U0 h j,ba];have i:=h.many;rw[gI V V];rw[show sub? (pre++[Tm f x]) 0 (O pre:Int)=U pre by unfold sub?;rw[Z3 (by simp;omega)];simp[cut],vt];rw[show(pre++[Tm f x]).take (O pre)=pre by simp];have e:(Tm f x).x=f.x:=rfl;rcases lp pre with J|⟨q,g,J⟩
  · subst J;exact⟨_,_,_,_,Z,Z,Z,Z,Z⟩
  · rw[lr]at J;subst J;have b:=h.x;rw[Sc]at b;simp only[bm,br,eR]at i;rw[dF (by simp;omega),Z2,mH,gI V V,uu,vt,e,(ND Z b).1,vt,ba,qo];simp only[ft,eY,iG,iS];exact⟨_,_,_,_,Z,Z,Z,Z,Z⟩
theorem U1(h:uh a pre f cells x c)(b:(c.op=9\/c.op=11\/c.op=13)/\Ei x.regs c.a\/c.op=10\/c.op=12):R2 (iF N ⟨pre++[f],cells,st,wh⟩ a) (mM a pre f cells st wh x c):=by
  rw[yR h];rcases b with⟨b|b|b,hr⟩|b|b
  · unfold eZ mM kE;simp only[b,bq,decide_true,decide_false,Z1,Z2,if_true,if_false,mH,uu,vt,U0 h hr,ba,qo];by_cases d:(pV f.regs c.a).h=1
    · rw[dF V,Z2,Z3 d];exact⟨_,_,_,_,Z,Z,Z,Z,Z⟩
    · rw[dT d,Z1,Z4 d];exact⟨_,_,_,_,Z,Z⟩
  · unfold eZ mM kE;simp only[b,bq,decide_true,decide_false,Z1,Z2,if_true,if_false,mH,uu,vt,U0 h hr,ba,qo];by_cases d:(pV f.regs c.a).h=1
    · rw[dF V,Z2,Z3 d];exact⟨_,_,_,_,Z,Z,Z,Z,Z⟩
    · rw[dT d,Z1,Z4 d];exact⟨_,_,_,_,Z,Z⟩
  · unfold eZ mM kE;simp only[b,bq,decide_true,decide_false,Z1,Z2,if_true,if_false,mH,uu,vt,U0 h hr,ba,qo];by_cases d:(pV f.regs c.a).h≠2/\(pV f.regs c.a).n=0
    · rw[Z3 d,dT d.1,dT d.2,gw,Z1];exact⟨_,_,_,_,Z,Z,Z,Z,Z⟩
    · rw[Z4 d,show(G ((pV f.regs c.a).h≠2)&&G ((pV f.regs c.a).n=0))=aw by rw[cm];simp only[decide_eq_false_iff_not];omega,Z2];exact⟨_,_,_,_,Z,Z,Z,Z,Z⟩
  · unfold eZ mM kE;simp only[b,bq,decide_true,decide_false,Z1,Z2,if_true,if_false,mH,uu,vt];exact⟨_,_,_,_,Z,Z,Z,Z,Z⟩
  · unfold eZ mM kE;simp only[b,bq,decide_true,decide_false,Z1,Z2,if_true,if_false,mH,uu,vt,ba,qo];exact⟨_,_,_,_,Z,Z,Z,Z,Z⟩
theorem stepped_ok(e:oW a)(hN:100<=N)(h:uh a pre f cells x c):R2 (iF N ⟨pre++[f],cells,st,wh⟩ a) (mM a pre f cells st wh x c):=by
  rcases h.good with g|g|g|g|g|g|g|g|g|g
  · exact ref1 h g.1 g.2.1
  · exact ref2 h g.1 g.2.1 g.2.2
  · obtain⟨g1,g2,d,b,n,i,j,k⟩:=g;exact ref3 h g1 g2 d b i ⟨j,k⟩
  · obtain⟨g1|g1,g2,d,b⟩:=g
    · exact ref4 h g1 g2 d b
    · exact ref6 h g1 g2 d b
  · exact ref5 e hN h g.1 g.2.1 g.2.2
  · obtain⟨g1,g2,⟨p,d,b⟩,i⟩:=g;exact ref7 e h g1 g2 d b i
  · obtain⟨g1|g1|g1,g2⟩:=g
    · exact ref8 e h g1 g2
    · exact U1 h<|.inl ⟨.inl g1,g2⟩
    · exact U1 h<|.inl ⟨.inr<|.inl g1,g2⟩
  · exact U1 h<|.inr<|.inl g
  · exact U1 h<|.inr<|.inr g.1
  · exact U1 h<|.inl ⟨.inr<|.inr g.1,g.2.1⟩
end
open Go Go.Proofs Go.LX
section
variable{v:tp}
theorem lJ.up{n m:Nat}(h:lJ n v)(a:n<=m):lJ m v:=by unfold lJ at*;omega
variable{a:H bM}{f:Ya}{x:bM}
theorem Pj.up{n m:Nat}(h:Pj a n f x)(b:n<=m):Pj a m f x:=⟨h.F,h.at_,h.regs,λv c=>(h.vals v c).up b⟩
theorem U2{n m:Nat}(b:n<=m):∀{l:H Ya} {t:Int},qL a n t l->qL a m t l
 |[],_,_=>trivial
 |f::l,t,h=>by obtain⟨⟨x,g⟩,c,d⟩:=h;exact⟨⟨x,g.up b⟩,c,U2 b d⟩
variable{n:Nat}{l:H Int}
theorem ren_ok(h:lJ n v)(b:v.h=2->v.n∈l):lJ (O l) (ren l v):=by
  unfold ren;by_cases a:v.h=2
  · rw[Z3 a];have:=fY<|b a;unfold lJ;simp only;omega
  · rw[Z4 a];unfold lJ at*;omega
theorem Pj.ren(h:Pj a n f x)(hr:uf f.regs l):Pj a (O l) (Pm l f) x where
 F:=h.F
 at_:=h.at_
 regs:=by unfold Pm;simpa using h.regs
 vals v hv:=by
  unfold Pm at hv;simp only[fi]at hv;obtain⟨w,hw,rfl⟩:=hv;exact ren_ok (h.vals w hw)<|hr w hw
theorem Fc{r:H Int}:∀{l:H Ya} {t:Int},qL a n t l->(∀f∈l,uf f.regs r)->qL a (O r) t (l.map (Pm r))
 |[],_,_,_=>trivial
 |f::l,t,h,hr=>by
  obtain⟨⟨x,g⟩,b,d⟩:=h;refine⟨⟨x,g.ren<|hr f C7⟩,b,?_⟩;have:=Fc d λk c=>hr k<|bo _ c;simpa[Pm]using this
variable{s:Ys}
theorem sweep_cells(h:SwOk s):wz (jY s).j:=by
 have d:=h.reach;have hl:=d.1.len;have hn:=h.j.1;refine⟨by simp[jY];omega,λc b=>?_⟩;unfold jY at b⊢;simp only[fi,dr]at b⊢;obtain⟨k,f,rfl⟩:=b;have a:=h.j.at<|d.1.2 k f;refine⟨by simpa using a.1,λv g=>?_⟩;obtain⟨w,e,rfl⟩:=fi.1 g;exact ren_ok (a.2 w e)<|d.2.2 k f w e
theorem FF(ha:oW a)(h:Au a s):Au a (jY s) where
 q:=h.q
 bC:=h.bC
 stay:=h.stay
 ended:=by rw[show(jY s).q=s.q from rfl,h.ended];simp[jY]
 many:=by simpa[jY]using h.many
 j:=sweep_cells (h.sw ha)
 i:=by
  have hr:=(h.sw ha).reach;have:=Fc h.i<|Fm hr.2.1;simpa[jY]using this
theorem set_vals{r:H tp}{i:Nat}(h:∀w∈r,lJ n w)(b:lJ n v):∀w∈r.set i v,lJ n w:=λw a=>by
  rcases oc a with a|rfl
  · exact h w a
  · exact b
end
section
variable{a:H bM}{pre:H Ya}{f:Ya}{cells:H (H tp)}{wh:Int}{x:bM}{c:An}{N:Nat}
theorem uh.st(h:uh a pre f cells x c){g:Ya}{y:bM}{cs:H (H tp)}{s w:Int}(hg:Pj a (O cs) g y)(hto:g.x=f.x)(hc:wz cs)(hl:O cells<=O cs)(W:(s=0/\w=0)\/(s=3/\ -1000000000<=w/\w<=1000000000)):Au a ⟨pre++[g],cs,s,w⟩ where
 q:=by simp only;omega
 bC:=by simp only;omega
 stay:=by simp only;omega
 ended:=by simp;omega
 many:=by have:=h.many;simp;omega
 j:=hc
 i:=wG.2 ⟨U2 hl h.chain,⟨y,hg⟩,by rw[hto];exact h.x⟩
theorem opP_ok{n:Nat}{k:Int}{b c v:tp}(d:1<=k/\k<=5)(h:opP k b c=U v):lJ n v:=by
  unfold opP at h;split at h
  · cases h;split<;>(unfold lJ;simp)
  split at h
  · cases h
  split at h
  · cases h;split<;>(unfold lJ;simp)
  simp only at h;generalize (if k=1 then b.n+c.n else if k=2 then b.n-c.n else b.n*c.n)=z at h;split at h
  · rename_i a;cases h;exact .inr (.inl ⟨Z,a.1,a.2⟩)
  · cases h
theorem Pj.put{n:Nat}{f:Ya}{x:bM}(h:Pj a n f x){i:Nat}{v:tp}(b:lJ n v):Pj a n {f with regs:=f.regs.set i v} x:=⟨h.F,h.at_,by simpa using h.regs,set_vals h.vals b⟩
theorem Pj.jump{n:Nat}{f:Ya}{x:bM}(h:Pj a n f x){b:Int}(c:0<=b/\b<O x.C):Pj a n {f with at_:=b} x:=⟨h.F,c,h.regs,h.vals⟩
theorem newP_ok{s t:Ys}{g:Ya}(h:PU ⟨pre++[g],cells,0,wh⟩ c=U t)(W:Au a ⟨pre++[g],cells,0,wh⟩)(o:1<=c.b/\c.b<=4):Au a t/\t.q=0:=by
  unfold PU at h;split at h
  · cases h
  rename_i k;simp only[iS,ft,eY,iG,dt,Option.toList_some]at h k;cases h;obtain⟨m,⟨x,l⟩,n⟩:=wG.1 W.i;have j:=W.j;simp only at m l n j;have e:O cells<=O (cells++[bw c.b.toNat (⟨0,0⟩:tp)]):=by simp
  refine⟨⟨W.q,W.bC,W.stay,by simp,by simpa using W.many,⟨?_,?_⟩,wG.2 ⟨U2 e m,⟨x,(l.up e).put ?_⟩,n⟩⟩,Z⟩
  · have:=j.1;simp;omega
  · intro d f;rcases dq.1 f with f|f
    · have:=j.2 d f;exact⟨this.1,λv i=>(this.2 v i).up e⟩
    · simp at f;subst f;refine⟨by simp;omega,λv i=>?_⟩;have:=oT i;subst this;unfold lJ;simp
  · unfold lJ;simp;try omega
theorem step_keeps(N:oW a)(h:uh a pre f cells x c)(sc:wh=0){t:Ys}{A:L Int}{p:YU}(W:mM a pre f cells 0 wh x c=U (t,A,p)):
    Au a t/\(t.q=0\/t.q=1/\p=aw\/t.q=3/\p=bh)/\(A.isSome->t.q=0/\c.op=9):=by
  subst sc;have j:=h.Tm;have o:∀{v:tp},lJ (O cells) v->Au a ⟨pre++[{Tm f x with regs:=f.regs.set c.a.toNat v}],cells,0,0⟩:=λr=>h.st (j.put r) Z h.cok (cl _)<|.inl ⟨Z,Z⟩;have i:Au a ⟨pre++[Tm f x],cells,0,0⟩:=h.st j Z h.cok (cl _)<|.inl ⟨Z,Z⟩;have w:(0<=c.b/\c.b<O x.C)->Au a ⟨pre++[{Tm f x with at_:=c.b}],cells,0,0⟩:=λm=>h.st (j.jump m) Z h.cok (cl _)<|.inl ⟨Z,Z⟩;unfold mM at W;rcases h.good with g|g|g|g|g|g|g|g|g|g
  · obtain⟨e,z,m⟩:=g;simp only[e,bq,if_true,if_false]at W;cases W;exact⟨o<|.inr<|.inl ⟨Z,m.1,m.2⟩,.inl Z,by simp⟩
  · obtain⟨e,z,m⟩:=g;simp only[e,bq,if_true,if_false]at W;cases W;exact⟨o (h.reg m).2,.inl Z,by simp⟩
  · obtain⟨e,z,m,M,n,hn,K⟩:=g;simp only[e,hn,bq,if_true,if_false,tl]at W;obtain⟨v,r,W⟩:=ux.1 W;cases W;exact⟨o<|opP_ok K r,.inl Z,by simp⟩
  · obtain⟨e,z,m,M⟩:=g;rcases e with e|e
    · simp only[e,bq,if_true,if_false]at W;split at W
      · cases W
      · rename_i F;cases W;have aq:(pV f.regs c.b).h=2:=by omega
        have r:=(h.reg m).2;have l:=h.cok.at<|r.ref aq;exact⟨o<|l.2 _ (ND Z ⟨M.1,by omega⟩).2,.inl Z,by simp⟩
    · simp only[e,bq,if_true,if_false]at W;split at W
      · cases W
      · rename_i F;cases W;have aq:(pV f.regs c.a).h=2:=by omega
        have r:=(h.reg z).2;have l:=h.cok.at<|r.ref aq;refine⟨h.st (by simpa using j) Z ⟨by simpa using h.cok.1,λd w0=>?_⟩ C7<|.inl ⟨Z,Z⟩,.inl Z,by simp⟩;rw[cp];rcases oc w0 with w0|rfl
        · exact h.cok.2 d w0
        · exact⟨by simpa using l.1,set_vals l.2 (h.reg m).2⟩
  · obtain⟨e,z,m⟩:=g;simp only[e,bq,if_true,if_false]at W;obtain⟨u,al,W⟩:=ux.1 W;cases W;split at al
    · have E:=FF N i;rw[G1]at al E;have:=newP_ok (s:=t) al E m;exact⟨this.1,.inl this.2,by simp⟩
    · have:=newP_ok (s:=t) al i m;exact⟨this.1,.inl this.2,by simp⟩
  · obtain⟨e,z,⟨S,J,hl⟩,C⟩:=g;simp only[e,bq,if_true,if_false]at W;split at W
    · cases W
    · rename_i T;cases W;have Zs:=N.mem J;have ab:=h.many;refine⟨⟨by simp,by simp,by simp,by simp,by simp;omega,h.cok,wG.2 ⟨i.i,⟨S,⟨J,?_,?_,?_⟩⟩,?_⟩⟩,.inl Z,by simp⟩
      · have:=Zs.2.2.2;unfold wy at this;simp only;omega
      · simp only[J,dt,fR,bm,dr,mv];omega
      · intro v r;rcases dq.1 r with r|r
        · obtain⟨k,aq,rfl⟩:=fi.1 r;exact(h.reg<|C k aq).2
        · have:=oT r;subst this;unfold lJ;simp
      · simp only[ft,eY,iG];have P:=j.regs;rw[P];exact z
  · obtain⟨e,z⟩:=g;rcases e with e|e|e
    · simp only[e,bq,if_true,if_false]at W;rcases lp pre with J|⟨q,g,J⟩
      · subst J;simp only[List.getLast?_nil]at W;cases W;exact⟨⟨by simp,by simp,by simp,by simp,by simp,h.cok,an⟩,.inr<|.inl ⟨Z,Z⟩,by simp⟩
      · rw[lr]at J;subst J;simp only[ft,eY,iG,iS]at W;cases W;obtain⟨c1,⟨y,c2⟩,R⟩:=wG.1 h.chain;have ab:=h.many;simp only[bm,br,eR]at ab;exact⟨⟨by simp,by simp,by simp,by simp,by simp;omega,h.cok,wG.2 ⟨c1,⟨y,c2.put (h.reg z).2⟩,R⟩⟩,.inl Z,by simp⟩
    · simp only[e,bq,if_true,if_false]at W;split at W
      · cases W;exact⟨i,.inl Z,λ_=>⟨Z,e⟩⟩
      · cases W
    · simp only[e,bq,if_true,if_false]at W;split at W
      · rename_i aq;cases W;exact⟨h.st j Z h.cok (cl _)<|.inr ⟨Z,(h.reg z).2.int aq⟩,.inr<|.inr ⟨Z,Z⟩,by simp⟩
      · cases W
  · simp only[g,bq,if_true,if_false]at W;cases W;exact⟨i,.inl Z,by simp⟩
  · obtain⟨e,m⟩:=g;simp only[e,bq,if_true,if_false]at W;cases W;exact⟨w m,.inl Z,by simp⟩
  · obtain⟨e,z,m⟩:=g;simp only[e,bq,if_true,if_false]at W;cases W;split
    · exact⟨w m,.inl Z,by simp⟩
    · exact⟨i,.inl Z,by simp⟩
end
open Go Go.Proofs Go.LX
def insOf(a:H bM)(f:Ya):L (bM×An):=ao (vx a f.F) λx=>(vx x.C f.at_).map λc=>(x,c)
def J3(a:H bM)(s:Ys):L (Ys×L Int×YU):=
 s.i.getLast?.bind λf=>ao (insOf a f) λq=>mM a s.i.dropLast f s.j s.q s.bC q.1 q.2
def QZ(a:H bM)(s:Ys):Int:=((s.i.getLast?.bind λf=>insOf a f).map λq=>q.2.op).getD 0
def xH(a:H bM):Nat->H Int->Nat->Ys->Ys×H Int×Nat
 |0,said,n,s=>(s,said,n)
 |m+1,said,n,s=>
  if s.q≠0 then(s,said,n)else
  if O said=40/\QZ a s=9 then(s,said,n)else
  match J3 a s with
  |none=>({s with q:=2},said,n+1)
  |some (t,o,p)=>if p then(t,said++o.toList,n+1)else xH a m (said++o.toList) (n+1) t
section
variable{a:H bM}{s:Ys}
theorem Q0(d:oW a)(h:Au a s)(W:s.q=0):∃pre f x c,s=⟨pre++[f],s.j,0,0⟩/\uh a pre f s.j x c/\J3 a s=mM a pre f s.j 0 0 x c/\QZ a s=c.op:=by
  obtain⟨e,cells,st,wh⟩:=s;simp only at W;subst W;have b:wh=0:=h.stay C7;subst b;rcases lp e with J|⟨pre,f,J⟩
  · have:=h.ended.2 J;simp at this
  · rw[lr]at J;subst J;obtain⟨x,c,g⟩:=top_ok d h;refine⟨pre,f,x,c,Z,g,?_,?_⟩
    · unfold J3 insOf;simp only[ft,eY,iG,iS,vt,g.fr.F,g.ins,dt]
    · unfold QZ insOf;simp only[ft,eY,iG,vt,g.fr.F,g.ins,dt,fR]
variable{N:Nat}
theorem vm_step_P(b:oW a)(h:Au a s)(W:s.q=0)(hN:100<=N):R1 (AL N s a) (J3 a s):=by
 obtain⟨pre,f,x,c,e,d,g,-⟩:=Q0 b h W;rw[g];generalize s.j=cells at*;subst e;exact vm_step_ok b hN d
theorem stepped_P(b:oW a)(h:Au a s)(W:s.q=0)(hN:100<=N):R2 (iF N s a) (J3 a s):=by
 obtain⟨pre,f,x,c,e,d,g,-⟩:=Q0 b h W;rw[g];generalize s.j=cells at*;subst e;exact stepped_ok b hN d
theorem J4(b:oW a)(h:Au a s)(W:s.q=0){t:Ys}{o:L Int}{p:YU}(d:J3 a s=U (t,o,p)):
  Au a t/\(t.q=0\/t.q=1/\p=aw\/t.q=3/\p=bh)/\(o.isSome->t.q=0/\QZ a s=9):=by
 obtain⟨pre,f,x,c,j,e,i,g⟩:=Q0 b h W;rw[i]at d;rw[g];exact step_keeps b e Z d
theorem SJ(g:oW a)(h:Au a s)(W:s.q=0):(O s.i<=10/\1<=O s.i)/\∃f x c,vx s.i ((O s.i:Int)-1)=U f/\vx a f.F=U x/\vx x.C f.at_=U c/\c.op=QZ a s:=by
 obtain⟨pre,f,x,c,d,b,i,e⟩:=Q0 g h W;refine⟨⟨h.many,by rw[d];simp⟩,f,x,c,?_,b.fr.F,b.ins,e.symm⟩;have:s.i=pre++[f]:=by rw[d]
 rw[this,mH,uu]
theorem fail_ok(h:Au a s)(W:s.q=0):Au a {s with q:=2}:=by
  have b:s.bC=0:=h.stay V;refine⟨by simp,h.bC,λ_=>b,?_,h.many,h.j,h.i⟩;constructor
  · intro e;simp at e
  · intro e;have:=h.ended.2 e;omega
theorem run_loop(r:oW a)(hN:100<=N)(c:Int):∀(m M:Nat) (b:H Int) (n:Nat) (s:Ys),Au a s->O b<=40->c=(n:Int)+m->c<=2000->m<M->
    again (MJ N c a) M (b,(n:Int),s.i,s.j,s.q,s.bC)=U ((xH a m b n s).1,(xH a m b n s).2.1,((xH a m b n s).2.2:Int),0)
  |m,0,b,n,s,h,hl,hc,hb,hM=>by omega
  |0,M+1,b,n,s,h,hl,hc,hb,hM=>by
    rw[sV];unfold MJ Fy xH;simp only;rw[show(G ((n:Int)<c)&&G ((s.q:Int)=0))=aw by rw[dF V];rfl,Z2]
  |m+1,M+1,b,n,s,h,hl,hc,hb,hM=>by
    rw[sV];have y:=run_loop r hN c m M;generalize again (MJ N c a) M=K at y⊢;unfold MJ xH;simp only;by_cases W:s.q=0
    · rw[dT V,dT W,gw,Z1,Z4 V];obtain⟨F,f,x,i,E,aq,C,w0⟩:=SJ r h W;rw[gI V V,E,vt];have go:MI N b n s.i s.j s.q s.bC a K aw=U (match J3 a s with
          |none=>({s with q:=2},b,((n+1:Nat):Int),0)
          |some (t,o,p)=>if p then(t,b++o.toList,((n+1:Nat):Int),0)else((xH a m (b++o.toList) (n+1) t).1,(xH a m (b++o.toList) (n+1) t).2.1,((xH a m (b++o.toList) (n+1) t).2.2:Int),0))\/(O b=40/\QZ a s=9):=by
        by_cases g:O b=40/\QZ a s=9
        · exact .inr g
        left;unfold MI;rw[Z2,show(⟨s.i,s.j,s.q,s.bC⟩:Ys)=s from rfl,HX (h.small r),vt];obtain⟨o,ok,k,al,u⟩:=vm_step_P r h W hN;rw[al,vt,gI V V];cases eq:J3 a s with
        |none=>
          rw[eq]at u;simp only at u;subst u;simp only[en,Z1];unfold Fy
          push_cast;rfl
        |some q=>
          obtain⟨t,o2,p⟩:=q;rw[eq]at u;obtain⟨rfl,rfl,rfl⟩:=u;have A:=J4 r h W eq;simp only[cE,Z2];have fin:∀l,l=b++o2.toList->O l<=40->MH (⟨o2.isSome,o2.getD 0,p⟩,bh,k) n K l=U (if p then(k,b++o2.toList,((n+1:Nat):Int),0)else((xH a m (b++o2.toList) (n+1) k).1,(xH a m (b++o2.toList) (n+1) k).2.1,((xH a m (b++o2.toList) (n+1) k).2.2:Int),0)):=by
            intro l v w;subst v;unfold MH Fy;simp only;cases p with
            |true=>rw[Z1,Z3 Z];push_cast;rfl
            |false=>
              rw[Z2,Z4 C7];have:=y (b++o2.toList) (n+1) k A.1 w (by push_cast;omega) hb V;rw[<-this];push_cast;rfl
          cases o2 with
          |none=>
            simp only[jI,Z2];exact fin b C7 hl
          |some z=>
            have j:=(A.2.2 Z).2;simp only[Option.isSome_some,Z1];rw[gH (A5 (by simp;omega) tS)];exact fin (b++[z]) C7 (by simp;omega)
      by_cases d:O b=40
      · rw[dT V,Z1,aq,vt,C,vt,w0];by_cases j:QZ a s=9
        · rw[Z3 ⟨d,j⟩,dT j];rfl
        · rw[Z4 (λe=>j e.2),dF j];rcases go with go|go
          · rw[go];cases J3 a s with
            |none=>rfl
            |some q=>obtain⟨t,o,p⟩:=q;cases p<;>rfl
          · exact ZL go.2 j
      · rw[dF V,Z2,Z4 (λe=>d e.1)];rcases go with go|go
        · rw[go];cases J3 a s with
          |none=>rfl
          |some q=>obtain⟨t,o,p⟩:=q;cases p<;>rfl
        · exact ZL go.1 d
    · rw[dF W,qC,Z2,Z3 W];rfl
theorem ran_loop(u:oW a)(hN:100<=N)(c:Int):∀(m M:Nat) (b:H Int) (n:Nat) (s:Ys),Au a s->s.q=0->O b<=40->c=(n:Int)+m->c<=2000->m<M->
    again (tL N c a) M (b,(n:Int),s.i,s.j,s.q,s.bC)=U ((xH a m b n s).1,(xH a m b n s).2.1,((xH a m b n s).2.2:Int))
  |m,0,b,n,s,h,W,hl,hc,hb,hM=>by omega
  |0,M+1,b,n,s,h,W,hl,hc,hb,hM=>by
    rw[sV];unfold tL xH;simp only;rw[dF V,Z2,show c=(n:Int) by omega]
  |m+1,M+1,b,n,s,h,W,hl,hc,hb,hM=>by
    rw[sV];have E:=ran_loop u hN c m M;generalize again (tL N c a) M=K at E⊢;unfold tL xH;simp only;rw[dT V,Z1,Z4 V];obtain⟨P,f,x,i,ab,al,w0,R⟩:=SJ u h W;rw[gI V V,ab,vt];have go:tK N s.i s.j s.q s.bC b n a K aw=U (match J3 a s with
        |none=>({s with q:=2},b,((n+1:Nat):Int))
        |some (t,o,p)=>if p then(t,b++o.toList,((n+1:Nat):Int))else((xH a m (b++o.toList) (n+1) t).1,(xH a m (b++o.toList) (n+1) t).2.1,((xH a m (b++o.toList) (n+1) t).2.2:Int)))\/(O b=40/\QZ a s=9):=by
      by_cases j:O b=40/\QZ a s=9
      · exact .inr j
      left;unfold tK;rw[Z2,show(⟨s.i,s.j,s.q,s.bC⟩:Ys)=s from rfl,own_eq (h.small u),vt];obtain⟨l,S,ok,C,sc,v⟩:=stepped_P u h W hN;rw[sc,vt];cases eq:J3 a s with
      |none=>
        rw[eq]at v;simp only at v;subst v;simp only[en,Z1];rw[gI V V]
        push_cast;rfl
      |some q=>
        obtain⟨t,o2,p⟩:=q;rw[eq]at v;obtain⟨rfl,rfl,rfl,rfl⟩:=v;have F:=J4 u h W eq;have d:O (b++o2.toList)<=40:=by
          cases o2 with
          |none=>simpa using hl
          |some z=>have r:=(F.2.2 Z).2;simp;omega
        simp only[cE,Z2];rw[gH (A5 (by simp at d;omega) tS)];have D:∀w:Ys,w.q≠0->∀k y A,xH a k y A w=(w,y,A):=by
          intro w Zs k y A;cases k with
          |zero=>rfl
          |succ k=>unfold xH;rw[Z3 Zs]
        cases S with
        |true=>
          rw[Bool.true_or,Z1,gI V V,Z3 rfl];push_cast;rfl
        |false=>
          rw[pd,Z4 C7];by_cases aq:C.q=0
          · rw[dF V,Z2,gI V V];have:=E (b++o2.toList) (n+1) C F.1 aq d (by push_cast;omega) hb V;rw[<-this];push_cast;rfl
          · rw[dT aq,Z1,gI V V,D C aq];push_cast;rfl
    by_cases g:O b=40
    · rw[dT V,Z1,al,vt,w0,vt,R];by_cases r:QZ a s=9
      · rw[Z3 ⟨g,r⟩,dT r];rfl
      · rw[Z4 (λe=>r e.2),dF r];rcases go with go|go
        · rw[go];cases J3 a s with
          |none=>rfl
          |some q=>obtain⟨t,o,p⟩:=q;cases p<;>rfl
        · exact ZL go.2 r
    · rw[dF V,Z2,Z4 (λe=>g e.1)];rcases go with go|go
      · rw[go];cases J3 a s with
        |none=>rfl
        |some q=>obtain⟨t,o,p⟩:=q;cases p<;>rfl
      · exact ZL go.1 g
theorem VL(g:oW a):∀(m:Nat) (b:H Int) (n:Nat) (s:Ys),Au a s->O b<=40->
    Au a (xH a m b n s).1/\O (xH a m b n s).2.1<=40/\n<=(xH a m b n s).2.2/\(xH a m b n s).2.2<=n+m/\b<+:(xH a m b n s).2.1/\O (xH a m b n s).2.1<=O b+((xH a m b n s).2.2-n)/\((xH a m b n s).2.2=n->(xH a m b n s).1=s)
  |0,b,n,s,h,hl=>⟨h,hl,cl _,cl _,hY _,by simp[xH],λ_=>rfl⟩
  |m+1,b,n,s,h,hl=>by
    unfold xH;by_cases W:s.q=0
    · rw[Z4 V];by_cases d:O b=40/\QZ a s=9
      · rw[Z3 d];exact⟨h,hl,cl _,by simp,hY _,by simp,λ_=>rfl⟩
      · rw[Z4 d];cases eq:J3 a s with
        |none=>exact⟨fail_ok h W,hl,by simp,by simp,hY _,by simp,λe=>by simp at e⟩
        |some q=>
          obtain⟨t,o,p⟩:=q;have f:=J4 g h W eq;have c:O (b++o.toList)<=40:=by
            cases o with
            |none=>simpa using hl
            |some z=>have v:=(f.2.2 Z).2;simp;omega
          have ho:O o.toList<=1:=by cases o<;>simp
          simp only;split
          · exact⟨f.1,c,by simp,by simp,sn _ _,by show O (b++o.toList)<=O b+(n+1-n);rw[bm];omega,λe=>by simp at e⟩
          · obtain⟨i,l,w,u,k,j,r⟩:=VL g m (b++o.toList) (n+1) t f.1 c;refine⟨i,l,by omega,by omega,(sn _ _).trans k,?_,λe=>by omega⟩;rw[bm]at j;omega
    · rw[Z3 W];exact⟨h,hl,cl _,by simp,hY _,by simp,λ_=>rfl⟩
theorem Ss(a:H bM)(s:Ys)(c:Int)(hN:3000<=N):HA N a s c=U (if Lt a≠0 then(⟨[],[],0,0⟩,[],0,Lt a)else if US a s≠0 then(⟨[],[],0,0⟩,[],0,US a s)else if c<0\/2000<c then(⟨[],[],0,0⟩,[],0,3)else if s.q≠0 then(⟨[],[],0,0⟩,[],0,7)else((xH a c.toNat [] 0 s).1,(xH a c.toNat [] 0 s).2.1,((xH a c.toNat [] 0 s).2.2:Int),0)):=by
  unfold HA;rw[OE,vt];by_cases b:Lt a=0
  · rw[Z4 V,Z4 V];by_cases d:US a s=0
    · rw[dF V,Z2,Z4 V];by_cases e:c<0\/2000<c
      · rw[show(G ((c:Int)<0)||G ((2000:Int)<c))=bh by rw[dC];simp only[decide_eq_true_eq];exact e,Z1,Z3 e]
      · rw[show(G ((c:Int)<0)||G ((2000:Int)<c))=aw by rw[cV];simp only[decide_eq_false_iff_not];omega,Z2,Z4 e];by_cases f:s.q=0
        · rw[dF V,Z2,Z4 V];have g:=nk b;have W:=Ku.1 d;rw[HX (W.small g),vt];have:=run_loop g (N:=N) V c c.toNat N [] 0 s W C7 V V V;exact this
        · rw[dT f,Z1,Z3 f]
    · rw[dT d,Z1,Z3 d]
  · rw[Z3 b,Z3 b,dT b,Z1]
theorem ranOn_eq(b:oW a)(W:Au a s)(d:s.q=0){c:Int}(e:0<=c/\c<=2000)(hN:3000<=N):yQ N a s c=U ((xH a c.toNat [] 0 s).1,(xH a c.toNat [] 0 s).2.1,((xH a c.toNat [] 0 s).2.2:Int)):=by
 unfold yQ;rw[own_eq (W.small b),vt];exact ran_loop b (N:=N) V c c.toNat N [] 0 s W d C7 V V V
theorem vm_Wake_eq(a:H bM)(s:Ys):ZR a s=U (if Lt a≠0 then(⟨[],[],0,0⟩,Lt a)else if US a s≠0 then(⟨[],[],0,0⟩,US a s)else if s.q≠3 then(⟨[],[],0,0⟩,7)else(⟨s.i,s.j,0,0⟩,0)):=by
  unfold ZR;rw[OE,vt];by_cases b:Lt a=0
  · rw[Z4 V,Z4 V];by_cases c:US a s=0
    · rw[dF V,Z2,Z4 V];by_cases d:s.q=3
      · rw[dF V,Z2,Z4 V,HX ((Ku.1 c).small (nk b)),vt]
      · rw[dT d,Z1,Z3 d]
    · rw[dT c,Z1,Z3 c]
  · rw[Z3 b,Z3 b,dT b,Z1]
def A9(a:H bM):Ys:=⟨[⟨0,0,bw (((vx a 0).map (λx:bM=>x.regs)).getD 0).toNat ⟨0,0⟩,0⟩],[],0,0⟩
theorem YN(b:oW a):∃x,vx a 0=U x:=by
 have:=b.many;cases a with
 |nil=>simp at this
 |cons x l=>exact⟨x,QS x l⟩
theorem vm_New_eq(a:H bM):Lw a=U (if Lt a≠0 then(⟨[],[],0,0⟩,Lt a)else(A9 a,0)):=by
  unfold Lw;rw[G4,vt];by_cases b:Lt a=0
  · rw[dF V,Z2,Z4 V];obtain⟨x,c⟩:=YN<|nk b;have:=((nk b).mem c).2.2.1;rw[c,vt,gH V];unfold A9;rw[c];rfl
  · rw[dT b,Z1,Z3 b]
theorem N1(d:oW a):Au a (A9 a):=by
  obtain⟨x,b⟩:=YN d;have e:=d.mem b;have hl:=e.2.2.2;unfold wy at hl;refine⟨by simp[A9],by simp[A9],by simp[A9],by simp[A9],by simp[A9],⟨by simp[A9],λc g=>by simp[A9]at g⟩,⟨x,b,by simp only;omega,?_,λv f=>?_⟩,by simp,trivial⟩
  · simp only[b,dt,fR,mv];omega
  · have:=oT f;subst this;unfold lJ;simp
end
open Go Go.Proofs Go.LX
def MD(ρ:Int->Int)(v:tp):tp:=if v.h=2 then⟨v.h,ρ v.n⟩else v
def renFr(ρ:Int->Int)(f:Ya):Ya:={f with regs:=f.regs.map (MD ρ)}
structure Iso(ρ:Int->Int)(R:List Int)(s t:Ys):Prop where
 i:t.i=s.i.map (renFr ρ)
 q:t.q=s.q
 bC:t.bC=s.bC
 roots:uf (YteijalgmijkphaaGreatDoor.roots s.i) R
 range:∀x∈R,0<=x/\x<s.j.length
 range':∀x∈R,0<=ρ x/\ρ x<t.j.length
 inj:∀x∈R,∀y∈R,ρ x=ρ y->x=y
 j:∀x∈R,A6 t.j (ρ x)=(A6 s.j x).map (MD ρ)/\uf (A6 s.j x) R
theorem renV_kind(ρ:Int->Int)(v:tp):(MD ρ v).h=v.h:=by unfold MD;split<;>rfl
theorem renV_ref(ρ:Int->Int){v:tp}(h:v.h=2):MD ρ v=⟨v.h,ρ v.n⟩:=Z3 h
theorem renV_no(ρ:Int->Int){v:tp}(h:v.h≠2):MD ρ v=v:=Z4 h
section
variable{ρ:Int->Int}{R:H Int}{s t:Ys}
theorem mem_map_inj(hi:∀x∈R,∀y∈R,ρ x=ρ y->x=y){l:H Int}(hl:∀x∈l,x∈R){x:Int}(b:x∈R):ρ x∈l.map ρ↔x∈l:=by
  constructor
  · intro h;obtain⟨y,a,e⟩:=fi.1 h;rw[<-hi y (hl y a) x b e];exact a
  · exact λh=>List.mem_map_of_mem h
theorem WE(hi:∀x∈R,∀y∈R,ρ x=ρ y->x=y):∀{l:H Int},(∀x∈l,x∈R)->∀{x:Int},x∈R->(l.map ρ).idxOf (ρ x)=l.idxOf x
  |[],_,x,_=>rfl
  |y::l,hl,x,hx=>by
    rw[cr,A3,A3,WE hi (λz a=>hl z (bo _ a)) hx];by_cases e:y=x
    · subst e;simp
    · have b:ρ y≠ρ x:=λh=>e<|hi y (hl y C7) x hx h;rw[show(ρ y==ρ x)=aw by simpa using b,show(y==x)=aw by simpa using e]
theorem metV_map(hi:∀x∈R,∀y∈R,ρ x=ρ y->x=y){l:H Int}(hl:∀x∈l,x∈R){v:tp}(e:v.h=2->v.n∈R):YK (l.map ρ) (MD ρ v)=(YK l v).map ρ/\∀x∈YK l v,x∈R:=by
  unfold YK;by_cases a:v.h=2
  · rw[renV_ref ρ a];simp only[a,true_and];have c:=mem_map_inj hi hl<|e a;by_cases d:v.n∈l
    · rw[Z4 (λh=>h (c.2 d)),Z4 (λh=>h d)];exact⟨Z,hl⟩
    · rw[Z3 (λh=>d (c.1 h)),Z3 d];refine⟨by simp,λx b=>?_⟩;rcases dq.1 b with b|b
      · exact hl x b
      · simp at b;subst b;exact e a
  · rw[renV_no ρ a,Z4 (λh=>a h.1),Z4 (λh=>a h.1)];exact⟨Z,hl⟩
theorem Nd(hi:∀x∈R,∀y∈R,ρ x=ρ y->x=y):∀{vs:H tp} {l:H Int},(∀x∈l,x∈R)->uf vs R->YL (l.map ρ) (vs.map (MD ρ))=(YL l vs).map ρ/\∀x∈YL l vs,x∈R
 |[],l,hl,_=>⟨rfl,hl⟩
 |v::vs,l,hl,hv=>by
  obtain⟨c,a⟩:=metV_map hi hl<|hv v C7;rw[cr,QV,QV,c];exact Nd hi a λw b=>hv w<|bo _ b
theorem Iso.bfs(h:Iso ρ R s t):∀(m k:Nat) (l:H Int),(∀x∈l,x∈R)->bfs t.j m k (l.map ρ)=(bfs s.j m k l).map ρ/\∀x∈bfs s.j m k l,x∈R
  |0,k,l,hl=>⟨rfl,hl⟩
  |m+1,k,l,hl=>by
    unfold YteijalgmijkphaaGreatDoor.bfs;by_cases a:k<O l
    · rw[dif_pos a,dif_pos (by simpa using a)];have c:=hl _<|cw a;have b:=h.j _ c;rw[Ak,b.1];obtain⟨e,d⟩:=Nd h.inj hl b.2;rw[e];exact Iso.bfs h m (k+1) _ d
    · rw[dif_neg a,dif_neg (by simpa using a)];exact⟨Z,hl⟩
theorem QI(ρ:Int->Int):∀a:H Ya,YteijalgmijkphaaGreatDoor.roots (a.map (renFr ρ))=(YteijalgmijkphaaGreatDoor.roots a).map (MD ρ)
 |[]=>rfl
 |f::a=>by
  have:=QI ρ a;unfold YteijalgmijkphaaGreatDoor.roots at*;rw[cr,hH,hH,cY,this];rfl
theorem Iso.reach(h:Iso ρ R s t):mK t=(mK s).map ρ/\∀x∈mK s,x∈R:=by
 unfold mK Pk;rw[h.i,QI];obtain⟨a,c⟩:=Nd h.inj (l:=[]) (λx b=>by cases b) h.roots;rw[List.map_nil]at a;rw[a];exact h.bfs 25 0 _ c
theorem ren_map(h:Iso ρ R s t){v:tp}(b:v.h=2->v.n∈R):ren (mK t) (MD ρ v)=ren (mK s) v:=by
  unfold ren;rw[renV_kind];by_cases a:v.h=2
  · rw[Z3 a,Z3 a,renV_ref ρ a,h.reach.1,WE h.inj h.reach.2 (b a)]
  · rw[Z4 a,Z4 a,renV_no ρ a]
theorem Sd{α β:Type}{f g:α->β}:∀{l:H α},(∀x∈l,f x=g x)->l.map f=l.map g:=λh=>List.map_congr_left h
theorem Iso.sweep(h:Iso ρ R s t):jY t=jY s:=by
 have c:t.i.map (Pm<|mK t)=s.i.map (Pm<|mK s):=by
  rw[h.i,ps];refine Sd λf g=>?_;have:(f.regs.map<|MD ρ).map (ren<|mK t)=f.regs.map (ren<|mK s):=by
   rw[ps];exact Sd λv a=>ren_map h<|Fm h.roots f g v a
  show Pm (mK t) (renFr ρ f)=Pm (mK s) f;unfold Pm renFr;simp only[this]
 have b:(mK t).map (λk=>(A6 t.j k).map<|ren<|mK t)=(mK s).map (λk=>(A6 s.j k).map<|ren<|mK s):=by
  conv=>lhs;rw[h.reach.1]
  rw[ps];refine Sd λk e=>?_;have d:=h.j k<|h.reach.2 k e;show(A6 t.j<|ρ k).map (ren _)=_;rw[d.1,ps,<-h.reach.1];exact Sd λv a=>ren_map h<|d.2 v a
 unfold jY;rw[c,b,h.q,h.bC]
end
theorem cellAt_nat{cells:H (H tp)}{i:Nat}(h:i<O cells):A6 cells (i:Int)=cells[i]:=by unfold A6;rw[rC h];rfl
theorem iso_sweep{s:Ys}(h:SwOk s):Iso (λx=>((mK s).idxOf x:Nat)) (mK s) s (jY s) where
 i:=rfl
 q:=rfl
 bC:=rfl
 roots:=h.reach.2.1
 range:=h.reach.1.2
 range' x hx:=by
  have:=fY hx;simp only[jY,dr];omega
 inj x hx y hy e:=by
  have e':(mK s).idxOf x=(mK s).idxOf y:=by omega
  have h1:=so<|fY hx;have h2:=so<|fY hy;rw[<-h1,<-h2];simp only[e']
 j x hx:=by
  have hlt:=fY hx;refine⟨?_,h.reach.2.2 x hx⟩;rw[cellAt_nat (by simpa[jY]using hlt)];simp only[jY,Ak];rw[so hlt];rfl
theorem MP{s:Ys}(h:SwOk s):jY (jY s)=jY s:=(iso_sweep h).sweep
open Go Go.Proofs Go.LX
def HE(l:H tp):H Int:=l.flatMap λv=>[v.h,v.n]
def DQ(l:H tp):H Int:=(O l:Int)::HE l
def frP(f:Ya):H Int:=f.F::f.at_::f.x::DQ f.regs
def Ap(s:Ys):H Int:=s.q::s.bC::(O s.i:Int)::(s.i.flatMap frP++(O s.j:Int)::s.j.flatMap DQ)
def St(α:Type):=H Int->L (α×H Int)
def yS{α:Type}(x:α):St α:=λl=>U (x,l)
def jd{α β:Type}(R:St α)(f:α->St β):St β:=λl=>ao (R l) λq=>f q.1 q.2
def Je:St Int:=λl=>match l with
 |[]=>bd
 |x::r=>U (x,r)
def qM(m:Int):St Nat:=λl=>match l with
 |[]=>bd
 |x::r=>if 0<=x/\x<=m then U (x.toNat,r)else bd
def jT{α:Type}(R:St α):Nat->St (H α)
 |0=>yS []
 |n+1=>jd R λx=>jd (jT R n) λl=>yS (x::l)
def FA:St tp:=jd Je λk=>jd Je λn=>yS ⟨k,n⟩
def Ba(m:Int):St (H tp):=jd (qM m) λn=>jT FA n
def Pn:St Ya:=jd Je λp=>jd Je λa=>jd Je λt=>jd (Ba 40) λr=>yS ⟨p,a,r,t⟩
def YO:St Ys:=jd Je λs=>jd Je λw=>jd (qM 10) λn=>jd (jT Pn n) λf=>jd (qM 24) λk=>jd (jT (Ba 4) k) λc=>yS ⟨f,c,s,w⟩
theorem Sg{α:Type}{R:St α}{g:α->H Int}:∀(l:H α) (t:H Int),(∀x∈l,∀t,R (g x++t)=U (x,t))->jT R (O l) (l.flatMap g++t)=U (l,t)
 |[],t,_=>rfl
 |x::l,t,h=>by
  show(R<|g x++l.flatMap g++t).bind _=_;rw[cg,h x C7,cJ];show(jT R (O l)<|l.flatMap g++t).bind _=_;rw[Sg l t (λy a=>h y (bo _ a)),cJ];rfl
theorem rRow_row{m:Nat}(l:H tp)(h:O l<=m)(t:H Int):Ba m (DQ l++t)=U (l,t):=by
 unfold Ba jd DQ qM;simp only[ei];rw[Z3 V,cJ,ba];exact Sg l t λv _ t=>rfl
theorem rFr_fr(f:Ya)(h:O f.regs<=40)(t:H Int):Pn (frP f++t)=U (f,t):=by
 show(ao (Ba (40:Nat)<|DQ f.regs++t) λq=>yS (⟨f.F,f.at_,q.1,f.x⟩:Ya) q.2)=_;rw[rRow_row f.regs h];rfl
theorem rSt_pack{s:Ys}(h:EV s)(t:H Int):YO (Ap s++t)=U (s,t):=by
 have k:=h.i;have j:=h.j;show(ao (qM 10 ((O s.i:Int)::((s.i.flatMap frP++(O s.j:Int)::s.j.flatMap DQ)++t))) λq=>ao (jT Pn q.1 q.2) λd=>ao (qM 24 d.2) λb=>ao (jT (Ba 4) b.1 b.2) λa=>yS (⟨d.1,a.1,s.q,s.bC⟩:Ys) a.2)=_;rw[show qM 10 ((O s.i:Int)::((s.i.flatMap frP++(O s.j:Int)::s.j.flatMap DQ)++t))=U (O s.i,(s.i.flatMap frP++(O s.j:Int)::s.j.flatMap DQ)++t) by
  show(if _ then _ else _)=_;rw[Z3 V,ba],cJ]
 simp only;rw[cg,Sg s.i _ (λf i t=>rFr_fr f (h.regs f i) t),cJ];simp only[ei];rw[show qM 24 ((O s.j:Int)::(s.j.flatMap DQ++t))=U (O s.j,s.j.flatMap DQ++t) by
  show(if _ then _ else _)=_;rw[Z3 V,ba],cJ]
 simp only;rw[Sg (R:=Ba 4) (g:=DQ) s.j _ (λc e t=>rRow_row (m:=4) c (h.fields c e) t),cJ];rfl
theorem Gq(l:H tp):O (HE l)=2*O l:=by
 induction l with
 |nil=>rfl
 |cons v l ih=>show O ([v.h,v.n]++HE l)=_;simp[ih];omega
theorem rows_len(m:Nat):∀l:H (H tp),(∀c∈l,O c<=m)->O (l.flatMap DQ)<=(2*m+1)*O l
 |[],_=>by simp
 |c::l,h=>by
  have e:=h c C7;have a:=rows_len m l λd b=>h d<|bo _ b;rw[hH,bm];unfold DQ;rw[br,Gq,br,Nat.mul_succ];unfold DQ at a;omega
theorem H0:∀l:H Ya,(∀f∈l,O f.regs<=40)->O (l.flatMap frP)<=84*O l
 |[],_=>by simp
 |f::l,h=>by
  have c:=h f C7;have a:=H0 l λd b=>h d<|bo _ b;rw[hH,bm];unfold frP DQ;simp only[br,Gq];unfold frP DQ at a;omega
theorem KB{s:Ys}(h:EV s):O (Ap s)<=1060:=by
 have b:=rows_len 4 s.j h.fields;have a:=H0 s.i h.regs;have d:=h.i;have c:=h.j;unfold Ap;simp only[br,bm];omega
def DS(s:Ys):Ys:=if s.q=3 then⟨s.i,s.j,0,0⟩else s
section
variable{α ρ:Type}{body:Int->H Int->(H Int->L ρ)->L ρ}{K:H Int->L ρ}{g:α->H Int}{l:H α}
theorem app_loop{m aq:Nat}(b:∀x∈l,O (g x)<=m)(c:∀(i:Nat) (h:i<O l) a nx,O a<=aq+m*i->body (i:Int) a nx=nx (a++g l[i])):
  ∀(k i:Nat) (a:H Int),i+k=O l->O a<=aq+m*i->Ax body K (i:Int) k a=K (a++(l.drop i).flatMap g)
 |0,i,a,h,_=>by rw[cC V];simp[Ax]
 |k+1,i,a,h,hl=>by
  have hi:i<O l:=by omega
  rw[QU,c i hi a _ hl,show((i:Int)+1)=((i+1:Nat):Int) by omega,app_loop b c k (i+1) _ V (by
   have:=b _<|cw hi;rw[bm,Nat.mul_add];omega),cy hi,hH,cg]
theorem Q3(m aq:Nat)(b:∀x∈l,O (g x)<=m)(c:∀(i:Nat) (h:i<O l) a nx,O a<=aq+m*i->body (i:Int) a nx=nx (a++g l[i]))(a:H Int)(d:O a<=aq):Ax body K 0 (O l) a=K (a++l.flatMap g):=by
 have:=app_loop (K:=K) b c (O l) 0 a V V;rw[fF]at this;exact this
theorem Hi:∀(l:H tp) (a:H Int),O a+2*O l<=50000->Fs a l=U (a++HE l)
 |[],a,_=>by simp[Fs,kJ,MC,HE]
 |v::l,a,h=>by
  simp only[br]at h;have b:=Hi l (a++[v.h,v.n]) (by simp[-cI];omega);unfold Fs at b⊢;rw[fQ];generalize vq MB MC l=K at b⊢;unfold MB;rw[gH (A5 (by simp[-cI];omega) tS),b];simp[HE]
theorem XS{c:H tp}{m:Nat}(h:O c<=m):O (DQ c)<=2*m+1:=by
 unfold DQ;rw[br,Gq];omega
theorem fr_len{f:Ya}(h:O f.regs<=40):O (frP f)<=84:=by
 unfold frP;have:=XS h;simp only[br];omega
variable{a:H bM}{s:Ys}
theorem U3(b:oW a)(h:Au a s):EV (jY s):=(FF b h).small b
theorem pack_loop(h:EV s):Ax (RG s) (RH s) 0 ((O s.i:Int)).toNat [s.q,s.bC,(O s.i:Int)]=U (Ap s,0):=by
 have o:=h.i;have n:=h.j;have hl:=H0 s.i h.regs;rw[ba,Q3 (g:=frP) (l:=s.i) 84 3 (λf j=>fr_len (h.regs f j)) (λi hi b m a=>by
  have k:=h.regs _<|cw hi;unfold RG;rw[rC hi,vt,gH (A5 (by simp[-cI];omega) tS),Hi _ _ (by simp[-cI];omega),vt];unfold frP DQ;simp) _ C7]
 unfold RH;rw[gH (A5 (by simp[-cI];omega) tS),ba,Q3 (g:=DQ) (l:=s.j) 9 1000 (λc d=>XS (h.fields c d)) (λi hi b m a=>by
  have k:=h.fields _<|cw hi;unfold ZP;rw[rC hi,vt,gH (A5 (by simp[-cI];omega) tS),Hi _ _ (by simp[-cI];omega),vt];unfold DQ;simp) _ (by simp[-cI];omega)]
 unfold ZQ;have J:=KB h;have e:([s.q,s.bC,(O s.i:Int)]++s.i.flatMap frP++[(O s.j:Int)]++s.j.flatMap DQ)=Ap s:=by
  unfold Ap;simp
 rw[e,dF V,Z2]
variable{N:Nat}
theorem Fl(a:H bM)(s:Ys)(hN:100<=N):Iy N a s=U (if Lt a≠0 then([],Lt a)else if US a s≠0 then([],US a s)else(Ap (jY s),0)):=by
  unfold Iy;rw[OE,vt];by_cases b:Lt a=0
  · rw[Z4 V,Z4 V];by_cases c:US a s=0
    · have d:=nk b;have W:=Ku.1 c;rw[dF V,Z2,N5 hN (W.sw d),vt,Z4 V];exact pack_loop<|U3 d W
    · rw[dT c,Z1,Z3 c]
  · rw[Z3 b,dT b,Z1,Z3 b]
theorem pk_vals{ρ:Type}{body:Int->H Int->(H Int->L ρ)->L ρ}{K:H Int->L ρ}{l:H tp}(c:∀(i:Nat) (h:i<O l) a b,O a<=5000->body (i:Int) a b=b (a++[l[i].h,l[i].n]))(hl:O l<=40)(a:H Int)(d:O a<=2000):Ax body K 0 (O l) a=K (a++HE l):=
 Q3 (g:=λv:tp=>[v.h,v.n]) (l:=l) 2 2000 (λ_ _=>cl _) (λi hi a b h=>c i hi a b V) a d
theorem packed_loop(h:EV s):Ax (AZ s) (A7 s) 0 ((O s.i:Int)).toNat [s.q,s.bC,(O s.i:Int)]=U (Ap s):=by
 have q:=h.i;have p:=h.j;have hl:=H0 s.i h.regs;rw[ba,Q3 (g:=frP) (l:=s.i) 84 3 (λf o=>fr_len (h.regs f o)) (λi hi a e b=>by
  have k:=h.regs _<|cw hi;unfold AZ;rw[rC hi,vt,gH (A5 (by simp[-cI];omega) tS),gH (A5 (by simp[-cI];omega) tS),ba,pk_vals (λj d a e m=>by
   unfold GQ;rw[rC d,vt,gH (A5 (by simp[-cI];omega) tS)]) k _ (by simp[-cI];omega)]
  unfold GR frP DQ;simp) _ C7]
 unfold A7;rw[gH (A5 (by simp[-cI];omega) tS),ba,Q3 (g:=DQ) (l:=s.j) 9 1000 (λc n=>XS (h.fields c n)) (λi hi a e b=>by
  have k:=h.fields _<|cw hi;unfold GX;rw[rC hi,vt,gH (A5 (by simp[-cI];omega) tS),ba,pk_vals (λj d a e m=>by
   unfold GU;rw[rC d,vt,gH (A5 (by simp[-cI];omega) tS)]) V _ (by simp[-cI];omega)]
  unfold GV DQ;simp) _ (by simp[-cI];omega)]
 unfold GY;unfold Ap;simp
theorem Tr(b:oW a)(h:Au a s)(hN:100<=N):xG N s=U (Ap (jY s)):=by
 unfold xG;rw[Iw hN (h.sw b),vt];exact packed_loop<|U3 b h
end
open Go Go.Proofs Go.LX
structure Rel{α:Type}(o:Option (α×List Int))(b:Bool)(x':α)(l':List Int)(b':Bool):Prop where
 stay:b=bh->b'=bh
 ok:b=aw->match o with
  |some (x,r)=>x'=x/\l'=r/\b'=aw
  |none=>b'=bh
theorem Rel.pure{α:Type}(x:α)(l:H Int)(b:YU):Rel (yS x l) b x l b:=⟨id,λh=>⟨rfl,rfl,h⟩⟩
theorem Rel.bind{α β:Type}{R:St α}{f:α->St β}{l i a:H Int}{b b' c:YU}{x':α}{j:β}(g:Rel (R l) b x' i b')(d:Rel (f x' i) b' j a c):Rel (jd R f l) b j a c:=by
 refine⟨λh=>d.stay<|g.stay h,λh=>?_⟩;have:=g.ok h;unfold jd;cases e:R l with
 |none=>rw[e]at this;exact d.stay this
 |some q=>
  obtain⟨x,r⟩:=q;rw[e]at this;obtain⟨rfl,rfl,k⟩:=this;exact d.ok k
theorem Rel.marked{α:Type}{o:L (α×H Int)}{x':α}{a:H Int}:Rel o bh x' a true:=⟨λ_=>rfl,λh=>by cases h⟩
theorem J5(l:H Int)(b:YU):∃x c b',lX ⟨l,b⟩=U (x,⟨c,b'⟩)/\Rel (Je l) b x c b':=by
 unfold lX;cases l with
 |nil=>exact⟨0,[],bh,rfl,λ_=>rfl,λ_=>rfl⟩
 |cons x l=>
  simp only;rw[dF (by simp;omega),Z2,show vx (x::l) 0=U x from QS x l,vt,show sub? (x::l) 1 (O (x::l):Int)=U l by
   have:=Sl (l:=x::l) (a:=1) (b:=O (x::l)) C7<|cl _;rw[te]at this;exact this,vt]
  exact⟨x,l,b,Z,id,λh=>⟨Z,Z,h⟩⟩
theorem FQ(m:Nat)(l:H Int)(b:YU):∃(x:Nat) (a:H Int) (b':YU),tY ⟨l,b⟩ m=U ((x:Int),⟨a,b'⟩)/\x<=m/\Rel (qM m l) b x a b':=by
  unfold tY;obtain⟨x,a,b',h,f⟩:=J5 l b;rw[h,vt];simp only;by_cases d:0<=x/\x<=(m:Int)
  · rw[dF V,dF V,Bool.or_self,Z2];refine⟨x.toNat,a,b',by rw[rS d.1],by omega,f.stay,λe=>?_⟩;have:=f.ok e;cases l with
    |nil=>exact this
    |cons y l=>
      obtain⟨rfl,rfl,c⟩:=this;rw[show qM (m:Int) (x::a)=U (x.toNat,a)from Z3 d];exact⟨Z,Z,c⟩
  · rw[show(G (x<0)||G ((m:Int)<x))=bh by
      rw[dC,decide_eq_true_eq,decide_eq_true_eq];omega,Z1]
    refine⟨0,a,bh,Z,by omega,λ_=>rfl,λe=>?_⟩;have:=f.ok e;cases l with
    |nil=>rfl
    |cons y l=>
      obtain⟨rfl,rfl,c⟩:=this;rw[show qM (m:Int) (x::a)=bd from Z4 d]
theorem WG(n:Nat)(hn:n<=100):∀(m M i:Nat) (a:H tp) (l:H Int) (b:YU),i+m=n->O a=i->m<M->
    ∃vs d b',again (sZ n) M (a,(i:Int),l,b)=U (a++vs,⟨d,b'⟩)/\O vs=m/\Rel (jT FA m l) b vs d b'
  |m,0,i,a,l,b,_,_,hM=>by omega
  |0,M+1,i,a,l,b,hi,_,_=>by
    rw[sV];unfold sZ;simp only;rw[dF V,Z2];exact⟨[],l,b,by simp,Z,Rel.pure [] l b⟩
  |m+1,M+1,i,a,l,b,hi,ha,hM=>by
    rw[sV];have c:=WG n hn m M<|i+1;generalize again (sZ n) M=K at c⊢;unfold sZ;simp only;rw[dT V,Z1];obtain⟨x,p,q,o,g⟩:=J5 l b;rw[o,vt];simp only;obtain⟨y,t,e,r,s⟩:=J5 p q;rw[r,vt];simp only;rw[gH (A5 (by simp;omega) tS),gI V V];obtain⟨vs,f,j,k,hl,u⟩:=c (a++[⟨x,y⟩]) t e V (by simp;omega) V;refine⟨⟨x,y⟩::vs,f,j,?_,by simp[hl],?_⟩
    · rw[show((i:Int)+1)=((i+1:Nat):Int) by omega,k];simp
    · exact Rel.bind (Rel.bind g<|Rel.bind s<|Rel.pure _ _ _)<|Rel.bind u<|Rel.pure _ _ _
theorem N4{N n:Nat}(hn:n<=100)(hN:200<=N)(l:H Int)(b:YU):∃vs a b',wV N ⟨l,b⟩ n=U (vs,⟨a,b'⟩)/\O vs=n/\Rel (jT FA n l) b vs a b':=by
 unfold wV;obtain⟨vs,a,b',e,hl,c⟩:=WG n hn n N 0 [] l b V Z V;exact⟨vs,a,b',by simpa using e,hl,c⟩
def D1:Ys:=⟨[],[],0,0⟩
def Fo(a:H bM)(s:Ys):Ys×Int:=
 if Lt a≠0 then(D1,Lt a)else if US a s≠0 then(D1,US a s)else if jY s=s then(s,0)else(D1,4)
def eP(a:H bM)(l:H Int):Ys×Int:=
 if 1200<O l then(D1,2)else match YO l with
  |some (s,[])=>Fo a s
  |_=>(D1,8)
theorem un_end(a:H bM)(s:Ys){N:Nat}(hN:100<=N):(ao (Jr a s) λb=>bif G ((b:Int)≠0)then U (D1,b)else Option.bind (Mi N s) λx=>ao (Vq x s) λy=>bif (!y)then U (D1,4)else U (s,0))=U (Fo a s):=by
  rw[OE,vt];unfold Fo;by_cases c:Lt a=0
  · rw[Z4 V,Z4 V];by_cases e:US a s=0
    · have f:=nk c;rw[dF V,Z2,N5 hN ((Ku.1 e).sw f),vt,eqState,vt,Z4 V];by_cases d:jY s=s
      · rw[dT d,Z3 d];rfl
      · rw[dF d,Z4 d];rfl
    · rw[dT e,Z1,Z3 e]
  · rw[Z3 c,dT c,Z1,Z3 c]
theorem TX{N:Nat}(hN:200<=N)(g:Int×rD)(a:H bM)(d:H Ya)(e f:Int×rD)(n:Nat)(y:g.1=n)(hn:n<=24):
    ∀(m M i:Nat) (c:H (H tp)) (l:H Int) (b:YU),i+m=n->O c=i->m<M->
    ∃cs k b',again (CB N g a d e f) M ((i:Int),l,b,c)=(bif (b'||G ((0:Int)<(O k:Int)))then U (D1,8)else U (Fo a ⟨d,c++cs,e.1,f.1⟩))/\Rel (jT (Ba 4) m l) b cs k b'
  |m,0,i,c,l,b,_,_,hM=>by omega
  |0,M+1,i,c,l,b,hi,_,_=>by
    rw[sV];unfold CB;simp only;rw[dF V,Z2];refine⟨[],l,b,?_,Rel.pure [] l b⟩;rw[eK,<-un_end a ⟨d,c,e.1,f.1⟩ (N:=N) V];rfl
  |m+1,M+1,i,c,l,b,hi,ha,hM=>by
    rw[sV];have j:=TX hN g a d e f n y hn m M<|i+1;generalize again (CB N g a d e f) M=K at j⊢;unfold CB;simp only;rw[dT V,Z1];obtain⟨x,A,aq,o,E,v⟩:=FQ 4 l b;rw[show((4:Nat):Int)=4 from rfl]at o;rw[o,vt];simp only;obtain⟨vs,t,p,r,C,s⟩:=N4 (N:=N) (n:=x) V hN A aq;rw[r,vt];simp only;rw[gH (A5 (by simp;omega) tS)];unfold Mj;rw[gI V V];obtain⟨cs,q,w,z,u⟩:=j (c++[vs]) t p V (by simp;omega) V;refine⟨vs::cs,q,w,?_,?_⟩
    · rw[show((i:Int)+1)=((i+1:Nat):Int) by omega,z];simp
    · exact Rel.bind (Rel.bind v s)<|Rel.bind u<|Rel.pure _ _ _
theorem N0{α β:Type}{R:St α}{m:Nat}{al:H α->St β}{l:H Int}:jd (jT R (m+1)) al l=jd R (λx=>jd (jT R m) λfs=>al (x::fs)) l:=by
 show((jd R (λx=>jd (jT R m) λl=>yS<|x::l) l).bind _)=_;unfold jd;cases R l with
 |none=>rfl
 |some q=>
  rw[cJ,cJ];simp only;cases jT R m q.2 with
  |none=>rfl
  |some q2=>rfl
theorem LI{N:Nat}(hN:200<=N)(e:Int×rD)(a:H bM)(g j:Int×rD)(n:Nat)(X:e.1=n)(hn:n<=10):
    ∀(m M i:Nat) (d:H Ya) (l:H Int) (b:YU),i+m=n->O d=i->m<M->
    ∃(s:Ys) (w0:H Int) (b':YU),again (Bj N e a g j) M ((i:Int),l,b,d)=(bif (b'||G ((0:Int)<(O w0:Int)))then U (D1,8)else U (Fo a s))/\
      Rel (jd (jT Pn m) (λf=>jd (qM 24) λk=>jd (jT (Ba 4) k) λc=>yS (⟨d++f,c,g.1,j.1⟩:Ys)) l) b s w0 b'
  |m,0,i,d,l,b,_,_,hM=>by omega
  |0,M+1,i,d,l,b,hi,_,_=>by
    rw[sV];unfold Bj;simp only;rw[dF V,Z2];obtain⟨x,r,u,o,al,z⟩:=FQ 24 l b;rw[show((24:Nat):Int)=24 from rfl]at o;rw[o,vt];simp only;obtain⟨cs,y,v,aq,w⟩:=TX hN ((x:Int),⟨r,u⟩) a d g j x Z al x N 0 [] r u V Z V;refine⟨⟨d++[],[]++cs,g.1,j.1⟩,y,v,?_,?_⟩
    · rw[eK];exact aq
    · exact Rel.bind (Rel.pure [] l b)<|Rel.bind z<|Rel.bind w<|Rel.pure _ _ _
  |m+1,M+1,i,d,l,b,hi,ha,hM=>by
    rw[sV];have F:=LI hN e a g j n X hn m M<|i+1;generalize again (Bj N e a g j) M=K at F⊢;unfold Bj;simp only;rw[dT V,Z1];obtain⟨p,r,u,o,z⟩:=J5 l b;rw[o,vt];simp only;obtain⟨q,y,v,aq,w⟩:=J5 r u;rw[aq,vt];simp only;obtain⟨t,P,b3,e3,R⟩:=J5 y v;rw[e3,vt];simp only;obtain⟨x,l4,b4,C,al,r4⟩:=FQ 40 P b3;rw[show((40:Nat):Int)=40 from rfl]at C;rw[C,vt];simp only;obtain⟨vs,ab,E,sc,hv,T⟩:=N4 (N:=N) (n:=x) V hN l4 b4;rw[sc,vt];simp only;rw[gH (A5 (by simp;omega) tS),gI V V];obtain⟨s,S,b6,e6,Zs⟩:=F (d++[⟨p,q,vs,t⟩]) ab E V (by simp;omega) V;refine⟨s,S,b6,?_,?_⟩
    · rw[show((i:Int)+1)=((i+1:Nat):Int) by omega,e6]
    · have A:Rel (Pn l) b ⟨p,q,vs,t⟩ ab E:=Rel.bind z<|Rel.bind w<|Rel.bind R<|Rel.bind (Rel.bind r4 T)<|Rel.pure _ _ _;simp only[cg,ei,cc]at Zs;rw[N0];exact Rel.bind (f:=λx=>jd (jT Pn m) λfs=>jd (qM 24) λk=>jd (jT (Ba 4) k) λc=>yS (⟨d++x::fs,c,g.1,j.1⟩:Ys)) A Zs
theorem end_rel{a:H bM}{l b:H Int}{b':YU}{s:Ys}{y:L (Ys×Int)}(hl:¬1200<O l)(c:Rel (YO l) aw s b b')(h:y=(bif (b'||G ((0:Int)<(O b:Int)))then U (D1,8)else U (Fo a s))):y=U (eP a l):=by
 rw[h];unfold eP;rw[Z4 hl];have:=c.ok Z;cases e:YO l with
 |none=>rw[e]at this;simp only at this;subst this;rfl
 |some q=>
  obtain⟨d,r⟩:=q;rw[e]at this;obtain⟨rfl,rfl,rfl⟩:=this;cases b with
  |nil=>rfl
  |cons x b=>rw[pd,dT C7,Z1]
theorem G8(a:H bM)(l:H Int){N:Nat}(hN:200<=N):wF N a l=U (eP a l):=by
  unfold wF;by_cases hl:1200<O l
  · rw[dT V,Z1];unfold eP;rw[Z3 hl];rfl
  · rw[dF V,Z2];obtain⟨st,g,i,q,p⟩:=J5 l aw;rw[q,vt];simp only;obtain⟨wh,d,b,k,m⟩:=J5 g i;rw[k,vt];simp only;obtain⟨x,c,e,f,o,n⟩:=FQ 10 d b;rw[show((10:Nat):Int)=10 from rfl]at f;rw[f,vt];simp only;obtain⟨s,u,t,j,r⟩:=LI hN ((x:Int),⟨c,e⟩) a (st,⟨g,i⟩) (wh,⟨d,b⟩) x Z o x N 0 [] c e V Z V;exact end_rel hl (Rel.bind p<|Rel.bind m<|Rel.bind n r) j
section
variable{w0:H Int}(hI:O w0<=1200)
include hI
theorem MR(p:Nat)(t:YU)(J:p<=O w0):∃(x:Int) (a:Nat) (b:YU),EX ⟨(p:Int),t⟩ w0 (-1)=U (x,⟨(a:Int),b⟩)/\a<=O w0/\Rel (Je (w0.drop p)) t x (w0.drop a) b:=by
  unfold EX;simp only;by_cases h:O w0<=p
  · rw[dT V,Z1];refine⟨0,p,bh,Z,J,λ_=>rfl,λ_=>?_⟩;rw[cC h];rfl
  · have c:p<O w0:=by omega
    rw[dF V,Z2,rC c,vt,gI V V,dF V,ju,Z2];refine⟨w0[p],p+1,t,by push_cast;rfl,by omega,id,λd=>?_⟩;rw[cy c];exact⟨Z,Z,d⟩
theorem manyR(m:Nat)(p:Nat)(t:YU)(J:p<=O w0):∃(x:Nat) (b:Nat) (d:YU),EX ⟨(p:Int),t⟩ w0 m=U ((x:Int),⟨(b:Int),d⟩)/\x<=m/\b<=O w0/\Rel (qM m (w0.drop p)) t x (w0.drop b) d:=by
  unfold EX;simp only;by_cases h:O w0<=p
  · rw[dT V,Z1];refine⟨0,p,bh,Z,by omega,J,λ_=>rfl,λ_=>?_⟩;rw[cC h];rfl
  · have e:p<O w0:=by omega
    rw[dF V,Z2,rC e,vt,gI V V,dT V,gw,<-inL];have c:=cy e;generalize g:w0[p]=x at c;by_cases a:0<=x/\x<=(m:Int)
    · rw[dT a.1,dT a.2];refine⟨x.toNat,p+1,t,?_,by omega,by omega,id,λf=>?_⟩
      · simp only[mw,cE,Z2];rw[rS a.1];push_cast;rfl
      · rw[c,show qM (m:Int) (x::w0.drop (p+1))=U (x.toNat,w0.drop (p+1))from Z3 a];exact⟨Z,Z,f⟩
    · rw[show(!(G ((0:Int)<=x)&&G (x<=(m:Int))))=bh by
        rw[Bool.not_eq_true',cm,decide_eq_false_iff_not,decide_eq_false_iff_not];omega,Z1]
      refine⟨0,p+1,bh,by push_cast;rfl,by omega,by omega,λ_=>rfl,λ_=>?_⟩;rw[c,show qM (m:Int) (x::w0.drop (p+1))=bd from Z4 a]
theorem N2:∀(m M:Nat) (a:H tp) (p:Nat) (t:YU),m<M->O a+m<=100->p<=O w0->
    ∃(vs:H tp) (b:Nat) (g:YU),again (Lh w0) M (a,(m:Int),(p:Int),t)=U (a++vs,⟨(b:Int),g⟩)/\b<=O w0/\Rel (jT FA m (w0.drop p)) t vs (w0.drop b) g
  |m,0,a,p,t,hM,_,_=>by omega
  |m,M+1,a,p,bh,hM,hl,J=>by
    rw[sV];unfold Lh;simp only[cE,qC,Z2];exact⟨[],p,bh,by simp,J,Rel.marked⟩
  |0,M+1,a,p,aw,hM,hl,J=>by
    rw[sV];unfold Lh;simp only;rw[dF V,ju,Z2];exact⟨[],p,aw,by simp,J,Rel.pure [] _ _⟩
  |m+1,M+1,a,p,aw,hM,hl,J=>by
    rw[sV];have f:=N2 m M;generalize again (Lh w0) M=K at f⊢;unfold Lh;simp only;rw[dT V,en,mw,Z1];obtain⟨x,s,u,r,c,o⟩:=MR hI p aw J;rw[r,vt];simp only;obtain⟨y,v,t2,j,d,k⟩:=MR hI s u c;rw[j,vt];simp only;rw[gH (A5 (by simp;omega) tS),gI V V];obtain⟨vs,n,i,q,e,l⟩:=f (a++[⟨x,y⟩]) v t2 V (by simp;omega) d;refine⟨⟨x,y⟩::vs,n,i,?_,e,?_⟩
    · rw[show(((m+1:Nat):Int)-1)=(m:Int) by omega,q];simp
    · exact Rel.bind (Rel.bind o<|Rel.bind k<|Rel.pure _ _ _)<|Rel.bind l<|Rel.pure _ _ _
theorem rowR{N:Nat}(hN:200<=N)(m:Nat)(n:m<=100)(p:Nat)(t:YU)(J:p<=O w0):∃(vs:H tp) (a:Nat) (d:YU),N6 N ⟨(p:Int),t⟩ w0 m=U (vs,⟨(a:Int),d⟩)/\a<=O w0/\Rel (Ba m (w0.drop p)) t vs (w0.drop a) d:=by
 unfold N6;obtain⟨x,j,k,i,o,b,g⟩:=manyR hI m p t J;rw[i,vt];simp only;obtain⟨vs,l,t2,e,c,f⟩:=N2 hI x N [] j k V (by simp;omega) b;exact⟨vs,l,t2,by simpa using e,c,Rel.bind g f⟩
omit hI in
theorem un_endR{a:H bM}(f:Lt a=0)(s:Ys){N:Nat}(hN:100<=N):(ao (mG a s) λb=>bif G ((b:Int)≠0)then U (D1,b)else Option.bind (rV N s) λx=>ao (tF x s) λy=>bif (!y)then U (D1,4)else U (s,0))=U (Fo a s):=by
  rw[ckS_eq2,vt];unfold Fo;rw[Z4 V];by_cases d:US a s=0
  · have e:=nk f;rw[dF V,Z2,Iw hN ((Ku.1 d).sw e),vt,eqState2,vt,Z4 V];by_cases c:jY s=s
    · rw[dT c,Z3 c];rfl
    · rw[dF c,Z4 c];rfl
  · rw[dT d,Z1,Z3 d]
theorem cellsR{a:H bM}(k:Lt a=0){N:Nat}(hN:200<=N)(c:H Ya)(e d:Int×gY):
    ∀(m M:Nat) (b:H (H tp)) (p:Nat) (t:YU),m<M->O b+m<=100->p<=O w0->
    ∃(cs:H (H tp)) (f:Nat) (l:YU),again (nM N w0 a c e d) M ((m:Int),(p:Int),t,b)=(bif (l||G ((0:Int)<(O (w0.drop f):Int)))then U (D1,8)else U (Fo a ⟨c,b++cs,e.1,d.1⟩))/\f<=O w0/\Rel (jT (Ba 4) m (w0.drop p)) t cs (w0.drop f) l
  |m,0,b,p,t,hM,_,_=>by omega
  |m,M+1,b,p,bh,hM,hl,J=>by
    rw[sV];unfold nM;simp only[cE,qC,Z2];exact⟨[],p,bh,by simp[D1],J,Rel.marked⟩
  |0,M+1,b,p,aw,hM,hl,J=>by
    rw[sV];unfold nM;simp only;rw[dF V,ju,Z2];refine⟨[],p,aw,?_,J,Rel.pure [] _ _⟩;rw[eK,<-un_endR k ⟨c,b,e.1,d.1⟩ (N:=N) V,show G ((0:Int)<(O (w0.drop p):Int))=G ((p:Int)<(O w0:Int)) by
      rw[List.length_drop];by_cases h:p<O w0
      · rw[dT V,dT V]
      · rw[dF V,dF V]]
    rfl
  |m+1,M+1,b,p,aw,hM,hl,J=>by
    rw[sV];have j:=cellsR k hN c e d m M;generalize again (nM N w0 a c e d) M=K at j⊢;unfold nM;simp only;rw[dT V,en,mw,Z1];obtain⟨vs,v,w,n,g,s⟩:=rowR hI hN 4 V p aw J;rw[show((4:Nat):Int)=4 from rfl]at n;rw[n,vt];simp only;rw[gH (A5 (by simp;omega) tS)];unfold Af;rw[gI V V];obtain⟨cs,r,o,u,i,q⟩:=j (b++[vs]) v w V (by simp;omega) g;refine⟨vs::cs,r,o,?_,i,?_⟩
    · rw[show(((m+1:Nat):Int)-1)=(m:Int) by omega,u];simp
    · exact Rel.bind s<|Rel.bind q<|Rel.pure _ _ _
theorem framesR{a:H bM}(v:Lt a=0){N:Nat}(hN:200<=N)(g e:Int×gY):
    ∀(m M:Nat) (b:H Ya) (p:Nat) (t:YU),m<M->O b+m<=100->p<=O w0->
    ∃(s:Ys) (C:Nat) (ab:YU),again (mR N w0 a g e) M ((m:Int),(p:Int),t,b)=(bif (ab||G ((0:Int)<(O (w0.drop C):Int)))then U (D1,8)else U (Fo a s))/\
      Rel (jd (jT Pn m) (λf=>jd (qM 24) λk=>jd (jT (Ba 4) k) λc=>yS (⟨b++f,c,g.1,e.1⟩:Ys)) (w0.drop p)) t s (w0.drop C) ab
  |m,0,b,p,t,hM,_,_=>by omega
  |m,M+1,b,p,bh,hM,hl,J=>by
    rw[sV];unfold mR;simp only[cE,qC,Z2];obtain⟨x,q,u,j,hx,d,o⟩:=manyR hI 24 p bh J;rw[show((24:Nat):Int)=24 from rfl]at j;rw[j,vt];simp only;have A:=o.stay Z;subst A;obtain⟨cs,r,t2,l,i,n⟩:=cellsR hI v hN b g e x N [] q bh V (by simp;omega) d;have y:=n.stay Z;subst y;exact⟨⟨b,[]++cs,g.1,e.1⟩,r,bh,l,Rel.marked⟩
  |0,M+1,b,p,aw,hM,hl,J=>by
    rw[sV];unfold mR;simp only;rw[dF V,ju,Z2];obtain⟨x,q,u,j,hx,d,o⟩:=manyR hI 24 p aw J;rw[show((24:Nat):Int)=24 from rfl]at j;rw[j,vt];simp only;obtain⟨cs,r,t2,l,i,n⟩:=cellsR hI v hN b g e x N [] q u V (by simp;omega) d;refine⟨⟨b++[],[]++cs,g.1,e.1⟩,r,t2,?_,?_⟩
    · rw[eK];exact l
    · exact Rel.bind (Rel.pure [] _ _)<|Rel.bind o<|Rel.bind n<|Rel.pure _ _ _
  |m+1,M+1,b,p,aw,hM,hl,J=>by
    rw[sV];have E:=framesR v hN g e m M;generalize again (mR N w0 a g e) M=K at E⊢;unfold mR;simp only;rw[dT V,en,mw,Z1];obtain⟨sc,q,u,j,d,o⟩:=MR hI p aw J;rw[j,vt];simp only;obtain⟨S,r,t2,l,i,n⟩:=MR hI q u d;rw[l,vt];simp only;obtain⟨Zs,p3,t3,e3,z,r3⟩:=MR hI r t2 i;rw[e3,vt];simp only;obtain⟨vs,al,P,F,w,r5⟩:=rowR hI hN 40 V p3 t3 z;rw[show((40:Nat):Int)=40 from rfl]at F;rw[F,vt];simp only;rw[gH (A5 (by simp;omega) tS),gI V V];obtain⟨s,X,t6,T,R⟩:=E (b++[⟨sc,S,vs,Zs⟩]) al P V (by simp;omega) w;refine⟨s,X,t6,?_,?_⟩
    · rw[show(((m+1:Nat):Int)-1)=(m:Int) by omega,T]
    · have aq:Rel (Pn<|w0.drop p) aw ⟨sc,S,vs,Zs⟩ (w0.drop al) P:=Rel.bind o<|Rel.bind n<|Rel.bind r3<|Rel.bind r5<|Rel.pure _ _ _;simp only[cg,ei,cc]at R;rw[N0];exact Rel.bind (f:=λx=>jd (jT Pn m) λfs=>jd (qM 24) λk=>jd (jT (Ba 4) k) λc=>yS (⟨b++x::fs,c,g.1,e.1⟩:Ys)) aq R
end
theorem OG{a:H bM}(o:Lt a=0)(l:H Int){N:Nat}(hN:200<=N):j4 N a l=U (eP a l):=by
  unfold j4;by_cases hl:1200<O l
  · rw[dT V,Z1];unfold eP;rw[Z3 hl];rfl
  · have hI:O l<=1200:=by omega
    rw[dF V,Z2];obtain⟨st,i,j,g,b,e⟩:=MR hI 0 aw V;rw[show((0:Nat):Int)=0 from rfl]at g;rw[g,vt];simp only;obtain⟨wh,k,t2,q,c,r⟩:=MR hI i j b;rw[q,vt];simp only;obtain⟨x,n,p,f,v,d,t⟩:=manyR hI 10 k t2 c;rw[show((10:Nat):Int)=10 from rfl]at f;rw[f,vt];simp only;obtain⟨s,w,y,m,u⟩:=framesR hI o hN (st,⟨(i:Int),j⟩) (wh,⟨(k:Int),t2⟩) x N [] n p V (by simp;omega) d;rw[fF]at e;exact end_rel hl (Rel.bind e<|Rel.bind r<|Rel.bind t u) m
open Go Go.Proofs Go.LX
theorem read_all{s:Ys}(h:EV s):YO (Ap s)=U (s,[]):=by
 have:=rSt_pack h [];rw[eK]at this;exact this
theorem unpack_pack{a:H bM}(c:Lt a=0){s:Ys}(h:Au a s):eP a (Ap (jY s))=(jY s,0):=by
 have b:=nk c;have W:=U3 b h;unfold eP;rw[Z4 (by have:=KB W;omega),read_all W];simp only;unfold Fo;rw[Z4 V,Z4 (by rw[Ku.2 (FF b h)];omega),Z3 (MP (h.sw b))]
theorem W5{a:H bM}{s:Ys}(h:Au a s):Au a (DS s):=by
  unfold DS;by_cases b:s.q=3
  · rw[Z3 b];refine⟨by simp,by simp,λ_=>rfl,?_,h.many,h.j,h.i⟩;have:=h.ended;constructor
    · intro e;simp at e
    · intro e;have:=h.ended.2 e;omega
  · rw[Z4 b];exact h
theorem wake_eq(s:Ys)(h:s.q=3):DS s=⟨s.i,s.j,0,0⟩:=Z3 h
namespace Dk
open Go Go.Proofs Go.LX
theorem eqInt(a b:H Int):CM a b=U (G (a=b)):=by
  unfold CM;by_cases h:O a=O b
  · rw[dF V];simp only[Z2,ba];rw[Pz (λx y=>G (x=y)) a b h rfl (λi x y f d c=>by
      unfold Ec;rw[kz,kz,d,c];by_cases e:x=y<;>simp[e]),Dn (λ_ _=>rfl)]
  · rw[dT V];have:a≠b:=λe=>h (by rw[e]);rw[dF this];rfl
theorem EU(r:vA):fC r=eF r:=by
  unfold fC eF mo gM dx gU;have d:(((!(aN r.t 0 2))||(!(aN r.k 0 100)))||(!(aN r.o 0 2)))=(((((G ((r.t:Int)<0)||G ((3:Int)<=r.t))||G ((r.k:Int)<0))||G ((100:Int)<r.k))||G ((r.o:Int)<0))||G ((3:Int)<=r.o)):=by
    unfold aN;rw[dI];simp;omega
  rw[d];generalize (((((G ((r.t:Int)<0)||G ((3:Int)<=r.t))||G ((r.k:Int)<0))||G ((100:Int)<r.k))||G ((r.o:Int)<0))||G ((3:Int)<=r.o))=C1;generalize (G ((40:Int)<(O r.H:Int))||G ((1200:Int)<(O r.u:Int)))=C2;generalize G ((r.o:Int)≠0)=p0;generalize G ((0:Int)<(O r.H:Int))=s1;generalize G ((0:Int)<(O r.u:Int))=i1;generalize G ((r.k:Int)=0)=e0;have e:∀l:vh,(DM l 73=bh\/DM l 73=aw):=λl=>by cases DM l 73<;>simp
  by_cases k1:r.h=1
  · rw[k1,show DM ((lk (1:Int) ([(1,[73]),(2,[83,73]),(3,[80]),(4,[73]),(5,[])]:H (Int×vh))).getD []) 80=aw by decide,show DM ((lk (1:Int) ([(1,[73]),(2,[83,73]),(3,[80]),(4,[73]),(5,[])]:H (Int×vh))).getD []) 83=aw by decide,show DM ((lk (1:Int) ([(1,[73]),(2,[83,73]),(3,[80]),(4,[73]),(5,[])]:H (Int×vh))).getD []) 73=bh by decide];cases C1<;>cases C2<;>cases p0<;>cases s1<;>cases i1<;>cases e0<;>rfl
  by_cases k2:r.h=2
  · rw[k2,show DM ((lk (2:Int) ([(1,[73]),(2,[83,73]),(3,[80]),(4,[73]),(5,[])]:H (Int×vh))).getD []) 80=aw by decide,show DM ((lk (2:Int) ([(1,[73]),(2,[83,73]),(3,[80]),(4,[73]),(5,[])]:H (Int×vh))).getD []) 83=bh by decide,show DM ((lk (2:Int) ([(1,[73]),(2,[83,73]),(3,[80]),(4,[73]),(5,[])]:H (Int×vh))).getD []) 73=bh by decide];cases C1<;>cases C2<;>cases p0<;>cases s1<;>cases i1<;>cases e0<;>rfl
  by_cases a:r.h=3
  · rw[a,show DM ((lk (3:Int) ([(1,[73]),(2,[83,73]),(3,[80]),(4,[73]),(5,[])]:H (Int×vh))).getD []) 80=bh by decide,show DM ((lk (3:Int) ([(1,[73]),(2,[83,73]),(3,[80]),(4,[73]),(5,[])]:H (Int×vh))).getD []) 83=aw by decide,show DM ((lk (3:Int) ([(1,[73]),(2,[83,73]),(3,[80]),(4,[73]),(5,[])]:H (Int×vh))).getD []) 73=aw by decide];cases C1<;>cases C2<;>cases p0<;>cases s1<;>cases i1<;>cases e0<;>rfl
  by_cases c:r.h=4
  · rw[c,show DM ((lk (4:Int) ([(1,[73]),(2,[83,73]),(3,[80]),(4,[73]),(5,[])]:H (Int×vh))).getD []) 80=aw by decide,show DM ((lk (4:Int) ([(1,[73]),(2,[83,73]),(3,[80]),(4,[73]),(5,[])]:H (Int×vh))).getD []) 83=aw by decide,show DM ((lk (4:Int) ([(1,[73]),(2,[83,73]),(3,[80]),(4,[73]),(5,[])]:H (Int×vh))).getD []) 73=bh by decide];cases C1<;>cases C2<;>cases p0<;>cases s1<;>cases i1<;>cases e0<;>rfl
  by_cases b:r.h=5
  · rw[b,show DM ((lk (5:Int) ([(1,[73]),(2,[83,73]),(3,[80]),(4,[73]),(5,[])]:H (Int×vh))).getD []) 80=aw by decide,show DM ((lk (5:Int) ([(1,[73]),(2,[83,73]),(3,[80]),(4,[73]),(5,[])]:H (Int×vh))).getD []) 83=aw by decide,show DM ((lk (5:Int) ([(1,[73]),(2,[83,73]),(3,[80]),(4,[73]),(5,[])]:H (Int×vh))).getD []) 73=aw by decide];cases C1<;>cases C2<;>cases p0<;>cases s1<;>cases i1<;>cases e0<;>rfl
  rw[show lk r.h ([(1,[73]),(2,[83,73]),(3,[80]),(4,[73]),(5,[])]:H (Int×vh))=bd by simp[lk,k1,k2,a,c,b]];rw[show(G ((r.h:Int)<1)||G ((5:Int)<r.h))=bh by simp;omega];rfl
structure GoodR(r:vA):Prop where
 h:1<=r.h/\r.h<=5
 t:0<=r.t/\r.t<=2
 k:1<=r.k/\r.k<=100
 o:0<=r.o/\r.o<=2
 H:r.H.length<=40
 u:r.u.length<=1200
 has:(r.h=1\/r.h=2\/r.h=4)->1<=r.u.length
theorem HB(r:vA)(h:eF r=0):GoodR r:=by
 rw[<-EU]at h;unfold fC at h;have hn:0<=(O r.u:Int):=by omega
 generalize f:(G ((r.h:Int)<1)||G ((5:Int)<r.h))=A at h;cases A with
 |true=>simp only[Z1]at h;exact ZL h tS
 |false=>
 simp only[Z2]at h;generalize c:(((((G ((r.t:Int)<0)||G ((3:Int)<=r.t))||G ((r.k:Int)<0))||G ((100:Int)<r.k))||G ((r.o:Int)<0))||G ((3:Int)<=r.o))=aq at h;cases aq with
 |true=>simp only[Z1]at h;exact ZL h tS
 |false=>
 simp only[Z2]at h;generalize d:(G ((40:Int)<(O r.H:Int))||G ((1200:Int)<(O r.u:Int)))=C at h;cases C with
 |true=>simp only[Z1]at h;exact ZL h tS
 |false=>
 simp only[Z2]at h;generalize b:((((G ((r.h:Int)≠3)&&G ((r.o:Int)≠0))||(G ((r.h:Int)≠2)&&G ((0:Int)<(O r.H:Int))))||(((G ((r.h:Int)=1)||G ((r.h:Int)=2))||G ((r.h:Int)=4)) !=G ((0:Int)<(O r.u:Int))))||G ((r.k:Int)=0))=D at h;cases D with
 |true=>simp only[Z1]at h;exact ZL h tS
 |false=>
 simp only[cV,decide_eq_false_iff_not,bne_eq_false_iff_eq]at f c d b;obtain⟨⟨⟨_,_⟩,a⟩,g⟩:=b;refine⟨by omega,by omega,by omega,by omega,by omega,by omega,λi=>?_⟩;have:((G ((r.h:Int)=1)||G ((r.h:Int)=2))||G ((r.h:Int)=4))=true:=by
  simp;omega
 rw[this]at a;have e:G ((0:Int)<(O r.u:Int))=true:=by
  cases hq:G ((0:Int)<(O r.u:Int))with
  |true=>rfl
  |false=>rw[hq]at a;cases a
 have:=UP e;omega
def Q4(r:vA):Prop:=j6 r.h/\j6 r.t/\j6 r.k/\j6 r.o/\(∀x∈r.H,j6 x)/\(∀x∈r.u,j6 x)
def nl(r:vA):H Int:=[r.h,r.t,r.k,r.o,(O r.H:Int)]++r.H++r.u
def zR:vA:=⟨0,0,0,0,[],[]⟩
def uw(r:vA):vh×Int:=if fC r=0 then(zn 32 ((nl r).map dw),0)else([],fC r)
def NF(l:H Int)(n:Nat):vA:=⟨l.getD 0 0,l.getD 1 0,l.getD 2 0,l.getD 3 0,(l.take (5+n)).drop 5,l.drop (5+n)⟩
def NG(l:H Int):vA×Int:=
 if O l<5 then(zR,1)else if l.getD 4 0<0\/(O l:Int)-5<l.getD 4 0 then(zR,1)else
 if fC (NF l (l.getD 4 0).toNat)=0 then(NF l (l.getD 4 0).toNat,0)else(zR,fC (NF l (l.getD 4 0).toNat))
def nP(s:vh):vA×Int:=match Ty 32 s with|none=>(zR,1)|some l=>NG l
def E7(s:vh):vA×Int:=if(60000:Int)<(O s:Int)then(zR,2)else nP s
theorem concat5:∀(l:H (H Int)) (a:H Int),O a+(l.map O).sum<=1000000->vq CJ CK l a=U (a++l.flatten)
 |[],a,_=>by simp[kJ,CK]
 |x::l,a,h=>by
  simp only[cr,mh]at h;rw[fQ,CJ,gH ⟨by omega,by omega⟩,concat5 l (a++x) (by rw[bm];omega)];simp
theorem concat7(a:H (H Int)):∀(l:H (H Int)) (n:Nat),n+(l.map O).sum<=1000000->vq CL (yF a) l (n:Int)=yF a ((n+(l.map O).sum:Nat):Int)
 |[],n,_=>by simp[kJ]
 |x::l,n,h=>by
  simp only[cr,mh]at h⊢;rw[fQ,CL,gI,dF V,Z2,show((n:Int)+(O x:Int))=((n+O x:Nat):Int) by omega,concat7 a l (n+O x) V,kj]
theorem concat_eq(a:H (H Int))(h:(a.map O).sum<=1000000):uU a=U a.flatten:=by
 unfold uU;have:=concat7 a a 0 V;rw[show((0:Nat):Int)=0 from rfl]at this;rw[this];unfold yF;rw[show Hy 8 ((0+(a.map O).sum:Nat):Int)=U ([]:H Int) by unfold Hy;rw[gH ⟨by omega,by omega⟩],vt,concat5 a [] (by simpa using h)];simp
theorem concat3(a b c:H Int)(h:O a+O b+O c<=1000000):uU [a,b,c]=U (a++b++c):=by
 rw[concat_eq _ (by simp;omega)];simp
theorem nl_len(r:vA):O (nl r)=5+O r.H+O r.u:=by simp[nl];omega
theorem nl_ok{r:vA}(g:GoodR r)(w:Q4 r):∀x∈nl r,j6 x:=by
  obtain⟨w1,f,d,e,b,c⟩:=w;have W:=g.H;intro x a;simp only[nl,dq,bs,List.not_mem_nil,or_false]at a;rcases a with((rfl|rfl|rfl|rfl|rfl)|a)|a
  · exact w1
  · exact f
  · exact d
  · exact e
  · exact j6.mk V V
  · exact b x a
  · exact c x a
theorem YP{r:vA}(g:GoodR r):O (nl r)<=1245:=by rw[nl_len];have:=g.H;have:=g.u;omega
theorem nl_ne(r:vA):nl r≠[]:=by simp[nl]
theorem Mn:∀(l:H Int) (pre:H vh),(∀x∈l,j6 x)->ic EK Bl (O pre:Int) l (pre++bw (O l) ([]:vh))=Bl (pre++l.map dw)
 |[],pre,_=>by simp[Va]
 |x::l,pre,h=>by
  rw[Ay,EK,Zc (h x C7),vt,kz];have d:(pre++bw (O (x::l)) ([]:vh))[O pre]? =U []:=by rw[List.getElem?_append_right (cl _)];simp
  rw[d,vt,ba];have a:(pre++bw (O (x::l)) ([]:vh)).set (O pre) (dw x)=(pre++[dw x])++bw (O l) ([]:vh):=by
   rw[List.set_append_right _ _ (cl _)];simp[List.replicate_succ]
  have b:((O pre:Int)+1)=(O (pre++[dw x]):Int):=by simp
  rw[a,b,Mn l (pre++[dw x]) (λy c=>h y (bo _ c))];simp
theorem join_ok{l:H Int}(h:∀x∈l,j6 x)(hl:O l<=1245):HJ (l.map dw) [32]=U (zn 32 (l.map dw)):=by
 have b:=Hj 32 21 (l.map dw) (by intro x a;obtain⟨y,c,rfl⟩:=fi.1 a;exact itoa_len (h y c));rw[dr]at b;exact joinS_eq 32 (by rw[dr];omega) V
theorem print_eq(r:vA)(b:fC r=0->Q4 r):KW r=U (uw r):=by
  unfold KW uw;by_cases h:fC r=0
  · have g:=HB r (by rw[<-EU];exact h);have W:=g.H;have hi:=g.u;rw[dF V,Z2,Z3 h,concat3 _ _ _ (by simp;omega),vt];have hl:=YP g;have a:=nl_ok g<|b h;show iC _ (ic EK Bl 0 (nl r)<|bw (O (nl r):Int).toNat ([]:vh))=_;have c:(r.h::r.t::r.k::r.o::(O r.H:Int)::(r.H++r.u)).length=O (nl r):=by simp[nl]
    rw[gH (by
      refine⟨by omega,?_⟩;have:([r.h,r.t,r.k,r.o,(O r.H:Int)]++r.H++r.u).length=O (nl r):=rfl;rw[this];omega),ba]
    have:=Mn (nl r) [] a;simp only[eR,cc]at this;rw[show((0:Nat):Int)=0 from rfl]at this;rw[this];unfold Bl;rw[join_ok a hl,vt]
  · rw[dT h,Z1,Z4 h]
theorem Wb:∀(l:H Int) (a:H vh),(∀x∈l,j6 x)->O a+O l<=1000000->vq vZ rZ l a=rZ (a++l.map dw)
 |[],a,_,_=>by simp[kJ]
 |x::l,a,h,hl=>by
  simp only[br]at hl;rw[fQ,vZ,Zc (h x C7),vt,gH ⟨by simp;omega,by simp;omega⟩,Wb l _ (λy b=>h y (bo _ b)) (by simp;omega)];simp
theorem text_eq(r:vA)(b:fC r=0->Q4 r):zF r=U (uw r):=by
  unfold zF uw;rw[<-EU];by_cases h:fC r=0
  · have g:=HB r (by rw[<-EU];exact h);have W:=g.H;have hi:=g.u;rw[dF V,Z2,Z3 h,concat3 _ _ _ (by simp;omega),vt];have hl:=YP g;have a:=nl_ok g<|b h;show vq vZ rZ (nl r) []=_;rw[Wb (nl r) [] a (by simp;omega),cc];unfold rZ;rw[join_ok a hl,vt]
  · rw[dT h,Z1,Z4 h]
theorem E6:∀(w:H vh) (a:H Int),(∀x∈w,O x<=60000)->O a+O w<=1000000->
    vq Aa Ab w a=U (match w.mapM numOf with|some v=>(a++v,bh)|none=>([],aw))
  |[],a,_,_=>by simp[kJ,Ab]
  |x::w,a,h,hl=>by
    have g:=h x C7;simp only[br]at hl;have f:=λy=>E6 w (a++[y]) (λz d=>h z (bo _ d)) (by simp;omega);rw[fQ,Aa,parseS_eq V,vt,ra];cases e:Lib.atoiAll x with
    |ok v=>
      have c:j6 v:=zp e;simp only[Z2];rw[Zc c,vt,uV];by_cases b:dw v=x
      · rw[dF (by simpa using b),Z2,gH ⟨by simp;omega,by simp;omega⟩,f];have:numOf x=U v:=by simp[numOf,e,b]
        rw[this];cases e2:w.mapM numOf with
        |none=>rfl
        |some m=>simp
      · rw[dT b,Z1];have:numOf x=none:=by simp[numOf,e,b]
        rw[this];rfl
    |range=>
      have:numOf x=none:=by simp[numOf,e]
      rw[this];rfl
    |_=>
      have:numOf x=none:=by simp[numOf,e]
      rw[this];rfl
theorem numbers_eq(s:vh)(h:O s<=60000):zA s=U (match Ty 32 s with|some v=>(v,bh)|none=>([],aw)):=by
 unfold zA Ty;have b:=EM 32 s;rw[To 32 V,vt,E6 _ [] (λx a=>by have:=Cm 32 s x a;omega) (by simp;omega)];simp;rfl
theorem IF:∀(w:H vh) (a:H Int),(∀x∈w,O x<=60000)->O a+O w<=1000000->
    vq Ib zU w a=match w.mapM numOf with|some v=>zU (a++v)|none=>U (zR,1)
  |[],a,_,_=>by simp[kJ]
  |x::w,a,h,hl=>by
    have g:=h x C7;simp only[br]at hl;have f:=λy=>IF w (a++[y]) (λz d=>h z (bo _ d)) (by simp;omega);rw[fQ,Ib,atoiS_eq V,vt,ra];cases e:Lib.atoiAll x with
    |ok v=>
      have c:j6 v:=zp e;simp only[Z2];rw[Zc c,vt,Dv];by_cases b:dw v=x
      · rw[dF (by simpa using b),Z2,gH ⟨by simp;omega,by simp;omega⟩,f];have:numOf x=U v:=by simp[numOf,e,b]
        rw[this];cases e2:w.mapM numOf with
        |none=>rfl
        |some m=>simp
      · rw[dT b,Z1];have:numOf x=none:=by simp[numOf,e,b]
        rw[this];rfl
    |range=>
      have:numOf x=none:=by simp[numOf,e]
      rw[this];rfl
    |_=>
      have:numOf x=none:=by simp[numOf,e]
      rw[this];rfl
theorem five{l:H Int}(h:¬O l<5):∃a b c d n r,l=a::b::c::d::n::r:=by
 match l,h with
 |a::b::c::d::n::r,_=>exact⟨a,b,c,d,n,r,rfl⟩
 |[],h=>simp at h
 |[a],h=>simp at h
 |[a,b],h=>simp at h
 |[a,b,c],h=>simp at h
 |[a,b,c,d],h=>simp at h
theorem parse_k31(l:H Int)(hl:O l<=1000000)(hI:∀x∈l,j6 x):zU l=U (NG l):=by
  unfold zU NG;by_cases f:O l<5
  · rw[dT V,Z3 f];rfl
  · rw[dF V,Z4 f,Z2];obtain⟨a,b,c,d,n,r,rfl⟩:=five f;have hn:j6 n:=hI n C7;have o:vx (a::b::c::d::n::r) 4=U n:=rfl;rw[o,vt];have j:(a::b::c::d::n::r).getD 4 0=n:=rfl;rw[j];by_cases e:n<0
    · rw[dT e,Z3 (.inl e)];rfl
    · rw[dF e,Z2];simp only[br]at hl⊢;rw[gI];by_cases i:((O r+1+1+1+1+1:Nat):Int)-5<n
      · rw[dT i,Z3 (.inr i)];rfl
      · rw[dF i,Z4 V];unfold zT;obtain⟨m,rfl⟩:=ck (show 0<=n by omega);rw[Z2,show vx (a::b::c::d::(m:Int)::r) 0=U a from rfl,vt,show vx (a::b::c::d::(m:Int)::r) 1=U b from rfl,vt,show vx (a::b::c::d::(m:Int)::r) 2=U c from rfl,vt,show vx (a::b::c::d::(m:Int)::r) 3=U d from rfl,vt,show vx (a::b::c::d::(m:Int)::r) 4=U (m:Int)from rfl,vt,gI];rw[show(5+(m:Int))=((5+m:Nat):Int) by omega,show(5:Int)=((5:Nat):Int)from rfl,Sl V (by simp;omega),vt,gI,Sl (by simp;omega) (cl _),vt,vO (by simp;omega) (by simp;omega),vt,vO (by simp;omega) (by simp;omega),vt];have k:((a::b::c::d::(m:Int)::r).take (O (a::b::c::d::(m:Int)::r))).drop (5+m)=(a::b::c::d::(m:Int)::r).drop (5+m):=by rw[te]
        rw[k];unfold Ia;show(bif G ((fC (NF (a::b::c::d::(m:Int)::r) m):Int)≠0)then U (zR,fC<|NF (a::b::c::d::(m:Int)::r) m)else U (NF (a::b::c::d::(m:Int)::r) m,0))=_;rw[ba];by_cases g:fC (NF (a::b::c::d::(m:Int)::r) m)=0
        · rw[dF V,Z3 g];rfl
        · rw[dT g,Z4 g];rfl
theorem parse_eq(s:vh):KP s=U (E7 s):=by
  unfold KP E7;by_cases h:(60000:Int)<(O s:Int)
  · rw[dT h,Z3 h];rfl
  · rw[dF h,Z4 h,Z2];have c:=EM 32 s;rw[To 32 V,vt,IF _ [] (λx a=>by have:=Cm 32 s x a;omega) (by simp;omega)];unfold nP;cases e:Ty 32 s with
    |none=>unfold Ty at e;rw[e]
    |some l=>
      have:=IQ (show(kG 32 s).mapM numOf=U l from e);unfold Ty at e;rw[e];have hl:O l<=1000000:=by
        have b:=ZS O this.1;rw[dr]at b;omega
      simp only[cc];exact parse_k31 l hl this.2
theorem read_eq(s:vh)(h:O s<=60000):zB s=U (nP s):=by
  unfold zB;rw[numbers_eq s h,vt];unfold nP;cases e:Ty 32 s with
  |none=>rfl
  |some l=>
    have this:=IQ (show(kG 32 s).mapM numOf=U l from e);have o:=EM 32 s;have hl:O l<=1000000:=by
      have j:=ZS O this.1;rw[dr]at j;omega
    simp only[cE,pd];unfold NG;by_cases f:O l<5
    · rw[dT V,Z3 f];rfl
    · rw[dF V,Z4 f,Z2];obtain⟨a,b,c,d,n,r,rfl⟩:=five f;have hn:j6 n:=this.2 n C7;rw[show vx (a::b::c::d::n::r) 4=U n from rfl,vt,show(a::b::c::d::n::r).getD 4 0=n from rfl];simp only[br]at hl⊢;rw[gI];by_cases i:n<0\/((O r+1+1+1+1+1:Nat):Int)-5<n
      · rw[Z3 i,show(!(aN n 0 (((O r+1+1+1+1+1:Nat):Int)-5)))=bh by unfold aN;simp;omega];rfl
      · rw[Z4 i,show(!(aN n 0 (((O r+1+1+1+1+1:Nat):Int)-5)))=aw by unfold aN;simp;omega];unfold vQ;obtain⟨m,rfl⟩:=ck (show 0<=n by omega);rw[Z2,show vx (a::b::c::d::(m:Int)::r) 4=U (m:Int)from rfl,vt,gI,show vx (a::b::c::d::(m:Int)::r) 0=U a from rfl,vt,show vx (a::b::c::d::(m:Int)::r) 1=U b from rfl,vt,show vx (a::b::c::d::(m:Int)::r) 2=U c from rfl,vt,show vx (a::b::c::d::(m:Int)::r) 3=U d from rfl,vt];rw[show(5+(m:Int))=((5+m:Nat):Int) by omega,show(5:Int)=((5:Nat):Int)from rfl,Sl V (by simp;omega),vt,Sl (by simp;omega) (cl _),vt];have k:((a::b::c::d::(m:Int)::r).take (O (a::b::c::d::(m:Int)::r))).drop (5+m)=(a::b::c::d::(m:Int)::r).drop (5+m):=by rw[te]
        rw[k,<-EU];show(bif G ((fC (NF (a::b::c::d::(m:Int)::r) m):Int)≠0)then U (zR,fC<|NF (a::b::c::d::(m:Int)::r) m)else U (NF (a::b::c::d::(m:Int)::r) m,0))=_;rw[ba];by_cases g:fC (NF (a::b::c::d::(m:Int)::r) m)=0
        · rw[dF V,Z3 g];rfl
        · rw[dT g,Z4 g];rfl
theorem mkRec_nl(r:vA):NF (nl r) (O r.H)=r:=by
 obtain⟨k,c,e,p,s,i⟩:=r;unfold NF nl;have b:((([k,c,e,p,(O s:Int)]++s++i).take (5+O s)).drop 5)=s:=by
  rw[cg,show 5+O s=([k,c,e,p,(O s:Int)]).length+O s from rfl,List.take_length_add_append,jz];rfl
 have a:([k,c,e,p,(O s:Int)]++s++i).drop (5+O s)=i:=by
  rw[show 5+O s=([k,c,e,p,(O s:Int)]++s).length by simp;omega,List.drop_left]
 simp only[b,a];rfl
theorem fromNums_nl{r:vA}(h:fC r=0):NG (nl r)=(r,0):=by
 have hl:=nl_len r;unfold NG;rw[Z4 V,show(nl r).getD 4 0=(O r.H:Int)from rfl,Z4 V,ba,mkRec_nl,Z3 h]
theorem IT{r:vA}(h:fC r=0)(w:Q4 r):nP (zn 32 ((nl r).map dw))=(r,0):=by
 unfold nP;rw[nums_join tS (nl_ne r) (nl_ok (HB r (by rw[<-EU];exact h)) w)];exact fromNums_nl h
theorem nl_mk{l:H Int}{n:Nat}(hl:5+n<=O l)(i:l.getD 4 0=n):nl (NF l n)=l:=by
 obtain⟨a,b,c,d,m,r,rfl⟩:=five (l:=l) V;have f:m=n:=i;subst f;simp only[br]at hl;have g:((a::b::c::d::(n:Int)::r).take (5+n)).drop 5=r.take n:=by
  rw[show 5+n=n+1+1+1+1+1 by omega];rfl
 have e:(a::b::c::d::(n:Int)::r).drop (5+n)=r.drop n:=by
  rw[show 5+n=n+1+1+1+1+1 by omega];rfl
 show [a,b,c,d,(O (((a::b::c::d::(n:Int)::r).take (5+n)).drop 5):Int)]++((a::b::c::d::(n:Int)::r).take (5+n)).drop 5++(a::b::c::d::(n:Int)::r).drop (5+n)=_;rw[g,e,cf,show min n (O r)=n by omega,cg,List.take_append_drop];rfl
theorem read_ok{s:vh}{r:vA}(h:nP s=(r,0)):fC r=0/\Q4 r/\s=zn 32 ((nl r).map dw):=by
  unfold nP at h;cases e:Ty 32 s with
  |none=>rw[e]at h;cases h
  |some l=>
    rw[e]at h;obtain⟨j,g,p⟩:=join_nums e;simp only at h;unfold NG at h;split at h
    · cases h
    · rename_i o;split at h
      · cases h
      · rename_i i;split at h
        · rename_i c;obtain⟨m,f⟩:=ck (show 0<=l.getD 4 0 by omega);rw[f]at h c i;simp only[ba]at h c;have k:NF l m=r:=by injection h
          have b:=nl_mk (l:=l) (n:=m) V f;rw[k]at b c;refine⟨c,?_,by rw[b];exact j⟩;have a:∀x∈nl r,j6 x:=by rw[b];exact g
          refine⟨a _ (by simp[nl]),a _ (by simp[nl]),a _ (by simp[nl]),a _ (by simp[nl]),λx d=>a x (by simp[nl,d]),λx d=>a x (by simp[nl,d])⟩
        · rename_i c;exact ZL (ZS hU h) c
theorem text_ok{r:vA}(h:fC r=0):uw r=(zn 32 ((nl r).map dw),0):=by unfold uw;rw[Z3 h]
def r0:vA:=⟨2,1,2,0,[7,-8],[1]⟩
def Wd(most:Int):H vh->H vA->Int->H vA×Int×Int
 |[],l,n=>(l,n,0)
 |[x],l,n=>if x=[]then(l,n,0)else(l,n,8)
 |x::y::r,l,n=>if(nP x).2≠0 then(l,n,(nP x).2)else if most<=(O l:Int)then(l,n,2)else Wd most (y::r) (l++[(nP x).1]) (n+(O x:Int)+1)
def ln(most:Int)(s:vh):H vA×Int×Int:=Wd most (kG 10 s) [] 0
section
variable{most:Int}
theorem N3{x:vh}{q:H vh}{l:H vA}{n:Int}(a:q≠[]):Wd most (x::q) l n=if(nP x).2≠0 then(l,n,(nP x).2)else if most<=(O l:Int)then(l,n,2)else Wd most q (l++[(nP x).1]) (n+(O x:Int)+1):=by
 cases q with
 |nil=>exact ZL Z a
 |cons y r=>rfl
theorem OR(c:UInt8)(x y:vh)(l:H vh):O (zn c (x::y::l))=O x+1+O (zn c (y::l)):=by
 rw[Cj,bm,br];omega
theorem lnP_len(most:Int):∀(p:H vh) (l:H vA) (n:Int),0<=n->n<=(Wd most p l n).2.1/\(Wd most p l n).2.1<=n+O (zn 10 p)/\O (Wd most p l n).1+0<=O l+O p/\O l<=O (Wd most p l n).1/\((O l:Int)<=most->(O (Wd most p l n).1:Int)<=most)
  |[],l,n,hn=>by simp[Wd];omega
  |[x],l,n,hn=>by
    unfold Wd;split<;>simp<;>omega
  |x::y::r,l,n,hn=>by
    have b:=OR 10 x y r;unfold Wd;split
    · simp;omega
    · split
      · simp;omega
      · have a:=lnP_len most (y::r) (l++[(nP x).1]) (n+(O x:Int)+1) V;simp only[bm,br,eR]at a⊢;omega
theorem lines_loop(a:vh)(b:Int)(m:O a<=60000):∀(p:H vh) (s:vh) (l:H vA) (N:Nat),kG 10 s=p->O s<=O a->O p<=N->O l+O p<=60001->(O l:Int)<=b->
    again (OO a b) N (s,l)=U (Wd b p l ((O a:Int)-(O s:Int))):=by
  intro p;induction p with
  |nil=>intro s l N J;exact ZL J (E8 10 s)
  |cons x q ih=>
    intro s l N J W hN hl k;cases N with
    |zero=>simp at hN
    |succ N=>
    rw[again,OO];cases q with
    |nil=>
      obtain⟨rfl,c⟩:=PJ J;by_cases d:s=[]
      · subst d;rw[dF C7,Z2];simp[Wd]
      · rw[dT d,Z1,cutS_free c V,vt];simp only[en,Z1];rw[gI];simp[Wd,d]
    |cons y r=>
      obtain⟨t,rfl,j,c⟩:=splitC_cons J;have g:O (x++10::t)=O x+1+O t:=by simp;omega
      rw[dT C7,Z1,cutS_hit c V,vt];simp only[cE,Z2];have e:E7 x=nP x:=by unfold E7;rw[Z4 V]
      rw[parse_eq,vt,e,N3 C7];by_cases i:(nP x).2=0
      · rw[dF V,Z2,Z4 V];by_cases f:(O l:Int)=b
        · rw[dT f,Z1,gI,Z3 V]
        · rw[dF f,Z2,Z4 V];simp only[br]at hN hl;rw[gH ⟨by simp;omega,by simp;omega⟩,ih t (l++[(nP x).1]) N j V (by simp;omega) (by simp;omega) (by simp;omega)];congr 2;omega
      · rw[dT i,Z1,gI,Z3 i]
theorem Mp(N:Nat)(a:vh)(b:Int)(hN:60002<=N)(c:O a<=60000)(d:0<=b):Ic N a b=U (ln b a):=by
 unfold Ic ln;have e:=EM 10 a;rw[lines_loop a b c (kG 10 a) a [] N rfl (cl _) V (by simp;omega) (by simpa using d)];congr 2;omega
theorem E1(b:Int):∀(p:H vh) (l:H vA) (n:Int),(∀x∈p,O x<=60000/\(10:UInt8)∉x)->p≠[]->O l+O p<=60001->0<=n->n+O (zn 10 p)<=60000->
    vq (uW b) Fz (addC 10 p) (l,n)=U (Wd b p l n)
  |[],l,n,_,h,_,_,_=>ZL Z h
  |[x],l,n,hx,_,hl,h0,hn=>by
    have g:=hx x C7;rw[addC,fQ,uW];by_cases h:x=[]
    · rw[dT h,Z1];simp[Wd,h,vR]
    · rw[dF h,Z2,hasSuf_free g.2 V,vt];simp[Wd,h]
  |x::y::r,l,n,hx,_,hl,h0,hn=>by
    have g:=hx x C7;have j:=OR 10 x y r;simp only[br]at hl;rw[addC,fQ,uW];rw[dF C7,Z2,hasSuf_app x (by simp;omega),vt];simp only[cE,Z2];have a:((O (x++[(10:UInt8)]):Nat):Int)=(O x:Int)+1:=by simp
    rw[a,gI];have c:subs? (x++[(10:UInt8)]) 0 ((O x:Int)+1-1)=U x:=by
      unfold subs?;rw[gH ⟨by omega,by omega,by rw[a];omega⟩];have e:((O x:Int)+1-1).toNat=O x:=by omega
      simp[cut,e]
    rw[c,vt,read_eq x g.1,vt,N3 C7];by_cases d:(nP x).2=0
    · rw[dT d,Z4 V,gw];by_cases f:b<=(O l:Int)
      · rw[dT f,Z1,Z3 f];simp[nI]
      · rw[dF f,Z2,Z4 f,nI,dF V,Z2,gH ⟨by simp;omega,by simp;omega⟩,a,gI,
          E1 b (y::r) (l++[(nP x).1]) (n+((O x:Int)+1)) (λz i=>hx z (bo _ i)) C7 (by simp;omega) V V]
        rw[Int.add_assoc]
    · rw[dF d,ju,Z2,Z3 d,nI,dT d,Z1]
theorem YQ(a:vh)(b:Int)(e:O a<=60000):sD a b=U (ln b a):=by
 unfold sD ln;have d:=EM 10 a;rw[LR 10 V,vt,E1 b (kG 10 a) [] 0 (λx c=>by have:=Cm 10 a x c;exact⟨by omega,this.2⟩) (E8 10 a) (by simp;omega) V (by rw[Ck];omega)]
theorem eqByte(a b:vh):rY a b=U (G (a=b)):=by
  unfold rY;by_cases h:O a=O b
  · rw[dF V];simp only[Z2,ba];rw[Pz (λx y=>G (x=y)) a b h rfl (λi x y f d c=>by
      unfold JV;rw[kz,kz,d,c];by_cases e:x=y
      · subst e;simp
      · have:¬((x.toNat:Int)=(y.toNat:Int)):=λh=>e<|UInt8.toNat_inj.1 V;simp[e,this]),Dn (λ_ _=>rfl)]
  · rw[dT V];have:a≠b:=λe=>h (by rw[e]);rw[dF this];rfl
theorem diskSame(a b:gz):Qs a b=U (G (a=b)):=by
 unfold Qs;rw[eqByte,eqByte];obtain⟨i,f⟩:=a;obtain⟨c,e⟩:=b;simp only[gz.mk.injEq,vt];by_cases g:i=c<;>by_cases d:f=e<;>simp[g,d]
theorem diskSame2(a b:gz):Dc a b=U (G (a=b)):=by rw[<-diskSame];rfl
theorem bcat5:∀(l:H vh) (a:vh),O a+(l.map O).sum<=1000000->vq BD BF l a=U (a++l.flatten)
 |[],a,_=>by simp[kJ,BF]
 |x::l,a,h=>by
  simp only[cr,mh]at h;rw[fQ,BD,gH ⟨by omega,by omega⟩,bcat5 l (a++x) (by rw[bm];omega)];simp
theorem bcat7(a:H vh):∀(l:H vh) (n:Nat),n+(l.map O).sum<=1000000->vq BG (xM a) l (n:Int)=xM a ((n+(l.map O).sum:Nat):Int)
 |[],n,_=>by simp[kJ]
 |x::l,n,h=>by
  simp only[cr,mh]at h⊢;rw[fQ,BG,gI,dF V,Z2,show((n:Int)+(O x:Int))=((n+O x:Nat):Int) by omega,bcat7 a l (n+O x) V,kj]
theorem bcat(a b:vh)(h:O a+O b<=1000000):nW [a,b]=U (a++b):=by
 unfold nW;have:=bcat7 [a,b] [a,b] 0 (by simp;omega);rw[show((0:Nat):Int)=0 from rfl]at this;rw[this];unfold xM;rw[show Hy 1 ((0+([a,b].map O).sum:Nat):Int)=U ([]:vh) by unfold Hy;rw[gH ⟨by omega,by simp;omega⟩],vt,bcat5 [a,b] [] (by simp;omega)];simp
theorem rcat5:∀(l:H (H vA)) (a:H vA),O a+(l.map O).sum<=1000000->vq CR CS l a=U (a++l.flatten)
 |[],a,_=>by simp[kJ,CS]
 |x::l,a,h=>by
  simp only[cr,mh]at h;rw[fQ,CR,gH ⟨by omega,by omega⟩,rcat5 l (a++x) (by rw[bm];omega)];simp
theorem rcat7(a:H (H vA)):∀(l:H (H vA)) (n:Nat),n+(l.map O).sum<=1000000->vq CU (yI a) l (n:Int)=yI a ((n+(l.map O).sum:Nat):Int)
 |[],n,_=>by simp[kJ]
 |x::l,n,h=>by
  simp only[cr,mh]at h⊢;rw[fQ,CU,gI,dF V,Z2,show((n:Int)+(O x:Int))=((n+O x:Nat):Int) by omega,rcat7 a l (n+O x) V,kj]
theorem rcat(a b:H vA)(h:O a+O b<=1000000):BZ [a,b]=U (a++b):=by
 unfold BZ;have:=rcat7 [a,b] [a,b] 0 (by simp;omega);rw[show((0:Nat):Int)=0 from rfl]at this;rw[this];unfold yI;rw[show Hy 80 ((0+([a,b].map O).sum:Nat):Int)=U ([]:H vA) by unfold Hy;rw[gH ⟨by omega,by simp;omega⟩],vt,rcat5 [a,b] [] (by simp;omega)];simp
def zD:gz:=⟨[],[]⟩
def ji(d:gz):Int:=if 60000<O d.B\/60000<O d.B+O d.z then 2 else(ln 120 d.B).2.2
theorem J2(N:Nat)(hN:60002<=N)(d:gz)(b:O d.z<=9223372036854775807):yY N d=U (ji d):=by
  unfold yY ji;by_cases h:60000<O d.B
  · rw[dT V,Z1,Z3 (.inl h)];rfl
  · rw[dF V,Z2,gI];by_cases a:60000<O d.B+O d.z
    · rw[dT V,Z3 (.inr a)];rfl
    · rw[dF V,Z4 V];unfold IZ;rw[Z2,Mp N d.B 120 hN V V,vt]
theorem Uy(d:gz)(b:O d.z<=9223372036854775807):pY d=U (ji d):=by
  unfold pY ji;by_cases h:60000<O d.B
  · rw[dT V,Z1,Z3 (.inl h)];rfl
  · rw[dF V,Z2,gI];by_cases a:60000<O d.B+O d.z
    · rw[dT V,Z3 (.inr a)];rfl
    · rw[dF V,Z4 V];unfold uk;rw[Z2,YQ d.B 120 V,vt]
theorem uN{d:gz}(h:ji d=0):O d.B+O d.z<=60000/\(ln 120 d.B).2.2=0:=by
  unfold ji at h;split at h
  · cases h
  · exact⟨by omega,h⟩
def We(d:gz)(r:vA):gz×Int:=
 if(uw r).2≠0 then(zD,(uw r).2)else if 60000<O d.B+O d.z+O (uw r).1+1 then(zD,2)else(⟨d.B,d.z++(uw r).1++[10]⟩,0)
def zm(d:gz)(r:vA):gz×Int:=if ji d≠0 then(zD,ji d)else We d r
variable{r:vA}
theorem text_len(w:Q4 r):O (uw r).1<=27390:=by
  unfold uw;split
  · rename_i h;have g:=HB r (by rw[<-EU];exact h);have b:=Hj 32 21 ((nl r).map dw) (by intro x a;obtain⟨y,c,rfl⟩:=fi.1 a;exact itoa_len (nl_ok g w y c));have d:=YP g;rw[dr]at b;show O (zn 32 ((nl r).map dw))<=_;omega
  · simp
theorem put_eq(N:Nat)(hN:60002<=N)(d:gz)(r:vA)(c:O d.z<=9223372036854775807)(w:Q4 r):Mv N d r=U (zm d r):=by
  unfold Mv zm We;rw[J2 N hN d c,vt];by_cases h:ji d=0
  · obtain⟨e,_⟩:=uN h;have f:=text_len w;rw[dF V,Z2,Z4 V,print_eq r (λ_=>w),vt];by_cases a:(uw r).2=0
    · rw[dF V,Z2,Z4 V,gI,gI,gI];by_cases b:60000<O d.B+O d.z+O (uw r).1+1
      · rw[dT V,Z1,Z3 b];rfl
      · rw[dF V,Z2,Z4 b,vO V V,vt,vO V V,vt,gH ⟨by omega,by omega⟩,gH ⟨by simp;omega,by simp;omega⟩]
    · rw[dT a,Z1,Z3 a];rfl
  · rw[dT h,Z1,Z3 h];rfl
theorem putOn_eq(d:gz)(r:vA)(h:ji d=0)(w:Q4 r):si d r=U (We d r):=by
  obtain⟨c,_⟩:=uN h;have e:=text_len w;unfold si We;rw[text_eq r (λ_=>w),vt];by_cases a:(uw r).2=0
  · rw[dF V,Z2,Z4 V,gI,gI,gI];by_cases b:60000<O d.B+O d.z+O (uw r).1+1
    · rw[dT V,Z1,Z3 b];rfl
    · rw[dF V,Z2,Z4 b,gH (by simp;omega),gH (by simp;omega),bcat _ _ (by simp;omega),vt,cg]
  · rw[dT a,Z1,Z3 a];rfl
def HD(d:gz):gz×Int:=if ji ⟨d.B++d.z,[]⟩≠0 then(zD,ji ⟨d.B++d.z,[]⟩)else(⟨d.B++d.z,[]⟩,0)
def J6(d:gz):gz×Int:=if ji d≠0 then(zD,ji d)else HD d
theorem sync_eq(N:Nat)(hN:60002<=N)(d:gz)(b:O d.z<=9223372036854775807):P8 N d=U (J6 d):=by
  unfold P8 J6 HD;rw[J2 N hN d b,vt];by_cases h:ji d=0
  · obtain⟨c,_⟩:=uN h;rw[dF V,Z2,Z4 V,bcat _ _ V,vt,J2 N hN _ C7,vt];by_cases a:ji ⟨d.B++d.z,[]⟩=0
    · rw[dF V,Z2,Z4 V]
    · rw[dT a,Z1,Z3 a];rfl
  · rw[dT h,Z1,Z3 h];rfl
theorem synced_eq(d:gz)(h:ji d=0):xE d=U (HD d):=by
  obtain⟨b,_⟩:=uN h;unfold xE HD;rw[bcat _ _ V,vt,Uy _ C7,vt];by_cases a:ji ⟨d.B++d.z,[]⟩=0
  · rw[dF V,Z2,Z4 V]
  · rw[dT a,Z1,Z3 a];rfl
def NH(d:gz)(n:Int):gz×Int:=if ji d≠0 then(zD,ji d)else if n<0\/(O d.z:Int)<n then(zD,3)else(⟨d.B,d.z.take n.toNat⟩,0)
theorem crash_eq(N:Nat)(hN:60002<=N)(d:gz)(n:Int)(b:O d.z<=9223372036854775807):ML N d n=U (NH d n):=by
  unfold ML NH;rw[J2 N hN d b,vt];by_cases h:ji d=0
  · obtain⟨c,_⟩:=uN h;rw[dF V,Z2,Z4 V];by_cases a:n<0\/(O d.z:Int)<n
    · rw[show(G (n<0)||G ((O d.z:Int)<n))=bh by simpa using a,Z1,Z3 a];rfl
    · rw[show(G (n<0)||G ((O d.z:Int)<n))=aw by simp;omega,Z2,Z4 a];obtain⟨m,rfl⟩:=ck (show 0<=n by omega);rw[show(0:Int)=((0:Nat):Int)from rfl,Sl V V,vt,vO V V,vt,vO (by simp;omega) (by simp;omega),vt,fF,ba]
  · rw[dT h,Z1,Z3 h];rfl
def Ob(d:gz):gz×H vA:=
 (⟨d.B++d.z.take (ln (120-(O (ln 120 d.B).1:Int)) d.z).2.1.toNat,[]⟩,(ln 120 d.B).1++(ln (120-(O (ln 120 d.B).1:Int)) d.z).1)
def Pc(d:gz):gz×H vA×Int:=if ji d≠0 then(zD,[],ji d)else((Ob d).1,(Ob d).2,0)
theorem YR(most:Int)(s:vh):0<=(ln most s).2.1/\(ln most s).2.1<=O s/\O (ln most s).1<=O s+1/\(0<=most->(O (ln most s).1:Int)<=most):=by
 have h:=lnP_len most (kG 10 s) [] 0<|Int.le_refl 0;have a:=EM 10 s;rw[Ck]at h;unfold ln;simp only[eR]at h;omega
theorem recover_eq(N:Nat)(hN:60002<=N)(d:gz)(a:O d.z<=9223372036854775807):vP N d=U (Pc d):=by
  unfold vP Pc Ob;rw[J2 N hN d a,vt];by_cases h:ji d=0
  · obtain⟨e,_⟩:=uN h;have k1:=YR 120 d.B;rw[dF V,Z2,Z4 V,Mp N d.B 120 hN V V,vt,gI,Mp N d.z _ hN V V,vt];have k2:=YR (120-(O (ln 120 d.B).1:Int)) d.z;generalize ln (120-(O (ln 120 d.B).1:Int)) d.z=y at*;obtain⟨b,f,c⟩:=y;simp only at k2⊢;obtain⟨m,rfl⟩:=ck k2.1;rw[show(0:Int)=((0:Nat):Int)from rfl,Sl V V,vt,fF,bcat _ _ (by simp;omega),vt,gH ⟨by omega,by omega⟩,ba]
  · rw[dT h,Z1,Z3 h];rfl
theorem K7(d:gz)(h:ji d=0):jh d=U (Ob d):=by
 obtain⟨c,_⟩:=uN h;unfold jh Ob;have k1:=YR 120 d.B;rw[YQ d.B 120 V,vt,gI,YQ d.z _ V,vt];have k2:=YR (120-(O (ln 120 d.B).1:Int)) d.z;generalize ln (120-(O (ln 120 d.B).1:Int)) d.z=y at*;obtain⟨a,e,b⟩:=y;simp only at k2⊢;obtain⟨m,rfl⟩:=ck k2.1;rw[show(0:Int)=((0:Nat):Int)from rfl,Sl V V,vt,fF,bcat _ _ (by simp;omega),vt,rcat _ _ V,vt,ba]
def Dj(r:vA):vh:=zn 32 ((nl r).map dw)
def J7(l:H vA):Prop:=∀r∈l,fC r=0/\Q4 r
def DA:H vA->vh
 |[]=>[]
 |r::l=>Dj r++10::DA l
theorem Si:∀(a b:H vA),DA (a++b)=DA a++DA b
 |[],b=>rfl
 |r::a,b=>by simp[DA,Si a b]
theorem RC(c:UInt8):∀(l:H vh) (x:UInt8),x∈zn c l->x=c\/∃w∈l,x∈w
  |[],x,h=>by simp[zn,Lib.join_nil]at h
  |[y],x,h=>by rw[E9]at h;exact .inr ⟨y,by simp,h⟩
  |y::z::l,x,h=>by
    rw[Cj]at h;rcases dq.1 h with h|h
    · exact .inr ⟨y,by simp,h⟩
    · rcases bs.1 h with h|h
      · exact .inl h
      · rcases RC c (z::l) x h with h|⟨w,hw,h⟩
        · exact .inl h
        · exact .inr ⟨w,bo _ hw,h⟩
theorem Rr(r:vA):(10:UInt8)∉Dj r:=by
  intro h;rcases RC 32 _ _ h with h|⟨w,hw,h⟩
  · exact ZL h tS
  · obtain⟨n,_,rfl⟩:=fi.1 hw;exact SR tS h
theorem Ho:∀(l:H vA) (t:vh),kG 10 (DA l++t)=l.map Dj++kG 10 t
 |[],t=>rfl
 |r::l,t=>by
  rw[DA,cg,ei,Ci (Rr r),Ho l t];rfl
theorem lnP_txt(most:Int):∀(rs:H vA) (q:H vh) (l:H vA) (n:Int),J7 rs->q≠[]->((O l+O rs:Nat):Int)<=most->Wd most (rs.map Dj++q) l n=Wd most q (l++rs) (n+(O (DA rs):Int))
 |[],q,l,n,_,_,_=>by simp[DA]
 |r::rs,q,l,n,h,hq,hl=>by
  obtain⟨d,b⟩:=h r C7;simp only[br]at hl;have c:nP (Dj r)=(r,0):=IT d b;rw[cr,ei,N3 (by simp[hq]),c,Z4 C7,Z4 V,lnP_txt most rs q (l++[r]) _ (λx a=>h x (bo _ a)) hq (by simp;omega)];simp only[DA,bm,br,cg,ei,cc];congr 1;omega
variable{rs:H vA}
theorem ln_txt(t:vh)(h:J7 rs)(hl:(O rs:Int)<=most):ln most (DA rs++t)=Wd most (kG 10 t) rs (O (DA rs):Int):=by
 unfold ln;rw[Ho,lnP_txt most rs _ [] 0 h (E8 10 t) (by simpa using hl)];simp
theorem ln_all(h:J7 rs)(hl:(O rs:Int)<=most):ln most (DA rs)=(rs,(O (DA rs):Int),0):=by
 have:=ln_txt (most:=most) [] h hl;rw[eK]at this;rw[this];simp[kG,Wd]
theorem ln_torn{t:vh}(h:J7 rs)(hl:(O rs:Int)<=most)(a:(10:UInt8)∉t):(ln most (DA rs++t)).1=rs/\(ln most (DA rs++t)).2.1=(O (DA rs):Int):=by
 rw[ln_txt t h hl,Jk a];unfold Wd;split<;>simp
theorem Lv{a:H vA}{w:vh}(h:J7 a)(hl:O a<=120)(b:O (DA a)+O w<=60000):ji ⟨DA a,w⟩=0:=by
 unfold ji;show(if 60000<O (DA a)\/60000<O (DA a)+O w then(2:Int)else(ln 120<|DA a).2.2)=0;rw[Z4 V,ln_all h V]
variable{a b:H vA}
theorem put_txt(g:J7 a)(hl:O a<=120)(f:O (DA a)+O (DA b)<=60000)(w:Q4 r):
    (zm ⟨DA a,DA b⟩ r).2≠0\/(zm ⟨DA a,DA b⟩ r=(⟨DA a,DA (b++[r])⟩,0)/\fC r=0/\O (DA a)+O (DA (b++[r]))<=60000):=by
  unfold zm We;rw[Z4 (by rw[Lv g hl f];simp)];by_cases h:fC r=0
  · have e:uw r=(Dj r,0):=text_ok h;rw[e];simp only[ne_eq,not_true_eq_false,if_false];by_cases d:60000<O (DA a)+O (DA b)+O (Dj r)+1
    · rw[Z3 d];left;simp
    · rw[Z4 d];right;have c:DA (b++[r])=DA b++Dj r++[10]:=by rw[Si];simp[DA]
      refine⟨by rw[c],h,by rw[c];simp;omega⟩
  · have e:uw r=([],fC r):=by unfold uw;rw[Z4 h]
    rw[e,Z3 h];exact .inl h
theorem sync_txt(c:J7 a)(e:J7 b)(hl:O a+O b<=120)(f:O (DA a)+O (DA b)<=60000):J6 ⟨DA a,DA b⟩=(⟨DA (a++b),[]⟩,0):=by
 have d:J7 (a++b):=λr g=>(dq.1 g).elim (c r)<|e r;unfold J6 HD;rw[Z4 (by rw[Lv c V f];simp)];show(if ji ⟨DA a++DA b,[]⟩≠0 then _ else _)=_;rw[<-Si,Z4 (by rw[Lv d (by simpa using hl) (by rw[Si];simp;omega)];simp)]
end
theorem take_txt:∀(b:H vA) (m:Nat),∃k t,(DA b).take m=DA (b.take k)++t/\(10:UInt8)∉t
  |[],m=>⟨0,[],by simp[DA],by simp⟩
  |r::b,m=>by
    by_cases h:m<=O (Dj r)
    · refine⟨0,(Dj r).take m,?_,λc=>Rr r<|mj c⟩;simp only[tI,DA,cc];rw[List.take_append_of_le_length h]
    · obtain⟨k,t,d,a⟩:=take_txt b<|m-O (Dj r)-1;refine⟨k+1,t,?_,a⟩;rw[rh,DA,DA,List.take_append,List.take_of_length_le V,cg,ei,<-d];congr 1;rw[show m-O (Dj r)=(m-O (Dj r)-1)+1 by omega,rh];simp
theorem Q5:J7 []:=λr h=>by cases h
open Go Go.Proofs Go.LX
theorem coSame(a b:H Co):Rq a b=U (G (a=b)):=by
  unfold Rq;by_cases h:O a=O b
  · rw[dF V];simp only[Z2];rw[Rf (λx y=>G (x=y)) a b h rfl (λi x y j c=>by
      unfold TH Gg;rw[kz,c];simp only[vt,eqInt];have e:(((G (x.y=y.y)&&G (x.k=y.k))&&G (x.E=y.E))&&G (x.u=y.u))=G (x=y):=by
        cases x;cases y;rw[dI];simp;exact⟨λ⟨⟨⟨d,c⟩,g⟩,f⟩=>⟨d,c,f,g⟩,λ⟨d,c,f,g⟩=>⟨⟨⟨d,c⟩,g⟩,f⟩⟩
      rw[<-e];cases ((G (x.y=y.y)&&G (x.k=y.k))&&G (x.E=y.E))<;>cases G (x.u=y.u)<;>rfl),Dn (λ_ _=>rfl)]
  · rw[dT V];have:a≠b:=λe=>h (by rw[e]);rw[dF this];rfl
def X1(x:Co):Prop:=0<=x.y/\x.y<=2/\1<=x.k/\x.k<=100/\ -1<=x.E/\x.E<=2/\1<=O x.u/\O x.u<=1200
def rg(x:Co):YU:=(((((G ((x.y:Int)<0)||G ((3:Int)<=x.y))||G ((x.k:Int)<1))||G ((100:Int)<x.k))||G ((x.E:Int)< -1))||G ((3:Int)<=x.E))
def mn(x:Co):YU:=(G (((O x.u:Int):Int)=0)||G ((1200:Int)<(O x.u:Int)))
theorem rg_eq(x:Co):(((!(aN x.y 0 2))||(!(aN x.k 1 100)))||(!(aN x.E (-1) 2)))=rg x:=by
 unfold aN rg;rw[dI];simp;omega
theorem mn_eq(x:Co):(!(aN (O x.u:Int) 1 1200))=mn x:=by
 have hn:0<=(O x.u:Int):=by omega
 unfold aN mn;generalize (O x.u:Int)=n at hn⊢;rw[dI];simp;omega
theorem coOk_iff(x:Co):X1 x↔rg x=aw/\mn x=false:=by
 have hn:0<=(O x.u:Int):=by omega
 unfold X1 rg mn;rw[show(1<=O x.u)=(1<=(O x.u:Int)) by simp;omega,show(O x.u<=1200)=((O x.u:Int)<=1200) by simp;omega];generalize (O x.u:Int)=n at hn⊢;simp;omega
theorem chkEq(a:H Co):Ou a=U (gF a):=by
  unfold Ou gF;by_cases h:(3:Int)<(O a:Int)
  · rw[dT h];rfl
  · rw[dF h];simp only[Z2];have f:∀(k:H Co) (i:Nat) (last:Int),(∀j,k[j]? =a[i+j]?)->(i=0->last= -1)->(∀j,i=j+1->∃y,a[j]? =U y/\y.y=last)->i<=O a->ic (Gd a) Ki (i:Int) k ()=U (vq lY nL k last):=by
      intro k;induction k with
      |nil=>intro i last _ _ _ _;rfl
      |cons x k ih=>
        intro i last g m l hi;rw[Ay,fQ];have d:a[i]? =U x:=by have:=g 0;simpa using this.symm
        have n:i<O a:=by
          rcases cG i (O a) with h|h
          · exact h
          · rw[bE h]at d;cases d
        have b:=ih (i+1) x.y (λj=>by have:=g (j+1);simpa[kj,Nat.add_comm 1 j]using this) V (λj p=>⟨x,by rw[show j=i by omega];exact d,Z⟩) V;rw[show((i+1:Nat):Int)=(i:Int)+1 from rfl]at b;generalize ic (Gd a) Ki ((i:Int)+1) k=nx at b⊢;generalize vq lY nL k=nx2 at b⊢;unfold Gd lY;rw[rg_eq,mn_eq,<-rg,<-mn];cases hr:rg x with
        |true=>rfl
        |false=>
        cases hm:mn x with
        |true=>rfl
        |false=>
        have e:=(coOk_iff x).2 ⟨hr,hm⟩;simp only[Z2];unfold Gc;cases i with
        |zero=>
          rw[m rfl,dF (show¬x.y<= -1 by have:=e.1;omega)];simpa using b
        |succ j=>
          obtain⟨y,o,c⟩:=l j Z;rw[dT (show(0:Int)<((j+1:Nat):Int) by omega),show((j+1:Nat):Int)-1=(j:Int) by omega,gI,kz,o];simp only[Z1,vt,c];cases G (x.y<=last)with
          |true=>rfl
          |false=>exact b
    exact f a 0 (-1) (λj=>by simp) (λ_=>rfl) (λj p=>by omega) V
abbrev Up(l:H Co):Prop:=l.Pairwise (λx y=>x.y<y.y)
theorem each_ok:∀(l:H Co) (last:Int),vq lY nL l last=0↔(∀x∈l,X1 x)/\Up l/\∀x∈l,last<x.y
  |[],last=>by simp[kJ,nL]
  |x::r,last=>by
    rw[fQ];have f:=each_ok r x.y;generalize vq lY nL r=nx at f⊢;unfold lY;rw[rg_eq,mn_eq];have b:=coOk_iff x;cases hr:rg x with
    |true=>
      simp only[Z1];constructor
      · intro h;exact ZL h tS
      · intro h;have:=(b.1<|h.1 x fp).1;rw[hr]at this;cases this
    |false=>
    cases hm:mn x with
    |true=>
      simp only[Z1,Z2];constructor
      · intro h;exact ZL h tS
      · intro h;have:=(b.1<|h.1 x fp).2;rw[hm]at this;cases this
    |false=>
    have ho:=b.2 ⟨hr,hm⟩;simp only[Z2];by_cases hl:x.y<=last
    · rw[dT hl];simp only[Z1];constructor
      · intro h;exact ZL h tS
      · intro h;have:=h.2.2 x fp;omega
    · rw[dF hl];simp only[Z2];rw[f];show _↔_/\uF _ (x::r)/\_;rw[ea];constructor
      · rintro⟨e,d,c⟩;refine⟨?_,⟨c,d⟩,?_⟩
        · intro y a;rcases bs.1 a with rfl|a
          · exact ho
          · exact e y a
        · intro y a;rcases bs.1 a with rfl|a
          · omega
          · have:=c y a;omega
      · rintro⟨e,⟨d,c⟩,g⟩;exact⟨λy a=>e y<|bo _ a,c,d⟩
structure Good(l:List Co):Prop where
 len:l.length<=3
 ok:∀x∈l,X1 x
 up:Up l
theorem No(l:H Co):gF l=0↔Good l:=by
  unfold gF;by_cases h:(3:Int)<(O l:Int)
  · rw[dT h];simp only[Z1];exact⟨λh=>ZL h tS,λg=>by have:=g.len;omega⟩
  · rw[dF h];simp only[Z2];rw[each_ok];exact⟨λ⟨c,a,_⟩=>⟨by omega,c,a⟩,λg=>⟨g.ok,g.up,λx b=>by have:=(g.ok x b).1;omega⟩⟩
def G9(c:Co):H Co->H Co
 |[]=>[c]
 |x::r=>if x.y<c.y then x::G9 c r else c::x::r
def Lx(b:vA)(l:H Co):H Co:=l.filter λx=>G (x.y≠b.t)
def Dl(b:vA)(l:H Co):L Co:=l.find? λx=>G (x.y=b.t)
def kX(a:H Co)(b:vA):H Co×Int:=
 if gF a≠0 then([],gF a)else if eF b≠0 then([],eF b)else
 match Dl b a with
 |none=>if b.h=1\/b.h=4 then(if(G (b.k=1) !=G (b.h=1))=bh then([],7)else(G9 ⟨b.t,b.k,b.u,-1⟩ (Lx b a),0))else([],5)
 |some c=>if b.h=1\/b.h=4 then([],6)else if(G (b.k≠c.k)||(G (c.E≠ -1) !=G (b.h=5)))=bh then([],7)else
  if b.h=5 then(Lx b a,0)else if b.h=2 then(G9 ⟨c.y,c.k,b.u,c.E⟩ (Lx b a),0)else if c.k=100 then([],2)else(G9 ⟨c.y,c.k,c.u,b.o⟩ (Lx b a),0)
theorem oth_len(b:vA)(l:H Co):O (Lx b l)<=O l:=List.length_filter_le _ _
theorem oth_up(b:vA){l:H Co}(h:Up l):Up (Lx b l):=h.filter _
theorem VM{b:vA}{l:H Co}{x:Co}(h:x∈Lx b l):x∈l/\x.y≠b.t:=by
 unfold Lx at h;rw[A4]at h;exact⟨h.1,by simpa using h.2⟩
theorem coCopy{a:H Co}(h:O a<=3)(e:∀x∈a,O x.u<=1200):Mc a=U a:=by
 unfold Mc;rw[vO V V];simp only[vt,ba];have c:∀(m i:Nat),i+m=O a->Ax Bt I1 (i:Int) m a=U a:=by
  intro m;induction m with
  |zero=>intro i _;rfl
  |succ m ih=>
   intro i hi;have d:i<O a:=by omega
   show Bt (i:Int) a (Ax Bt I1 ((i:Int)+1) m)=_;have b:=ih (i+1) V;rw[show((i+1:Nat):Int)=(i:Int)+1 from rfl]at b;generalize Ax Bt I1 ((i:Int)+1) m=nx at b⊢;unfold Bt;rw[rC d];have:=e a[i]<|cw d;simp only[vt];rw[vO V V];simp only[vt,ba];rw[show({a[i]with u:=a[i].u}:Co)=a[i]from rfl,pN];exact b
 simpa using c (O a) 0 V
theorem findEq(a:H Co)(k:Int):vC a k=U (match a.findIdx? (λx=>G (x.y=k))with|some n=>(n:Int)|none=> -1):=by
 unfold vC;simp only[ba];rw[PD (λx=>G (x.y=k)) (λi=>U i) a (λi x c b=>by
  unfold Wp;rw[kz,b];rfl)]
 cases a.findIdx? (λx=>G (x.y=k))<;>rfl
theorem FG(b:vA):∀(a:H Co),(Dl b a=bd/\a.findIdx? (λx=>G (x.y=b.t))=bd/\Lx b a=a)\/
    ∃n x,Dl b a=U x/\a.findIdx? (λx=>G (x.y=b.t))=U n/\a[n]? =U x/\x.y=b.t
  |[]=>.inl ⟨rfl,rfl,rfl⟩
  |x::r=>by
    unfold Dl Lx;rw[eS,xU,hZ];by_cases h:x.y=b.t
    · exact .inr ⟨0,x,by simp[h],by simp[h],Z,h⟩
    · simp only[h,decide_false,cL,if_false,ne_eq,not_false_eq_true,decide_true,if_true];rcases FG b r with⟨h1,h2,h3⟩|⟨n,y,h1,h2,h3,h4⟩
      · exact .inl ⟨h1,by rw[h2];rfl,by unfold Lx at h3;rw[h3]⟩
      · exact .inr ⟨n+1,y,h1,by rw[h2];rfl,by simpa using h3,h4⟩
theorem H4(b:vA):∀(a:H Co) (n:Nat) (x y:Co),Up a->a[n]? =U x->x.y=b.t->y.y=b.t->a.set n y=G9 y (Lx b a)
 |[],n,x,y,_,h,_,_=>by simp at h
 |z::r,0,x,y,hu,h,hx,hy=>by
  simp only[uJ,Option.some.injEq]at h;subst h;rw[Up,ea]at hu;have d:Lx b (z::r)=r:=by
   unfold Lx;rw[hZ,Z4 (by simp[hx]),sd];intro u c;have:=hu.1 u c;simp;omega
  rw[d,List.set_cons_zero];cases r with
  |nil=>rfl
  |cons u r=>
   have:=hu.1 u fp;simp only[G9];rw[Z4 V]
 |z::r,n+1,x,y,hu,h,hx,hy=>by
  simp only[uS]at h;rw[Up,ea]at hu;have e:=hu.1 x<|jj h;have d:Lx b (z::r)=z::Lx b r:=by unfold Lx;rw[hZ,Z3 (by simp;omega)]
  rw[d,List.set_cons_succ,H4 b r n x y hu.2 h hx hy];simp only[G9];rw[Z3 V]
theorem del_oth(b:vA):∀(a:H Co) (n:Nat) (x:Co),Up a->a[n]? =U x->x.y=b.t->a.take n++a.drop (n+1)=Lx b a
 |[],n,x,_,h,_=>by simp at h
 |z::r,0,x,hu,h,hx=>by
  simp only[uJ,Option.some.injEq]at h;subst h;rw[Up,ea]at hu;unfold Lx;rw[hZ,Z4 (by simp[hx])];have:r.filter (λx=>decide<|x.y≠b.t)=r:=by
   rw[sd];intro u c;have:=hu.1 u c;simp;omega
  rw[this];simp
 |z::r,n+1,x,hu,h,hx=>by
  simp only[uS]at h;rw[Up,ea]at hu;have e:=hu.1 x<|jj h;have d:Lx b (z::r)=z::Lx b r:=by unfold Lx;rw[hZ,Z3 (by simp;omega)]
  rw[d,<-del_oth b r n x hu.2 h hx];simp
theorem ins_loop(b:vA)(a:H Co)(e:O a<=3)(d:O b.u<=1200):∀(k i N:Nat),i+k=O a->k<N->again (qf a b) N (i:Int)=U (a.take i++G9 ⟨b.t,b.k,b.u,-1⟩ (a.drop i),0)
  |0,i,N+1,h,_=>by
    show qf a b (i:Int) (again (qf a b) N)=_;generalize again (qf a b) N=nx;unfold qf Ct;rw[dF V];simp only[Z2];rw[vO V V];simp only[vt];rw[gH (Room.mk (by simp;omega) (by simp;omega)),ins1,Z3 ⟨by omega,by omega⟩];rw[cC (show O a<=i by omega)];simp[G9,show a.drop i=[]from cC V]
  |k+1,i,N+1,h,hN=>by
    have hi:i<O a:=by omega
    have c:=ins_loop b a e d k (i+1) N V V;rw[show((i+1:Nat):Int)=(i:Int)+1 from rfl]at c;show qf a b (i:Int) (again (qf a b) N)=_;generalize again (qf a b) N=nx at c⊢;unfold qf Ct;rw[dT V,rC hi];simp only[Z1,vt];by_cases hl:a[i].y<b.t
    · rw[dT hl];simp only[Z1];rw[gI,c,cy hi];simp only[G9];rw[Z3 hl,List.take_succ_eq_append_getElem hi,cg,vu]
    · rw[dF hl];simp only[Z2];rw[vO V V];simp only[vt];rw[gH (Room.mk (by simp;omega) (by simp;omega)),ins1,Z3 ⟨by omega,by omega⟩];simp only[vt,ba];rw[cy hi];simp only[G9];rw[Z4 hl,cg,vu]
theorem next_eq(N:Nat)(hN:5<N)(a:H Co)(b:vA):Ie N a b=U (kX a b):=by
  unfold Ie kX;rw[chkEq];simp only[vt];by_cases e:gF a=0
  · rw[EU];by_cases i:eF b=0
    · have g:=(No a).1 e;have gr:=HB b i;have gl:=g.len;rw[e,i];simp only[ne_eq,not_true_eq_false,decide_false,Z2,if_false];rw[coCopy g.len (λx p=>(g.ok x p).2.2.2.2.2.2.2)];simp only[vt];rw[findEq];simp only[vt];have r:=gr.h;have f:(G ((b.h:Int)=1)||G ((b.h:Int)=4))=G (b.h=1\/b.h=4):=by simp
      rw[f];rcases FG b a with⟨e1,e2,e3⟩|⟨n,c,e1,e2,e3,e4⟩
      · rw[e1,e2];simp only;by_cases d:b.h=1\/b.h=4
        · rw[dT d,Z3 d];simp only[Z1];rw[show G ((0:Int)<= -1)=aw by decide];simp only[Z2];have s:((G ((b.h:Int)=1)&&G ((b.k:Int)≠1))||(G ((b.h:Int)=4)&&G ((b.k:Int)=1)))=(G (b.k=1) !=G (b.h=1)):=by
            by_cases q:b.k=1
            · rcases d with k|k<;>simp[q,k]
            · rcases d with k|k<;>simp[q,k]
          rw[s];cases (G (b.k=1) !=G (b.h=1))with
          |true=>rfl
          |false=>
            simp only[Z2,cL,if_false];have:=ins_loop b a g.len gr.u (O a) 0 N V V;simp only[Int.natCast_zero,tI,fF,cc]at this;rw[this,e3]
        · rw[dF d,Z4 d];simp only[Z2];rw[show G ((-1:Int)<0)=bh by decide];rfl
      · have hn:n<O a:=by
          rcases cG n (O a) with h|h
          · exact h
          · rw[bE h]at e3;cases e3
        have l:=g.ok c<|jj e3;rw[e1,e2];simp only;by_cases d:b.h=1\/b.h=4
        · rw[dT d,Z3 d];simp only[Z1];rw[dT (show(0:Int)<=(n:Int) by omega)];rfl
        · rw[dF d,Z4 d];simp only[Z2];rw[dF (show¬(n:Int)<0 by omega),kz,e3];simp only[Z2,vt];have ho:G ((0:Int)<=c.E)=G (c.E≠ -1):=by
            rw[decide_eq_decide];have:=l.2.2.2.2.1;omega
          have t:(bif G (c.k≠b.k)then wT b a (n:Int) c bh else wT b a (n:Int) c (G (b.h=5) !=G ((0:Int)<=c.E)))=wT b a (n:Int) c (G (b.k≠c.k)||(G (c.E≠ -1) !=G (b.h=5))):=by
            rw[ho];by_cases q:b.k=c.k
            · rw[q];simp only[ne_eq,not_true_eq_false,decide_false,Z2,pd];cases G (b.h=5)<;>cases G (¬c.E= -1)<;>rfl
            · rw[show G (c.k≠b.k)=bh from dT (λh=>q h.symm),show G (b.k≠c.k)=bh from dT q];rfl
          refine t.trans ?_;unfold wT;cases (G (b.k≠c.k)||(G (c.E≠ -1) !=G (b.h=5)))with
          |true=>rfl
          |false=>
            simp only[Z2,cL,if_false];by_cases k2:b.h=2
            · rw[dT k2,Z4 V,Z3 k2];simp only[Z1];rw[vO (by have:=gr.u;omega) (by have:=gr.u;omega)];simp only[vt,ba];rw[H4 b a n c {c with u:=b.u} g.up e3 e4 e4]
            · rw[dF k2,Z4 k2];simp only[Z2];by_cases o:b.h=3
              · rw[dT o,Z4 V];simp only[Z1];by_cases j:c.k=100
                · rw[dT j,Z3 j];rfl
                · rw[dF j,Z4 j];simp only[Z2,ba];rw[H4 b a n c {c with E:=b.o} g.up e3 e4 e4]
              · have m:b.h=5:=by omega
                rw[dF o,dT m,Z3 m];simp only[Z2,Z1];rw[gI,del_s1 hn];simp only[vt];rw[del_oth b a n c g.up e3 e4]
    · rw[e];simp only[ne_eq,not_true_eq_false,decide_false,Z2,if_false];rw[show G (¬eF b=0)=bh from dT i,Z3 i];rfl
  · rw[show G (gF a≠0)=bh from dT e,Z3 e];rfl
def ru:H Co->H vA->H Co×Int
 |s,[]=>(s,0)
 |s,r::l=>if(kX s r).2≠0 then([],(kX s r).2)else ru (kX s r).1 l
theorem rep_each(N:Nat)(hN:5<N):∀(l:H vA) (s:H Co),vq (Kj N) Kk l s=U (ru s l)
  |[],s=>by simp[kJ,Kk,ru]
  |r::l,s=>by
    rw[fQ,Kj,next_eq N hN,vt,ru];by_cases h:(kX s r).2=0
    · rw[dF V,Z2,Z4 V,rep_each N hN l]
    · rw[dT h,Z1,Z3 h]
theorem Sf(N:Nat)(hN:5<N)(l:H vA):Gf N l=U (if 120<O l then([],2)else ru [] l):=by
  unfold Gf;by_cases h:120<O l
  · rw[dT V,Z1,Z3 h]
  · rw[dF V,Z2,Z4 h,rep_each N hN]
theorem pRep_app:∀(a b:H vA) (s:H Co),ru s (a++b)=if(ru s a).2≠0 then([],(ru s a).2)else ru (ru s a).1 b
  |[],b,s=>by simp[ru]
  |r::a,b,s=>by
    rw[ei,ru,ru];by_cases h:(kX s r).2=0
    · simp only[h,ne_eq,not_true_eq_false,if_false];exact pRep_app a b _
    · simp[h]
theorem U4{c y:Co}:∀{l:H Co},y∈G9 c l↔y=c\/y∈l
  |[]=>by simp[G9]
  |x::r=>by
    unfold G9;split
    · rw[bs,U4,bs];constructor
      · rintro(h|h|h)
        · exact .inr<|.inl h
        · exact .inl h
        · exact .inr<|.inr h
      · rintro(h|h|h)
        · exact .inr<|.inl h
        · exact .inl h
        · exact .inr<|.inr h
    · rw[bs]
theorem J8{c:Co}:∀{l:H Co},O (G9 c l)=O l+1
  |[]=>rfl
  |x::r=>by
    unfold G9;split
    · rw[br,J8,br]
    · rfl
theorem insC_up{c:Co}:∀{l:H Co},Up l->(∀x∈l,x.y≠c.y)->Up (G9 c l)
  |[],_,_=>by simp[G9,Up]
  |x::r,h,hn=>by
    rw[Up,ea]at h;have b:=hn x fp;unfold G9;split
    · next hl=>
      show uF _ _;rw[ea];refine⟨λy a=>?_,insC_up h.2 λy a=>hn y<|bo _ a⟩;rcases U4.1 a with rfl|a
      · exact hl
      · exact h.1 y a
    · next hl=>
      show uF _ _;rw[ea,ea];refine⟨λy a=>?_,h.1,h.2⟩;rcases bs.1 a with rfl|a
      · omega
      · have:=h.1 y a;omega
theorem find_of{l:H Co}(b:Up l){x:Co}(a:x∈l):∃n,l.findIdx? (λy=>G (y.y=x.y))=U n/\l[n]? =U x/\n<O l:=by
  induction l with
  |nil=>cases a
  |cons z r ih=>
    rw[Up,ea]at b;rw[xU];rcases bs.1 a with rfl|a
    · exact⟨0,by simp,Z,by simp⟩
    · have:=b.1 x a;obtain⟨n,d,c,e⟩:=ih b.2 a;exact⟨n+1,by rw[Z4 (by simp;omega),d];rfl,by simpa using c,by simp;omega⟩
theorem next_ok(a:H Co)(b:vA)(h:(kX a b).2=0):Good a/\Good (kX a b).1/\O a<=O (kX a b).1+1/\O (kX a b).1<=O a+1/\(∀x∈a,x.y≠b.t->x∈(kX a b).1)/\(∀x∈a,x.y=b.t->0<=x.E->b.h=5):=by
  unfold kX at h⊢;by_cases q:gF a=0
  · by_cases t:eF b=0
    · have g:=(No a).1 q;have gr:=HB b t;have gl:=g.len;have F:=gr.t;rw[Z4 (by simpa using q),Z4 (by simpa using t)]at h⊢;have i:∀x∈a,x.y≠b.t->x∈Lx b a:=λx f hn=>by unfold Lx;rw[A4];exact⟨f,by simpa using hn⟩
      have j:∀c:Co,X1 c->c.y=b.t->O (Lx b a)<=2->Good (G9 c (Lx b a)):=λc al Zs hl=>⟨by rw[J8];omega,λx f=>by
        rcases U4.1 f with rfl|f
        · exact al
        · exact g.ok x (VM f).1,insC_up (oth_up b g.up) (λx f=>by have:=(VM f).2;omega)⟩
      rcases FG b a with⟨e1,e2,e3⟩|⟨n,c,e1,e2,e3,e4⟩
      · rw[e1]at h⊢;simp only at h⊢;have T7:∀x∈a,x.y≠b.t:=λx f e=>by
          unfold Dl at e1;rw[List.find?_eq_none]at e1;exact e1 x f (by simpa using e)
        by_cases s:b.h=1\/b.h=4
        · rw[Z3 s]at h⊢;cases hq:(G (b.k=1) !=G (b.h=1))with
          |true=>rw[hq,Z3 Z]at h;exact ZL h tS
          |false=>
            rw[hq]at h;simp only[cL,if_false]at h⊢;have v:O a<=2:=by
              match a,g,T7 with
              |[],_,_=>simp
              |[x],_,_=>simp
              |[x,y],_,_=>simp
              |[x,y,z],g,T7=>
                have M:=g.up;simp[Up]at M;have o1:=g.ok x C7;have o2:=g.ok y C7;have w0:=g.ok z C7;have sc:=T7 x C7;have N:=T7 y C7;have ab:=T7 z C7;unfold X1 at o1 o2 w0;omega
              |x::y::z::u::r,g,_=>have:=g.len;simp at this
            have hi:=gr.has V;refine⟨g,j _ ⟨F.1,F.2,gr.k.1,gr.k.2,by simp,by simp,hi,gr.u⟩ Z (by rw[e3];exact v),?_,?_,λx f hn=>U4.2 (.inr (i x f hn)),λx f e=>ZL e (T7 x f)⟩
            · rw[J8,e3];omega
            · rw[J8,e3];omega
        · rw[Z4 s]at h;exact ZL h tS
      · rw[e1]at h⊢;simp only at h⊢;have hn:n<O a:=by
          rcases cG n (O a) with h|h
          · exact h
          · rw[bE h]at e3;cases e3
        have K:O (Lx b a)+1=O a:=by
          rw[<-del_oth b a n c g.up e3 e4];simp;omega
        have d:=g.ok c<|jj e3;have o:∀x∈a,x.y=b.t->x=c:=by
          intro x f p;obtain⟨m,A,E,_⟩:=find_of g.up f;rw[p,e2]at A;cases A;rw[e3]at E;exact(osi E).symm
        by_cases s:b.h=1\/b.h=4
        · rw[Z3 s]at h;exact ZL h tS
        · rw[Z4 s]at h⊢;cases hq:(G (b.k≠c.k)||(G (c.E≠ -1) !=G (b.h=5)))with
          |true=>rw[hq,Z3 Z]at h;exact ZL h tS
          |false=>
            rw[hq]at h;simp only[cL,if_false]at h⊢;have k:∀x∈a,x.y=b.t->0<=x.E->b.h=5:=by
              intro x f p P;have:=o x f p;subst this;rw[cV]at hq;have w:=hq.2;rw[show G (x.E≠ -1)=bh from dT V]at w;cases h5:G (b.h=5)with
              |true=>exact UP h5
              |false=>rw[h5]at w;cases w
            have l:∀(aq:Co) x,x∈a->x.y≠b.t->x∈G9 aq (Lx b a):=λaq x f hn=>U4.2<|.inr<|i x f hn;by_cases C:b.h=5
            · rw[Z3 C]at h⊢;exact⟨g,⟨by show O (Lx b a)<=3;omega,λx f=>g.ok x (VM f).1,oth_up b g.up⟩,by show O a<=O (Lx b a)+1;omega,by show O (Lx b a)<=O a+1;omega,i,k⟩
            · rw[Z4 C]at h⊢;by_cases k2:b.h=2
              · rw[Z3 k2]at h⊢;have hi:=gr.has V;refine⟨g,j _ ⟨d.1,d.2.1,d.2.2.1,d.2.2.2.1,d.2.2.2.2.1,d.2.2.2.2.2.1,hi,gr.u⟩ e4 V,?_,?_,l _,k⟩
                · rw[J8];omega
                · rw[J8];omega
              · rw[Z4 k2]at h⊢;by_cases p:c.k=100
                · rw[Z3 p]at h;exact ZL h tS
                · rw[Z4 p]at h⊢;have J:=gr.o;refine⟨g,j _ ⟨d.1,d.2.1,d.2.2.1,d.2.2.2.1,by show-1<=b.o;omega,J.2,d.2.2.2.2.2.2.1,d.2.2.2.2.2.2.2⟩ e4 V,?_,?_,l _,k⟩
                  · rw[J8];omega
                  · rw[J8];omega
    · rw[Z4 (by simpa using q),Z3 t]at h;exact ZL h t
  · rw[Z3 q]at h;exact ZL h q
theorem mailEq(x y:dJ):(((((G (x.from_=y.from_)&&G (x.x=y.x))&&G (x.t=y.t))&&G (x.k=y.k))&&(x.G==y.G))&&G (x.u=y.u))=G (x=y):=by
 cases x;cases y;rw[dI];simp[and_assoc]
theorem wSame(a b:H dJ):L0 a b=U (G (a=b)):=by
  unfold L0;by_cases h:O a=O b
  · rw[show G (((O a:Int):Int)≠(O b:Int))=aw by simp[h]];simp only[Z2];rw[Rf (λx y=>G (x=y)) a b h rfl (λi x y d c=>by
      unfold FC Sb;rw[kz,c,<-mailEq];simp only[vt,eqInt];cases ((((G (x.from_=y.from_)&&G (x.x=y.x))&&G (x.t=y.t))&&G (x.k=y.k))&&(x.G==y.G))<;>cases G (x.u=y.u)<;>rfl),Dn (λ_ _=>rfl)]
  · rw[show G (((O a:Int):Int)≠(O b:Int))=bh by simp;omega];have:a≠b:=λe=>h (by rw[e]);simp[this]
theorem rSame(a b:H dJ):yP a b=U (G (a=b)):=by
 have:yP=L0:=rfl;rw[this,wSame]
theorem IL(a:H dJ):eD a=tu a:=by
  have h:AA=zg:=by
    funext x s nx;unfold AA zg aN;have d:(((((((G ((x.from_:Int)<0)||G ((3:Int)<=x.from_))||G ((x.x:Int)<0))||G ((3:Int)<=x.x))||G ((x.t:Int)<0))||G ((3:Int)<=x.t))||G ((x.k:Int)<2))||G ((100:Int)<x.k))=((((!(G ((0:Int)<=x.from_)&&G (x.from_<=2)))||(!(G ((0:Int)<=x.x)&&G (x.x<=2))))||(!(G ((0:Int)<=x.t)&&G (x.t<=2))))||(!(G ((2:Int)<=x.k)&&G (x.k<=100)))):=by
      rw[dI];simp;omega
    rw[d];congr 2;generalize (O x.u)=n;rcases Nat.eq_zero_or_pos n with h0|h0
    · subst h0;cases x.G<;>rfl
    · have f:G ((n:Int)=0)=false:=decide_eq_false V;have c:G ((0:Int)<(n:Int))=true:=decide_eq_true V;have e:G ((1:Int)<=(n:Int))=true:=decide_eq_true V;rw[f,c,e];by_cases b:(n:Int)<=1200
      · rw[decide_eq_true b,decide_eq_false (show¬(1200:Int)<n by omega)];cases x.G<;>rfl
      · rw[decide_eq_false b,decide_eq_true (show(1200:Int)<n by omega)];cases x.G<;>rfl
  unfold eD tu;rw[h];rfl
theorem Hc{a:H dJ}(h:eD a=0):O a<=40/\∀x∈a,O x.u<=1200:=by
  unfold eD at h;by_cases c:(40:Int)<(O a:Int)
  · rw[decide_eq_true c]at h;cases h
  · rw[decide_eq_false c]at h;refine⟨by omega,?_⟩;simp only[Z2]at h;clear c;induction a with
    |nil=>intro x b;cases b
    |cons y r ih=>
      rw[fQ]at h;unfold AA at h;generalize e:(((((((G ((y.from_:Int)<0)||G ((3:Int)<=y.from_))||G ((y.x:Int)<0))||G ((3:Int)<=y.x))||G ((y.t:Int)<0))||G ((3:Int)<=y.t))||G ((y.k:Int)<2))||G ((100:Int)<y.k))=A at h;cases A with
      |true=>cases h
      |false=>
        simp only[Z2]at h;generalize d:((y.G !=G (((O y.u:Int):Int)=0))||G ((1200:Int)<(O y.u:Int)))=aq at h;cases aq with
        |true=>cases h
        |false=>
          simp only[Z2]at h;intro x b;rcases bs.1 b with rfl|b
          · simp only[cV,decide_eq_false_iff_not]at d;omega
          · exact ih h x b
theorem wCopy{a:H dJ}(h:O a<=40)(d:∀x∈a,O x.u<=1200):Gn a=U a:=by
 unfold Gn;rw[vO V V];simp only[vt,ba];have b:∀(m i:Nat),i+m=O a->Ax Jv TV (i:Int) m a=U a:=by
  intro m;induction m with
  |zero=>intro i _;rfl
  |succ m ih=>
   intro i hi;have c:i<O a:=by omega
   show Jv (i:Int) a (Ax Jv TV ((i:Int)+1) m)=_;unfold Jv;rw[rC c];have:=d a[i]<|cw c;simp only[vt];rw[vO V V];simp only[vt,ba];rw[show({a[i]with u:=a[i].u}:dJ)=a[i]from rfl,pN];exact ih (i+1) V
 simpa using b (O a) 0 V
theorem b_t{p:Prop} [Decidable p](h:p):decide p=true:=decide_eq_true h
theorem b_f{p:Prop} [Decidable p](h:¬p):decide p=false:=decide_eq_false h
theorem wSend(a:H dJ)(b:dJ):Ub a b=U (if eD a≠0 then([],eD a)else if eD [b]≠0 then([],eD [b])else(if O a<40 then a++[b]else a,0)):=by
  unfold Ub;by_cases d:eD a≠0
  · rw[b_t d,Z3 d];rfl
  · rw[b_f d,Z4 d];by_cases c:eD [b]≠0
    · rw[b_t c,Z3 c];rfl
    · rw[b_f c,Z4 c];have c1:=Hc<|eN.1 d;have c2:=Hc<|eN.1 c;simp only[Z2,wCopy c1.1 c1.2,wCopy c2.1 c2.2,vt];by_cases e:(O a:Int)<40
      · rw[b_t e,Z3 V];simp only[Z1];exact gH (Room.mk (by simp;omega) (by simp;omega))
      · rw[b_f e,Z4 V];rfl
def zMail:dJ:=⟨0,0,0,0,aw,[]⟩
theorem wTake(a:H dJ)(k:Int)(t:YU):Ms a k t=U (if eD a≠0 then([],zMail,eD a)else if k<0\/(O a:Int)<=k then([],zMail,5)else(if t then a else a.take k.toNat++a.drop (k.toNat+1),(a[k.toNat]?).getD zMail,0)):=by
  unfold Ms Ox;by_cases b:eD a≠0
  · rw[b_t b,Z3 b];rfl
  · rw[b_f b,Z4 b];have c1:=Hc<|eN.1 b;by_cases c:k<0\/(O a:Int)<=k
    · rw[show(G (k<0)||G ((O a:Int)<=k))=bh by simpa using c,Z3 c];rfl
    · rw[show(G (k<0)||G ((O a:Int)<=k))=aw by simpa using c,Z4 c];obtain⟨n,rfl⟩:=ck (show 0<=k by omega);have hn:n<O a:=by omega
      simp only[Z2,wCopy c1.1 c1.2,vt,ba];have g1:j6 ((n:Int)+1):=j6.mk V V;rw[gH g1];have e:(n:Int)+1=((n+1:Nat):Int):=rfl;rw[e,Sl V V];have f:=one_at hn;rw[f];simp only[vt];rw[wCopy C7 (by intro x d;simp at d;subst d;exact c1.2 _ (cw hn))];simp only[vt];rw[show vx [a[n]] 0=U a[n]from rfl];simp only[vt,bl hn,fR];cases t with
      |true=>simp only[cE,Z2,if_true]
      |false=>
        simp only[en,Z1];rw[gH (show j6 (((n+1:Nat):Int))from j6.mk V V),del_s V V];simp only[vt,cL,if_false]
end Dk
open Go Go.Proofs Go.LX
namespace Pw
open Dk
theorem lnP_inv(most:Int):∀(p:H vh) (l:H vA) (n:Int),∃rs,(Wd most p l n).1=l++rs/\J7 rs/\(Wd most p l n).2.1=n+(O (DA rs):Int)/\∃t,zn 10 p=DA rs++t/\((Wd most p l n).2.2=0->t=[])
  |[],l,n=>⟨[],by simp[Wd],Q5,by simp[Wd,DA],[],by simp[zn,Lib.join_nil,DA],λ_=>rfl⟩
  |[x],l,n=>by
    unfold Wd;by_cases h:x=[]
    · rw[Z3 h];subst h;exact⟨[],by simp,Q5,by simp[DA],[],by rw[E9];rfl,λ_=>rfl⟩
    · rw[Z4 h];exact⟨[],by simp,Q5,by simp[DA],x,by rw[E9];rfl,λh=>by simp at h⟩
  |x::y::r,l,n=>by
    unfold Wd;by_cases b:(nP x).2=0
    · rw[Z4 V];by_cases c:most<=(O l:Int)
      · rw[Z3 c];exact⟨[],by simp,Q5,by simp[DA],_,Z,λh=>by simp at h⟩
      · rw[Z4 c];obtain⟨rs,j,g,i,t,e,f⟩:=lnP_inv most (y::r) (l++[(nP x).1])<|n+(O x:Int)+1;obtain⟨k1,k2,d⟩:=read_ok (s:=x) (r:=(nP x).1) (by rw[<-b]);refine⟨(nP x).1::rs,by rw[j];simp,?_,?_,t,?_,f⟩
        · intro z a;rcases bs.1 a with rfl|a
          · exact⟨k1,k2⟩
          · exact g z a
        · rw[i];have:(Dj (nP x).1)=x:=d.symm;simp only[DA,bm,br,this];omega
        · rw[Cj,e];have:(Dj (nP x).1)=x:=d.symm;simp[DA,this]
    · rw[Z3 b];exact⟨[],by simp,Q5,by simp[DA],_,Z,λh=>ZL h b⟩
theorem ln_inv(most:Int)(s:vh):J7 (ln most s).1/\(ln most s).2.1=(O (DA (ln most s).1):Int)/\∃t,s=DA (ln most s).1++t/\((ln most s).2.2=0->t=[]):=by
 obtain⟨rs,b,c,e,t,a,d⟩:=lnP_inv most (kG 10 s) [] 0;rw[cc]at b;rw[Ck]at a;unfold Dk.ln;rw[b];exact⟨c,by rw[e];omega,t,a,d⟩
def K8(d:gz):H vA:=(ln 120 d.B).1
def mi(d:gz):H vA:=(Ob d).2
structure DOk(d:gz):Prop where
 B:d.B=DA (K8 d)
 good:J7 (mi d)
 len:(mi d).length<=120
 room:d.B.length+d.z.length<=60000
 pre:K8 d<+:mi d
 whole:(Ob d).1=⟨DA (mi d),[]⟩
 rroom:(DA (mi d)).length<=60000
 still:d.z=[]->mi d=K8 d
theorem dOk{d:gz}(h:ji d=0):DOk d:=by
  obtain⟨j,l⟩:=Dk.uN h;obtain⟨g1,g2,t,c,g⟩:=ln_inv 120 d.B;have m:=g l;subst m;rw[eK]at c;have hl:(O (ln 120 d.B).1:Int)<=120:=(YR 120 d.B).2.2.2 V;obtain⟨k1,k2,u,f,n⟩:=ln_inv (120-(O (ln 120 d.B).1:Int)) d.z;have k:=(YR (120-(O (ln 120 d.B).1:Int)) d.z).2.2.2 V;have a:mi d=(ln 120 d.B).1++(ln (120-(O (ln 120 d.B).1:Int)) d.z).1:=rfl;have b:d.z.take (ln (120-(O (ln 120 d.B).1:Int)) d.z).2.1.toNat=DA (ln (120-(O (ln 120 d.B).1:Int)) d.z).1:=by
    generalize o:DA (ln (120-(O (ln 120 d.B).1:Int)) d.z).1=T at k2 f;rw[k2,ba,f,jz]
  have p:(DA (ln (120-(O (ln 120 d.B).1:Int)) d.z).1).length<=O d.z:=by
    rw[<-b,cf];omega
  refine⟨c,?_,?_,j,?_,?_,?_,?_⟩
  · rw[a];exact λr i=>(dq.1 i).elim (g1 r)<|k1 r
  · rw[a,bm];omega
  · rw[a];exact sn _ _
  · show(⟨d.B++d.z.take (ln (120-(O (ln 120 d.B).1:Int)) d.z).2.1.toNat,[]⟩:gz)=_;rw[b,a,Si,<-c]
  · rw[a,Si,bm,<-c];omega
  · intro e;rw[a,e];show _++(Wd _ (kG 10 []) [] 0).1=_;simp[kG,Wd,K8]
theorem dOk_mk{a:H vA}{w:vh}(h:J7 a)(hl:O a<=120)(b:O (DA a)+O w<=60000):ji ⟨DA a,w⟩=0/\K8 ⟨DA a,w⟩=a:=by
 refine⟨Lv h hl b,?_⟩;unfold K8;rw[ln_all h V]
theorem note_disk{d:gz}(h:ji d=0)(o:d.z=[]){r:vA}(w:Q4 r){d1 d2:gz}(s:zm d r=(d1,0))(g:J6 d1=(d2,0)):
    fC r=0/\d2=⟨DA (K8 d++[r]),[]⟩/\ji d2=0/\K8 d2=K8 d++[r]/\mi d2=K8 d++[r]/\O (K8 d)+1<=120:=by
  have ok:=dOk h;obtain⟨p,t⟩:=d;simp only at o;subst o;have W:=ok.B;simp only at W;have f:=ok.room;simp only[eR]at f;have hl:=ok.len;rw[ok.still rfl]at hl;have i:=ok.good;rw[ok.still rfl]at i;generalize u:K8 ⟨p,[]⟩=a at*;subst W;have e:=put_txt (a:=a) (b:=[]) (r:=r) i hl (by simpa[DA]using f) w;rw[show DA ([]:H vA)=[]from rfl,s]at e;rcases e with e|⟨e,er,el⟩
  · exact ZL Z e
  · rw[cc]at e el;obtain rfl:=ZS ml e;simp only at g;have j:J7 [r]:=λx k=>by rw[gA]at k;subst k;exact⟨er,w⟩
    have l:J7 (a++[r]):=λx k=>(dq.1 k).elim (i x)<|j x;by_cases c:O a+1<=120
    · rw[sync_txt i j (by simpa using c) el]at g;obtain rfl:=ZS ml g;obtain⟨k1,k2⟩:=dOk_mk (a:=a++[r]) (w:=[]) l (by simpa using c) (by rw[Si];simp;omega);exact⟨er,Z,k1,k2,by rw[(dOk k1).still Z,k2],c⟩
    · exfalso;unfold J6 HD at g;rw[Z4 (by rw[Lv i hl el];simp)]at g;simp only at g;have n:O a=120:=by omega
      have:ji ⟨DA a++DA [r],[]⟩=2:=by
        unfold ji;simp only[eR,bm];rw[Z4 V];rw[ln_txt (DA [r]) i V];have m:kG 10 (DA [r])=[Dj r,[]]:=by
          have:=Ho [r] [];rw[eK]at this;rw[this];simp[kG]
        rw[m];unfold Wd;have q:nP (Dj r)=(r,0):=IT er w;rw[q,Z4 C7,Z3 V]
      rw[this]at g;simp at g
theorem tear_disk{d:gz}(h:ji d=0)(l:d.z=[]){r:vA}(w:Q4 r){d1:gz}(s:zm d r=(d1,0)){n:Int}(hn:0<=n/\n<=O d1.z):
    fC r=0/\(NH d1 n).2=0/\ji (NH d1 n).1=0/\K8 (NH d1 n).1=K8 d/\(mi (NH d1 n).1=K8 d\/mi (NH d1 n).1=K8 d++[r]):=by
  have ok:=dOk h;obtain⟨o,y⟩:=d;simp only at l;subst l;have W:=ok.B;simp only at W;have c:=ok.room;simp only[eR]at c;have hl:=ok.len;rw[ok.still rfl]at hl;have f:=ok.good;rw[ok.still rfl]at f;generalize z:K8 ⟨o,[]⟩=a at*;subst W;have e:=put_txt (a:=a) (b:=[]) (r:=r) f hl (by simpa[DA]using c) w;rw[show DA ([]:H vA)=[]from rfl,s]at e;rcases e with e|⟨e,er,el⟩
  · exact ZL Z e
  · rw[cc]at e el;obtain rfl:=ZS ml e;have p:ji ⟨DA a,DA [r]⟩=0:=Lv f hl el;simp only at hn;have q:NH ⟨DA a,DA [r]⟩ n=(⟨DA a,(DA [r]).take n.toNat⟩,0):=by
      unfold NH;simp only;rw[Z4 (by rw[p];simp),Z4 V]
    rw[q];obtain⟨k1,k2⟩:=dOk_mk (a:=a) (w:=(DA [r]).take n.toNat) f hl (by rw[cf];omega);refine⟨er,Z,k1,k2,?_⟩;have v:mi ⟨DA a,(DA [r]).take n.toNat⟩=a++(ln (120-(O a:Int)) ((DA [r]).take n.toNat)).1:=by
      show(ln 120<|DA a).1++_=_;rw[ln_all f V]
    simp only;rw[v];obtain⟨j,t,u,t2⟩:=take_txt [r] n.toNat;have i:J7 [r]:=λx k=>by rw[gA]at k;subst k;exact⟨er,w⟩
    rw[u];cases j with
    |zero=>
      left;have:=(ln_torn (most:=120-(O a:Int)) (rs:=[]) (t:=t) Q5 (by simp;omega) t2).1;simp only[tI];rw[this,eK]
    |succ j=>
      simp only[rh,List.take_nil];by_cases m:O a+1<=120
      · right;rw[(ln_torn (most:=120-(O a:Int)) i (by simp;omega) t2).1]
      · left;have g:(120-(O a:Int))=0:=by omega
        rw[g];have:=(YR 0<|DA [r]++t).2.2.2 V;have:(ln 0<|DA [r]++t).1=[]:=cA V;rw[this,eK]
end Pw
open Go Go.Proofs Go.LX
namespace Pw
open Dk
section
variable{α:Type}
theorem VN{R:St α}{g:α->H Int}(h:∀l x r,R l=U (x,r)->l=g x++r):∀(n:Nat) (l:H Int) (xs:H α) (r:H Int),jT R n l=U (xs,r)->l=xs.flatMap g++r/\O xs=n
 |0,l,xs,r,e=>by
  have a:U (([]:H α),l)=U (xs,r):=e;cases a;exact⟨Z,Z⟩
 |n+1,l,xs,r,e=>by
  have a:(R l).bind (λq=>ao (jT R n q.2) λb=>U (q.1::b.1,b.2))=U (xs,r):=e;cases h1:R l with
  |none=>rw[h1]at a;cases a
  |some q=>
   rw[h1,cJ]at a;cases h2:jT R n q.2 with
   |none=>rw[h2]at a;cases a
   |some b=>
    rw[h2,cJ]at a;cases a;obtain⟨k1,k2⟩:=VN h n q.2 b.1 b.2 h2;refine⟨?_,by simp[k2]⟩;rw[h l q.1 q.2 h1,hH,cg,<-k1]
variable{l:H Int}{x:Int}{r:H Int}
theorem D4(h:Je l=U (x,r)):l=x::r:=by
 cases l with
 |nil=>cases h
 |cons a l=>cases h;rfl
variable{m:Int}
theorem Ju{x:Nat}(h:qM m l=U (x,r)):l=(x:Int)::r/\(x:Int)<=m:=by
  cases l with
  |nil=>cases h
  |cons a l=>
    unfold qM at h;simp only at h;by_cases b:0<=a/\a<=m
    · rw[Z3 b]at h;cases h;rw[rS b.1];exact⟨Z,b.2⟩
    · rw[Z4 b]at h;cases h
theorem Aq{α β:Type}{R:St α}{f:α->St β}{y:β}(h:jd R f l=U (y,r)):∃x a,R l=U (x,a)/\f x a=U (y,r):=by
 unfold jd at h;cases e:R l with
 |none=>rw[e]at h;cases h
 |some q=>rw[e,cJ]at h;exact⟨q.1,q.2,Z,h⟩
theorem Ln{x y:α}{l r:H Int}(h:yS x l=U (y,r)):x=y/\l=r:=by cases h;exact⟨Z,Z⟩
theorem val_inv{x:tp}(h:FA l=U (x,r)):l=[x.h,x.n]++r:=by
 obtain⟨k,d,b,h⟩:=Aq h;obtain⟨n,c,a,h⟩:=Aq h;obtain⟨rfl,rfl⟩:=Ln h;rw[D4 b,D4 a];rfl
theorem row_inv{x:H tp}(h:Ba m l=U (x,r)):l=DQ x++r:=by
 obtain⟨k,c,b,h⟩:=Aq h;obtain⟨d,a⟩:=VN (λl x r=>val_inv) k c x r h;rw[(Ju b).1,d,<-a];rfl
theorem fr_inv{x:Ya}(h:Pn l=U (x,r)):l=frP x++r:=by
 obtain⟨a,n,f,h⟩:=Aq h;obtain⟨b,k,e,h⟩:=Aq h;obtain⟨c,m,i,h⟩:=Aq h;obtain⟨d,j,g,h⟩:=Aq h;obtain⟨rfl,rfl⟩:=Ln h;rw[D4 f,D4 e,D4 i,row_inv g];rfl
variable{s:Ys}
theorem st_inv(h:YO l=U (s,r)):l=Ap s++r:=by
 obtain⟨a,A,i,h⟩:=Aq h;obtain⟨b,z,m,h⟩:=Aq h;obtain⟨n,j,y,h⟩:=Aq h;obtain⟨f,v,w,h⟩:=Aq h;obtain⟨k,p,o,h⟩:=Aq h;obtain⟨c,u,e,h⟩:=Aq h;obtain⟨rfl,rfl⟩:=Ln h;obtain⟨t,g⟩:=VN (λl x r=>fr_inv) n j f v w;obtain⟨q,d⟩:=VN (λl x r=>row_inv) k p c u e;rw[D4 i,D4 m,(Ju y).1,t,(Ju o).1,q,<-g,<-d];unfold Ap;simp
structure Img(p:List bM)(l:List Int)(s:Ys):Prop where
 un:eP p l=(s,0)
 st:Au p s
 idem:jY s=s
 eq:l=Ap s
variable{p:H bM}
theorem Mb(J:Lt p=0)(h:(eP p l).2=0):Img p l (eP p l).1:=by
  have f:eP p l=((eP p l).1,0):=by rw[<-h]
  have a:=f;unfold eP at h;by_cases hl:1200<O l
  · rw[Z3 hl]at h;simp at h
  · rw[Z4 hl]at h;cases e:YO l with
    |none=>rw[e]at h;simp at h
    |some q=>
      obtain⟨s,r⟩:=q;rw[e]at h;cases r with
      |cons x r=>simp at h
      |nil=>
        simp only at h;have d:eP p l=Fo p s:=by unfold eP;rw[Z4 hl,e]
        rw[d]at a⊢;unfold Fo at h a⊢;rw[Z4 V]at h a⊢;by_cases c:US p s=0
        · rw[Z4 V]at h a⊢;by_cases b:jY s=s
          · rw[Z3 b]at h a⊢;refine⟨?_,Ku.1 c,b,?_⟩
            · rw[d];unfold Fo;rw[Z4 V,Z4 V,Z3 b]
            · have:=st_inv e;rw[eK]at this;exact this
          · rw[Z4 b]at h;simp at h
        · rw[Z3 c]at h;exact ZL h c
theorem img_pack(J:Lt p=0)(h:Au p s):Img p (Ap (jY s)) (jY s):=
 ⟨unpack_pack J h,FF (nk J) h,MP (h.sw (nk J)),rfl⟩
theorem valsP_mem{l:H tp}(h:x∈HE l):∃v∈l,x=v.h\/x=v.n:=by
 obtain⟨v,b,a⟩:=lR.1 h;simp at a;exact⟨v,b,a⟩
theorem Ha(h: -2000000000<=x/\x<=2000000000):j6 x:=⟨by omega,by omega⟩
variable{n:Nat}
theorem val_b{v:tp}(h:lJ n v)(hn:n<=24):(-2000000000<=v.h/\v.h<=2000000000)/\ -2000000000<=v.n/\v.n<=2000000000:=by unfold lJ at h;omega
theorem row_b{l:H tp}(h:∀v∈l,lJ n v)(hn:n<=24)(hl:O l<=40):∀x∈DQ l,-2000000000<=x/\x<=2000000000:=by
  intro x a;rcases bs.1 a with rfl|a
  · omega
  · obtain⟨v,b,e⟩:=valsP_mem a;have:=val_b (h v b) hn;rcases e with rfl|rfl
    · exact this.1
    · exact this.2
theorem pack_b(J:oW p)(h:Au p s):∀x∈Ap s,j6 x:=by
  have W:=h.small J;have A:=W.i;have m:=W.j;have r:=h.q;have w:=h.bC;intro x a;refine Ha ?_;unfold Ap at a;rcases bs.1 a with rfl|a
  · omega
  rcases bs.1 a with rfl|a
  · omega
  rcases bs.1 a with rfl|a
  · omega
  rcases dq.1 a with a|a
  · obtain⟨f,b,a⟩:=lR.1 a;obtain⟨q,g⟩:=DW h.i f b;have y:=(J.mem g.F).2.2.2;have v:=(aM g.F).1;have o:f.F.toNat<O p:=by
      have:=(aM g.F).2;exact(oa.1 this).1
    have u:=J.many;have D2:=g.at_;unfold wy at y;have e: -2000000000<=f.x/\f.x<=2000000000:=by
      have i:∀(l:H Ya) (t:Int),t<=40->(∀f∈l,O f.regs<=40)->qL p (O s.j) t l->∀f∈l,0<=f.x/\f.x<40:=by
        intro l;induction l with
        |nil=>intro t _ _ _ f b;cases b
        |cons g l ih=>
          intro t aq k d f b;rcases bs.1 b with rfl|b
          · have:=d.2.1;omega
          · exact ih _ (by have:=k g C7;omega) (λz n=>k z (bo _ n)) d.2.2 f b
      have:=i s.i 1 V W.regs h.i f b;omega
    unfold frP at a;rcases bs.1 a with rfl|a
    · omega
    rcases bs.1 a with rfl|a
    · omega
    rcases bs.1 a with rfl|a
    · exact e
    · exact row_b g.vals m (W.regs f b) x a
  · rcases bs.1 a with rfl|a
    · omega
    · obtain⟨c,j,a⟩:=lR.1 a;exact row_b (h.j.2 c j).2 m (by have:=W.fields c j;omega) x a
theorem Se(J:oW p)(h:Img p l s):(∀x∈l,j6 x)/\1<=O l/\O l<=1200:=by
 rw[h.eq];have:=KB<|h.st.small J;refine⟨pack_b J h.st,?_,by omega⟩;unfold Ap;simp
def qw(i:Int)(l:H Co):L Co:=l.find? λx=>G (x.y=i)
variable{i:Int}{c:Co}
theorem Hd{l:H Co}(h:qw i l=U c):c.y=i/\c∈l:=by
 have a:=List.find?_some h;exact⟨by simpa using a,List.mem_of_find?_eq_some h⟩
theorem IM:∀{l:H Co},(∀x∈l,x.y≠c.y)->qw i (G9 c l)=if i=c.y then U c else qw i l
  |[],_=>by
    unfold G9 qw;rw[eS];by_cases h:i=c.y
    · rw[Z3 h,dT h.symm]
    · rw[Z4 h,dF (λe=>h e.symm)]
  |x::r,hx=>by
    unfold G9;by_cases a:x.y<c.y
    · rw[Z3 a];have b:=IM (l:=r) λy d=>hx y<|bo _ d;unfold qw at b⊢;rw[eS,eS,b];by_cases h:x.y=i
      · rw[dT h];show U x=_;rw[Z4 (by have:=hx x C7;omega)]
      · rw[dF h]
    · rw[Z4 a];unfold qw;rw[eS];by_cases h:i=c.y
      · rw[Z3 h,dT h.symm]
      · rw[Z4 h,dF (λe=>h e.symm)]
theorem LA{b:vA}:∀{l:H Co},qw i (Lx b l)=if i=b.t then bd else qw i l
  |[]=>by simp[qw,Lx]
  |x::r=>by
    have c:=LA (b:=b) (l:=r);unfold qw Lx at c⊢;rw[hZ];by_cases h:x.y=b.t
    · rw[dF V];simp only[cL,if_false];rw[c,eS];by_cases a:i=b.t
      · rw[Z3 a,Z3 a]
      · rw[Z4 a,Z4 a,dF V]
    · rw[dT h];simp only[if_true];rw[eS,eS,c];by_cases a:x.y=i
      · rw[dT a];show U x=_;rw[Z4 V]
      · rw[dF a]
end
inductive Did (r:vA) (o n:Option Co):Prop
 |begin (h:r.h=1/\r.k=1) (ho:o=bd) (hn:n=U ⟨r.t,r.k,r.u,-1⟩)
 |take (h:r.h=4/\r.k≠1) (ho:o=bd) (hn:n=U ⟨r.t,r.k,r.u,-1⟩)
 |slice (c:Co) (h:r.h=2) (ho:o=U c) (he:c.k=r.k) (hf:c.E= -1) (hn:n=U ⟨c.y,c.k,r.u,-1⟩)
 |offer (c:Co) (h:r.h=3) (ho:o=U c) (he:c.k=r.k) (hf:c.E= -1) (hx:c.k≠100) (hn:n=U ⟨c.y,c.k,c.u,r.o⟩)
 |gone (c:Co) (h:r.h=5) (ho:o=U c) (he:c.k=r.k) (hf:c.E≠ -1) (hn:n=bd)
theorem Hq{a:H Co}{r:vA}(h:(kX a r).2=0):(∀i,i≠r.t->qw i (kX a r).1=qw i a)/\Did r (qw r.t a) (qw r.t (kX a r).1)/\eF r=0:=by
  have v:=(next_ok a r h).1;unfold kX at h⊢;by_cases p:gF a=0
  · by_cases m:eF r=0
    · have gr:=HB r m;rw[Z4 (by simpa using p),Z4 (by simpa using m)]at h⊢;have k:∀x∈Lx r a,x.y≠r.t:=λx l=>(VM l).2;have t:Dl r a=qw r.t a:=rfl;cases e:Dl r a with
      |none=>
        rw[e]at h;rw[t]at e;simp only at h⊢;by_cases f:r.h=1\/r.h=4
        · rw[Z3 f]at h⊢;by_cases j:(G (r.k=1) !=G (r.h=1))=bh
          · rw[Z3 j]at h;simp at h
          · rw[Z4 j];simp only;refine⟨λi hi=>?_,?_,m⟩
            · rw[IM k,Z4 hi,LA,Z4 hi]
            · rw[IM k,Z3 rfl,e];rcases f with f|f
              · refine .begin ⟨f,?_⟩ Z Z;by_cases g:r.k=1
                · exact g
                · exact ZL (by simp[f,g]) j
              · refine .take ⟨f,?_⟩ Z Z;intro g;exact ZL (by simp[f,g]) j
        · rw[Z4 f]at h;simp at h
      |some c=>
        rw[e]at h;rw[t]at e;obtain⟨d,u⟩:=Hd e;simp only at h⊢;by_cases f:r.h=1\/r.h=4
        · rw[Z3 f]at h;simp at h
        · rw[Z4 f]at h⊢;by_cases j:(G (r.k≠c.k)||(G (c.E≠ -1) !=G (r.h=5)))=bh
          · rw[Z3 j]at h;simp at h
          · rw[Z4 j]at h⊢;have g:c.k=r.k:=by
              by_cases g:r.k=c.k
              · exact g.symm
              · exact ZL (by simp[g]) j
            by_cases o:r.h=5
            · rw[Z3 o];simp only;refine⟨λi hi=>by rw[LA,Z4 hi],?_,m⟩;rw[LA,Z3 rfl,e];refine .gone c o Z g ?_ Z;intro n;exact ZL (by simp[o,n]) j
            · have n:c.E= -1:=by
                by_cases n:c.E= -1
                · exact n
                · exact ZL (by simp[o,n]) j
              rw[Z4 o]at h⊢;by_cases s:r.h=2
              · rw[Z3 s];simp only;have b:∀x∈Lx r a,x.y≠(⟨c.y,c.k,r.u,c.E⟩:Co).y:=λx l=>by simp only[d];exact k x l
                refine⟨λi hi=>?_,?_,m⟩
                · rw[IM b,Z4 (by simp only[d];exact hi),LA,Z4 hi]
                · rw[IM b,Z3 (by simp only[d]),e];exact .slice c s Z g n (by rw[n])
              · rw[Z4 s]at h⊢;by_cases l:c.k=100
                · rw[Z3 l]at h;simp at h
                · rw[Z4 l];simp only;have q:r.h=3:=by have:=gr.h;omega
                  have b:∀x∈Lx r a,x.y≠(⟨c.y,c.k,c.u,r.o⟩:Co).y:=λx l=>by simp only[d];exact k x l
                  refine⟨λi hi=>?_,?_,m⟩
                  · rw[IM b,Z4 (by simp only[d];exact hi),LA,Z4 hi]
                  · rw[IM b,Z3 (by simp only[d]),e];exact .offer c q Z g n l Z
    · rw[Z4 (by simpa using p),Z3 m]at h;exact ZL h m
  · rw[Z3 p]at h;exact ZL h p
end Pw
open Go Go.Proofs Go.LX
namespace Pw
open Dk
structure U5 where
 D:List Co
 d:gz
 up:Bool
deriving DecidableEq
structure Bc where
 r:List bM
 m:List U5
 s:List dJ
structure Hap where
 h:Int
 o:Int
 t:Int
 n:Int
theorem regAt_ok{n:Nat}{r:H tp}(h:∀v∈r,lJ n v)(i:Int):lJ n (pV r i):=by
  unfold pV vx;by_cases a:0<=i
  · rw[Z3 a];cases e:r[i.toNat]? with
    |none=>exact .inl ⟨rfl,rfl⟩
    |some v=>exact h v (jj e)
  · rw[Z4 a];exact .inl ⟨Z,Z⟩
theorem said_b{a:H bM}(e:oW a){s:Ys}(h:Au a s)(W:s.q=0){t:Ys}{z:Int}{p:YU}(b:J3 a s=U (t,U z,p)):j6 z:=by
  have g:=((J4 e h W b).2.2 Z).2;obtain⟨pre,f,x,c,l,i,k,j⟩:=Q0 e h W;rw[k]at b;rw[j]at g;unfold mM at b;simp only[g]at b;rw[Z4 V,Z4 V,Z4 V,Z4 V,Z4 V,Z4 V,Z4 V,Z4 V,Z3 trivial]at b;by_cases d:(pV f.regs c.a).h=1
  · rw[Z3 d]at b;have:=regAt_ok i.fr.vals c.a;have:=this.int d;cases b;exact Ha V
  · rw[Z4 d]at b;cases b
theorem run_said{a:H bM}(g:oW a):∀(m:Nat) (b:H Int) (n:Nat) (s:Ys),Au a s->(∀x∈b,j6 x)->∀x∈(xH a m b n s).2.1,j6 x
  |0,b,n,s,_,h=>h
  |m+1,b,n,s,W,h=>by
    unfold xH;by_cases f:s.q=0
    · rw[Z4 V];by_cases d:O b=40/\QZ a s=9
      · rw[Z3 d];exact h
      · rw[Z4 d];cases e:J3 a s with
        |none=>exact h
        |some q=>
          obtain⟨t,o,p⟩:=q;have i:∀x∈b++o.toList,j6 x:=by
            intro x c;rcases dq.1 c with c|c
            · exact h x c
            · cases o with
              |none=>cases c
              |some z=>simp at c;subst c;exact said_b g W f e
          simp only;cases p with
          |true=>exact i
          |false=>exact run_said g m _ _ t (J4 g W f e).1 i
    · rw[Z3 f];exact h
def U6(m:dJ):Prop:=(0<=m.from_/\m.from_<=2)/\(0<=m.x/\m.x<=2)/\(0<=m.t/\m.t<=2)/\(2<=m.k/\m.k<=100)/\(m.G=bh↔m.u=[])/\O m.u<=1200
theorem Th:∀l:H dJ,vq AA KO l ()=0↔∀m∈l,U6 m
  |[]=>by simp[kJ,KO]
  |m::l=>by
    have g:=Th l;rw[fQ];generalize vq AA KO l=K at g⊢;unfold AA;by_cases d:(0<=m.from_/\m.from_<=2)/\(0<=m.x/\m.x<=2)/\(0<=m.t/\m.t<=2)/\(2<=m.k/\m.k<=100)
    · rw[show(((((((G ((m.from_:Int)<0)||G ((3:Int)<=m.from_))||G ((m.x:Int)<0))||G ((3:Int)<=m.x))||G ((m.t:Int)<0))||G ((3:Int)<=m.t))||G ((m.k:Int)<2))||G ((100:Int)<m.k))=aw by
        simp only[cV,decide_eq_false_iff_not];omega,Z2]
      by_cases b:(m.G=bh↔m.u=[])/\O m.u<=1200
      · rw[show((m.G !=G (((O m.u:Int):Int)=0))||G ((1200:Int)<(O m.u:Int)))=aw by
          rw[dF (show¬(1200:Int)<(O m.u:Int) by have:=b.2;omega),sA];by_cases a:m.u=[]
          · rw[b.1.2 a,a];simp
          · have:m.G=false:=by
              cases e:m.G with
              |false=>rfl
              |true=>exact ZL (b.1.1 e) a
            rw[this,dF (λh=>a (cA V))];rfl,Z2,g]
        constructor
        · intro h x c;rcases bs.1 c with rfl|c
          · exact⟨d.1,d.2.1,d.2.2.1,d.2.2.2,b⟩
          · exact h x c
        · exact λh x c=>h x<|bo _ c
      · rw[show((m.G !=G (((O m.u:Int):Int)=0))||G ((1200:Int)<(O m.u:Int)))=bh by
          by_cases f:O m.u<=1200
          · rw[dF (show¬(1200:Int)<(O m.u:Int) by omega),sA];by_cases a:m.u=[]
            · cases e:m.G with
              |true=>exact ZL ⟨⟨λ_=>a,λ_=>e⟩,f⟩ b
              |false=>rw[a];simp
            · cases e:m.G with
              |true=>rw[dF (λh=>a (cA V))];rfl
              |false=>exact ZL ⟨⟨λh=>(Bool.false_ne_true (e.symm.trans h)).elim,λh=>ZL h a⟩,f⟩ b
          · rw[dT (show(1200:Int)<(O m.u:Int) by omega),Bool.or_true],Z1]
        constructor
        · intro h;simp at h
        · intro h;exact ZL (h m C7).2.2.2.2 b
    · rw[show(((((((G ((m.from_:Int)<0)||G ((3:Int)<=m.from_))||G ((m.x:Int)<0))||G ((3:Int)<=m.x))||G ((m.t:Int)<0))||G ((3:Int)<=m.t))||G ((m.k:Int)<2))||G ((100:Int)<m.k))=bh by
        simp only[dC,decide_eq_true_eq];omega,Z1]
      constructor
      · intro h;simp at h
      · intro h;have:=h m C7;exact ZL ⟨this.1,this.2.1,this.2.2.1,this.2.2.2.1⟩ d
theorem NI(l:H dJ):eD l=0↔O l<=40/\∀m∈l,U6 m:=by
  unfold eD;by_cases h:O l<=40
  · rw[dF V,Z2,Th];exact⟨λx=>⟨h,x⟩,λx=>x.2⟩
  · rw[dT V,Z1];exact⟨λx=>by simp at x,λx=>ZL x.1 h⟩
def He(p:H bM):H Co->Int
 |[]=>0
 |c::l=>if(eP p c.u).2≠0 then(eP p c.u).2 else He p l
theorem NX(p:H bM):∀l,He p l=0↔∀c∈l,(eP p c.u).2=0
  |[]=>by simp[He]
  |c::l=>by
    unfold He;by_cases h:(eP p c.u).2=0
    · rw[Z4 V,NX p l];simp[h]
    · rw[Z3 h];simp[h]
def yT(p:H bM)(x:U5):Int:=
 if ji x.d≠0 then ji x.d else if x.up=aw then(if x.D=[]then 0 else 4)else if x.d.z≠[]then 4 else
 if(ru [] (mi x.d)).2≠0 then(ru [] (mi x.d)).2 else if(ru [] (mi x.d)).1≠x.D then 4 else He p x.D
structure PlR(p:List bM)(x:U5):Prop where
 disk:ji x.d=0
 down:x.up=aw->x.D=[]
 z:x.up=bh->x.d.z=[]
 D:x.up=bh->ru [] (mi x.d)=(x.D,0)
 img:∀c∈x.D,(eP p c.u).2=0
theorem plc_iff(p:H bM)(x:U5):yT p x=0↔PlR p x:=by
  unfold yT;by_cases b:ji x.d=0
  · rw[Z4 V];cases hu:x.up with
    |false=>
      simp only[if_true];by_cases a:x.D=[]
      · rw[Z3 a];exact⟨λ_=>⟨b,λ_=>a,λh=>(by rw[hu]at h;cases h),λh=>(by rw[hu]at h;cases h),by rw[a];simp⟩,λ_=>rfl⟩
      · rw[Z4 a];exact⟨λh=>by simp at h,λh=>ZL (h.down hu) a⟩
    |true=>
      simp only[Bool.true_eq_false,if_false];by_cases a:x.d.z=[]
      · rw[Z4 (by simpa using a)];by_cases e:(ru [] (mi x.d)).2=0
        · rw[Z4 V];by_cases c:(ru [] (mi x.d)).1=x.D
          · rw[Z4 (by simpa using c),NX];exact⟨λh=>⟨b,λh=>(by rw[hu]at h;cases h),λ_=>a,λ_=>by rw[<-c,<-e],h⟩,λh=>h.img⟩
          · rw[Z3 c];exact⟨λh=>by simp at h,λh=>ZL (by rw[h.D hu]) c⟩
        · rw[Z3 e];exact⟨λh=>ZL h e,λh=>ZL (by rw[h.D hu]) e⟩
      · rw[Z3 a];exact⟨λh=>by simp at h,λh=>ZL (h.z hu) a⟩
  · rw[Z3 b];exact⟨λh=>ZL h b,λh=>ZL h.disk b⟩
def NJ(p:H bM):H U5->Int
 |[]=>0
 |x::l=>if yT p x≠0 then yT p x else NJ p l
theorem Iu(p:H bM):∀l,NJ p l=0↔∀x∈l,PlR p x
  |[]=>by simp[NJ]
  |x::l=>by
    unfold NJ;by_cases h:yT p x=0
    · rw[Z4 V,Iu p l];have:=(plc_iff p x).1 h;simp[this]
    · rw[Z3 h];exact⟨λa=>ZL a h,λa=>ZL ((plc_iff p x).2<|a x C7) h⟩
def OH(p:H bM):H dJ->Int
 |[]=>0
 |m::l=>if m.G=bh then OH p l else if(eP p m.u).2≠0 then(eP p m.u).2 else OH p l
theorem Gp(p:H bM):∀l,OH p l=0↔∀m∈l,m.G=aw->(eP p m.u).2=0
  |[]=>by simp[OH]
  |m::l=>by
    unfold OH;by_cases a:m.G=bh
    · rw[Z3 a,Gp p l];simp[a]
    · rw[Z4 a];have b:m.G=false:=by simpa using a
      by_cases h:(eP p m.u).2=0
      · rw[Z4 V,Gp p l];simp[h]
      · rw[Z3 h];simp[h,b]
def IL(w:Bc):Int:=
 if Lt w.r≠0 then Lt w.r else if O w.m≠3 then 4 else if eD w.s≠0 then eD w.s else
 if NJ w.r w.m≠0 then NJ w.r w.m else OH w.r w.s
structure WR(w:Bc):Prop where
 C:Lt w.r=0
 many:w.m.length=3
 mlen:w.s.length<=40
 mok:∀m∈w.s,U6 m
 pl:∀x∈w.m,PlR w.r x
 mimg:∀m∈w.s,m.G=aw->(eP w.r m.u).2=0
theorem w_iff(w:Bc):IL w=0↔WR w:=by
  unfold IL;by_cases b:Lt w.r=0
  · rw[Z4 V];by_cases e:O w.m=3
    · rw[Z4 V];by_cases d:eD w.s=0
      · rw[Z4 V];by_cases c:NJ w.r w.m=0
        · rw[Z4 V,Gp];have a:=(NI _).1 d;exact⟨λh=>⟨b,e,a.1,a.2,(Iu _ _).1 c,h⟩,λh=>h.mimg⟩
        · rw[Z3 c];exact⟨λh=>ZL h c,λh=>ZL ((Iu _ _).2 h.pl) c⟩
      · rw[Z3 d];exact⟨λh=>ZL h d,λh=>ZL ((NI _).2 ⟨h.mlen,h.mok⟩) d⟩
    · rw[Z3 e];exact⟨λh=>by simp at h,λh=>ZL h.many e⟩
  · rw[Z3 b];exact⟨λh=>ZL h b,λh=>ZL h.C b⟩
def zP:U5:=⟨[],zD,aw⟩
def iK(w:Bc)(k:Int):U5:=(vx w.m k).getD zP
def zx(w:Bc)(k:Int)(x:U5):Bc:=⟨w.r,w.m.set k.toNat x,w.s⟩
def kK(x:U5)(r:vA):U5×Int:=
 if(kX x.D r).2≠0 then(x,(kX x.D r).2)else if(zm x.d r).2≠0 then(x,(zm x.d r).2)else
 if(J6 (zm x.d r).1).2≠0 then(x,(J6 (zm x.d r).1).2)else(⟨(kX x.D r).1,(J6 (zm x.d r).1).1,x.up⟩,0)
def Q6(x:U5)(r:vA)(keep:Int):U5×Int:=
 if(kX x.D r).2≠0 then(x,(kX x.D r).2)else if(zm x.d r).2≠0 then(x,(zm x.d r).2)else
 (⟨[],(NH (zm x.d r).1 (max 0 (min keep (O (zm x.d r).1.z:Int)))).1,aw⟩,0)
def Cc(l:H dJ)(m:dJ):H dJ:=if eD l≠0\/eD [m]≠0 then l else if O l<40 then l++[m]else l
def qY(p:H bM)(k:Int)(c:Co)(fuel:Int):vA×Int:=
 if 0<=c.E then(⟨2,c.y,c.k,0,[],[]⟩,7)else
 if(eP p c.u).2≠0 then(⟨2,c.y,c.k,0,[],[]⟩,(eP p c.u).2)else
 if(eP p c.u).1.q=3/\0<=(eP p c.u).1.bC/\(eP p c.u).1.bC<3/\(eP p c.u).1.bC≠k then(⟨3,c.y,c.k,(eP p c.u).1.bC,[],[]⟩,0)else
 if(DS (eP p c.u).1).q≠0 then(⟨2,c.y,c.k,0,[],[]⟩,7)else
 (⟨2,c.y,c.k,0,(xH p fuel.toNat [] 0 (DS (eP p c.u).1)).2.1,Ap (jY (xH p fuel.toNat [] 0 (DS (eP p c.u).1)).1)⟩,0)
def IP(k:Int)(c:Co):dJ:=⟨k,c.E,c.y,c.k+1,aw,c.u⟩
def runW(w:Bc)(x:Hap):Bc×Int:=
 match qw x.t (iK w x.o).D with
 |none=>(w,5)
 |some c=>
  let fuel:=if x.h=9 then 2000 else x.n
  if fuel<1\/2000<fuel then(w,3)else
  let q:=qY w.r x.o c fuel
  if q.2≠0 then(w,q.2)else
  if x.h=9 then(zx w x.o (Q6 (iK w x.o) q.1 x.n).1,(Q6 (iK w x.o) q.1 x.n).2)else
  if(kK (iK w x.o) q.1).2≠0 then(w,(kK (iK w x.o) q.1).2)else
  let v:=zx w x.o (kK (iK w x.o) q.1).1
  if q.1.h=3 then(⟨v.r,v.m,Cc v.s (IP x.o ⟨c.y,c.k,c.u,q.1.o⟩)⟩,0)else(v,0)
def E4(w:Bc)(x:Hap):Bc×Int:=
 match qw x.t (iK w x.o).D with
 |none=>(w,5)
 |some c=>if c.E<0 then(w,7)else(⟨w.r,w.m,Cc w.s (IP x.o c)⟩,0)
def Gk(w:Bc)(k i:Int):Bc×Int:=
 if i≠k then(w,5)else if(mi (iK w k).d).any (λr=>G (r.h=1))then(w,6)else
 let r:vA:=⟨1,i,1,0,[],Ap (jY (A9 w.r))⟩
 (zx w k (kK (iK w k) r).1,(kK (iK w k) r).2)
def IB(x:U5)(i e:Int):YU:=(mi x.d).any λr=>G (r.h=4)&&G (r.t=i)&&G (e<=r.k)
def L3(w:Bc)(i:Int)(a:YU):Bc×Int:=
 if i<0\/(O w.s:Int)<=i then(w,5)else
 let m:=(w.s[i.toNat]?).getD zMail
 if(iK w m.x).up=aw then(w,7)else
 let v:Bc:=⟨w.r,w.m,if a then w.s else w.s.take i.toNat++w.s.drop (i.toNat+1)⟩
 if m.G then
  match qw m.t (iK v m.x).D with
  |none=>(v,0)
  |some c=>if c.k≠m.k-1\/c.E≠m.from_ then(v,0)else
   (zx v m.x (kK (iK v m.x) ⟨5,m.t,m.k-1,0,[],[]⟩).1,(kK (iK v m.x) ⟨5,m.t,m.k-1,0,[],[]⟩).2)
 else
  let b:dJ:=⟨m.x,m.from_,m.t,m.k,bh,[]⟩
  if IB (iK v m.x) m.t m.k then(⟨v.r,v.m,Cc v.s b⟩,0)else
  let r:vA:=⟨4,m.t,m.k,0,[],m.u⟩
  if(kK (iK v m.x) r).2≠0 then(v,(kK (iK v m.x) r).2)else
  let u:=zx v m.x (kK (iK v m.x) r).1
  (⟨u.r,u.m,Cc u.s b⟩,0)
def TO(w:Bc)(k:Int):Bc×Int:=
 if(iK w k).up=bh then(w,7)else
 if(ru [] (mi (iK w k).d)).2≠0 then(w,(ru [] (mi (iK w k).d)).2)else
 if He w.r (ru [] (mi (iK w k).d)).1≠0 then(w,He w.r (ru [] (mi (iK w k).d)).1)else
 (zx w k ⟨(ru [] (mi (iK w k).d)).1,(Ob (iK w k).d).1,bh⟩,0)
def jP(w:Bc)(x:Hap):Bc×Int:=
 if x.h=4\/x.h=5 then L3 w x.n (G (x.h=5))else
 if x.h=6 then(if x.n<0\/(O w.s:Int)<=x.n then(w,5)else(⟨w.r,w.m,w.s.take x.n.toNat++w.s.drop (x.n.toNat+1)⟩,0))else
 if x.h<1\/9<x.h then(w,4)else
 if x.o<0\/(O w.m:Int)<=x.o then(w,5)else
 if x.h=8 then TO w x.o else
 if(iK w x.o).up=aw then(w,7)else
 if x.h=1 then Gk w x.o x.t else
 if x.h=3 then E4 w x else
 if x.h=7 then(zx w x.o ⟨[],(iK w x.o).d,aw⟩,0)else runW w x
end Pw
open Go Go.Proofs Go.LX
namespace Pw
open Dk
section
variable{c:Co}
theorem Hp{l:H Co}(a:Up l)(h:c∈l):qw c.y l=U c:=by
  induction l with
  |nil=>cases h
  |cons x r ih=>
    rw[Up,ea]at a;unfold qw;rw[eS];rcases bs.1 h with rfl|h
    · rw[dT rfl]
    · have:=a.1 c h;rw[dF V];exact ih a.2 h
theorem good0:Dk.Good []:=⟨by simp,λx h=>(by cases h),List.Pairwise.nil⟩
def Off(l:H Co):Prop:=∀c∈l,c.E≠ -1->c.k≠100
theorem rep_good:∀(l:H vA) (s:H Co),Dk.Good s->Off s->(ru s l).2=0->Dk.Good (ru s l).1/\Off (ru s l).1
  |[],s,h,ho,_=>⟨h,ho⟩
  |r::l,s,h,ho,e=>by
    unfold ru at e⊢;by_cases a:(kX s r).2=0
    · rw[Z4 V]at e⊢;have d:=(next_ok s r a).2.1;obtain⟨k1,k2,-⟩:=Hq a;refine rep_good l _ d ?_ e;intro c f;have b:=Hp d.up f;by_cases hi:c.y=r.t
      · rw[hi]at b;rw[b]at k2;rcases k2 with⟨_,_,hn⟩|⟨_,_,hn⟩|⟨c0,_,_,_,_,hn⟩|⟨c0,_,_,_,_,hx,hn⟩|⟨_,_,_,_,_,hn⟩
        · cases hn;exact λh=>ZL Z h
        · cases hn;exact λh=>ZL Z h
        · cases hn;exact λh=>ZL Z h
        · cases hn;exact λ_=>hx
        · cases hn
      · rw[k1 _ hi]at b;exact ho c (Hd b).2
    · rw[Z3 a]at e;exact ZL e a
variable{p:H bM}
theorem PlR.good{x:U5}(h:PlR p x):Dk.Good x.D/\Off x.D:=by
 cases hu:x.up with
 |true=>
  have e:=h.D hu;have:=rep_good (mi x.d) [] good0 (λc a=>by cases a) (by rw[e]);rw[e]at this;exact this
 |false=>rw[h.down hu];exact⟨good0,λc a=>by cases a⟩
structure Noted(p:List bM)(x x':U5)(r:vA):Prop where
 pl:PlR p x'
 up:x'.up=bh
 slog:K8 x'.d=K8 x.d++[r]
 flog:mi x'.d=mi x.d++[r]
 fs:mi x.d=K8 x.d
 D:x'.D=(kX x.D r).1
 ok:(kX x.D r).2=0
variable{r:vA}
theorem rep_snoc{l:H vA}{s a:H Co}(h:ru s l=(a,0)):ru s (l++[r])=if(kX a r).2≠0 then([],(kX a r).2)else((kX a r).1,0):=by
  rw[pRep_app,h];simp only;rw[Z4 C7];unfold ru;by_cases h:(kX a r).2=0
  · rw[Z4 V,Z4 V];rfl
  · rw[Z3 h,Z3 h]
theorem next_img{a:H Co}(b:(kX a r).2=0)(f:∀c∈a,(eP p c.u).2=0)(e:(r.h=1\/r.h=2\/r.h=4)->(eP p r.u).2=0):∀c∈(kX a r).1,(eP p c.u).2=0:=by
  intro c g;have i:=(next_ok a r b).2.1;obtain⟨k1,k2,-⟩:=Hq b;have d:=Hp i.up g;by_cases hi:c.y=r.t
  · rw[hi]at d;rw[d]at k2;rcases k2 with⟨hk,_,hn⟩|⟨hk,_,hn⟩|⟨c0,hk,_,_,_,hn⟩|⟨c0,_,ho,_,_,hx,hn⟩|⟨_,_,_,_,_,hn⟩
    · cases hn;exact e (.inl hk.1)
    · cases hn;exact e (.inr<|.inr hk.1)
    · cases hn;exact e (.inr<|.inl hk)
    · cases hn;exact f c0 (Hd ho).2
    · cases hn
  · rw[k1 _ hi]at d;exact f c (Hd d).2
variable{x x':U5}
theorem Ip(h:PlR p x)(f:x.up=bh)(w:Q4 r)(m:(r.h=1\/r.h=2\/r.h=4)->(eP p r.u).2=0)(e:kK x r=(x',0)):Noted p x x' r:=by
  unfold kK at e;by_cases c:(kX x.D r).2=0
  · rw[Z4 V]at e;by_cases g:(zm x.d r).2=0
    · rw[Z4 V]at e;by_cases i:(J6 (zm x.d r).1).2=0
      · rw[Z4 V]at e;obtain rfl:=ZS ml e;have b:=h.disk;have ok:=dOk b;have j:=h.z f;obtain⟨s,n,o,l,k,q⟩:=note_disk b j w (d1:=(zm x.d r).1) (d2:=(J6 (zm x.d r).1).1) (by rw[<-g]) (by rw[<-i]);have a:=ok.still j;refine⟨⟨o,λb=>(by simp only[f]at b;cases b),λ_=>(by rw[n]),λ_=>?_,next_img c h.img m⟩,f,l,by rw[k,a],a,Z,c⟩;simp only;rw[k,<-a,rep_snoc (h.D f),Z4 V]
      · rw[Z3 i]at e;exact ZL (ZS hU e) i
    · rw[Z3 g]at e;exact ZL (ZS hU e) g
  · rw[Z3 c]at e;exact ZL (ZS hU e) c
structure Torn(p:List bM)(x x':U5)(r:vA):Prop where
 pl:PlR p x'
 down:x'.up=aw
 slog:K8 x'.d=K8 x.d
 flog:mi x'.d=mi x.d\/mi x'.d=mi x.d++[r]
 fs:mi x.d=K8 x.d
 ok:(kX x.D r).2=0
theorem tear_ok{n:Int}(h:PlR p x)(m:x.up=bh)(w:Q4 r)(e:Q6 x r n=(x',0)):Torn p x x' r:=by
  unfold Q6 at e;by_cases f:(kX x.D r).2=0
  · rw[Z4 V]at e;by_cases b:(zm x.d r).2=0
    · rw[Z4 V]at e;obtain rfl:=ZS ml e;have i:=h.z m;have a:=(dOk h.disk).still i;obtain⟨s,q,o,j,l⟩:=tear_disk h.disk i w (d1:=(zm x.d r).1) (by rw[<-b]) (n:=max 0<|min n (O (zm x.d r).1.z:Int)) V;refine⟨⟨o,λ_=>rfl,λg=>(by cases g),λg=>(by cases g),λc k=>(by cases k)⟩,Z,j,by rw[a];exact l,a,f⟩
    · rw[Z3 b]at e;exact ZL (ZS hU e) b
  · rw[Z3 f]at e;exact ZL (ZS hU e) f
variable{w:Bc}{k:Int}
theorem pAt_eq(h:0<=k/\k<O w.m):vx w.m k=U (iK w k)/\iK w k∈w.m/\w.m[k.toNat]? =U (iK w k):=by
 obtain⟨n,rfl⟩:=ck h.1;have hn:n<O w.m:=by omega
 have e:vx w.m (n:Int)=U w.m[n]:=rC hn;unfold iK;rw[e];exact⟨Z,cw hn,by simp[hn]⟩
theorem pAt_set{k j:Int}(x:U5)(a:0<=k/\k<O w.m)(b:0<=j/\j<O w.m):iK (zx w k x) j=if j=k then x else iK w j:=by
  obtain⟨n,rfl⟩:=ck a.1;obtain⟨m,rfl⟩:=ck b.1;unfold iK zx;rw[kz,kz,ba,fL];by_cases h:n=m
  · subst h;rw[Z3 rfl,Z3 V,Z3 rfl];rfl
  · rw[Z4 h,Z4 V]
theorem WR.at(h:WR w)(a:0<=k/\k<=2):PlR w.r (iK w k):=h.pl _ (pAt_eq ⟨a.1,by have:=h.many;omega⟩).2.1
theorem WR.set(h:WR w){x:U5}(hx:PlR w.r x):WR (zx w k x) where
  C:=h.C
  many:=by show O (w.m.set k.toNat x)=3;rw[cp];exact h.many
  mlen:=h.mlen
  mok:=h.mok
  pl:=λy hy=>by
    rcases oc hy with hy|rfl
    · exact h.pl y hy
    · exact hx
  mimg:=h.mimg
theorem WR.OH(h:WR w){l:H dJ}(c:O l<=40)(b:∀m∈l,U6 m/\(m.G=aw->(eP w.r m.u).2=0)):WR ⟨w.r,w.m,l⟩:=
 ⟨h.C,h.many,c,λm a=>(b m a).1,h.pl,λm a=>(b m a).2⟩
instance:DecidablePred U6:=λm=>by unfold U6;infer_instance
theorem Lo(h:WR w)(m:dJ):Cc w.s m=if U6 m/\O w.s<40 then w.s++[m]else w.s:=by
  unfold Cc;have e:eD w.s=0:=(NI _).2 ⟨h.mlen,h.mok⟩;by_cases a:U6 m
  · have d:eD [m]=0:=(NI _).2 ⟨by simp,λx c=>by rw[gA]at c;rw[c];exact a⟩;rw[Z4 V];by_cases b:O w.s<40
    · rw[Z3 b,Z3 ⟨a,b⟩]
    · rw[Z4 b,Z4 (λh=>b h.2)]
  · have d:eD [m]≠0:=λh=>a (((NI _).1 h).2 m C7);rw[Z3 (.inr d),Z4 (λh=>a h.1)]
theorem WR.send(h:WR w){m:dJ}(c:m.G=aw->(eP w.r m.u).2=0):WR ⟨w.r,w.m,Cc w.s m⟩:=by
  rw[Lo h];by_cases b:U6 m/\O w.s<40
  · rw[Z3 b];refine h.OH (by simp;omega) (λx a=>?_);rcases dq.1 a with a|a
    · exact⟨h.mok x a,h.mimg x a⟩
    · rw[gA]at a;subst a;exact⟨b.1,c⟩
  · rw[Z4 b];exact h.OH h.mlen (λx a=>⟨h.mok x a,h.mimg x a⟩)
theorem WR.drop(h:WR w)(n:Nat):WR ⟨w.r,w.m,w.s.take n++w.s.drop (n+1)⟩:=by
 refine h.OH (by have:=h.mlen;simp;omega) (λx a=>?_);have:x∈w.s:=(dq.1 a).elim mj qD;exact⟨h.mok x this,h.mimg x this⟩
theorem Hf{k c e a:Int}{s i:H Int}(g:1<=k/\k<=5)(f:0<=c/\c<=2)(l:0<=e/\e<=100)(j:0<=a/\a<=2)(b:∀x∈s,j6 x)(d:∀x∈i,j6 x):Q4 ⟨k,c,e,a,s,i⟩:=
 ⟨Ha (by simp only;omega),Ha (by simp only;omega),Ha (by simp only;omega),Ha (by simp only;omega),b,d⟩
structure Sliced(p:List bM)(k0:Int)(c:Co)(fuel:Int)(r:vA):Prop where
 w:Q4 r
 t:r.t=c.y
 k:r.k=c.k
 runs:c.E= -1
 how:(r.h=2/\r.o=0/\(DS (eP p c.u).1).q=0/\r.H=(xH p fuel.toNat [] 0 (DS (eP p c.u).1)).2.1/\r.u=Ap (jY (xH p fuel.toNat [] 0 (DS (eP p c.u).1)).1)/\(eP p r.u).2=0)\/(r.h=3/\(0<=r.o/\r.o<=2)/\r.o≠k0/\r.H=[]/\r.u=[])
 img:Img p c.u (eP p c.u).1
theorem ON(J:Lt p=0){fuel:Int}(o:X1 c)(e:qY p k c fuel=(r,0)):Sliced p k c fuel r:=by
  have g:=nk J;obtain⟨c1,c2,t,n,s,u,-⟩:=o;unfold qY at e;by_cases l:0<=c.E
  · rw[Z3 l]at e;simp at e
  · rw[Z4 l]at e;by_cases i:(eP p c.u).2=0
    · rw[Z4 V]at e;have f:=Mb J i;by_cases j:(eP p c.u).1.q=3/\0<=(eP p c.u).1.bC/\(eP p c.u).1.bC<3/\(eP p c.u).1.bC≠k
      · rw[Z3 j]at e;obtain rfl:=ZS ml e;exact⟨Hf V ⟨c1,c2⟩ ⟨by omega,n⟩ V (λx d=>(by cases d)) (λx d=>(by cases d)),Z,Z,by omega,.inr ⟨Z,by simp only;omega,j.2.2.2,rfl,rfl⟩,f⟩
      · rw[Z4 j]at e;by_cases m:(DS (eP p c.u).1).q=0
        · rw[Z4 V]at e;obtain rfl:=ZS ml e;have b:=W5 f.st;have q:=(VL g fuel.toNat [] 0 _ b C7).1;have a:=img_pack J q;refine⟨Hf V ⟨c1,c2⟩ ⟨by omega,n⟩ V (run_said g _ _ _ _ b (λx d=>by cases d)) (Se g a).1,Z,Z,by omega,.inl ⟨Z,Z,m,Z,Z,by simp only;rw[a.un]⟩,f⟩
        · rw[Z3 m]at e;simp at e
    · rw[Z3 i]at e;exact ZL (ZS hU e) i
theorem Hv(J:Lt p=0):Img p (Ap (jY (A9 p))) (jY (A9 p)):=img_pack J (N1 (nk J))
end
end Pw
open Go Go.Proofs Go.LX
namespace Pw
open Dk
def PF(m:dJ):dJ:=⟨m.x,m.from_,m.t,m.k,bh,[]⟩
def beginR(p:H bM)(k:Int):vA:=⟨1,k,1,0,[],Ap (jY (A9 p))⟩
inductive Ev (w w':Bc):Prop
 |begin (k:Int) (x':U5) (hk:0<=k/\k<=2) (up:(iK w k).up=bh) (T7:∀r∈mi (iK w k).d,r.h≠1) (N:Noted w.r (iK w k) x' (beginR w.r k)) (J:w'.m=w.m.set k.toNat x') (hm:w'.s=w.s)
 |run (k:Int) (c:Co) (fuel:Int) (r:vA) (x':U5) (hk:0<=k/\k<=2) (up:(iK w k).up=bh) (hc:qw c.y (iK w k).D=U c) (hf:1<=fuel/\fuel<=2000) (S:Sliced w.r k c fuel r) (N:Noted w.r (iK w k) x' r) (J:w'.m=w.m.set k.toNat x') (hm:w'.s=if r.h=3 then Cc w.s (IP k ⟨c.y,c.k,c.u,r.o⟩)else w.s)
 |tear (k:Int) (c:Co) (r:vA) (x':U5) (hk:0<=k/\k<=2) (up:(iK w k).up=bh) (hc:qw c.y (iK w k).D=U c) (S:Sliced w.r k c 2000 r) (T:Torn w.r (iK w k) x' r) (J:w'.m=w.m.set k.toNat x') (hm:w'.s=w.s)
 |send (k:Int) (c:Co) (hk:0<=k/\k<=2) (up:(iK w k).up=bh) (hc:qw c.y (iK w k).D=U c) (ho:0<=c.E) (J:w'.m=w.m) (hm:w'.s=Cc w.s (IP k c))
 |gone (m:dJ) (c:Co) (x':U5) (hi:m∈w.s) (ht:m.G=bh) (up:(iK w m.x).up=bh) (hc:qw m.t (iK w m.x).D=U c) (he:c.k=m.k-1) (ho:c.E=m.from_) (N:Noted w.r (iK w m.x) x' ⟨5,m.t,m.k-1,0,[],[]⟩) (J:w'.m=w.m.set m.x.toNat x') (hm:∀y∈w'.s,y∈w.s)
 |take (m:dJ) (x':U5) (hi:m∈w.s) (ht:m.G=aw) (up:(iK w m.x).up=bh) (T7:IB (iK w m.x) m.t m.k=aw) (N:Noted w.r (iK w m.x) x' ⟨4,m.t,m.k,0,[],m.u⟩) (J:w'.m=w.m.set m.x.toNat x') (hm:∀y∈w'.s,y∈w.s\/y=PF m)
 |again (m:dJ) (hi:m∈w.s) (ht:m.G=aw) (up:(iK w m.x).up=bh) (had:IB (iK w m.x) m.t m.k=bh) (J:w'.m=w.m) (hm:∀y∈w'.s,y∈w.s\/y=PF m)
 |still (J:w'.m=w.m) (hm:∀y∈w'.s,y∈w.s)
 |crash (k:Int) (hk:0<=k/\k<=2) (up:(iK w k).up=bh) (J:w'.m=w.m.set k.toNat ⟨[],(iK w k).d,aw⟩) (hm:w'.s=w.s)
 |boot (k:Int) (hk:0<=k/\k<=2) (down:(iK w k).up=aw) (ok:(ru [] (mi (iK w k).d)).2=0) (J:w'.m=w.m.set k.toNat ⟨(ru [] (mi (iK w k).d)).1,(Ob (iK w k).d).1,bh⟩) (hm:w'.s=w.s)
theorem boot_disk{d:gz}(h:ji d=0):ji (Ob d).1=0/\K8 (Ob d).1=mi d/\mi (Ob d).1=mi d/\(Ob d).1.z=[]:=by
 have ok:=dOk h;rw[ok.whole];obtain⟨k1,k2⟩:=dOk_mk (a:=mi d) (w:=[]) ok.good ok.len (by have:=ok.rroom;simp;omega);exact⟨k1,k2,by rw[(dOk k1).still Z,k2],Z⟩
theorem mem_send{w:Bc}(h:WR w){m y:dJ}(a:y∈Cc w.s m):y∈w.s\/y=m:=by
  rw[Lo h]at a;by_cases b:U6 m/\O w.s<40
  · rw[Z3 b]at a;simpa using a
  · rw[Z4 b]at a;exact .inl a
theorem hear_ev{w w':Bc}(h:WR w){i:Int}{t:YU}(e:L3 w i t=(w',0)):WR w'/\w'.r=w.r/\Ev w w':=by
  unfold L3 at e;by_cases E:i<0\/(O w.s:Int)<=i
  · rw[Z3 E]at e;simp at e
  · rw[Z4 E]at e;obtain⟨n,rfl⟩:=ck (by omega:0<=i);have hn:n<O w.s:=by omega
    have al:(w.s[n]?).getD zMail=w.s[n]:=by rw[bl hn];rfl
    simp only[ba]at e;simp only[al]at e;have b:w.s[n]∈w.s:=cw hn;generalize w.s[n]=m at*;have d:=h.mok m b;by_cases s:(iK w m.x).up=aw
    · rw[Z3 s]at e;simp at e
    · rw[Z4 s]at e;have f:(iK w m.x).up=true:=by simpa using s
      have o:WR ⟨w.r,w.m,if t=bh then w.s else w.s.take n++w.s.drop (n+1)⟩:=by
        cases t with
        |true=>exact h
        |false=>exact h.drop n
      have a:∀y∈(if t=bh then w.s else w.s.take n++w.s.drop (n+1)),y∈w.s:=by
        intro y p;cases t with
        |true=>exact p
        |false=>exact(dq.1 p).elim mj qD
      generalize K:(if t=bh then w.s else w.s.take n++w.s.drop (n+1))=Zs at*;have z:∀k,iK (⟨w.r,w.m,Zs⟩:Bc) k=iK w k:=λk=>rfl;simp only[z]at e;have D2:=h.at ⟨d.2.1.1,d.2.1.2⟩;cases ht:m.G with
      |true=>
        rw[ht]at e;simp only[if_true]at e;cases hf:qw m.t (iK w m.x).D with
        |none=>
          rw[hf]at e;cases e;exact⟨o,Z,.still Z a⟩
        |some c=>
          rw[hf]at e;simp only at e;by_cases l:c.k≠m.k-1\/c.E≠m.from_
          · rw[Z3 l]at e;cases e;exact⟨o,Z,.still Z a⟩
          · rw[Z4 l]at e;have C:=ZS hU e;have aq:=ZS ml e;simp only at aq C;have N:=Ip (x':=(kK (iK w m.x) ⟨5,m.t,m.k-1,0,[],[]⟩).1) (r:=⟨5,m.t,m.k-1,0,[],[]⟩) D2 f (Hf V d.2.2.1 (by have:=d.2.2.2.1;omega) V (λx q=>(by cases q)) (λx q=>(by cases q))) (λh=>by simp only at h;omega) (pw Z C);subst aq;exact⟨o.set N.pl,Z,.gone m c _ b ht f hf V V N Z a⟩
      |false=>
        rw[ht]at e;simp only[cL,if_false]at e;have j:∀{u:Bc},WR u->WR ⟨u.r,u.m,Cc u.s<|PF m⟩:=λw0=>w0.send (λh=>by cases h);by_cases l:IB (iK w m.x) m.t m.k=bh
        · rw[Z3 l]at e;cases e;refine⟨j o,Z,.again m b ht f l Z λy p=>?_⟩;exact(mem_send o p).imp (a y) id
        · rw[Z4 l]at e;have v:IB (iK w m.x) m.t m.k=false:=by simpa using l
          by_cases A:(kK (iK w m.x) ⟨4,m.t,m.k,0,[],m.u⟩).2=0
          · rw[Z4 V]at e;have g:=h.mimg m b ht;have F:=Mb h.C g;have N:=Ip (x':=(kK (iK w m.x) ⟨4,m.t,m.k,0,[],m.u⟩).1) (r:=⟨4,m.t,m.k,0,[],m.u⟩) D2 f (Hf V d.2.2.1 (by have:=d.2.2.2.1;omega) V (λx q=>(by cases q)) (Se (nk h.C) F).1) (λ_=>g) (pw Z A);cases e;have W:=o.set (k:=m.x) N.pl;refine⟨j W,Z,.take m _ b ht f v N Z λy p=>?_⟩;exact(mem_send W p).imp (a y) id
          · rw[Z3 A]at e;exact ZL (ZS hU e) A
theorem run_ev{w w':Bc}(h:WR w){x:Hap}(f:0<=x.o/\x.o<=2)(a:(iK w x.o).up=bh)(e:runW w x=(w',0)):WR w'/\w'.r=w.r/\Ev w w':=by
  unfold runW at e;have D2:=h.at f;cases hf:qw x.t (iK w x.o).D with
  |none=>rw[hf]at e;simp at e
  |some c=>
    rw[hf]at e;simp only at e;obtain⟨i,s⟩:=Hd hf;rw[<-i]at hf;have j:=D2.good.1.ok c s;generalize d:(if x.h=9 then(2000:Int)else x.n)=fuel at e;by_cases q:fuel<1\/2000<fuel
    · rw[Z3 q]at e;simp at e
    · rw[Z4 q]at e;by_cases g:(qY w.r x.o c fuel).2=0
      · rw[Z4 V]at e;have S:=ON h.C (r:=(qY w.r x.o c fuel).1) j<|pw Z g;generalize (qY w.r x.o c fuel).1=r at*;have t:(r.h=1\/r.h=2\/r.h=4)->(eP w.r r.u).2=0:=by
          rcases S.how with hh|hh
          · exact λ_=>hh.2.2.2.2.2
          · intro h;omega
        by_cases l:x.h=9
        · rw[Z3 l]at e;rw[Z3 l]at d;subst d;have p:=ZS hU e;have o:=ZS ml e;simp only at o p;have T:=tear_ok (x':=(Q6 (iK w x.o) r x.n).1) D2 a S.w<|pw Z p;subst o;exact⟨h.set T.pl,Z,.tear x.o c r _ f a hf S T Z Z⟩
        · rw[Z4 l]at e;by_cases m:(kK (iK w x.o) r).2=0
          · rw[Z4 V]at e;have N:=Ip (x':=(kK (iK w x.o) r).1) D2 a S.w t<|pw Z m;have W:=h.set (k:=x.o) N.pl;by_cases b:r.h=3
            · rw[Z3 b]at e;cases e;refine⟨W.send (λ_=>?_),Z,.run x.o c fuel r _ f a hf V S N Z (by rw[Z3 b];rfl)⟩;exact D2.img c s
            · rw[Z4 b]at e;cases e;exact⟨W,Z,.run x.o c fuel r _ f a hf V S N Z (by rw[Z4 b];rfl)⟩
          · rw[Z3 m]at e;exact ZL (ZS hU e) m
      · rw[Z3 g]at e;exact ZL (ZS hU e) g
theorem step_ev{w w':Bc}(h:WR w){x:Hap}(e:jP w x=(w',0)):WR w'/\w'.r=w.r/\Ev w w':=by
  unfold jP at e;by_cases s:x.h=4\/x.h=5
  · rw[Z3 s]at e;exact hear_ev h e
  · rw[Z4 s]at e;by_cases A:x.h=6
    · rw[Z3 A]at e;by_cases k:x.n<0\/(O w.s:Int)<=x.n
      · rw[Z3 k]at e;simp at e
      · rw[Z4 k]at e;cases e;exact⟨h.drop _,Z,.still Z λy F=>(dq.1 F).elim mj qD⟩
    · rw[Z4 A]at e;by_cases k:x.h<1\/9<x.h
      · rw[Z3 k]at e;simp at e
      · rw[Z4 k]at e;have p:=h.many;by_cases u:x.o<0\/(O w.m:Int)<=x.o
        · rw[Z3 u]at e;simp at e
        · rw[Z4 u]at e;have j:0<=x.o/\x.o<=2:=by omega
          have D2:=h.at j;by_cases aq:x.h=8
          · rw[Z3 aq]at e;unfold TO at e;by_cases g:(iK w x.o).up=bh
            · rw[Z3 g]at e;simp at e
            · rw[Z4 g]at e;by_cases i:(ru [] (mi (iK w x.o).d)).2=0
              · rw[Z4 V]at e;by_cases b:He w.r (ru [] (mi (iK w x.o).d)).1=0
                · rw[Z4 V]at e;cases e;obtain⟨M,ab,Zs,al⟩:=boot_disk D2.disk;have l:PlR w.r ⟨(ru []<|mi (iK w x.o).d).1,(Ob (iK w x.o).d).1,bh⟩:=
                    ⟨M,λh=>(by cases h),λ_=>al,λ_=>(by simp only[Zs];rw[<-i]),(NX _ _).1 b⟩
                  exact⟨h.set l,Z,.boot x.o j (by simpa using g) i Z Z⟩
                · rw[Z3 b]at e;exact ZL (ZS hU e) b
              · rw[Z3 i]at e;exact ZL (ZS hU e) i
          · rw[Z4 aq]at e;by_cases g:(iK w x.o).up=aw
            · rw[Z3 g]at e;simp at e
            · rw[Z4 g]at e;have a:(iK w x.o).up=true:=by simpa using g
              by_cases i:x.h=1
              · rw[Z3 i]at e;unfold Gk at e;by_cases b:x.t≠x.o
                · rw[Z3 b]at e;simp at e
                · rw[Z4 b]at e;have o:x.t=x.o:=eN.1 b;by_cases f:(mi (iK w x.o).d).any (λr=>G (r.h=1))=bh
                  · rw[Z3 f]at e;simp at e
                  · rw[Z4 f,o]at e;have z:=ZS hU e;have t:=ZS ml e;simp only at t z;have v:=Hv h.C;have N:=Ip (x':=(kK (iK w x.o) (beginR w.r x.o)).1) (r:=beginR w.r x.o) D2 a (Hf V j V V (λx E=>(by cases E)) (Se (nk h.C) v).1) (λ_=>by unfold beginR;simp only;rw[v.un]) (pw rfl z);subst t;refine⟨h.set N.pl,Z,.begin x.o _ j a (λr w0 q=>f ?_) N Z Z⟩;exact List.any_eq_true.2 ⟨r,w0,by simpa using q⟩
              · rw[Z4 i]at e;by_cases b:x.h=3
                · rw[Z3 b]at e;unfold E4 at e;cases hf:qw x.t (iK w x.o).D with
                  |none=>rw[hf]at e;simp at e
                  |some c=>
                    rw[hf]at e;simp only at e;obtain⟨m,K⟩:=Hd hf;rw[<-m]at hf;by_cases f:c.E<0
                    · rw[Z3 f]at e;simp at e
                    · rw[Z4 f]at e;cases e;exact⟨h.send λ_=>D2.img c K,Z,.send x.o c j a hf V Z Z⟩
                · rw[Z4 b]at e;by_cases f:x.h=7
                  · rw[Z3 f]at e;cases e;exact⟨h.set ⟨D2.disk,λ_=>rfl,λh=>(by cases h),λh=>(by cases h),λc C=>(by cases C)⟩,Z,.crash x.o j a Z Z⟩
                  · rw[Z4 f]at e;exact run_ev h j a e
end Pw
open Go Go.Proofs Go.LX
namespace Pw
open Dk
def On(k:Int):Prop:=0<=k/\k<=2
end Pw
open Go Go.Proofs Go.LX
namespace Pw
open Dk
theorem G0{w:Bc}{k:Int}(h:0<=k/\k<O w.m):zx w k (iK w k)=w:=by
  have:=(pAt_eq h).2.2;unfold zx;have e:w.m.set k.toNat (iK w k)=w.m:=by
    apply List.ext_getElem?;intro i;rw[fL];by_cases hi:k.toNat=i
    · subst hi;rw[Z3 rfl,Z3 (oa.1 this).1,this]
    · rw[Z4 hi]
  rw[e]
def Sj(w:Bc):H Hap->Bc×H Int
 |[]=>(w,[])
 |x::l=>let v:=if(jP w x).2=0 then(jP w x).1 else w;((Sj v l).1,(jP w x).2::(Sj v l).2)
theorem QJ(w:Bc)(x:Hap)(l:H Hap):Sj w (x::l)=((Sj (if(jP w x).2=0 then(jP w x).1 else w) l).1,(jP w x).2::(Sj (if(jP w x).2=0 then(jP w x).1 else w) l).2):=rfl
end Pw
end Go.Proofs.YteijalgmijkphaaGreatDoor