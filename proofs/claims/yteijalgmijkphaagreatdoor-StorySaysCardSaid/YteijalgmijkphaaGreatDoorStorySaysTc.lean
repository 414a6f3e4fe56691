/-
  What the law StorySays needs of our own library and of the walks, no more.
-/
import Derived.Shelf.Strings.Builder1
import Derived.Laws.IdiomRangeMap
import Derived.Lib.FieldsLaws
import Derived.KernelRfl
import Derived.Shelf.Strings.OnBuilder
import Derived.Shelf.LaysM
import Derived.Shelf.Strconv.Itoa3
import Derived.Shelf.Strconv.Itoa4
import Derived.Shelf.LaysC
import Derived.Shelf.Strconv.AtoiAll
import Derived.Shelf.Strconv.ErrVarAll
import Derived.Shelf.Strconv.ParseIntPublic10
import Derived.Shelf.Strconv.ErrVarParseInt
import Derived.Shelf.Strings.Cut
import Derived.Shelf.Strings.Prefix
import Derived.Shelf.Strings.Split
import Derived.Shelf.Strings.Fields
import Derived.Shelf.Strings.BuilderX
import Derived.Test.YteijalgmijkphaaGreatDoorStorySaysTb
set_option linter.unusedSimpArgs false
set_option linter.unusedVariables false
set_option maxRecDepth 10000
set_option maxHeartbeats 4000000
open Array renaming filter->Bs,filter_eq_self->tW,getD_eq_getD_getElem?->cM,toList_filter->lO
open Bool renaming and_eq_true->cH,false_eq_true->de,not_eq_true'->er,not_true->cS,false->ar,true->ba
open Decidable renaming decide->ab
open Go renaming Calls->bk,Edge->ix,Ending->mv,Exit->fR,FuncId->hQ,Oper->du,Operand->bj,Program->br,TypeId->aw,Value->aj,World->al,bodyPost->km,execOp->bc,getObj->nu,leftOf->na,madeCells->vr,run_equalIn_int->tv,run_part_plain->hH,step->oa,undef->gj,underlying->cx
open Go.Lib renaming TabIs->pe,asciiSpaceTab->xN,atoiAll->ew,bytesWorld->ra,countB->dZ,cut->rv,fields->gf,hasSuffix->tt,parseIntB->ke,splitB->kp
open Go.Proofs.Tryz renaming isAgg0->iS,isAgg187->qe,isAgg2->sv,isAgg20->oE,isAgg21->oB,isAgg225->tl,isAgg226->BY,isAgg228->B7,isAgg249->gE,isAgg271->tk,isAgg294->gF,isAgg296->nB,isAgg3->gn,isAgg305->B0,isAgg313->B3,isAgg314->B4,isAgg331->tm,isAgg333->BI,isAgg340->B5,isAgg344->B6,isAgg36->oS,isAgg361->qj,isAgg363->qk,isAgg371->B1,isAgg373->B2,isAgg376->tj,isAgg379->qn,isAgg380->qq,isAgg382->BJ,isAgg383->BT,isAgg384->qs,isAgg385->qt,isAgg4->gw,isAgg5->hP,isAgg9->gA,prog->cl,sizeOf0->hR,sizeOf187->po,sizeOf2->rL,sizeOf20->nw,sizeOf21->nv,sizeOf225->s9,sizeOf226->AI,sizeOf228->A4,sizeOf249->fW,sizeOf271->s8,sizeOf294->fX,sizeOf296->mz,sizeOf3->fx,sizeOf305->AK,sizeOf313->AS,sizeOf314->AT,sizeOf331->ta,sizeOf333->AF,sizeOf340->AW,sizeOf344->A3,sizeOf36->ny,sizeOf361->pq,sizeOf363->ps,sizeOf371->AM,sizeOf373->AN,sizeOf376->s7,sizeOf379->pw,sizeOf380->px,sizeOf382->AG,sizeOf383->AH,sizeOf384->py,sizeOf385->pA,sizeOf4->fy,sizeOf5->gx,sizeOf9->fL,underlying0->ff,underlying187->my,underlying2->oc,underlying20->ks,underlying21->kr,underlying225->rj,underlying226->vy,underlying228->wb,underlying249->eB,underlying271->ri,underlying294->eC,underlying296->jx,underlying3->ei,underlying305->vA,underlying313->vF,underlying314->vI,underlying331->rk,underlying333->vt,underlying340->vW,underlying344->wa,underlying36->kt,underlying361->mA,underlying363->mC,underlying371->rT,underlying373->rY,underlying376->rh,underlying379->mL,underlying380->mN,underlying382->vu,underlying383->vx,underlying384->mS,underlying385->mT,underlying4->ej,underlying5->eI,underlying9->ee,zeroValue0->ft,zeroValue187->nk,zeroValue2->pa,zeroValue20->lx,zeroValue21->lv,zeroValue225->rN,zeroValue226->xb,zeroValue228->xp,zeroValue249->eM,zeroValue294->eN,zeroValue296->ku,zeroValue3->ey,zeroValue305->xc,zeroValue313->xi,zeroValue314->xj,zeroValue331->rS,zeroValue333->w7,zeroValue340->xl,zeroValue344->xo,zeroValue36->ly,zeroValue361->np,zeroValue363->nq,zeroValue371->xd,zeroValue373->xf,zeroValue376->rK,zeroValue379->nr,zeroValue382->w8,zeroValue383->xa,zeroValue384->ns,zeroValue385->nt,zeroValue4->ez,zeroValue5->eV,zeroValue9->eA
open Go.Question renaming forced->rI
open Go.Region renaming free->fh,noSelect->dy,ready->cI
open Go.Result renaming andThen_ok->bn
open Go.Sem renaming run->nc,run_bind->cq
open Go.Value renaming agg->w6,bool->cD,int->da,pointer->hZ,string->oy
open List renaming all_eq_true->oA,any_cons->Bx,append_assoc->bf,eq_nil_of_length_eq_zero->cd,ext_getElem?->cN,filter_eq_self->rb,getElem?_append->jf,getElem?_append_left->nd,getElem?_append_right->mx,getElem?_drop->ck,getElem?_eq_getElem->bh,getElem?_eq_none->bq,getElem?_map->eo,getElem?_set->iu,getElem?_set_ne->dv,getElem?_set_self->kq,getElem?_take->bt,getElem?_zipWith->pf,getElem?_zip_eq_some->td,getElem_set_ne->qS,getElem_set_self->pk,getElem_zip->xT,length_append->an,length_drop->cp,length_map->eF,length_replicate->pn,length_set->cj,length_take->bo,length_zip->fr,map_append->eb,map_cons->ct,map_set->mb,mem_cons->bp,mem_cons_self->fj,nodup_cons->zc,not_mem_nil->cO,size_toArray->w5,take_left->kz,zip_eq_zipWith->pN
open List.Perm renaming refl->sh
open Nat renaming add_mul->bw,beq->gR,beq_eq->w3,ble->oj,ble_eq->te,eq_or_lt_of_le->w4,le_of_ble_eq_true->iz,le_of_succ_le->x5,le_refl->cv,lt_of_lt_of_le->bE,lt_or_ge->cE,mul_le_mul_right->aU,not_succ_le_self->vh,zero_le->gd
open Option renaming map_some->fm,none->aE,some->ah
open Option.some renaming inj->cG,injEq->fl
open Prod renaming snd->fv
namespace Go.LX
open Go.RowKit Go.Proofs
section
variable{P:br}{ops:Array du}{Q:fR->Act->al->Prop}{n:Nat}{env:Nat->aj}{w w' w0:al}{M K:BS}{hp:Nat->Chunk}{rest:Zi du}
 {d:Yw Nat} {op:Op} {ty:aw} {pos:String} {af:Array ix} {v:aj} {g:Yw (Nat×Ys)} {T:aw} {ρ:bj->aj} {x y:bj} {i fuel:Nat} {listed:Array Ys}
theorem SH.pceAt{S:Pce}(h:SH w0 M K w hp)(i:Nat)(hi:hp i=.fC S):S.P w (SH.A M hp):=by
 have:=h.ok i;rw[hi]at this;exact this
theorem SH.Oy{S S':Pce}(h:SH w0 M K w hp)(i:Nat)(hi:hp i=.fC S)(d:S'.P w' (SH.A M hp))(c:bz S.own w w')(hn:∀b,S'.own b->b<w.heap.size->S.own b):SH w0 M K w' (bH hp i (.fC S')):=by
  refine h.step i c (fun b a _=>by rw[hi];exact a) (fun b a hl=>by rw[hi];exact hn b a hl) ?_;refine S'.go d (bz.refl BE w') (fun _ h=>h.elim) (fun _ h=>h.elim) fun b a _=>?_;rcases a with a|a|a
  · exact .inl<|.inl a
  · exact .inl<|.inr<|nz a
  · exact .inr a
end
open Go.RowKit Go.Proofs
structure TN(α β:Type)where
 sz:Nat
 enc:α->aj->List aj
 sub:α->List β
 put:α->List β->α
 len:∀x u,(enc x u).length=sz
 one:∀x u,u.oneCell'=ba->∀c∈enc x u,c.oneCell'=ba
 pos:0<sz
 VO:∀x s u,enc (put x s) u=enc x u
 VP:∀x s,sub (put x s)=s
def TN.raw{α β:Type}(N:TN α β):lV (α×aj) where
 sz:=N.sz
 rd _ _ cs p:=cs=N.enc p.1 p.2/\p.2.oneCell'=ba
 len:=by rintro w A cs x ⟨rfl,_⟩;exact N.len _ _
 one:=by rintro w A cs x ⟨rfl,h⟩;exact N.one _ _ h
 pos:=N.pos
 go:=fun h _ _ _=>h
def hn:Nat->Prop:=fun _=>False
def hat(k:Nat):Nat->Prop:=fun i=>i=k
def JB(ho:Nat->Prop)(us:Zi aj):BS:=fun b=>∃i u,us[i]? =ah u/\¬ho i/\ob u b
def FamP{β:Type}(R:lV β)(E:aw)(ho:Nat->Prop)(us:Zi aj)(ss:Zi (Zi β))(w:al)(A:BS):Prop:=
 us.length=ss.length/\
 (∀i u s,us[i]? =ah u->ss[i]? =ah s->¬ho i->cz R E w (fun b=>A b\/JB ho us b) u s)/\
 (∀i j u v,i≠j->¬ho i->¬ho j->us[i]? =ah u->us[j]? =ah v->∀b,ob u b->¬ob v b)
theorem FamP.at{β:Type}{R:lV β}{E:aw}{ho:Nat->Prop}{us:Zi aj}{ss:Zi (Zi β)}{w:al}{A:BS}(h:FamP R E ho us ss w A){i:Nat}{u:aj}(a:us[i]? =ah u):∃s,ss[i]? =ah s:=by
  have:i<us.length:=by
    rcases cE i us.length with h|h
    · exact h
    · rw[bq h]at a;cases a
  exact⟨ss[i]'(h.1▸this),bh _⟩
def bB{β:Type}(R:lV β)(E:aw)(ho:Nat->Prop)(us:Zi aj)(ss:Zi (Zi β)):Pce where
  own:=JB ho us
  P w A:=FamP R E ho us ss w A
  lt:=by
    rintro w A b h⟨i,u,h1,h2,h3⟩;obtain⟨s,hs⟩:=h.at h1;exact(h.2.1 i u s h1 hs h2).lt b h3
  go:=by
    rintro w w' A A' K⟨h1,h2,h3⟩hk hK hKo hA;refine⟨h1,fun i u s hu hs hi=>(h2 i u s hu hs hi).go hk (fun b hb hl=>.inl<|hK b hb hl) (fun b hb ho=>hKo b hb ⟨i,u,hu,hi,ho⟩) fun b hb hl=>?_,h3⟩;rcases hb with hb|hb
    · exact .inl<|hA b hb hl
    · exact .inl<|.inr hb
section
variable{α β:Type}{N:TN α β}{R:lV β}{E Es T:aw}{w0 w w':al}{M K A:BS}{hp:Nat->Chunk}{v u u':aj}{us us':Zi aj}{L L':Zi α}{ss ss':Zi (Zi β)}{s:Zi β}{x y:α}{k:Nat}{ho ho':Nat->Prop}
theorem Gz(hp:Nat->Chunk)(i:Nat)(a c:Chunk):bH (bH hp i a) i c=bH hp i c:=by
  funext j;by_cases e:j=i
  · subst e;rw[bN,bN]
  · rw[fe e,fe e,fe e]
theorem hupd_comm(hp:Nat->Chunk){i j:Nat}(a c:Chunk)(h:i≠j):bH (bH hp i a) j c=bH (bH hp j c) i a:=by
  funext x;by_cases e:x=i
  · subst e;rw[bN,fe h,bN]
  · by_cases b:x=j
    · subst b;rw[bN,fe e,bN]
    · rw[fe b,fe e,fe e,fe b]
theorem SH.famAt(h:SH w0 M K w hp)(j:Nat)(a:hp j=.fC (bB R E ho us ss)):FamP R E ho us ss w (SH.A M hp):=h.pceAt j a
theorem SH.jP(h:SH w0 M K w hp)(j:Nat)(a:hp j=.fC (bB R E ho us (L.map N.sub))):us.length=L.length:=by
 have:=(h.famAt j a).1;rw[eF]at this;exact this
theorem gq(h:us.length=L.length):(L.zip us).length=L.length:=by rw[fr];omega
theorem iw(b:L[k]? =ah x)(a:us[k]? =ah u):(L.zip us)[k]? =ah (x,u):=by
 rw[td];exact⟨b,a⟩
theorem zip_setL(a:us[k]? =ah u):(L.zip us).set k (y,u)=(L.set k y).zip us:=by
  apply cN;intro i;rw[iu];by_cases e:k=i
  · subst e;rw[Z2 rfl];by_cases hl:k<L.length
    · rw[iw (x:=y) (u:=u) (by rw[kq hl]) a];have:k<us.length:=by
        rcases cE k us.length with h|h
        · exact h
        · rw[bq h]at a;cases a
      rw[Z2 (by rw[fr];omega)]
    · rw[Z3 (by rw[fr];omega),bq (by rw[fr,cj];omega)]
  · rw[Z3 e];simp only[pN,pf,dv e]
theorem VQ(a:L[k]? =ah x):(L.zip us).set k (x,u)=L.zip (us.set k u):=by
  apply cN;intro i;rw[iu];by_cases e:k=i
  · subst e;rw[Z2 rfl];by_cases hl:k<us.length
    · rw[iw (x:=x) (u:=u) a (by rw[kq hl])];have:k<L.length:=by
        rcases cE k L.length with h|h
        · exact h
        · rw[bq h]at a;cases a
      rw[Z2 (by rw[fr];omega)]
    · rw[Z3 (by rw[fr];omega),bq (by rw[fr,cj];omega)]
  · rw[Z3 e];simp only[pN,pf,dv e]
theorem Ef(a:L[k]? =ah y):L.set k y=L:=by
  apply cN;intro i;rw[iu];by_cases e:k=i
  · subst e;by_cases hl:k<L.length
    · rw[Z2 rfl,Z2 hl,a]
    · rw[bq V]at a;cases a
  · rw[Z3 e]
theorem rE{z:α}(a:L[k]? =ah x):(L.set k z)[k]? =ah z:=by
  rw[kq];rcases cE k L.length with h|h
  · exact h
  · rw[bq h]at a;cases a
theorem XF(a:us[k]? =ah u):(us.set k u')[k]? =ah u':=rE a
theorem own_re{l b:Zi (α×aj)}(h:cz N.raw E w A v l)(hl:b.length=l.length)(f:∀(i:Nat) (p a:α×aj),l[i]? =ah p->b[i]? =ah a->N.enc a.1 a.2=N.enc p.1 p.2/\a.2=p.2):cz N.raw E w A v b:=by
 obtain⟨xs,e,k⟩:=h;refine⟨xs,by rw[hl];exact e,fun i hi=>?_⟩;obtain⟨g,d⟩:=k i<|hl▸hi;obtain⟨c,j⟩:=f i _ _ (bh<|hl▸hi)<|bh hi;exact⟨g.trans c.symm,by rw[j];exact d⟩
theorem SH.rawRe(h:SH w0 M K w hp)(i:Nat)(hi:hp i=.own N.raw E v (L.zip us))(g:L[k]? =ah x)(m:∀u,N.enc y u=N.enc x u):SH w0 M K w (bH hp i (.own N.raw E v ((L.set k y).zip us))):=by
  refine h.step i (bz.refl BE w) (fun _ h=>h.elim) (fun b d _=>by rw[hi];exact d) ?_;have ho:=h.ok i;rw[hi]at ho;refine Chunk.sub (O:=jH hp) (c:=.own N.raw E v ((L.set k y).zip us)) ?_ fun b d _=>?_
  · refine own_re ho (by rw[fr,fr,cj]) fun i p n hp a=>?_;rw[td]at hp a;rw[iu]at a;have j:=cG<|hp.2.symm.trans a.2;by_cases e:k=i
    · subst e;have hl:k<L.length:=by
        rcases cE k L.length with h|h
        · exact h
        · rw[bq h]at g;cases g
      rw[Z2 rfl,Z2 hl]at a;have f:=cG a.1;have l:=cG<|g.symm.trans hp.1;rw[<-j,<-f,<-l];exact⟨m _,Z⟩
    · rw[Z3 e]at a;have f:=cG<|hp.1.symm.trans a.1;rw[<-j,<-f];exact⟨Z,Z⟩
  · rcases d with d|d
    · exact nz d
    · exact⟨i,by rw[hi];exact d⟩
theorem SH.famRe(h:SH w0 M K w hp)(j:Nat)(l:hp j=.fC (bB R E ho us ss))(hl:us'.length=ss'.length)(c:∀i,¬ho i->us'[i]? =us[i]? /\ss'[i]? =ss[i]?):SH w0 M K w (bH hp j (.fC (bB R E ho us' ss'))):=by
 have k:=h.famAt j l;have a:∀b,JB ho us' b->JB ho us b:=fun b⟨i,u,o,m,n⟩=>⟨i,u,(c i m).1▸o,m,n⟩;refine h.Oy j l ?_ (bz.refl _ _) fun b g _=>a b g;refine⟨hl,fun i u s e hs hi=>?_,fun i j u v f hi d e p=>k.2.2 i j u v f hi d ((c i hi).1▸e) ((c j d).1▸p)⟩;refine(k.2.1 i u s ((c i hi).1▸e) ((c i hi).2▸hs) hi).go (bz.refl BE w) (fun _ h=>h.elim) (fun _ h=>h.elim) fun b g _=>.inl<|g.imp id<|a b
theorem SH.famL(h:SH w0 M K w hp)(j:Nat)(y:α)(a:hp j=.fC (bB R E (hat k) us (L.map N.sub))):SH w0 M K w (bH hp j (.fC (bB R E (hat k) us ((L.set k y).map N.sub)))):=by
  refine h.famRe j a ?_ fun i hi=>⟨Z,?_⟩
  · rw[eF,cj];exact h.jP j a
  · rw[mb,dv (fun e=>hi e.symm)]
theorem SH.famU(h:SH w0 M K w hp)(j:Nat)(u:aj)(a:hp j=.fC (bB R E (hat k) us ss)):SH w0 M K w (bH hp j (.fC (bB R E (hat k) (us.set k u) ss))):=by
  refine h.famRe j a ?_ fun i hi=>⟨?_,Z⟩
  · rw[cj];exact(h.famAt j a).1
  · rw[dv (fun e=>hi e.symm)]
theorem SH.famOpen(h:SH w0 M K w hp)(j m:Nat)(A:hp j=.fC (bB R E ho us ss))(C:hp m=.no)(p:j≠m)(d:us[k]? =ah u)(hs:ss[k]? =ah s)(l:¬ho k)(ho':Nat->Prop)(g:∀i,ho' i↔ho i\/i=k):
    SH w0 M K w (bH (bH hp j (.fC (bB R E ho' us ss))) m (.own R E u s)):=by
  have o:=h.famAt j A;have c:∀b,JB ho' us b->JB ho us b:=fun b⟨i,u,n,f,q⟩=>⟨i,u,n,fun h=>f ((g i).2<|.inl h),q⟩;have r:(Chunk.two (.fC<|bB R E ho' us ss)<|.own R E u s).holds w M (SH.av hp j<|Chunk.two (.fC<|bB R E ho' us ss)<|.own R E u s):=by
    refine⟨⟨o.1,fun i v t y B hi=>?_,fun i j u v x hi z d y=>o.2.2 i j u v x (fun h=>hi ((g i).2<|.inl h)) (fun h=>z ((g j).2<|.inl h)) d y⟩,?_,?_⟩
    · refine(o.2.1 i v t y B fun h=>hi ((g i).2<|.inl h)).go (bz.refl BE w) (fun _ h=>h.elim) (fun _ h=>h.elim) fun b a _=>.inl ?_;rcases a with(a|a|a)|a
      · exact .inl<|.inl a
      · exact .inl<|.inr<|nz a
      · rcases a with a|a
        · exact .inr<|c b a
        · exact .inr ⟨k,u,d,l,a⟩
      · exact .inr<|c b a
    · refine(o.2.1 k u s d hs l).go (bz.refl BE w) (fun _ h=>h.elim) (fun _ h=>h.elim) fun b a _=>.inl ?_;rcases a with a|a|a
      · exact .inl<|.inl a
      · exact .inl<|.inr<|nz a
      · rcases a with a|a
        · exact .inr<|c b a
        · exact .inr ⟨k,u,d,l,a⟩
    · rintro b⟨i,v,n,f,q⟩a;exact o.2.2 i k v u (fun e=>f ((g i).2<|.inr e)) (fun h=>f ((g i).2<|.inl h)) l n d b q a
  have n:=h.step j (bz.refl BE w) (fun _ h=>h.elim) (fun b a _=>by
    rw[A];rcases a with a|a
    · exact c b a
    · exact⟨k,u,d,l,a⟩) r
  have f:=n.unpair j m p (bN _ _ _) (by rw[fe (Ne.symm p)];exact C);rw[Gz]at f;exact f
theorem SH.MP(h:SH w0 M K w hp)(j m:Nat)(S:hp j=.fC (bB R E ho us ss))(P:hp m=.own R E u s)(X:j≠m)(x:us[k]? =ah u)(hk:ho k)(ho':Nat->Prop)(h':∀i,ho i↔ho' i\/i=k)(Q:¬ho' k):
    SH w0 M K w (bH (bH hp m .no) j (.fC (bB R E ho' us (ss.set k s)))):=by
  have o:=h.pair j m X;have d:∀i,¬ho' i->i=k\/¬ho i:=fun i hi=>by
    by_cases e:i=k
    · exact .inl e
    · exact .inr fun h=>((h' i).1 h).elim hi e
  have l:∀b,JB ho' us b->JB ho us b\/ob u b:=fun b⟨i,v,o,y,G⟩=>by
    rcases d i y with rfl|h4
    · rw[x]at o;cases o;exact .inr G
    · exact .inl ⟨i,v,o,h4,G⟩
  have N:∀b,JB ho us b\/ob u b->JB ho' us b:=fun b a=>by
    rcases a with⟨i,v,o,y,G⟩|a
    · exact⟨i,v,o,fun h=>y ((h' i).2<|.inl h),G⟩
    · exact⟨k,u,x,Q,a⟩
  have q:=o.ok j;have O:bH (bH hp m .no) j (.two (hp j)<|hp m)=bH (bH hp m .no) j (.two (.fC<|bB R E ho us ss)<|.own R E u s):=by rw[S,P]
  rw[bN,S,P]at q;have y:=o.step (c:=.fC (bB R E ho' us (ss.set k s))) j (bz.refl BE w) (fun _ h=>h.elim) (fun b a _=>by
    rw[bN,S,P];exact l b a) ?_
  · rw[Gz]at y;exact y
  · rw[O];have hA:∀b,(M b\/SH.av (bH (bH hp m .no) j<|.two (.fC<|bB R E ho us ss)<|.own R E u s) j (.fC<|bB R E ho' us<|ss.set k s) b)\/JB ho' us b->(M b\/jH (bH (bH hp m .no) j<|.two (.fC<|bB R E ho us ss)<|.own R E u s) b):=by
      have z:∀b,JB ho' us b->jH (bH (bH hp m .no) j (.two (.fC (bB R E ho us ss)) (.own R E u s))) b:=fun b a=>⟨j,by rw[bN];exact l b a⟩;rintro b((a|a|a)|a)
      · exact .inl a
      · exact .inr<|nz a
      · exact .inr<|z b a
      · exact .inr<|z b a
    refine⟨by rw[cj];exact q.1.1,fun i v t n I hi=>?_,fun i p v v' C hi F n g b a r=>?_⟩
    · by_cases e:i=k
      · subst e;rw[x]at n;cases n;have T:i<ss.length:=by
          obtain⟨s',B⟩:=q.1.at x;rcases cE i ss.length with h|h
          · exact h
          · rw[bq h]at B;cases B
        rw[kq T]at I;cases I;refine cz.go q.2.1 (bz.refl BE w) (fun _ h=>h.elim) (fun _ h=>h.elim) fun b a _=>.inl<|hA b a
      · rw[dv (fun h=>e h.symm)]at I;have f:¬ho i:=(d i hi).resolve_left e;refine(q.1.2.1 i v t n I f).go (bz.refl BE w) (fun _ h=>h.elim) (fun _ h=>h.elim) fun b a _=>.inl<|.inl<|hA b a
    · by_cases e:i=k
      · have L:p≠k:=fun h=>C<|e.trans h.symm;have f:¬ho p:=(d p F).resolve_left L;subst e;rw[x]at n;cases n;exact q.2.2 b ⟨p,v',g,f,r⟩ a
      · have f:¬ho i:=(d i hi).resolve_left e;by_cases L:p=k
        · subst L;rw[x]at g;cases g;exact q.2.2 b ⟨i,v,n,f,a⟩ r
        · have A:¬ho p:=(d p F).resolve_left L;exact q.1.2.2 i p v v' C f A n g b a r
end
open Go.RowKit Go.Proofs
section
variable{α β:Type}{N:TN α β}{R:lV β}{E Es T:aw}{w0 w w':al}{M K A:BS}{hp:Nat->Chunk}{v u u':aj}{us us' yK:Zi aj}{L L':Zi α}{ss ss' ss2:Zi (Zi β)}{s:Zi β}{x y:α}{k:Nat}{ho ho':Nat->Prop}
theorem P5{a:Type}{l:Zi a}{z:a}(h:l[k]? =ah z):k<l.length:=by
  rcases cE k l.length with h1|h1
  · exact h1
  · rw[bq h1]at h;cases h
theorem SH.dnOpen(h:SH w0 M K w hp)(j m:Nat)(d:hp j=.fC (bB R Es hn us (L.map N.sub)))(e:hp m=.no)(a:j≠m)(c:L[k]? =ah x):
  ∃u,us[k]? =ah u/\SH w0 M K w (bH (bH hp j (.fC (bB R Es (hat k) us (L.map N.sub)))) m (.own R Es u (N.sub x))):=by
 have hl:=h.jP j d;have b:=P5 c;exact⟨us[k]'(hl▸b),bh _,h.famOpen j m d e a (bh _) (by rw[eo,c];rfl) (fun h=>h) _ (fun i=>⟨.inr,fun h=>h.elim (fun h=>h.elim) id⟩)⟩
theorem SH.BQ(h:SH w0 M K w hp)(i j m:Nat)(y:α)(hi:hp i=.own N.raw E v (L.zip us))(o:hp j=.fC (bB R Es (hat k) us (L.map N.sub)))(n:hp m=.own R Es u s)(a:i≠j)(b:i≠m)(c:j≠m)(l:L[k]? =ah x)(p:us[k]? =ah u)(d:y=N.put x s):
  SH w0 M K w (bH (bH (bH hp m .no) j (.fC (bB R Es hn us ((L.set k y).map N.sub)))) i (.own N.raw E v ((L.set k y).zip us))):=by
 have g:=h.MP j m o n c p Z hn (fun i=>⟨.inr,fun h=>h.elim (fun h=>h.elim) id⟩) fun h=>h;have f:=g.rawRe (N:=N) (x:=x) (y:=y) (k:=k) (E:=E) (v:=v) i (by rw[fe a,fe b];exact hi) l (fun u=>by rw[d];exact N.VO _ _ _);have e:(L.map N.sub).set k s=(L.set k y).map N.sub:=by rw[mb,d,N.VP]
 rw[e]at f;exact f
theorem SH.oF(h:SH w0 M K w hp)(j m:Nat)(f:hp j=.fC (bB R Es (hat k) us (L.map N.sub)))(d:hp m=.own R Es u s)(a:j≠m)(c:L[k]? =ah x)(g:us[k]? =ah u)(hs:N.sub x=s):
  SH w0 M K w (bH (bH hp m .no) j (.fC (bB R Es hn us (L.map N.sub)))):=by
 have b:=h.MP j m f d a g Z hn (fun i=>⟨.inr,fun h=>h.elim (fun h=>h.elim) id⟩) fun h=>h;have e:(L.map N.sub).set k s=L.map N.sub:=Ef (by rw[eo,c,<-hs];rfl);rw[e]at b;exact b
theorem SH.famNew(h:SH w0 M K w hp)(m:Nat)(k:hp m=.own R Es u s):SH w0 M K w (bH hp m (.fC (bB R Es hn [u] [s]))):=by
  have ho:=h.ok m;rw[k]at ho;have c:∀b,JB hn [u] b->ob u b:=by
    rintro b⟨i,v,g,_,l⟩;cases i with
    |zero=>cases g;exact l
    |succ i=>cases g
  refine h.step m (bz.refl BE w) (fun _ h=>h.elim) (fun b a _=>by rw[k];exact c b a) ⟨Z,fun i v t d f _=>?_,fun i j v t e _ _ d f=>?_⟩
  · cases i with
    |succ i=>cases d
    |zero=>
      cases d;cases f;refine cz.go ho (bz.refl BE w) (fun _ h=>h.elim) (fun _ h=>h.elim) fun b a _=>?_;rcases a with(a|a|a)|a
      · exact .inl<|.inl a
      · exact .inl<|.inr<|nz a
      · exact .inr<|c b a
      · exact .inr<|c b a
  · cases i with
    |zero=>cases j with
      |zero=>exact Zs Z e
      |succ j=>cases f
    |succ i=>cases d
theorem SH.famNil(h:SH w0 M K w hp)(j:Nat):SH w0 M K w (bH hp j (.fC (bB R Es hn [] []))):=
  h.learn j (bz.refl BE w) (by rintro b ⟨i,u,c,_⟩;cases c) (by
    refine⟨Z,?_,?_⟩
    · intro i v t a;cases a
    · intro i j v t _ _ _ a;cases a)
theorem SH.Dr(h:SH w0 M K w hp)(j m:Nat)(A:hp j=.fC (bB R Es hn us ss))(z:hp m=.fC (bB R Es hn yK ss2))(y:j≠m):SH w0 M K w (bH (bH hp m .no) j (.fC (bB R Es hn (us++yK) (ss++ss2)))):=by
  have e:=h.pair j m y;have l:=e.ok j;rw[A,z]at e;rw[bN,A,z]at l;have n:∀b,JB hn (us++yK) b->JB hn us b\/JB hn yK b:=by
    rintro b⟨i,v,e,_,o⟩;rw[jf]at e;split at e
    · exact .inl ⟨i,v,e,fun h=>h,o⟩
    · exact .inr ⟨_,v,e,fun h=>h,o⟩
  have s:∀b,JB hn us b\/JB hn yK b->JB hn (us++yK) b:=by
    rintro b(⟨i,v,e,_,o⟩|⟨i,v,e,_,o⟩)
    · exact⟨i,v,by rw[nd (P5 e)];exact e,fun h=>h,o⟩
    · exact⟨us.length+i,v,by rw[mx V,Nat.add_sub_cancel_left];exact e,fun h=>h,o⟩
  have B:=e.step (c:=.fC (bB R Es hn (us++yK) (ss++ss2))) j (bz.refl BE w) (fun _ h=>h.elim) (fun b a _=>by rw[bN];exact n b a) ?_
  · rw[Gz]at B;exact B
  · have hA:∀b,(M b\/SH.av (bH (bH hp m .no) j<|.two (.fC<|bB R Es hn us ss)<|.fC<|bB R Es hn yK ss2) j (.fC<|bB R Es hn (us++yK)<|ss++ss2) b)\/JB hn (us++yK) b->(M b\/jH (bH (bH hp m .no) j<|.two (.fC<|bB R Es hn us ss)<|.fC<|bB R Es hn yK ss2) b):=by
      have q:∀b,JB hn (us++yK) b->jH (bH (bH hp m .no) j (.two (.fC (bB R Es hn us ss)) (.fC (bB R Es hn yK ss2)))) b:=fun b a=>⟨j,by rw[bN];exact n b a⟩;rintro b((a|a|a)|a)
      · exact .inl a
      · exact .inr<|nz a
      · exact .inr<|q b a
      · exact .inr<|q b a
    have C:=l.1.1;have E:=l.2.1.1;refine⟨by simp only[an];omega,fun i v t f p _=>?_,fun i u v r x _ _ f d b a k=>?_⟩
    · rw[jf]at f p;by_cases hl:i<us.length
      · rw[Z2 hl]at f;rw[Z2 V]at p;exact(l.1.2.1 i v t f p fun h=>h).go (bz.refl BE w) (fun _ h=>h.elim) (fun _ h=>h.elim) fun b a _=>.inl<|.inl<|hA b a
      · rw[Z3 hl]at f;rw[Z3 V,<-C]at p;exact(l.2.1.2.1 _ v t f p fun h=>h).go (bz.refl BE w) (fun _ h=>h.elim) (fun _ h=>h.elim) fun b a _=>.inl<|.inl<|hA b a
    · rw[jf]at f d;by_cases hl:i<us.length
      · rw[Z2 hl]at f;by_cases g:u<us.length
        · rw[Z2 g]at d;exact l.1.2.2 i u v r x (fun h=>h) (fun h=>h) f d b a k
        · rw[Z3 g]at d;exact l.2.2 b ⟨_,v,f,fun h=>h,a⟩ ⟨_,r,d,fun h=>h,k⟩
      · rw[Z3 hl]at f;by_cases g:u<us.length
        · rw[Z2 g]at d;exact l.2.2 b ⟨_,r,d,fun h=>h,k⟩ ⟨_,v,f,fun h=>h,a⟩
        · rw[Z3 g]at d;exact l.2.1.2.2 _ _ v r V (fun h=>h) (fun h=>h) f d b a k
theorem SH.famTake(h:SH w0 M K w hp)(j n:Nat)(k:hp j=.fC (bB R Es hn us (L.map N.sub))):SH w0 M K w (bH hp j (.fC (bB R Es hn (us.take n) ((L.take n).map N.sub)))):=by
  have g:=h.famAt j k;have hat:∀(i:Nat) (u:aj),(us.take n)[i]? =ah u->us[i]? =ah u/\i<n:=fun i u a=>by
    rw[bt]at a;split at a
    · exact⟨a,by assumption⟩
    · cases a
  have c:∀b,JB hn (us.take n) b->JB hn us b:=fun b⟨i,u,o,p,l⟩=>⟨i,u,(hat i u o).1,p,l⟩;refine h.Oy j k ?_ (bz.refl _ _) fun b e _=>c b e;have hl:=g.1;rw[eF]at hl;refine⟨by rw[bo,eF,bo];omega,fun i u s a hs hi=>?_,fun i j u v d hi f a m=>g.2.2 i j u v d hi f (hat i u a).1 (hat j v m).1⟩;rw[List.map_take,bt,Z2 (hat i u a).2]at hs;refine(g.2.1 i u s (hat i u a).1 hs hi).go (bz.refl BE w) (fun _ h=>h.elim) (fun _ h=>h.elim) fun b e _=>.inl<|e.imp id<|c b
theorem zip_take'(n:Nat):(L.zip us).take n=(L.take n).zip (us.take n):=by
 apply cN;intro i;simp only[pN,bt,pf];split<;>rfl
theorem ET{a:Zi α}(h:us.length=L.length):(L.zip us)++(a.zip yK)=(L++a).zip (us++yK):=(List.zip_append h.symm).symm
theorem wW{P:br}{ρ:bj->aj}{d:Yw Nat}{ty:aw}{pos:String}{af:Array ix}{g:Yw (Nat×Ys)}{a:bj}{sz:Nat}{B A:BS}{b:al}(f:SliceOf P T E sz)(e:ρ a=v)(c:fB N.raw b B A v (L.zip us))(hl:us.length=L.length):
  (bc ρ ⟨d,.call {callee:=.builtin .len,args:= #[a],argTypes:= #[T]},ty,pos,af,g⟩).run P w=.ok (.value (.int .i64 L.length)) w:=by
 have h:=ui (P:=P) (w:=w) (d:=d) (ty:=ty) (pos:=pos) (af:=af) (g:=g) f e c;rw[gq hl]at h;exact h
theorem SH.MQ{R':lV α}(h:SH w0 M K w hp)(i j:Nat)(hi:hp i=.own N.raw E v (L.zip us))(m:hp j=.fC (bB R Es hn us (L.map N.sub)))(n:i≠j)(p:R'.sz=N.sz)(Q:∀w A x u,bS R w A u (N.sub x)->R'.rd w A (N.enc x u) x):SH w0 M K w (bH (bH hp j .no) i (.rd R' v L)):=by
  have hl:=h.jP j m;have l:=h.pair i j n;have k:=l.apart i;have z:=l.apM i;have r:=l.ok i;rw[bN]at k z;rw[bN,hi,m]at r;have B:=l.step (c:=.rd R' v L) i (bz.refl BE w) (fun _ h=>h.elim) (fun b d _=>d.elim) ?_
  · rw[Gz]at B;exact B
  · have hno:∀b,(hp i).own' b\/(hp j).own' b->¬(M b\/SH.av (bH (bH hp j .no) i<|.two (hp i)<|hp j) i (.rd R' v L) b):=by
      intro b d f;rcases f with f|⟨q,g,f⟩|f
      · exact z b d f
      · exact k q (fun e=>g e.symm) b d f
      · exact f
    have hA:∀b,(M b\/SH.av (bH (bH hp j .no) i<|.two (hp i)<|hp j) i (.rd R' v L) b)->M b\/jH (bH (bH hp j .no) i<|.two (.own N.raw E v<|L.zip us)<|.fC<|bB R Es hn us<|L.map N.sub) b:=by
      rw[hi,m];rintro b(d|d|d)
      · exact .inl d
      · exact .inr<|nz d
      · exact d.elim
    have I:bS N.raw w (fun b=>M b\/SH.av (bH (bH hp j .no) i<|.two (hp i)<|hp j) i (.rd R' v L) b) v (L.zip us):=
      cz.rd r.1 (fun b d=>hno b (.inl (by rw[hi];exact d))) (fun b d _=>.inl (hA b d))
    obtain⟨a,cap,t,s,G,T,e5⟩:=I;rw[gq hl]at t s;refine⟨a,cap,t,s,G,T,fun q g=>?_⟩;obtain⟨b,o,cells,F,C,P,X,S,y⟩:=e5 q (by rw[gq hl];exact g);refine⟨b,o,cells,F,C,P,X,S,?_⟩;rw[p];have e6:(L.zip us)[q]'(by rw[gq hl];exact g)=(L[q],us[q]'V):=by simp
    rw[e6]at y;obtain⟨q5,_⟩:=y;have O:((cells.toList.drop<|o+q*N.sz).take N.sz)=N.enc L[q] (us[q]'V):=q5;rw[O];refine Q _ _ _ _ (cz.rd (r.2.1.2.1 q _ _ (bh V) (by rw[eo,bh g];rfl) (fun h=>h)) (fun b d=>hno b (.inr (by rw[m];exact⟨q,_,bh V,fun h=>h,d⟩))) (fun b d _=>.inl (.inl (hA b d))))
theorem SH.moveC(h:SH w0 M K w hp)(j i:Nat){c:Chunk}(t:hp j=c)(hi:hp i=.no)(s:j≠i):SH w0 M K w (bH (bH hp j .no) i c):=by
  subst t;have f:∀x b,(bH (bH hp j .no) i (hp j) x).own' b->∃y,(hp y).own' b/\(x=i->y=j)/\(x≠i->y=x/\x≠j):=by
    intro x b a;by_cases e:x=i
    · subst e;rw[bN]at a;exact⟨j,a,fun _=>rfl,fun h=>Zs Z h⟩
    · rw[fe e]at a;by_cases d:x=j
      · subst d;rw[bN]at a;exact a.elim
      · rw[fe d]at a;exact⟨x,a,fun h=>Zs h e,fun _=>⟨Z,d⟩⟩
  have g:∀b,jH (bH (bH hp j .no) i<|hp j) b->jH hp b:=fun b⟨x,o⟩=>let ⟨y,k,_⟩:=f x b o;⟨y,k⟩;refine⟨h.keep,h.ltM,fun x b a=>let ⟨y,k,_⟩:=f x b a;h.apM y b k,fun x=>?_,fun x y l b o k=>?_,fun x b a=>let ⟨y,k,_⟩:=f x b a;h.old y b k⟩
  · by_cases e:x=i
    · subst e;rw[bN];exact Chunk.sub (h.ok j) fun b a _=>g b a
    · rw[fe e];by_cases d:x=j
      · subst d;rw[bN];trivial
      · rw[fe d];exact Chunk.sub (h.ok x) (fun b a _=>g b a)
  · obtain⟨q,r,u,m⟩:=f x b o;obtain⟨p,k1,k2,n⟩:=f y b k;have:q≠p:=by
      by_cases e:x=i
      · have d:y≠i:=fun h=>l<|e.trans h.symm;rw[u e,(n d).1];exact fun h=>(n d).2 h.symm
      · by_cases d:y=i
        · rw[k2 d,(m e).1];exact(m e).2
        · rw[(m e).1,(n d).1];exact l
    exact h.apart q p this b r k1
def bP(β:Type):TN (Zi β) β where
 sz:=1
 enc _ u:=[u]
 sub x:=x
 put _ s:=s
 len _ _:=rfl
 one:=by intro x u h c hc;simp at hc;subst hc;exact h
 pos:=by decide
 VO _ _ _:=rfl
 VP _ _:=rfl
theorem RD{R:lV β}:∀w A (x:Zi β) u,bS R w A u ((bP β).sub x)->(oI R).rd w A ((bP β).enc x u) x:=fun _ _ _ u h=>⟨u,rfl,h⟩
end
open Go.RowKit Go.Proofs
section
variable{P:br}{w:al}{ρ:bj->aj}{d:Yw Nat}{ty:aw}{pos:String}{af:Array ix}{g:Yw (Nat×Ys)}{T:aw}{x y:bj}
theorem r_indexS{s:Str}{k:Int}{b:UInt8}(f:P.underlying T=ah .string)(i:ρ x=bu s)(j:ρ y=.int .i64 k)(c:0<=k)(a:s[k.toNat]? =ah b):
  (bc ρ ⟨d,.index T x y,ty,pos,af,g⟩).run P w=.ok (.value (.int .u8 (b.toNat:Int))) w:=by
 simp only[bc,Instr.index,i,j,cx,asIntOf,bu];have m:((⟨s.toArray⟩:ByteArray)[k.toNat]? :Yw UInt8)=ah b:=by
  have hl:k.toNat<s.length:=P5 a;rw[bh hl]at a;have e:k.toNat<(⟨s.toArray⟩:ByteArray).size:=by simpa[ByteArray.size]using hl
  have l:=getElem?_pos (⟨s.toArray⟩:ByteArray) k.toNat e;rw[l];rw[<-cG a];rfl
 simp[f,c,m]
theorem SH.EU{α β:Type}{N:TN α β}{R:lV β}{E:aw}{w0:al}{M K:BS}{hp:Nat->Chunk}{u:aj}{s:Zi β}(h:SH w0 M K w hp)(m:Nat)(x:α)(a:hp m=.own R E u s)(hs:N.sub x=s):SH w0 M K w (bH hp m (.fC (bB R E hn [u] (List.map N.sub [x])))):=by
 subst hs;exact h.famNew m a
theorem us_at{α:Type}{us:Zi aj}{L:Zi α}{k:Nat}{z:α}(h:us.length=L.length)(a:L[k]? =ah z):∃u,us[k]? =ah u:=by
 have:=P5 a;exact⟨us[k]'(h▸this),bh _⟩
end
open Go.RowKit Go.Proofs
section
variable{α:Type}{R:lV α}{E:aw}{w0 w w':al}{M K:BS}{hp:Nat->Chunk}{C C':Chunk}{v:aj}{l:Zi α}
theorem rQ:∀b,jH (bH hno 1 C) b->C.own' b:=by
  rintro b⟨j,a⟩;by_cases e:j=1
  · subst e;rw[bN]at a;exact a
  · rw[fe e]at a;exact a.elim
theorem jc{i:Nat}(hn:∀b,jH hp b->C.own' b):∀b,jH (bH hp i (.rd R v l)) b->C.own' b:=by
  rintro b⟨j,a⟩;by_cases e:j=i
  · subst e;rw[bN]at a;exact a.elim
  · rw[fe e]at a;exact hn b ⟨j,a⟩
theorem SH.kP(h:SH w M K w hp)(i:Nat)(ho:bS R w (fun b=>M b\/C.own' b) v l)(hn:∀b,jH hp b->C.own' b):SH w M K w (bH hp i (.rd R v l)):=
 h.au i (ho.sub (fun b a _=>a.imp id (hn b)) (fun b a _=>a.imp id (hn b)))
theorem SH.lendS(h:SH w0 M K w hp)(i:Nat)(hi:hp i=C)(a:C.VL):C.holds w (fun b=>M b\/rest hp i b) C.own'/\(∀b,C.own' b->¬(M b\/rest hp i b))/\(∀b,(M b\/rest hp i b)->b<w.heap.size):=by
 subst hi;exact h.lendC i a
theorem SH.xn(h:SH w0 M K w hp)(i j:Nat)(d:hp j=.rd R v l)(hi:hp i=C):bS R w (fun b=>(M b\/rest hp i b)\/C.own' b) v l:=by
  have c:∀b,(M b\/rest hp i b)\/C.own' b->SH.A M hp b:=by
    rintro b((a|a)|a)
    · exact .inl a
    · exact .inr<|nz a
    · exact .inr ⟨i,by rw[hi];exact a⟩
  exact(h.aR j d).sub (fun b a _=>c b a) fun b a _=>c b a
theorem SH.back(h:SH w0 M K w hp)(i:Nat)(hi:hp i=C)(c:C'.VL)(a:C'.holds w' (fun b=>M b\/rest hp i b) C'.own')(d:bz C.own' w w')(hn:∀b,C'.own' b->b<w.heap.size->C.own' b):SH w0 M K w' (bH hp i C'):=by
 subst hi;exact h.givenC i c a d hn
theorem gB{i:Nat}(h:bS R w (fun b=>(M b\/rest hp i b)\/C.own' b) v l):bS R w (SH.A M (bH hp i C)) v l:=by
  have a:∀b,SH.A M (bH hp i C) b->(M b\/rest hp i b)\/C.own' b:=by
    rintro b(c|⟨j,d⟩)
    · exact .inl<|.inl c
    · by_cases e:j=i
      · subst e;rw[bN]at d;exact .inr d
      · rw[fe e]at d;exact .inl (.inr ⟨j,e,d⟩)
  exact h.sub (fun b c _=>a b c) fun b c _=>a b c
theorem SH.bM(h:SH w0 M K w hp)(i j:Nat)(d:hp j=.rd R v l)(hi:hp i=C):bS R w (fun b=>M b\/C.own' b) v l:=by
  have c:∀b,M b\/C.own' b->SH.A M hp b:=by
    rintro b(a|a)
    · exact .inl a
    · exact .inr ⟨i,by rw[hi];exact a⟩
  exact(h.aR j d).sub (fun b a _=>c b a) fun b a _=>c b a
theorem SH.outS(h:SH w0 M K w hp)(i:Nat)(hi:hp i=C)(a:C.VL):C.holds w M C.own'/\bz K w0 w/\(∀b,C.own' b->b<w0.heap.size->K b):=h.outC i hi a
end
section
variable{P:br}{ops:Array du}{Q:fR->Act->al->Prop}{n:Nat}{env:Nat->aj}{w:al}
theorem At.hold{w w':al}{L:BS}{b o:Nat}{cs:Zi aj}(h:At w b o cs)(d:bz L w w')(hn:¬L b):At w' b o cs:=by
 obtain⟨cells,E,a,c,e⟩:=h;exact⟨cells,E,a,d.blk c hn,e⟩
theorem fin4{g:Func}{R:mv->al->Prop}{t u a c:Tmp}{v1 v2 v3 v4:aj}(j:g.results= #[.tmp t,.tmp u,.tmp a,.tmp c])(k:ev n env (.tmp t)=v1)(m:ev n env (.tmp u)=v2)(i:ev n env (.tmp a)=v3)(l:ev n env (.tmp c)=v4)(h:R (.returned (.tuple #[v1,v2,v3,v4])) w):km P g R .ret (act n env) w:=by
 refine⟨Z,_,?_,h⟩;have f:=congrFun (iT n env)<|.tmp t;have b:=congrFun (iT n env)<|.tmp u;have d:=congrFun (iT n env)<|.tmp a;have e:=congrFun (iT n env)<|.tmp c;rw[k]at f;rw[m]at b;rw[i]at d;rw[l]at e;simp only[Act.eval]at f b d e;rw[cM]at f b d e;unfold results;rw[j];simp[f,b,d,e]
end
structure Ins where
 op:Int
 a:Int
 b:Int
 c:Int
 args:List Int
deriving DecidableEq
def lJ:lV Ins where
 sz:=5
 rd w A cs x:=∃vargs,cs=[.int .i64 x.op,.int .i64 x.a,.int .i64 x.b,.int .i64 x.c,vargs]/\bS bC w A vargs x.args
 len:=by rintro w A cs x ⟨vargs,rfl,h0⟩;rfl
 one:=by rintro w A cs x ⟨vargs,rfl,h0⟩ u hu;simp only[bp,cO,or_false]at hu;rcases hu with rfl|rfl|rfl|rfl|rfl<;>first|rfl|exact h0.one
 pos:=by decide
 go:=by rintro w A cs x w2 A2 K ⟨vargs,rfl,h0⟩ hk hK hA;exact⟨_,Z,h0.go hk hK hA⟩
theorem GA{w:al}{A:BS}{cs:Zi aj}{x:Ins}(h:lJ.rd w A cs x):∃d,cs=[.int .i64 x.op,.int .i64 x.a,.int .i64 x.b,.int .i64 x.c,d]/\bS bC w A d x.args:=h
structure bX where
 params:Int
 regs:Int
 code:List Ins
deriving DecidableEq
def dJ:lV bX where
 sz:=3
 rd w A cs x:=∃vcode,cs=[.int .i64 x.params,.int .i64 x.regs,vcode]/\bS lJ w A vcode x.code
 len:=by rintro w A cs x ⟨vcode,rfl,h0⟩;rfl
 one:=by rintro w A cs x ⟨vcode,rfl,h0⟩ u hu;simp only[bp,cO,or_false]at hu;rcases hu with rfl|rfl|rfl<;>first|rfl|exact h0.one
 pos:=by decide
 go:=by rintro w A cs x w2 A2 K ⟨vcode,rfl,h0⟩ hk hK hA;exact⟨_,Z,h0.go hk hK hA⟩
theorem qx{w:al}{A:BS}{cs:Zi aj}{x:bX}(h:dJ.rd w A cs x):∃a,cs=[.int .i64 x.params,.int .i64 x.regs,a]/\bS lJ w A a x.code:=h
structure Frame where
 proc:Int
 at_:Int
 regs:List Val
 ru:Int
deriving DecidableEq
def fZ:lV Frame where
 sz:=4
 rd w A cs x:=∃vregs,cs=[.int .i64 x.proc,.int .i64 x.at_,vregs,.int .i64 x.ru]/\bS aQ w A vregs x.regs
 len:=by rintro w A cs x ⟨vregs,rfl,h0⟩;rfl
 one:=by rintro w A cs x ⟨vregs,rfl,h0⟩ u hu;simp only[bp,cO,or_false]at hu;rcases hu with rfl|rfl|rfl|rfl<;>first|rfl|exact h0.one
 pos:=by decide
 go:=by rintro w A cs x w2 A2 K ⟨vregs,rfl,h0⟩ hk hK hA;exact⟨_,Z,h0.go hk hK hA⟩
theorem vD{w:al}{A:BS}{cs:Zi aj}{x:Frame}(h:fZ.rd w A cs x):∃a,cs=[.int .i64 x.proc,.int .i64 x.at_,a,.int .i64 x.ru]/\bS aQ w A a x.regs:=h
structure State where
 frames:List Frame
 cells:List (List Val)
 status:Int
 bF:Int
deriving DecidableEq
def MR:TN bX Ins where
 sz:=3
 enc x u:=[.int .i64 x.params,.int .i64 x.regs,u]
 sub x:=x.code
 put x s:={x with code:=s}
 len _ _:=rfl
 one:=by intro x u h c hc;simp only[bp,cO,or_false]at hc;rcases hc with rfl|rfl|rfl<;>first|rfl|exact h
 pos:=by decide
 VO _ _ _:=rfl
 VP _ _:=rfl
theorem nProc_br:∀w A (x:bX) u,bS lJ w A u (MR.sub x)->dJ.rd w A (MR.enc x u) x:=fun _ _ _ u h=>⟨u,rfl,h⟩
def aJ:TN Frame Val where
 sz:=4
 enc x u:=[.int .i64 x.proc,.int .i64 x.at_,u,.int .i64 x.ru]
 sub x:=x.regs
 put x s:={x with regs:=s}
 len _ _:=rfl
 one:=by intro x u h c hc;simp only[bp,cO,or_false]at hc;rcases hc with rfl|rfl|rfl|rfl<;>first|rfl|exact h
 pos:=by decide
 VO _ _ _:=rfl
 VP _ _:=rfl
theorem JU:∀w A (x:Frame) u,bS aQ w A u (aJ.sub x)->fZ.rd w A (aJ.enc x u) x:=fun _ _ _ u h=>⟨u,rfl,h⟩
open Go.RowKit Go.Proofs
section
variable{P:br}{ops:Array du}{Q:fR->Act->al->Prop}{n:Nat}{env:Nat->aj}{w w' w0:al}{M K:BS}{hp:Nat->Chunk}{rest:Zi du}
 {d:Yw Nat} {op:Op} {ty:aw} {pos:String} {af:Array ix} {v:aj} {g:Yw (Nat×Ys)} {T:aw} {ρ:bj->aj} {x y:bj}
theorem fin_c{e:Func}{R:mv->al->Prop}{a:Tmp}{T:aw}{zs vs:Zi aj}{b:Nat}(j:e.results= #[.cell a T])(k:ev n env (.tmp a)=.pointer (ah ⟨b,0,aE⟩))
  (f:SH w0 M K w hp) (i:Nat) (hi:hp i=.blk b vs) (g:yA P T zs) (hl:vs.length=zs.length) (h:R (.returned (.agg vs.toArray)) w):km P e R .ret (act n env) w:=by
 refine⟨Z,_,?_,h⟩;have c:=congrFun (iT n env)<|.tmp a;rw[k]at c;simp only[Act.eval]at c;rw[cM]at c;have d:=ER (P:=P) f hi g hl Z;unfold results;rw[j];simp[c,asAddr,d]
end
theorem cutS_free{c:UInt8}{s:Str}(h:c∉s)(hl:s.length<4294967281):cutS s [c]=ah (s,[],ar):=by
  unfold cutS;rw[jV hl];rcases idx1 c s with⟨h1,h2⟩|⟨x,r,h1,h2,h3⟩
  · unfold rv;rw[h1,Z3 zq1]
  · exact Zs (by rw[h1];simp) h
theorem cutS_hit{c:UInt8}{x r:Str}(h:c∉x)(hl:(x++c::r).length<4294967281):cutS (x++c::r) [c]=ah (x,r,ba):=by
  unfold cutS;rw[jV hl];rcases idx1 c (x++c::r)with⟨h1,h2⟩|⟨y,q,h1,h2,h3⟩
  · exact Zs zq3 h2
  · have e:x=y/\r=q:=by
      have k1:=AX (r:=r) h;have k2:=AX (r:=q) h2;rw[<-h1,k1]at k2;injection k2 with k2 k3;subst k2;refine⟨Z,?_⟩;have:=List.append_cancel_left h1;injection this
    obtain⟨rfl,rfl⟩:=e;unfold rv;rw[h3,Z2 V];simp only[Int.toNat_natCast];rw[kz,show x.length+[c].length=(x++[c]).length by simp,show x++c::r=(x++[c])++r by simp,List.drop_left]
def addC(c:UInt8):Zi Str->Zi Str
 |[]=>[]
 |[x]=>[x]
 |x::y::r=>(x++[c])::addC c (y::r)
theorem addC_cons(c:UInt8)(x:Str){l:Zi Str}(h:l≠[]):addC c (x::l)=(x++[c])::addC c l:=by
 cases l with
 |nil=>exact Zs Z h
 |cons y r=>rfl
theorem splitK_A(c:UInt8):∀(k:Nat) (s:Str),Lib.count s [c]=k->Lib.splitK [c] 1 k s=addC c (kg c s):=by
  intro k;induction k with
  |zero=>
    intro s hs;rcases idx1 c s with⟨h1,h2⟩|⟨x,r,h1,h2,h3⟩
    · rw[LK h2];rfl
    · rw[Lib.count_hit zq3 h3]at hs;omega
  |succ k ih=>
    intro s hs;rcases idx1 c s with⟨h1,h2⟩|⟨x,r,h1,h2,h3⟩
    · rw[Lib.count_miss h1]at hs;omega
    · have b:¬(Lib.index s [c]== -1)=true:=by rw[h3];simp
      rw[Lib.count_hit zq3 h3]at hs;have a:s.drop (x.length+[c].length)=r:=by rw[h1];simp
      rw[Lib.splitK,Z3 b,h3];simp only[Int.toNat_natCast];rw[a]at hs⊢;rw[ih r V,h1,AX h2,addC_cons c x (Ed c r)];congr 1;rw[show x.length+1=(x++[c]).length by simp,show x++c::r=(x++[c])++r by simp,kz]
theorem splitAfterS_eq{s:Str}(c:UInt8)(h:s.length<4294967281):Ie s [c]=ah (addC c (kg c s)):=by
 unfold Ie;rw[jV ⟨h,cv _⟩];exact ZD ah<|splitK_A c _ s Z
theorem hasSuf_app{c:UInt8}(x:Str)(h:(x++[c]).length<=281474976710656):Ox (x++[c]) [c]=ah true:=by
 unfold Ox;rw[jV h];simp[tt]
theorem hasSuf_free{c:UInt8}{x:Str}(a:c∉x)(h:x.length<=281474976710656):Ox x [c]=ah false:=by
 unfold Ox;rw[jV h];have:¬[c]<:+x:=fun hs=>a<|hs.subset zq3;cases hq:[c].isSuffixOf x with
 |false=>simp[tt,hq]
 |true=>exact Zs (List.isSuffixOf_iff_suffix.1 hq) this
theorem splitC_cons{c:UInt8}{s x y:Str}{l:Zi Str}(h:kg c s=x::y::l):∃r,s=x++c::r/\kg c r=y::l/\c∉x:=by
 have b:=(AZ c s x (by rw[h];exact fj)).2;have a:=AY c s;rw[h,DR]at a;refine⟨Ee c<|y::l,a.symm,?_,b⟩;rw[<-a,AX b]at h;injection h
theorem splitC_single{c:UInt8}{s x:Str}(h:kg c s=[x]):s=x/\c∉x:=by
 have b:=(AZ c s x (by rw[h];exact fj)).2;have a:=AY c s;rw[h,Gy]at a;exact⟨a.symm,b⟩
open Go.RowKit Go.Proofs
def RngP{α:Type}(f:α->aj)(m r:Nat)(c:Yw (Int×α))(left:Zi (Int×α))(w:al):Prop:=
 m≠r/\∃d a b,w.heap[m]? =ah (.map d a)/\Oq d a/\w.heap[r]? =ah (.mapIter (ah m) a b a)/\
  (na d b).toList.map (fun e=>(e.key,e.val))=left.map (fun p=>(da .i64 p.1,f p.2))/\
  ∀p,c=ah p->∃e∈d.toList,b.back?=ah e.born/\e.key=.int .i64 p.1/\e.val=f p.2
def rngS{α:Type}(f:α->aj)(m r:Nat)(last:Yw (Int×α))(left:Zi (Int×α)):Pce where
  own x:=x=m\/x=r
  P w _:=RngP f m r last left w
  lt:=by
    rintro w A x⟨_,es,clock,seen,h1,_,h2,_⟩(rfl|rfl)
    · exact iQ h1
    · exact iQ h2
  go:=by
    rintro w w' A A' K⟨h0,es,clock,seen,h1,h2,h3,h4⟩hk hK hKo hA;exact⟨h0,es,clock,seen,hk.blk h1 fun h=>hKo m h<|.inl Z,h2,hk.blk h3 fun h=>hKo r h<|.inr Z,h4⟩
section
variable{P:br}{ops:Array du}{Q:fR->Act->al->Prop}{n:Nat}{env:Nat->aj}{w w' w0:al}{M K:BS}{hp:Nat->Chunk}{rest:Zi du}
 {d:Yw Nat} {op:Op} {ty:aw} {pos:String} {af:Array ix} {v:aj} {g:Yw (Nat×Ys)} {T:aw} {ρ:bj->aj} {x y:bj} {α:Type} {f:α->aj}
theorem w_range{z:aj}{m:Nat}{kE:Zi (Int×aj)}(l:Zi (Int×α))(h:SH w0 M K w hp)(i:Nat)(hi:hp i=.mp m kE)(t:MapOf P T z)(u:ev n env x=.map (ah m))(A:kE=l.map fun p=>(p.1,f p.2))
    (k:∀w' r,SH w0 M K w' (bH hp i (.fC (rngS f m r aE l)))->WL P ops Q rest n (gz env d (.pointer (ah ⟨r,0,aE⟩))) w'):WL P ops Q (⟨d,.range T x,ty,pos,af,aE⟩::rest) n env w:=by
  obtain⟨v,E,y,C,B⟩:=t.desc;obtain⟨e,a,j,s,q⟩:=h.mpAt i hi;have c:(bc (ev n env) ⟨d,.range T x,ty,pos,af,aE⟩).run P w=.ok (.value<|.pointer<|some ⟨w.heap.size,0,aE⟩) (w.alloc<|.mapIter (ah m) a #[] a):=by
    simp only[bc,u];simp[run_range_map w T v E m e a y j]
  refine aA c<|k _ _ ?_;have o:=iQ j;refine h.step i (N:=BE) (Grow.alloc _ _) (fun _ h=>h.elim) (fun b g hl=>?_) ?_
  · rw[hi];rcases g with rfl|rfl
    · rfl
    · exact Zs hl<|Nat.lt_irrefl _
  · refine⟨Nat.ne_of_lt o,e,a,#[],by rw[(Grow.alloc _ _).blk j],q,heap_alloc_new _ _,?_,fun p h=>by cases h⟩;have:na e #[]=e:=by unfold na;exact tW.2 (fun x _=>by simp)
    rw[this,s,A,List.map_map];rfl
theorem run_setObj_iter{r:Nat}{a:Yw Nat}{s c:Nat}{d:Array Nat}(o:Obj)(b:w.heap[r]? =ah (.mapIter a s d c)):(setObj r o).run P w=.ok () (zn w r o):=by
 simp only[setObj,nc,b];rfl
theorem run_next_any(ty:aw){m r a:Nat}{f:Array MapEntry}{b:Array Nat}(z:w.heap[m]? =ah (.map f a))(t:w.heap[r]? =ah (.mapIter (ah m) a b a))(k:∀e∈f.toList,e.born<a):
    ((na f b).size=0/\(Instr.next (.pointer (ah ⟨r,0,aE⟩)) ar ty).run P w=.ok (.tuple #[.bool ar]) w)\/
    ∃e∈(na f b).toList,∃d:al,(d=w\/d=w.drew)/\(Instr.next (.pointer (ah ⟨r,0,aE⟩)) ar ty).run P w=.ok (.tuple #[.bool ba,e.key,e.val]) (zn d r (.mapIter (ah m) a (b.push e.born) a)):=by
  have s:(nu r).run P w=.ok (.mapIter (ah m) a b a) w:=by simp[nu,nc,t]
  have q:(nu m).run P w=.ok (.map f a) w:=by simp[nu,nc,z]
  simp only[Instr.next,cq,s,q,bn,next_test_false b f a a k (cv _),de,if_false];unfold na;have c:∀x∈(Bs (fun e=> !b.contains e.born) f).toList,x.born<a:=fun x g=>k x (by simp at g⊢;exact g.1);generalize Bs (fun e=> !b.contains e.born) f=L at c⊢;have A:L.filter (fun x=>decide<|x.born<a)=L:=tW.2 (fun x g=>by simpa using c x (by simpa using g));have y:L.filter (fun x=>decide<|x.born≥a)= #[]:=by
    rw[Array.filter_eq_empty_iff];intro x g;have:=c x (by simpa using g);simp;omega
  simp only[A,y,Array.append_empty];by_cases u:L.size=0
  · left;have:L= #[]:=Array.eq_empty_of_size_eq_zero u;subst this;refine⟨Z,?_⟩;simp[choose,nc,rI]
  · right;have n:L.isEmpty=false:=by simp[Array.isEmpty,u]
    simp only[n,de,if_false,Array.empty_append,Array.size_map];have o:∃(j:Nat) (d:al),j<L.size/\(d=w\/d=w.drew)/\(choose<|Question.mapNext L.size).run P w=.ok j d:=by
      by_cases v:L.size<=1
      · exact⟨0,w,by omega,.inl Z,by simp[choose,nc,rI,v]⟩
      · exact⟨_,w.drew,Nat.mod_lt _ V,.inr Z,by
          simp only[choose,nc,rI,decide_eq_true_eq,v,if_false,Question.cut];rfl⟩
    obtain⟨j,d,B,l,i⟩:=o;refine⟨L[j],by simp,d,l,?_⟩;have p:d.heap[r]? =ah (.mapIter (ah m) a b a):=by rcases l with rfl|rfl<;>exact t
    simp only[i,Array.getElem?_map,Array.getElem?_eq_getElem B,fm,cq,run_setObj_iter _ p,bn];rfl
theorem leftOf_push(c:Array MapEntry)(a:Array Nat)(b:Nat):(na c (a.push b)).toList=(na c a).toList.filter (fun x=>x.born !=b):=by
 unfold na;rw[lO,lO,List.filter_filter];apply List.filter_congr;intro x _;have:(a.push b).contains x.born=(a.contains x.born||(x.born==b)):=by
  rw[Bool.eq_iff_iff];simp[Array.contains_iff_mem]
 rw[this];cases a.contains x.born<;>cases hq:(x.born==b)<;>simp[bne,hq]
theorem w_next{m r:Nat}{t:Yw (Int×α)}{left:Zi (Int×α)}(h:SH w0 M K w hp)(i:Nat)(hi:hp i=.fC (rngS f m r t left))(k:ev n env x=.pointer (ah ⟨r,0,aE⟩))
    (k0:left=[]->WL P ops Q rest n (gz env d (.tuple #[.bool ar])) w)
    (k1:∀p g w',left.Perm (p::g)->SH w0 M K w' (bH hp i (.fC (rngS f m r (ah p) g)))->WL P ops Q rest n (gz env d (.tuple #[.bool ba,.int .i64 p.1,f p.2])) w'):
    WL P ops Q (⟨d,.next x ar,ty,pos,af,aE⟩::rest) n env w:=by
  have R:=h.ok i;rw[hi]at R;obtain⟨s,q,a,c,I,L,N,C,h5⟩:=R;rcases run_next_any (P:=P) ty I N L.1 with⟨g1,g2⟩|⟨e,he,w1,hw1,g2⟩
  · have hl:left=[]:=by
      have:(na q c).toList=[]:=cd (by simpa using g1);rw[this]at C;cases left with
      |nil=>rfl
      |cons p l=>cases C
    refine aA (v:=.tuple #[.bool ar]) (w':=w) ?_<|k0 hl;simp only[bc,k];simp[g2]
  · obtain⟨A,B,o⟩:=List.append_of_mem he;rw[o,eb,ct]at C;obtain⟨S,l2,rfl,q1,q2⟩:=List.map_eq_append_iff.1 C.symm;obtain⟨p,O,rfl,y,q4⟩:=List.map_eq_cons_iff.1 q2;simp only[Prod.mk.injEq]at y;have u:=iQ N;have j:Grow w w1:=by
      rcases hw1 with rfl|rfl
      · exact bz.refl _ _
      · exact⟨Z,Z,Z,cv _,fun _ _ _=>rfl⟩
    have hk:bz (fun x=>x=m\/x=r) w (zn w1 r<|.mapIter (ah m) a (c.push e.born) a):=bz.step (j.weaken fun _ h _=>h.elim) (bz.zn _ _ _) fun x k _=>.inr k;have G:(zn w1 r<|.mapIter (ah m) a (c.push e.born) a).heap[m]? =ah (.map q a):=by
      rw[(bz.zn w1 r _).block m s (bE (iQ I) j.size),j.blk I]
    refine aA (v:=.tuple #[.bool ba,.int .i64 p.1,f p.2]) (w':=zn w1 r<|.mapIter (ah m) a (c.push e.born) a) ?_<|k1 p (S++O) _ (List.perm_middle) ?_
    · rw[y.1,y.2];simp only[bc,k];simp[g2]
    · refine h.Oy (S':=rngS f m r (ah p)<|S++O) i hi ?_ hk fun b X _=>X;refine⟨s,q,a,c.push e.born,G,L,yG<|bE u j.size,?_,fun p' E=>?_⟩
      · rw[leftOf_push,o];have z:((na q c).toList.map (·.born)).Nodup:=by
          unfold na;rw[lO];exact(L.2.sublist ((List.filter_sublist (l:=q.toList)).map _))
        rw[o,eb,ct,List.nodup_append]at z;obtain⟨n1,T,n3⟩:=z;rw[List.filter_append,List.filter_cons_of_neg zq3,rb.2 (fun x k=>?_),rb.2 (fun x k=>?_),eb,eb,<-q1,<-q4]
        · have:=(zc.1 T).1;simp only[bne_iff_ne,ne_eq,decide_not,er,beq_eq_false_iff_ne];intro F;exact this (by rw[<-F];exact List.mem_map.2 ⟨x,k,Z⟩)
        · simp only[bne_iff_ne,ne_eq,decide_not,er,beq_eq_false_iff_ne];intro F;exact n3 x.born (List.mem_map.2 ⟨x,k,Z⟩) e.born zq3 F
      · cases E;refine⟨e,?_,by simp,y.1.symm,y.2.symm⟩;have:e∈(na q c).toList:=he;unfold na at this;rw[lO]at this;exact(List.mem_filter.1 this).1
theorem r_entry{m r:Nat}{p:Int×α}{left:Zi (Int×α)}(h:SH w0 M K w hp)(i:Nat)(hi:hp i=.fC (rngS f m r (ah p) left))(t:ρ x=.pointer (ah ⟨r,0,aE⟩)):
    (bc ρ ⟨d,.entry x,ty,pos,af,g⟩).run P w=.ok (.value (.tuple #[.int .i64 p.1,f p.2])) w:=by
  have l:=h.ok i;rw[hi]at l;obtain⟨s,c,a,b,o,z,n,B,A⟩:=l;obtain⟨e,q,hs,u,v⟩:=A p Z;have k:(nu r).run P w=.ok (.mapIter (ah m) a b a) w:=by simp[nu,nc,n]
  have j:(nu m).run P w=.ok (.map c a) w:=by simp[nu,nc,o]
  have y:c.find? (·.born==e.born)=ah e:=by rw[<-Array.find?_toList];exact find_born e c.toList z.2 q
  simp only[bc,t];have:(Instr.entry<|.pointer<|some ⟨r,0,aE⟩).run P w=.ok (.tuple #[.int .i64 p.1,f p.2]) w:=by
    simp only[Instr.entry,cq,k,j,bn,hs,bne_self_eq_false,de,if_false,y];rw[u,v];rfl
  simp[this]
theorem SH.rngForget{m r:Nat}{c:Yw (Int×α)}{left:Zi (Int×α)}(h:SH w0 M K w hp)(i:Nat)(hi:hp i=.fC (rngS f m r c left)):SH w0 M K w (bH hp i (.fC (rngS f m r aE left))):=by
 have g:=h.ok i;rw[hi]at g;obtain⟨e,n,a,d,k,o,j,q,s⟩:=g;exact h.Oy (S':=rngS f m r aE left) i hi ⟨e,n,a,d,k,o,j,q,fun p h=>by cases h⟩ (bz.refl _ _) fun b l _=>l
end
def foldO{α σ:Type}(oa:α->σ->Yw σ):Zi α->σ->Yw σ
 |[],s=>ah s
 |a::l,s=>(oa a s).bind (foldO oa l)
def Dt{α σ:Type}(oa:α->σ->Yw σ)(L:Zi α)(s fin:σ):Prop:=∀p,p.Perm L->foldO oa p s=ah fin
open Classical in
noncomputable def LM{α σ:Type}(oa:α->σ->Yw σ)(L:Zi α)(s:σ):Yw σ:=if h:∃fin,Dt oa L s fin then ah h.choose else aE
theorem o_fold{α σ:Type}{oa:α->σ->Yw σ}{L:Zi α}{s fin:σ}(h:LM oa L s=ah fin):Dt oa L s fin:=by
  unfold LM at h;split at h
  · rename_i a;cases h;exact a.choose_spec
  · cases h
theorem foldAny_eq{α σ:Type}{oa:α->σ->Yw σ}{L:Zi α}{s fin:σ}(h:Dt oa L s fin):LM oa L s=ah fin:=by
 have b:∃fin,Dt oa L s fin:=⟨fin,h⟩;unfold LM;rw[dif_pos b];have a:=b.choose_spec L<|sh _;rw[h L (sh _)]at a;exact a.symm
theorem Dt.nil{α σ:Type}{oa:α->σ->Yw σ}{s fin:σ}(h:Dt oa [] s fin):s=fin:=by
 have:=h []<|sh _;exact cG this
theorem Dt.cons{α σ:Type}{oa:α->σ->Yw σ}{L L':Zi α}{p:α}{s fin:σ}(h:Dt oa L s fin)(hp:L.Perm (p::L')):∃a,oa p s=ah a/\Dt oa L' a fin:=by
 have c:=h (p::L') hp.symm;obtain⟨a,b,e⟩:=ai c;refine⟨a,b,fun q d=>?_⟩;have:=h (p::q) ((d.cons p).trans hp.symm);unfold foldO at this;rw[b]at this;exact this
open Go.RowKit Go.Proofs
section
variable{w0 w w':al}{M K:BS}{hp:Nat->Chunk}{C:Chunk}
theorem SH.I8{b:Nat}{cs:Zi aj}(h:SH w M K w hp)(i:Nat)(ho:∃E,w.heap[b]? =ah (.cells cs.toArray E (0,0)))(a:¬C.own' b)(hn:∀b,jH hp b->C.own' b):SH w M K w (bH hp i (.pt b 0 cs)):=by
 obtain⟨E,c⟩:=ho;exact h.pt i (fun h=>a<|hn b h) ⟨_,E,_,c,by simp⟩
theorem AA{i b o:Nat}{cs:Zi aj}(hn:∀b,jH hp b->C.own' b):∀x,jH (bH hp i (.pt b o cs)) x->C.own' x:=by
  rintro x⟨j,a⟩;by_cases e:j=i
  · subst e;rw[bN]at a;exact a.elim
  · rw[fe e]at a;exact hn x ⟨j,a⟩
theorem SH.loseC3{c e f:Chunk}(h:SH w0 M K w hp)(i j k:Nat)(g:i≠j)(hik:i≠k)(d:j≠k)(hi:hp i=c)(o:hp j=e)(l:hp k=f)(n:bz (fun b=>c.own' b\/e.own' b\/f.own' b) w w'):
    SH w0 M K w' (bH (bH (bH (bH (bH hp j .no) i (.two (hp i) (hp j))) k .no) i (.two ((bH (bH hp j .no) i (.two (hp i) (hp j))) i) ((bH (bH hp j .no) i (.two (hp i) (hp j))) k))) i .no):=by
  have m:=h.pair i j g;have p:=m.pair i k hik;refine p.mi i (bN _ _ _) ?_;rw[bN,fe (fun e=>hik e.symm),fe (fun e=>d e.symm),hi,o,l];refine n.weaken fun b a _=>?_;rcases a with a|a|a
  · exact .inl<|.inl a
  · exact .inl<|.inr a
  · exact .inr a
end
section
variable{α:Type}{R:lV α}{E:aw}{w0 w w':al}{M K A:BS}{hp:Nat->Chunk}{C:Chunk}{v:aj}{l:Zi α}
theorem cz.srcB{B:BS}(h:cz R E w A v l)(hB:∀b,ob v b->¬B b):fB R w B A v l:=by
  have p:=h.src;obtain⟨xs,k,t⟩:=h;rcases k.2 with⟨rfl,hn⟩|⟨g,cap,cur,rfl,e1,e2,e3,e4,e5,e6⟩
  · have:l=[]:=cd hn;subst this;exact fB.nil
  · obtain⟨a,c,d,j,q,m,n⟩:=p;refine⟨a,c,d,j,q,m,fun i hi=>?_⟩;obtain⟨b,o,cells,F,f,e,u,r,s⟩:=n i hi;refine⟨b,o,cells,F,f,e,?_,r,s⟩;subst e;simp only[Value.slice.injEq,fl,Addr.mk.injEq]at d;exact hB b (by simp[ob,d.1.1])
theorem LP{i:Nat}(hn:∀b,jH hp b->C.own' b):∀b,jH (bH hp i (.sr R v l)) b->C.own' b:=by
  rintro b⟨j,a⟩;by_cases e:j=i
  · subst e;rw[bN]at a;exact a.elim
  · rw[fe e]at a;exact hn b ⟨j,a⟩
theorem SH.argSrC(h:SH w M K w hp)(i:Nat)(ho:fB R w C.own' (fun b=>M b\/C.own' b) v l)(hn:∀b,jH hp b->C.own' b):SH w M K w (bH hp i (.sr R v l)):=
 h.know i (fun _ h=>h) (ho.sub (fun b a _=>hn b a) (fun b a _=>a.imp id (hn b)))
theorem av_all{i:Nat}(hi:hp i=C):∀b,(M b\/rest hp i b)\/C.own' b->SH.A M hp b:=by
  rintro b((a|a)|a)
  · exact .inl a
  · exact .inr<|nz a
  · exact .inr ⟨i,by rw[hi];exact a⟩
theorem SH.ownSr(h:SH w0 M K w hp)(i j:Nat)(a:i≠j)(d:hp j=.own R E v l)(hi:hp i=C):fB R w C.own' (fun b=>(M b\/rest hp i b)\/C.own' b) v l:=
 ((h.aZ j d).srcB (B:=C.own') (fun b c e=>h.apart i j a b (by rw[hi];exact e) (by rw[d];exact c))).sub (fun _ h _=>h) (fun b c _=>av_all hi b c)
theorem SH.srSr(h:SH w0 M K w hp)(i j:Nat)(c:hp j=.sr R v l)(hi:hp i=C):fB R w C.own' (fun b=>(M b\/rest hp i b)\/C.own' b) v l:=
 (h.srAt j c).sub (fun b a _=>⟨i,by rw[hi];exact a⟩) (fun b a _=>av_all hi b a)
end
def VR(s:Str):Yw (Zi Str):=fI (s.length<4294967281/\(s.all fun b=>ab (b.toNat<128))=ba/\(gf s).length<=4294967281) (ah (gf s))
theorem fields_w{P:br}{f:hQ}{E:aw}{g q:Nat}{w0:al}{M:BS}(k:∀(s:ByteArray) (w:al),s.size<4294967281->(∀(j:Nat) b,s.data.toList[j]? =ah b->b.toNat<128)->pe P w "strings.asciiSpace" .u8 xN->
    bk P f #[.string s] w fun e w'=>e=.returned (.slice (ah ⟨w.heap.size,0,aE⟩) (gf s.data.toList).length (gf s.data.toList).length)/\w'=w.alloc (.cells ((gf s.data.toList).map fun l=>oy ⟨l.toArray⟩).toArray E))
    (i:P.globalNamed "strings.asciiSpace" =ah q) (m:∀b,M b->b<w0.heap.size) (c:pI P g w0) {s:Str} {r:Zi Str} (hs:VR s=ah r):bk P f #[bu s] w0 (fun e w'=>Grow w0 w'/\∃u,e=.returned u/\bS uG w' M u r):=by
  obtain⟨⟨a,n,o⟩,hs⟩:=bO hs;cases hs;refine(k ⟨s.toArray⟩ w0 (by rw[oD];exact a) (fun j b d=>?_) (c.asc q i)).mono ?_
  · have:=oA.1 n b<|List.mem_of_getElem? (by simpa using d);simpa using this
  · rintro e w'⟨rfl,rfl⟩;refine⟨Grow.alloc _ _,_,Z,?_⟩;have:=strs_rd (E:=E) (l:=(gf s).map fun l=>(⟨l.toArray⟩:ByteArray)) (cap:=(gf s).length) (cells:=((gf s).map fun l=>oy ⟨l.toArray⟩).toArray) w0 m (by rw[eF];exact cv _) (by unfold maxLen;omega) (fun j p=>by simp);rw[eF,List.map_map]at this;have e:(List.map (((fun x=>x.data.toList):ByteArray->Str)∘fun l=>⟨l.toArray⟩)<|gf s)=gf s:=by simp[Function.comp_def]
    simpa[Function.comp_def]using this
open Go.RowKit Go.Proofs Go.ChangeShapes
def SY(b o:Nat)(r:Nat×Nat×Nat):Ys:=gR r.1 b&&(oj r.2.1 o&&Nat.blt o (r.2.1+r.2.2))
def XG(b o:Nat):Zi (Nat×Nat×Nat)->Zi (Nat×Nat×Nat)
 |[]=>[(b,o,1)]
 |(c,s,l)::r=>bif gR c b&&gR (o+1) s then(b,o,l+1)::r else(b,o,1)::(c,s,l)::r
def runsOf:Zi MemPlace->Yw (Zi (Nat×Nat×Nat))
 |[]=>ah []
 | .cell b o::r=>(runsOf r).bind fun a=>bif a.any (SY b o)then aE else ah (XG b o a)
 |_::_=>aE
theorem addRun_old{b o c q:Nat}{a:Zi (Nat×Nat×Nat)}(h:a.any (SY c q)=ba):(XG b o a).any (SY c q)=true:=by
  cases a with
  |nil=>cases h
  |cons r a=>
    obtain⟨d,s,l⟩:=r;have e:XG b o ((d,s,l)::a)=bif gR d b&&gR (o+1) s then(b,o,l+1)::a else(b,o,1)::(d,s,l)::a:=rfl;rw[e];cases hc:(gR d b&&gR (o+1) s)with
    |false=>rw[Z1,Bx,h,Bool.or_true]
    |true=>
      rw[ZS];simp only[cH,w3]at hc;obtain⟨rfl,rfl⟩:=hc;rw[Bx]at h⊢;rcases Bool.or_eq_true_iff.1 h with h|h
      · unfold SY at h⊢;simp only[cH,w3,te,Nat.blt_eq]at h;have:(gR d c&&(oj o q&&Nat.blt q (o+(l+1))))=true:=by
          simp only[cH,w3,te,Nat.blt_eq];omega
        rw[this,Bool.true_or]
      · rw[h,Bool.or_true]
theorem addRun_new{b o:Nat}{a:Zi (Nat×Nat×Nat)}:(XG b o a).any (SY b o)=true:=by
 cases a with
 |nil=>simp[XG,SY]
 |cons r a=>
  obtain⟨d,s,l⟩:=r;have e:XG b o ((d,s,l)::a)=bif gR d b&&gR (o+1) s then(b,o,l+1)::a else(b,o,1)::(d,s,l)::a:=rfl;rw[e];cases (gR d b&&gR (o+1) s)with
  |false=>simp[SY]
  |true=>simp[SY]
theorem VS:∀{f:Zi MemPlace} {d:Zi (Nat×Nat×Nat)},runsOf f=ah d->f.Nodup/\∀b o,MemPlace.cell b o∈f->d.any (SY b o)=ba
  |[],d,h=>⟨List.nodup_nil,fun _ _ a=>by cases a⟩
  | .cell b o::r,d,h=>by
    unfold runsOf at h;obtain⟨q,j,h⟩:=Option.bind_eq_some_iff.1 h;obtain⟨i,g⟩:=VS j;cases hc:q.any (SY b o)with
    |true=>rw[hc]at h;cases h
    |false=>
      rw[hc,Z1]at h;cases h;refine⟨zc.2 ⟨fun a=>(by rw[g b o a]at hc;cases hc),i⟩,fun c p a=>?_⟩;rcases bp.1 a with e|a
      · cases e;exact addRun_new
      · exact addRun_old<|g c p a
  | .map _::_,d,h=>by cases h
theorem laidMet_of_run2{P:br}{w:al}{l:Zi (String×DataW Unit)}(fuel:Nat)(h:(DataW.laidRun P w fuel (l.map (·.1))).map (·.1)=ah l)
    (a:(DataW.laidRun P w fuel (l.map (·.1))).map (fun x=>(runsOf x.2).isSome&&laidRowsB P w x.2)=ah ba):laidMet P l w:=by
  cases hx:DataW.laidRun P w fuel (l.map (·.1))with
  |none=>simp[hx]at h
  |some x=>
    obtain⟨c,e⟩:=x;simp only[hx,fm,fl]at h a;subst h;simp only[cH]at a;obtain⟨d,b⟩:=Option.isSome_iff_exists.1 a.1;exact laidMet_of_run fuel hx (decide_eq_true (VS b).1) a.2
structure fT where
 at_:Int
 ok:Bool
deriving DecidableEq
open Go.RowKit Go.Proofs
section
variable{α β:Type}{N:TN α β}{R:lV β}{E Es T:aw}{w0 w w':al}{M K A:BS}{hp:Nat->Chunk}{v u u':aj}{us us':Zi aj}{L L':Zi α}{ss ss':Zi (Zi β)}{s:Zi β}{x y:α}{k:Nat}{ho ho':Nat->Prop}{C:Chunk}
theorem choose_list{b:Type}(P:Nat->b->Prop):∀(n:Nat),(∀i,i<n->∃u,P i u)->∃us:Zi b,us.length=n/\∀i u,us[i]? =ah u->P i u
  |0,_=>⟨[],rfl,fun i u h=>by cases h⟩
  |n+1,h=>by
    obtain⟨us,c,e⟩:=choose_list P n fun i hi=>h i V;obtain⟨u,d⟩:=h n V;refine⟨us++[u],by simp[c],fun i z a=>?_⟩;rw[jf]at a;split at a
    · exact e i z a
    · rename_i hl;have:i-us.length=0:=by
        rcases Nat.eq_zero_or_pos (i-us.length)with h0|h0
        · exact h0
        · rw[bq (by simp;omega)]at a;cases a
      rw[this]at a;cases a;obtain rfl:i=n:=by omega
      exact d
def hge(k:Nat):Nat->Prop:=fun i=>k<=i
def Oz{β:Type}(R:lV β)(k:Nat)(us:Zi aj)(ss:Zi (Zi β)):Pce where
 own:=BE
 P w A:=∀i u s,k<=i->us[i]? =ah u->ss[i]? =ah s->bS R w A u s
 lt:=fun _ h=>h.elim
 go:=fun h hk hK hKo hA i u s hi hu hs=>bS.go (h i u s hi hu hs) hk hK (fun b hb hl=>(hA b hb hl).elim id (fun h=>h.elim))
theorem SH.famHo(h:SH w0 M K w hp)(j:Nat)(ho':Nat->Prop)(a:hp j=.fC (bB R E ho us ss))(d:∀i,ho i↔ho' i):SH w0 M K w (bH hp j (.fC (bB R E ho' us ss))):=by
 have e:ho=ho':=funext fun i=>propext<|d i;subst e;exact h.Oy (S':=bB R E ho us ss) j a (h.famAt j a) (bz.refl _ _) fun b c _=>c
theorem SH.thaw{R':lV α}(h:SH w0 M K w hp)(i j q:Nat)(hi:hp i=.own R' E v L)(z:i≠j)(P:i≠q)(S:j≠q)(m:R'.sz=N.sz)(op:∀w A cs x,R'.rd w A cs x->∃u,cs=N.enc x u/\bS R w A u (N.sub x)):
    ∃us,us.length=L.length/\SH w0 M K w (bH (bH (bH hp i (.own N.raw E v (L.zip us))) j (.fC (bB R Es (hge 0) us (L.map N.sub)))) q (.fC (Oz R 0 us (L.map N.sub)))):=by
  have ho:=h.aZ i hi;have G:=ho;obtain⟨xs,F,Q⟩:=ho;obtain⟨us,hl,l⟩:=choose_list (fun i u=>∃hi:i<L.length,(xs.drop (i*R'.sz)).take R'.sz=N.enc L[i] u/\bS R w (fun b=>SH.A M hp b\/ob v b) u (N.sub L[i])) L.length (fun i hi=>by
    obtain⟨u,n,k⟩:=op _ _ _ _<|Q i hi;exact⟨u,hi,n,k⟩)
  refine⟨us,hl,?_⟩;have C:SH w0 M K w (bH hp i<|.own N.raw E v<|L.zip us):=by
    refine h.step i (bz.refl BE w) (fun _ h=>h.elim) (fun b a _=>by rw[hi];exact a) ⟨xs,?_,?_⟩
    · rw[gq hl];show w.ownsRow 0 E N.sz v L.length xs;rw[<-m];exact F
    · intro q y;have B:q<L.length:=by rw[gq hl]at y;exact y
      have r:q<us.length:=by omega
      obtain⟨_,n,k⟩:=l q us[q]<|bh r;refine⟨?_,?_⟩
      · show(xs.drop<|q*N.sz).take N.sz=N.enc ((L.zip us)[q]).1 ((L.zip us)[q]).2;rw[xT,<-m];exact n
      · rw[xT];exact k.one
  have d:∀b,¬JB (hge 0) us b:=fun b⟨i,u,_,hn,_⟩=>hn<|gd i;have O:SH w0 M K w (bH (bH hp i<|.own N.raw E v<|L.zip us) j<|.fC<|bB R Es (hge 0) us<|L.map N.sub):=
    C.know j (c:=.fC (bB R Es (hge 0) us (L.map N.sub))) (fun b a=>d b a) ⟨by rw[eF];exact hl,fun i u s _ _ hn=>Zs (gd i) hn,fun i j u v _ hn=>Zs (gd i) hn⟩
  refine O.know q (c:=.fC<|Oz R 0 us<|L.map N.sub) (fun b a=>a) ?_;intro p u s _ I hs;obtain⟨o,n,k⟩:=l p u I;rw[eo,bh o]at hs;cases hs;have f:∀b,(M b\/jH (bH (bH hp i<|.own N.raw E v<|L.zip us) j<|.fC<|bB R Es (hge 0) us<|L.map N.sub) b)->SH.A M hp b\/ob v b:=by
    rintro b(a|⟨c,g⟩)
    · exact .inl<|.inl a
    · by_cases e:c=j
      · subst e;rw[bN]at g;exact Zs g (d b)
      · rw[fe e]at g;by_cases t:c=i
        · subst t;rw[bN]at g;exact .inr g
        · rw[fe t]at g;exact .inl (.inr ⟨c,g⟩)
  exact k.sub (fun b a _=>f b a) fun b a _=>f b a
theorem SH.rdpAt(h:SH w0 M K w hp)(q:Nat)(c:hp q=.fC (Oz R k us (L.map N.sub)))(hl:us.length=L.length)(b:L[k]? =ah x):∃u,us[k]? =ah u/\bS R w (SH.A M hp) u (N.sub x):=by
 obtain⟨u,a⟩:=us_at hl b;exact⟨u,a,h.pceAt q c k u _ (cv _) a (by rw[eo,b];rfl)⟩
theorem SH.rdpStep(h:SH w0 M K w hp)(q:Nat)(a:hp q=.fC (Oz R k us ss)):SH w0 M K w (bH hp q (.fC (Oz R (k+1) (us.set k u) (ss.set k s)))):=by
 have e:=h.pceAt q a;refine h.Oy (S':=Oz R (k+1) (us.set k u)<|ss.set k s) q a ?_ (bz.refl _ _) fun b f _=>f;intro i z t hi d c;rw[dv V]at d c;exact e i z t V d c
theorem SH.pendPut(h:SH w0 M K w hp)(j q m:Nat)(y:α)(f:hp j=.fC (bB R Es (hge k) us (L.map N.sub)))(l:hp q=.fC (Oz R k us (L.map N.sub)))(r:hp m=.own R Es u s)(c:j≠q)(a:j≠m)(b:q≠m)(n:L[k]? =ah x)(d:us[k]? =ah u')(t:N.sub y=s):
    SH w0 M K w (bH (bH (bH (bH (bH hp q (.fC (Oz R (k+1) (us.set k u) ((L.map N.sub).set k s)))) j (.fC (bB R Es (hge k) (us.set k u) ((L.map N.sub).set k s)))) m .no) j (.fC (bB R Es (hge (k+1)) (us.set k u) (((L.map N.sub).set k s).set k s)))) j (.fC (bB R Es (hge (k+1)) (us.set k u) ((L.set k y).map N.sub)))):=by
  have p:=h.rdpStep (u:=u) (s:=s) q l;have hl:=h.jP j f;have z:=p.famRe (us':=us.set k u) (ss':=(L.map N.sub).set k s) j (by rw[fe c];exact f) (by simp[hl]) (fun i hi=>by
    have:k≠i:=fun e=>hi (by subst e;exact cv _);rw[dv this,dv this];exact⟨Z,Z⟩)
  have o:=P5 n;have g:=z.MP j m (k:=k) (u:=u) (s:=s) (bN _ _ _) (by rw[fe (fun e=>a e.symm),fe (fun e=>b e.symm)];exact r) a (XF d) (cv k) (hge (k+1)) (fun i=>⟨fun hi=>by
    rcases w4 (show k<=i from hi)with e|e
    · exact .inr e.symm
    · exact .inl e,fun hi=>hi.elim (fun hi=>x5 hi) (fun e=>by subst e;exact cv _)⟩) (fun hi=>Zs hi (vh k))
  have e:((L.map N.sub).set k s).set k s=(L.set k y).map N.sub:=by rw[List.set_set,mb,t]
  have v:=g.famRe (us':=us.set k u) (ss':=(L.set k y).map N.sub) j (bN _ _ _) (by simp[hl]) (fun i hi=>⟨Z,by rw[e]⟩);exact v
theorem SH.famAll(h:SH w0 M K w hp)(j:Nat)(m:hp j=.fC (bB R Es (hge k) us (L.map N.sub)))(p:L.length<=k):SH w0 M K w (bH hp j (.fC (bB R Es hn us (L.map N.sub)))):=by
  have hl:=h.jP j m;have l:=h.famAt j m;have a:∀i (z:aj),us[i]? =ah z->¬hge k i:=fun i z c hi=>by
    have:=P5 c;have:k<=i:=hi;omega
  refine h.Oy (S':=bB R Es hn us<|L.map N.sub) j m ⟨l.1,fun i z t c o _=>?_,fun i j z v f _ _ c n=>l.2.2 i j z v f (a i z c) (a j v n) c n⟩ (bz.refl _ _) fun b⟨i,z,d,_,e⟩_=>⟨i,z,d,a i z d,e⟩;refine(l.2.1 i z t c o<|a i z c).go (bz.refl BE w) (fun _ h=>h.elim) (fun _ h=>h.elim) fun b g _=>?_;rcases g with g|⟨i,z,d,_,e⟩
  · exact .inl<|.inl g
  · exact .inl<|.inr ⟨i,z,d,a i z d,e⟩
def hmv(a:Zi Int):Nat->Prop:=fun i=>(i:Int)∈a
theorem SH.famMv0(h:SH w0 M K w hp)(j:Nat)(a:hp j=.fC (bB R Es hn us ss)):SH w0 M K w (bH hp j (.fC (bB R Es (hmv []) us ss))):=
 h.famHo j (hmv []) a (fun i=>⟨fun h=>h.elim,fun h=>by cases h⟩)
theorem SH.mvOpen{c:Zi Int}{a:Int}(h:SH w0 M K w hp)(j m:Nat)(g:hp j=.fC (bB R Es (hmv c) us (L.map N.sub)))(n:hp m=.no)(d:j≠m)(l:0<=a)(f:L[a.toNat]? =ah x)(b:a∉c):
    ∃u,us[a.toNat]? =ah u/\SH w0 M K w (bH (bH hp j (.fC (bB R Es (hmv (c++[a])) us (L.map N.sub)))) m (.own R Es u (N.sub x))):=by
  have hl:=h.jP j g;obtain⟨u,k⟩:=us_at hl f;have e:((a.toNat:Nat):Int)=a:=Int.toNat_of_nonneg l;refine⟨u,k,h.famOpen j m g n d k (by rw[eo,f];rfl) (fun h=>b (by rw[<-e];exact h)) (hmv (c++[a])) (fun i=>?_)⟩;unfold hmv;rw[List.mem_append,List.mem_singleton];constructor
  · rintro(h|h)
    · exact .inl h
    · exact .inr V
  · rintro(h|h)
    · exact .inl h
    · exact .inr (by rw[h];exact e)
theorem SH.gotC(h:SH w0 M K w hp)(i:Nat)(c:Grow w w')(d:C.VL)(e:C.holds w' (SH.A M hp) C.own')(hn:∀b,C.own' b->w.heap.size<=b):SH w0 M K w' (bH hp i C):=
  h.learn i c hn (Chunk.re d e (fun b a _=>by
    rcases a with a|a|a
    · exact .inl<|.inl a
    · exact .inl<|.inr a
    · exact .inr a))
theorem VT(ho:∀b,C.own' b->b<w0.heap.size->BE b):∀b,C.own' b->w0.heap.size<=b:=fun b a=>Nat.le_of_not_lt (fun hl=>ho b a hl)
theorem nLst_op{R:lV β}:∀(w:al) (A:BS) cs (x:Zi β),(oI R).rd w A cs x->∃u,cs=(bP β).enc x u/\bS R w A u ((bP β).sub x):=fun _ _ _ _ h=>h
end
theorem XH:∀(w:al) (A:BS) cs (x:Frame),fZ.rd w A cs x->∃u,cs=aJ.enc x u/\bS aQ w A u (aJ.sub x):=fun _ _ _ _ h=>h
def CJ{α:Type}(k:Int)(v:α):Zi (Int×α)->Zi (Int×α)
 |[]=>[(k,v)]
 |p::r=>if k=p.1 then(p.1,v)::r else p::CJ k v r
theorem RF{α:Type}{f:α->aj}{k:Int}{v:α}:∀(l:Zi (Int×α)),Pz (l.map fun p=>(p.1,f p.2)) k (f v)=(CJ k v l).map fun p=>(p.1,f p.2)
  |[]=>rfl
  |p::r=>by
    show(if k=p.1 then(p.1,f v)::_ else(p.1,f p.2)::Pz _ k (f v))=_;unfold CJ;split
    · rfl
    · rw[RF r];rfl
theorem LD.keep{w w':al}{K:BS}{b:Nat}{kE:Zi (Int×aj)}(h:LD w b kE)(f:bz K w w')(hn:¬K b):LD w' b kE:=by
 obtain⟨e,c,d,g,a⟩:=h;exact⟨e,c,f.blk d hn,g,a⟩
section
variable{P:br}{w:al}{ρ:bj->aj}{d:Yw Nat}{ty:aw}{pos:String}{af:Array ix}{g:Yw (Nat×Ys)}{T:aw}
theorem r_lk1M{α:Type}{f:α->aj}{zz:α}{z:aj}{x y:bj}{b:Nat}{k:Int}(l:Zi (Int×α))(e:LD w b (l.map fun p=>(p.1,f p.2)))(c:MapOf P T z)(i:ρ x=.map (ah b))(a:ρ y=.int .i64 k)(j:z=f zz):
  (bc ρ ⟨d,.lookup T x y ar,ty,pos,af,g⟩).run P w=.ok (.value (f ((lk k l).getD zz))) w:=by
 have:=r_lookup (d:=d) (ty:=ty) (pos:=pos) (af:=af) (g:=g) c i a e;rw[j,aget_lk]at this;exact this
end
open Go.RowKit Go.Proofs Go.MapKept
section
variable{P:br}{ops:Array du}{Q:fR->Act->al->Prop}{n:Nat}{env:Nat->aj}{w w' w0:al}{M K:BS}{hp:Nat->Chunk}{rest:Zi du}
 {d:Yw Nat} {op:Op} {ty:aw} {pos:String} {af:Array ix} {v:aj} {g:Yw (Nat×Ys)} {T:aw} {ρ:bj->aj}
theorem made_drop(zs:Zi aj)(m q:Nat)(c:q<m):((vr zs.toArray (m*zs.length)).toList.drop (q*zs.length)).take zs.length=zs:=by
  apply cN;intro i;rw[bt];split
  · rename_i hi;rw[ck];have a:q*zs.length+i<m*zs.length:=by
      have:=aU zs.length (show q+1<=m from c);rw[Nat.succ_mul]at this;omega
    have b:(q*zs.length+i)%zs.length=i:=by rw[Nat.mul_comm,Nat.mul_add_mod];exact Nat.mod_eq_of_lt hi
    simp[vr,a,b,hi]
  · rename_i hi;rw[bq V]
theorem MS{α:Type}{R:lV α}{E:aw}{c sz:Nat}{k:Int}{zs:Zi aj}{x y:bj}{a:α}(h:SH w0 M K w hp)(i:Nat)(z:lH P T E sz c)(C:yA P E zs)(hs:R.sz=sz)(r:0<c)(N:ev n env x=.int .i64 k)(hy:ev n env y=.int .i64 k)
    (O:0<=k/\k*c<=140737488355328) (hl:zs.length=sz) (G:∀w A,R.rd w A zs a)
    (F:∀w' u,SH w0 M K w' (bH hp i (.own R E u (List.replicate k.toNat a)))->Grow w w'->(∀b,ob u b->w.heap.size<=b)->WL P ops Q rest n (gz env d u) w'):
    WL P ops Q (⟨d,.makeSlice T x y,ty,pos,af,aE⟩::rest) n env w:=by
  obtain⟨h0,h1⟩:=O;obtain⟨m,rfl⟩:=Int.eq_ofNat_of_zero_le h0;obtain⟨j,z',hi,I,t,p,a0⟩:=z.info;have g:=C.info;rw[hi]at g;simp only[fm,fl,Prod.mk.injEq]at g;have S:m<=m*c:=Nat.le_mul_of_pos_right _ r;have X:m*c<=140737488355328:=by
    have:((m*c:Nat):Int)<=140737488355328:=by rw[Int.natCast_mul];exact h1
    omega
  obtain⟨w',L,ho,hg⟩:=run_make_full (P:=P) w 0 T E j _ sz z.desc hi g.1 t .i64 .i64 m (by rw[p,Nat.mul_comm];omega) (by unfold maxLen;omega) (gd _);have o:Grow w w':=(Dp (v:=.slice aE 0 0) hg).weaken fun _ h _=>h.elim;have l:(bc (ev n env) ⟨d,.makeSlice T x y,ty,pos,af,aE⟩).run P w=.ok (.value<|.slice (ah ⟨w.heap.size,0,aE⟩) m m) w':=by
    simp only[bc,cq,Sem.run_pure,bn,N,hy,L]
  have f:∀b,ob (.slice (ah ⟨w.heap.size,0,aE⟩) m m) b->w.heap.size<=b:=fun b r=>by
    have:b=w.heap.size:=r;omega
  refine aA l<|F w' _ (h.xS i o ⟨(vr zs.toArray<|m*sz).toList,?_,?_⟩ f) o f
  · rw[hs];rw[pn];exact ho
  · intro q B;simp only[pn]at B;have s:q<m:=B;have e:((vr zs.toArray<|m*sz).toList.drop<|q*R.sz).take R.sz=zs:=by rw[hs,<-hl];exact made_drop zs m q s
    rw[e];simp only[List.getElem_replicate];exact G _ _
end
open Go.RowKit Go.Proofs
section
variable{α β:Type}{N:TN α β}{R:lV β}{E Es T:aw}{w0 w w':al}{M K A:BS}{hp:Nat->Chunk}{u u':aj}{us:Zi aj}{L:Zi α}{s:Zi β}{x:α}{k:Nat}
theorem MU{a:Type}{l:Zi a}{z:a}{i:Int}(hi:i=(k:Int))(h:l[i.toNat]? =ah z):l[k]? =ah z:=by subst hi;simpa using h
theorem at_pd{a:Type}{l:Zi a}{z:a}{i:Int}(hi:i=(k:Int))(h:l[k]? =ah z):l[i.toNat]? =ah z:=by subst hi;simpa using h
theorem pd_nat{i:Int}(hi:i=(k:Int)):i.toNat=k:=by subst hi;simp
theorem SH.pendPut0(h:SH w0 M K w hp)(j q m:Nat)(n:hp j=.fC (bB R Es (hge k) us (L.map N.sub)))(o:hp q=.fC (Oz R k us (L.map N.sub)))(l:hp m=.own R Es u s)(b:j≠q)(d:j≠m)(a:q≠m)(f:L[k]? =ah x)(c:us[k]? =ah u')(i:N.sub x=s):
  SH w0 M K w (bH (bH (bH (bH (bH hp q (.fC (Oz R (k+1) (us.set k u) (L.map N.sub)))) j (.fC (bB R Es (hge k) (us.set k u) (L.map N.sub)))) m .no) j (.fC (bB R Es (hge (k+1)) (us.set k u) (L.map N.sub)))) j (.fC (bB R Es (hge (k+1)) (us.set k u) (L.map N.sub)))):=by
 have g:=h.pendPut (y:=x) j q m n o l b d a f c i;have e:(L.map N.sub).set k s=L.map N.sub:=by rw[<-i,<-mb,Ef f]
 rw[e,e,Ef f]at g;exact g
end
theorem EW{α:Type}{b:Nat}{a r:Zi α}(h:clone b a=ah r):a=r:=by
 unfold clone at h;obtain⟨_,h⟩:=bO h;exact cG h
theorem XI{α β:Type}{N:TN α β}{w:al}{B A:BS}{v:aj}{L:Zi α}{us:Zi aj}(h:fB N.raw w B A v (L.zip us))(hl:us.length=L.length):L.length<=9223372036854775807:=by
 have:=h.aO;rwa[gq hl]at this
theorem r_mul{P:br}{w:al}{ρ:bj->aj}{d:Yw Nat}{ty:aw}{pos:String}{af:Array ix}{g:Yw (Nat×Ys)}{x y:bj}{T T2:aw}{p q:Int}(a:ρ x=.int .i64 p)(b:ρ y=.int .i64 q)(h: -9223372036854775808<=p*q/\p*q<=9223372036854775807):
  (bc ρ ⟨d,.binOp .mul T x y T2,ty,pos,af,g⟩).run P w=.ok (.value (.int .i64 (p*q))) w:=by
 simp[bc,a,b,eqGuard,binOp,Op.intArith,wrap_in h.1 h.2]
open Go.RowKit Go.Proofs
theorem RG{cs vs:Zi aj}{o:Nat}(h:o+vs.length<=cs.length)(j:Nat):(Oo cs o vs)[j]? =if j<o then cs[j]? else if j<o+vs.length then vs[j-o]? else cs[j]? :=by
  unfold Oo;have a:(cs.take o).length=o:=by rw[bo];omega
  by_cases b:j<o
  · rw[Z2 b,bf,nd V,bt,Z2 b]
  · rw[Z3 b];by_cases c:j<o+vs.length
    · rw[Z2 c,bf,mx V,a,nd V]
    · rw[Z3 c,mx (by rw[an,a];omega),an,a,ck];congr 1;omega
theorem spl_len{cs vs:Zi aj}{o:Nat}(h:o+vs.length<=cs.length):(Oo cs o vs).length=cs.length:=by
 unfold Oo;simp only[an,bo,cp];omega
theorem spl_take{cs vs:Zi aj}{o n:Nat}(h:o+vs.length<=n)(hn:n<=cs.length):(Oo cs o vs).take n=Oo (cs.take n) o vs:=by
  apply cN;intro j;have hl:(cs.take n).length=n:=by rw[bo];omega
  rw[bt,RG V,RG V,bt];by_cases a:j<n
  · rw[Z2 a,Z2 a]
  · rw[Z3 a,Z3 V,Z3 V,Z3 a]
theorem spl_self{cs vs:Zi aj}{o:Nat}(h:o+vs.length<=cs.length):((Oo cs o vs).drop o).take vs.length=vs:=by
  apply cN;intro j;rw[bt,ck,RG h];by_cases a:j<vs.length
  · rw[Z2 a,Z3 V,Z2 V];congr 1;omega
  · rw[Z3 a,bq V]
theorem spl_other{cs vs:Zi aj}{o p s:Nat}(h:o+vs.length<=cs.length)(hp:p+s<=o\/o+vs.length<=p):((Oo cs o vs).drop p).take s=(cs.drop p).take s:=by
  apply cN;intro j;rw[bt,ck,RG h,bt,ck];by_cases a:j<s
  · rw[Z2 a,Z2 a];by_cases b:p+j<o
    · rw[Z2 b]
    · rw[Z3 b,Z3 V]
  · rw[Z3 a,Z3 a]
section
variable{P:br}{ops:Array du}{Q:fR->Act->al->Prop}{n:Nat}{env:Nat->aj}{w w' w0:al}{M K:BS}{hp:Nat->Chunk}{rest:Zi du}
 {d:Yw Nat} {op:Op} {ty:aw} {pos:String} {af:Array ix} {v:aj} {g:Yw (Nat×Ys)} {T:aw} {ρ:bj->aj} {x y:bj}
theorem qi{α:Type}{R:lV α}{E:aw}{sz:Nat}{l:Zi α}{k:Int}{a a':α}{b:Nat}{zs vs:Zi aj}{u:aj}(h:SH w0 M K w hp)(i:Nat)(hi:hp i=.own R E u l)(C:ob u b)(hs:R.sz=sz)(hk:l[k.toNat]? =ah a)(hT:yA P T zs)(c:ev n env x=.pointer (ah ⟨b,k.toNat*sz,aE⟩))
    (hy:ev n env y=.agg vs.toArray) (hl:vs.length=zs.length) (B:zs.length=sz) (hset:R.rd w (SH.A M hp) vs a')
    (kk:∀w',SH w0 M K w' (bH hp i (.own R E u (l.set k.toNat a')))->bz (ob u) w w'->WL P ops Q rest n (gz env d gj) w'):
    WL P ops Q (⟨d,.store T x y,ty,pos,af,aE⟩::rest) n env w:=by
  subst hs;have v:k.toNat<l.length:=P5 hk;generalize k.toNat=k at*;have f:∀b,ob u b->SH.A M hp b:=fun b C=>.inr ⟨i,by rw[hi];exact C⟩;obtain⟨xs,G,S⟩:=h.aZ i hi;rcases G.2 with⟨rfl,hn⟩|⟨g',cap,cur,rfl,e1,e2,e3,e4,e5,e6⟩
  · omega
  have z:b=g':=C;subst z;have F:(k+1)*R.sz<=l.length*R.sz:=aU _ v;have O:l.length*R.sz<=cap*R.sz:=aU _ e3;rw[bw]at F;have L:vs.length=R.sz:=hl.trans B;have t:cur.toList.length=cap*R.sz:=by simpa using e5
  have X:xs.length=l.length*R.sz:=G.1;have r:k*R.sz+vs.length<=cur.toList.length:=by omega
  have o:k*R.sz+vs.length<=xs.length:=by omega
  have m:=bz.zn w b<|.cells (Oo cur.toList (k*R.sz) vs).toArray E (0,0);have s:=VC (P:=P) (w:=w) (ρ:=ev n env) (d:=d) (ty:=ty) (pos:=pos) (af:=af) (g:=aE) (cs:=cur.toList) (E:=E) hT c (by simpa using e2) hy hl r<|R.one hset;refine Dn s (kk _ (h.step i m (fun x c _=>by rw[hi];exact c) (fun x c _=>by rw[hi];exact c) ⟨Oo xs (k*R.sz) vs,⟨?_,.inr ⟨b,cap,(Oo cur.toList (k*R.sz) vs).toArray,?_,e1,?_,?_,e4,?_,?_⟩⟩,?_⟩) (m.weaken (fun x c _=>c)))
  · rw[spl_len o,cj];exact G.1
  · rw[cj]
  · rw[yG (iQ e2)]
  · rw[cj];exact e3
  · rw[w5,spl_len r];exact t
  · rw[cj];show(Oo cur.toList (k*R.sz) vs).take (l.length*R.sz)=Oo xs (k*R.sz) vs;rw[spl_take V V,e6]
  · intro p N;have I:p<l.length:=by rwa[cj]at N
    have q:=fun cs a(h:R.rd w (SH.A M hp) cs a)=>R.go (A':=fun x=>(M x\/(SH.av hp i (.own R E (.slice (ah ⟨b,0,aE⟩) l.length cap) (l.set k a'))) x)\/ob (.slice (ah ⟨b,0,aE⟩) l.length cap) x) h m (fun x c _=>f x c) (fun x c _=>by
      rcases c with(c|c|c)|c
      · exact .inl c
      · exact .inr<|nz c
      · exact f x c
      · exact f x c)
    have hq:=fun j(hj:j<l.length)=>R.go (A':=SH.A M hp) (S j hj) (bz.refl BE w) (fun _ h=>h.elim) fun x c _=>.inl c;by_cases hik:p=k
    · subst hik;rw[pk];have e:=spl_self o;rw[L]at e;rw[e];exact q _ _ hset
    · rw[qS (Ne.symm hik),spl_other o]
      · exact q _ _<|hq p I
      · rcases cE k p with h5|h5
        · right;have:(k+1)*R.sz<=p*R.sz:=aU _ h5;rw[bw]at this;omega
        · left;have:(p+1)*R.sz<=k*R.sz:=aU _ V;rw[bw]at this;omega
end
section
variable{α β:Type}{N:TN α β}{R:lV β}{E Es T:aw}{w0 w w':al}{M K A:BS}{hp:Nat->Chunk}{us:Zi aj}{L:Zi α}{x:α}{k:Nat}
theorem SH.zu(h:SH w0 M K w hp)(j m:Nat)(s:Zi β)(d:hp j=.fC (bB R Es hn us (L.map N.sub)))(c:hp m=.no)(a:j≠m)(b:L[k]? =ah x)(hs:N.sub x=s):
 ∃u,us[k]? =ah u/\SH w0 M K w (bH (bH hp j (.fC (bB R Es (hat k) us (L.map N.sub)))) m (.own R Es u s)):=by subst hs;exact h.dnOpen j m d c a b
theorem SH.mvOpenL{c:Zi Int}{b:Int}(h:SH w0 M K w hp)(j m:Nat)(s:Zi β)(i:hp j=.fC (bB R Es (hmv c) us (L.map N.sub)))(g:hp m=.no)(d:j≠m)(e:0<=b)(f:L[b.toNat]? =ah x)(a:b∉c)(hs:N.sub x=s):
 ∃u,us[b.toNat]? =ah u/\SH w0 M K w (bH (bH hp j (.fC (bB R Es (hmv (c++[b])) us (L.map N.sub)))) m (.own R Es u s)):=by subst hs;exact h.mvOpen j m i g d e f a
theorem SH.rdpAtL(h:SH w0 M K w hp)(q:Nat)(s:Zi β)(a:hp q=.fC (Oz R k us (L.map N.sub)))(hl:us.length=L.length)(b:L[k]? =ah x)(hs:N.sub x=s):∃u,us[k]? =ah u/\bS R w (SH.A M hp) u s:=by subst hs;exact h.rdpAt q a hl b
end
open Go.RowKit Go.Proofs
def Chunk.flat:Chunk->Prop
 | .no=>True
 | .own R _ _ _=>∀w A A' cs x,R.rd w A cs x->R.rd w A' cs x
 | .two a b=>a.flat/\b.flat
 | .fC S=>∀w A A',S.P w A->S.P w A'
 |_=>False
theorem cz.flat{α:Type}{R:lV α}{E:aw}{w:al}{A A':BS}{v:aj}{l:Zi α}(c:∀w A A' cs x,R.rd w A cs x->R.rd w A' cs x)(h:cz R E w A v l):cz R E w A' v l:=by
 obtain⟨xs,a,b⟩:=h;exact⟨xs,a,fun i hi=>c _ _ _ _ _<|b i hi⟩
theorem Chunk.flatten{c:Chunk}{w:al}{M O e f:BS}(d:c.flat)(h:c.holds w M O):c.holds w e f:=by
 induction c with
 |no=>trivial
 |own R E v l=>exact cz.flat d h
 |two a b ha hb=>exact⟨ha d.1 h.1,hb d.2 h.2.1,h.2.2⟩
 |fC S=>exact d _ _ _ h
 |_=>exact d.elim
theorem RH{β:Type}{R:lV β}{E:aw}{ho:Nat->Prop}{us:Zi aj}{ss:Zi (Zi β)}(e:∀w A A' cs x,R.rd w A cs x->R.rd w A' cs x):∀w A A',(bB R E ho us ss).P w A->(bB R E ho us ss).P w A':=by
 rintro w A A'⟨b,d,a⟩;exact⟨b,fun i u s c hs hi=>cz.flat e<|d i u s c hs hi,a⟩
theorem fB.toBE{α:Type}{R:lV α}{w:al}{B A:BS}{v:aj}{l:Zi α}(h:fB R w B A v l):fB R w BE BE v l:=
 fB.go h (bz.refl BE w) (fun _ h=>h.elim) (fun _ h=>h.elim) (fun _ h=>h.elim) (fun _ h=>h.elim)
section
variable{α β:Type}{N:TN α β}{R:lV β}{E Es T:aw}{w0 w w':al}{M K A:BS}{hp:Nat->Chunk}{v u u':aj}{us us':Zi aj}{L L':Zi α}
theorem SH.P6{R':lV α}(h:SH w0 M K w hp)(i j:Nat)(hi:hp i=.own N.raw E v (L.zip us))(d:hp j=.fC (bB R Es hn us (L.map N.sub)))(b:i≠j)(a:R'.sz=N.sz)(c:∀w A x u,bS R w A u (N.sub x)->R'.rd w A (N.enc x u) x):fB R' w BE BE v L:=
 fB.toBE ((h.MQ i j hi d b a c).aR i (bN _ _ _))
theorem SH.gotCF{C:Chunk}{O:BS}(h:SH w0 M K w hp)(i:Nat)(c:Grow w w')(d:C.VL)(a:C.flat)(e:C.holds w' BE O)(hn:∀b,C.own' b->w.heap.size<=b):SH w0 M K w' (bH hp i C):=
 h.gotC i c d (Chunk.flatten a e) hn
end
section
variable{P:br}{Q:fR->Act->al->Prop}{n:Nat}{env:Nat->aj}{w w' w0:al}{M K:BS}{hp:Nat->Chunk}
theorem VU{k:Func}{R:mv->al->Prop}{t u j a:Tmp}{T:aw}{v2 v3 v4:aj}{zs vs:Zi aj}{b:Nat}(o:k.results= #[.cell a T,.tmp t,.tmp u,.tmp j])(s:ev n env (.tmp a)=.pointer (ah ⟨b,0,aE⟩))(l:ev n env (.tmp t)=v2)(r:ev n env (.tmp u)=v3)(q:ev n env (.tmp j)=v4)
  (p:SH w0 M K w hp) (i:Nat) (hi:hp i=.blk b vs) (m:yA P T zs) (hl:vs.length=zs.length) (h:R (.returned (.tuple #[.agg vs.toArray,v2,v3,v4])) w):km P k R .ret (act n env) w:=by
 refine⟨Z,_,?_,h⟩;have f:=congrFun (iT n env)<|.tmp t;have c:=congrFun (iT n env)<|.tmp u;have d:=congrFun (iT n env)<|.tmp j;have e:=congrFun (iT n env)<|.tmp a;rw[l]at f;rw[r]at c;rw[q]at d;rw[s]at e;simp only[Act.eval]at f c e d;rw[cM]at f c e d;have g:=ER (P:=P) p hi m hl Z;unfold results;rw[o];simp[f,c,e,d,asAddr,g]
end
section
variable{α β:Type}{R:lV α}{E:aw}{w0 w:al}{M K:BS}{hp:Nat->Chunk}{v:aj}{l:Zi α}{C:Chunk}
theorem SH.ownSrB(h:SH w0 M K w hp)(i j:Nat)(a:i≠j)(d:hp j=.own R E v l)(hi:hp i=C):bS R w (fun b=>BE b\/C.own' b) v l:=
 (h.ownSr i j a d hi).sub (fun b c _=>c.elim (fun e=>e.elim) id) (fun b c _=>c.elim (fun e=>e.elim) .inr)
theorem ap_BE{C:Chunk}:∀b,C.own' b->¬BE b:=fun _ _ h=>h
end
structure XJ where
 said:Bool
 n:Int
 paused:Bool
structure qy where
 l:List Int
 bad:Bool
open Go.RowKit Go.Proofs
theorem spl_mid{xs vs:Zi aj}{p s off:Nat}(h:off+vs.length<=s)(hp:p+s<=xs.length):((Oo xs (p+off) vs).drop p).take s=Oo ((xs.drop p).take s) off vs:=by
  apply cN;intro j;have hl:((xs.drop p).take s).length=s:=by rw[bo,cp];omega
  rw[RG V,bt];by_cases a:j<s
  · rw[Z2 a,ck,RG V,bt,Z2 a,ck];by_cases b:j<off
    · rw[Z2 b,Z2 V]
    · rw[Z3 b,Z3 V];by_cases c:j<off+vs.length
      · rw[Z2 c,Z2 V,show p+j-(p+off)=j-off by omega]
      · rw[Z3 c,Z3 V]
  · rw[Z3 a,Z3 V,Z3 V,bt,Z3 a]
section
variable{P:br}{ops:Array du}{Q:fR->Act->al->Prop}{n:Nat}{env:Nat->aj}{w w' w0:al}{M K:BS}{hp:Nat->Chunk}{rest:Zi du}
 {d:Yw Nat} {op:Op} {ty:aw} {pos:String} {af:Array ix} {v:aj} {g:Yw (Nat×Ys)} {T:aw} {ρ:bj->aj} {x y:bj}
theorem w_stOP{α:Type}{R:lV α}{E:aw}{sz:Nat}{l:Zi α}{k:Int}{a a':α}{b off:Nat}{zs vs:Zi aj}{u:aj}(h:SH w0 M K w hp)(i:Nat)(hi:hp i=.own R E u l)(C:ob u b)(hs:R.sz=sz)(F:l[k.toNat]? =ah a)(hT:yA P T zs)(c:ev n env x=.pointer (ah ⟨b,k.toNat*sz+off,aE⟩))
    (hy:ev n env y=.agg vs.toArray) (hl:vs.length=zs.length) (r:oj (off+vs.length) sz=ba) (p:∀u∈vs,u.oneCell'=ba) (hset:∀cs,R.rd w (SH.A M hp) cs a->R.rd w (SH.A M hp) (Oo cs off vs) a')
    (kk:∀w',SH w0 M K w' (bH hp i (.own R E u (l.set k.toNat a')))->bz (ob u) w w'->WL P ops Q rest n (gz env d gj) w'):
    WL P ops Q (⟨d,.store T x y,ty,pos,af,aE⟩::rest) n env w:=by
  subst hs;rw[te]at r;have f:k.toNat<l.length:=P5 F;have N:l[k.toNat]=a:=by rw[bh f]at F;exact cG F
  generalize k.toNat=k at*;have e:∀b,ob u b->SH.A M hp b:=fun b C=>.inr ⟨i,by rw[hi];exact C⟩;obtain⟨xs,I,q3⟩:=h.aZ i hi;rcases I.2 with⟨rfl,hn⟩|⟨g',cap,cur,rfl,e1,e2,e3,e4,e5,e6⟩
  · omega
  have B:b=g':=C;subst B;have G:(k+1)*R.sz<=l.length*R.sz:=aU _ f;have X:l.length*R.sz<=cap*R.sz:=aU _ e3;rw[bw]at G;have z:cur.toList.length=cap*R.sz:=by simpa using e5
  have a0:xs.length=l.length*R.sz:=I.1;have s:k*R.sz+off+vs.length<=cur.toList.length:=by omega
  have t:k*R.sz+off+vs.length<=xs.length:=by omega
  have o:=bz.zn w b<|.cells (Oo cur.toList (k*R.sz+off) vs).toArray E (0,0);have v:=VC (P:=P) (w:=w) (ρ:=ev n env) (d:=d) (ty:=ty) (pos:=pos) (af:=af) (g:=aE) (cs:=cur.toList) (E:=E) hT c (by simpa using e2) hy hl s p;refine Dn v (kk _ (h.step i o (fun x c _=>by rw[hi];exact c) (fun x c _=>by rw[hi];exact c) ⟨Oo xs (k*R.sz+off) vs,⟨?_,.inr ⟨b,cap,(Oo cur.toList (k*R.sz+off) vs).toArray,?_,e1,?_,?_,e4,?_,?_⟩⟩,?_⟩) (o.weaken (fun x c _=>c)))
  · rw[spl_len t,cj];exact I.1
  · rw[cj]
  · rw[yG (iQ e2)]
  · rw[cj];exact e3
  · rw[w5,spl_len s];exact z
  · rw[cj];show(Oo cur.toList (k*R.sz+off) vs).take (l.length*R.sz)=Oo xs (k*R.sz+off) vs;rw[spl_take V V,e6]
  · intro m O;have L:m<l.length:=by rwa[cj]at O
    have q:=fun cs a(h:R.rd w (SH.A M hp) cs a)=>R.go (A':=fun x=>(M x\/(SH.av hp i (.own R E (.slice (ah ⟨b,0,aE⟩) l.length cap) (l.set k a'))) x)\/ob (.slice (ah ⟨b,0,aE⟩) l.length cap) x) h o (fun x c _=>e x c) (fun x c _=>by
      rcases c with(c|c|c)|c
      · exact .inl c
      · exact .inr<|nz c
      · exact e x c
      · exact e x c)
    have S:=fun j(hj:j<l.length)=>R.go (A':=SH.A M hp) (q3 j hj) (bz.refl BE w) (fun _ h=>h.elim) fun x c _=>.inl c;by_cases hik:m=k
    · subst hik;rw[pk];rw[spl_mid r V];exact q _ _<|hset _<|N▸S m f
    · rw[qS (Ne.symm hik),spl_other t]
      · exact q _ _<|S m L
      · rcases cE k m with h5|h5
        · right;have:(k+1)*R.sz<=m*R.sz:=aU _ h5;rw[bw]at this;omega
        · left;have:(m+1)*R.sz<=k*R.sz:=aU _ V;rw[bw]at this;omega
end
open Go.RowKit Go.Proofs
def nIns:TN Ins Int where
 sz:=5
 enc x u:=[.int .i64 x.op,.int .i64 x.a,.int .i64 x.b,.int .i64 x.c,u]
 sub x:=x.args
 put x s:={x with args:=s}
 len _ _:=rfl
 one:=by intro x u h c hc;simp only[bp,cO,or_false]at hc;rcases hc with rfl|rfl|rfl|rfl|rfl<;>first|rfl|exact h
 pos:=by decide
 VO _ _ _:=rfl
 VP _ _:=rfl
theorem nIns_br:∀w A (x:Ins) u,bS bC w A u (nIns.sub x)->lJ.rd w A (nIns.enc x u) x:=fun _ _ _ u h=>⟨u,rfl,h⟩
theorem nIns_op:∀(w:al) (A:BS) cs (x:Ins),lJ.rd w A cs x->∃u,cs=nIns.enc x u/\bS bC w A u (nIns.sub x):=fun _ _ _ _ h=>h
theorem nProc_op:∀(w:al) (A:BS) cs (x:bX),dJ.rd w A cs x->∃u,cs=MR.enc x u/\bS lJ w A u (MR.sub x):=fun _ _ _ _ h=>h
theorem cells_two{cs:Zi aj}{k:Nat}{u v:aj}(h:(cs.drop k).take 2=[u,v]):(cs.drop k).take 1=[u]/\(cs.drop (k+1)).take 1=[v]:=by
  constructor
  · have:=ZD (List.take 1) h;rw[List.take_take]at this;exact this
  · have:=ZD (List.drop 1) h;rw[List.drop_take,List.drop_drop]at this;exact this
section
variable{α β:Type}{N:TN α β}{R:lV β}{E Es T:aw}{w0 w w':al}{M K A:BS}{hp:Nat->Chunk}{v u u':aj}{us us':Zi aj}{L L':Zi α}{ss ss':Zi (Zi β)}{s:Zi β}{x y:α}{k:Nat}
theorem SH.pendSet(h:SH w0 M K w hp)(j q:Nat)(b:hp j=.fC (bB R Es (hge k) us (L.map N.sub)))(f:hp q=.fC (Oz R k us (L.map N.sub)))(a:j≠q)(g:L[k]? =ah x):
  SH w0 M K w (bH (bH hp q (.fC (Oz R (k+1) (us.set k u) (L.map N.sub)))) j (.fC (bB R Es (hge k) (us.set k u) (L.map N.sub)))):=by
 have d:=h.rdpStep (u:=u) (s:=N.sub x) q f;have hl:=h.jP j b;have c:=d.famRe (us':=us.set k u) (ss':=(L.map N.sub).set k (N.sub x)) j (by rw[fe a];exact b) (by simp[hl]) (fun i hi=>by
  have:k≠i:=fun e=>hi (by subst e;exact cv _);rw[dv this,dv this];exact⟨Z,Z⟩)
 have e:(L.map N.sub).set k (N.sub x)=L.map N.sub:=by rw[<-mb,Ef g]
 rw[e]at c;exact c
theorem SH.pendDel(h:SH w0 M K w hp)(j m:Nat)(d:hp j=.fC (bB R Es (hge k) us (L.map N.sub)))(c:hp m=.own R Es u s)(a:j≠m)(g:L[k]? =ah x)(f:us[k]? =ah u)(hs:N.sub x=s):
    SH w0 M K w (bH (bH hp m .no) j (.fC (bB R Es (hge (k+1)) us (L.map N.sub)))):=by
  have b:=h.MP j m (k:=k) (u:=u) (s:=s) d c a f (cv k) (hge (k+1)) (fun i=>⟨fun hi=>by
    rcases w4 (show k<=i from hi)with e|e
    · exact .inr e.symm
    · exact .inl e,fun hi=>hi.elim (fun hi=>x5 hi) (fun e=>by subst e;exact cv _)⟩) (fun hi=>Zs hi (vh k))
  have e:(L.map N.sub).set k s=L.map N.sub:=by rw[<-hs,<-mb,Ef g]
  rw[e]at b;exact b
theorem SH.dnOwn{R':lV α}(h:SH w0 M K w hp)(i j:Nat)(hi:hp i=.own N.raw E v (L.zip us))(f:hp j=.fC (bB R Es hn us (L.map N.sub)))(o:i≠j)(g:R'.sz=N.sz)(F:∀w A x u,bS R w A u (N.sub x)->R'.rd w A (N.enc x u) x):SH w0 M K w (bH (bH hp j .no) i (.own R' E v L)):=by
  have hl:=h.jP j f;have n:=h.pair i j o;have k:=n.apart i;have y:=n.apM i;have l:=n.ok i;rw[bN]at k y;rw[bN,hi,f]at l;have z:=n.step (c:=.own R' E v L) i (bz.refl BE w) (fun _ h=>h.elim) (fun b a _=>by rw[bN,hi];exact .inl a) ?_
  · rw[Gz]at z;exact z
  · have hno:∀b,(hp j).own' b->¬((M b\/SH.av (bH (bH hp j .no) i<|.two (hp i)<|hp j) i (.own R' E v L) b)\/ob v b):=by
      intro b a d;rcases d with(d|⟨q,m,d⟩|d)|d
      · exact y b (.inr a) d
      · exact k q (fun e=>m e.symm) b (.inr a) d
      · exact l.2.2 b d (by rw[<-f];exact a)
      · exact l.2.2 b d (by rw[<-f];exact a)
    have hA:∀b,((M b\/SH.av (bH (bH hp j .no) i<|.two (hp i)<|hp j) i (.own R' E v L) b)\/ob v b)->M b\/jH (bH (bH hp j .no) i<|.two (.own N.raw E v<|L.zip us)<|.fC<|bB R Es hn us<|L.map N.sub) b:=by
      rw[hi,f];have r:∀b,ob v b->jH (bH (bH hp j .no) i (.two (.own N.raw E v (L.zip us)) (.fC (bB R Es hn us (L.map N.sub))))) b:=fun b a=>⟨i,by rw[bN];exact .inl a⟩;rintro b((a|a|a)|a)
      · exact .inl a
      · exact .inr<|nz a
      · exact .inr<|r b a
      · exact .inr<|r b a
    obtain⟨xs,s,B⟩:=l.1;refine⟨xs,?_,fun q m=>?_⟩
    · rw[gq hl]at s;show w.ownsRow 0 E R'.sz v L.length xs;rw[g];exact s
    · have p:q<(L.zip us).length:=by rw[gq hl];exact m
      have t:=B q p;have G:(L.zip us)[q]=(L[q],us[q]'V):=by simp
      rw[G]at t;obtain⟨I,_⟩:=t;have C:((xs.drop<|q*N.sz).take N.sz)=N.enc L[q] (us[q]'V):=I;show R'.rd w _ ((xs.drop<|q*R'.sz).take R'.sz) L[q];rw[g,C];exact F _ _ _ _ (cz.rd (l.2.1.2.1 q _ _ (bh V) (by rw[eo,bh m];rfl) (fun h=>h)) (fun b a=>hno b (by rw[f];exact⟨q,_,bh V,fun h=>h,a⟩)) (fun b a _=>.inl (.inl (hA b a))))
end
structure iI where
 cos:List Co
 safe:List UInt8
 wait:List UInt8
 up:Bool
def fK:lV iI where
 sz:=4
 rd w A cs x:=∃vcos,∃Ig,∃Ih,cs=[vcos,Ig,Ih,.bool x.up]/\bS xR w A vcos x.cos/\bS gN w A Ig x.safe/\bS gN w A Ih x.wait
 len:=by rintro w A cs x ⟨vcos,Ig,Ih,rfl,h0,h1,h2⟩;rfl
 one:=by rintro w A cs x ⟨vcos,Ig,Ih,rfl,h0,h1,h2⟩ u hu;simp only[bp,cO,or_false]at hu;rcases hu with rfl|rfl|rfl|rfl<;>first|rfl|exact h0.one|exact h1.one|exact h2.one
 pos:=by decide
 go:=by rintro w A cs x w2 A2 K ⟨vcos,Ig,Ih,rfl,h0,h1,h2⟩ hk hK hA;exact⟨_,_,_,Z,h0.go hk hK hA,h1.go hk hK hA,h2.go hk hK hA⟩
theorem gZ{w:al}{A:BS}{cs:Zi aj}{x:iI}(h:fK.rd w A cs x):∃a,∃b,∃c,cs=[a,b,c,.bool x.up]/\bS xR w A a x.cos/\bS gN w A b x.safe/\bS gN w A c x.wait:=h
structure aX where
 prog:List bX
 places:List iI
 gM:List lI
def rWorld:lV aX where
 sz:=3
 rd w A cs x:=∃vprog,∃LQ,∃vmail,cs=[vprog,LQ,vmail]/\bS dJ w A vprog x.prog/\bS fK w A LQ x.places/\bS gm w A vmail x.gM
 len:=by rintro w A cs x ⟨vprog,LQ,vmail,rfl,h0,h1,h2⟩;rfl
 one:=by rintro w A cs x ⟨vprog,LQ,vmail,rfl,h0,h1,h2⟩ u hu;simp only[bp,cO,or_false]at hu;rcases hu with rfl|rfl|rfl<;>first|rfl|exact h0.one|exact h1.one|exact h2.one
 pos:=by decide
 go:=by rintro w A cs x w2 A2 K ⟨vprog,LQ,vmail,rfl,h0,h1,h2⟩ hk hK hA;exact⟨_,_,_,Z,h0.go hk hK hA,h1.go hk hK hA,h2.go hk hK hA⟩
theorem rWorld_open{w:al}{A:BS}{cs:Zi aj}{x:aX}(h:rWorld.rd w A cs x):∃a,∃c,∃b,cs=[a,c,b]/\bS dJ w A a x.prog/\bS fK w A c x.places/\bS gm w A b x.gM:=h
structure uP where
 kind:Int
 place:Int
 co:Int
 n:Int
def rHap:lV uP where
 sz:=4
 rd w A cs x:=cs=[.int .i64 x.kind,.int .i64 x.place,.int .i64 x.co,.int .i64 x.n]
 len:=by rintro w A cs x rfl;rfl
 one:=by rintro w A cs x rfl u hu;simp only[bp,cO,or_false]at hu;rcases hu with rfl|rfl|rfl|rfl<;>first|rfl
 pos:=by decide
 go:=fun h _ _ _=>h
open Go Go.RowKit Go.Proofs
section
variable{P:br}{ops:Array du}{Q:fR->Act->al->Prop}{rest:Zi du}{n:Nat}{env:Nat->aj}{w w0:al}{M K:BS}{hp:Nat->Chunk}{d:Yw Nat}{ty:aw}{pos:String}{af:Array ix}{x y:bj}{T:aw}{v:aj}
theorem mI{i:Int}(a:ev n env x=.int .i64 i)(h:WL P ops Q rest n (gz env d (.int .i64 i)) w):WL P ops Q (⟨d,.move x,ty,pos,af,aE⟩::rest) n env w:=aA (eu a) h
theorem mB{i:Ys}(a:ev n env x=.bool i)(h:WL P ops Q rest n (gz env d (.bool i)) w):WL P ops Q (⟨d,.move x,ty,pos,af,aE⟩::rest) n env w:=aA (eu a) h
theorem mP{i:Yw Addr}(a:ev n env x=.pointer i)(h:WL P ops Q rest n (gz env d (.pointer i)) w):WL P ops Q (⟨d,.move x,ty,pos,af,aE⟩::rest) n env w:=aA (eu a) h
theorem mV(v:aj)(a:ev n env x=v)(h:WL P ops Q rest n (gz env d v) w):WL P ops Q (⟨d,.move x,ty,pos,af,aE⟩::rest) n env w:=aA (eu a) h
theorem aI{i:Int}(a:ev n env x=.int .i64 i)(h:WL P ops Q rest n (gz env d (.int .i64 i)) w):WL P ops Q (⟨d,.assign x,ty,pos,af,aE⟩::rest) n env w:=aA (j6 a) h
theorem aB{i:Ys}(a:ev n env x=.bool i)(h:WL P ops Q rest n (gz env d (.bool i)) w):WL P ops Q (⟨d,.assign x,ty,pos,af,aE⟩::rest) n env w:=aA (j6 a) h
theorem aP{i:Yw Addr}(a:ev n env x=.pointer i)(h:WL P ops Q rest n (gz env d (.pointer i)) w):WL P ops Q (⟨d,.assign x,ty,pos,af,aE⟩::rest) n env w:=aA (j6 a) h
theorem aV(v:aj)(a:ev n env x=v)(h:WL P ops Q rest n (gz env d v) w):WL P ops Q (⟨d,.assign x,ty,pos,af,aE⟩::rest) n env w:=aA (j6 a) h
theorem lB{z:aj}{b o:Nat}{cs:Zi aj}(h:SH w0 M K w hp)(i:Nat)(a:One P T z)(e:(hp i,ev n env x,cs[o]?)=(Chunk.blk b cs,hZ (ah ⟨b,o,aE⟩),ah v))(k:WL P ops Q rest n (gz env d v) w):WL P ops Q (⟨d,.load T x,ty,pos,af,aE⟩::rest) n env w:=by
 injection e with e1 e2;injection e2 with e2 e3;exact aA (dW h i e1 a e2 e3) k
theorem lBN{zs vs:Zi aj}{b o:Nat}{cs:Zi aj}(h:SH w0 M K w hp)(i:Nat)(a:yA P T zs)(e:(hp i,ev n env x,(cs.drop o).take zs.length,vs.length)=(Chunk.blk b cs,hZ (ah ⟨b,o,aE⟩),vs,zs.length))(k:WL P ops Q rest n (gz env d (.agg vs.toArray)) w):WL P ops Q (⟨d,.load T x,ty,pos,af,aE⟩::rest) n env w:=by
 injection e with e1 e2;injection e2 with e2 e3;injection e3 with e3 e4;exact aA (wV h i e1 a e2 e3 e4) k
theorem rF{b o k off:Nat}(c:ed P T k off)(a:ev n env x=.pointer (ah ⟨b,o,aE⟩))(h:WL P ops Q rest n (gz env d (.pointer (ah ⟨b,o+off,aE⟩))) w):WL P ops Q (⟨d,.fieldAddr T x k,ty,pos,af,aE⟩::rest) n env w:=aA (dC c a) h
theorem w_stA{zs:Zi aj}{b:Nat}{cs:Zi aj}(h:SH w0 M K w hp)(i:Nat)(vs:Zi aj)(c:yA P T zs)(e:(hp i,ev n env x,ev n env y,vs.length,cs.length)=(Chunk.blk b cs,hZ (ah ⟨b,0,aE⟩),w6 vs.toArray,zs.length,vs.length))(a:∀v∈vs,v.oneCell'=ba)
  (k:∀w',SH w0 M K w' (bH hp i (.blk b vs))->WL P ops Q rest n (gz env d gj) w'):WL P ops Q (⟨d,.store T x y,ty,pos,af,aE⟩::rest) n env w:=by
 injection e with e1 e2;injection e2 with e2 e3;injection e3 with e3 e4;injection e4 with e4 e5;refine w_stN h i vs e1 c e2 e3 e4 ?_ (by rw[te];omega) a k;unfold Oo;simp[e5]
theorem aS{f:hQ}{first captured:Array aj}{xs:Array bj}{a:Array aw}{args:Zi aj}(h:SH w0 M K w hp)(c:VD P f)(i:ev n env x=.func (.func f) first captured)
  (j:first.toList++xs.toList.map (ev n env)++captured.toList=args) (b:bk P f args.toArray w (fun e w'=>Grow w w'/\e=.returned v)) (k:∀w',SH w0 M K w' hp->WL P ops Q rest n (gz env d v) w'):
  WL P ops Q (⟨d,.call {callee:=.value x,args:=xs,argTypes:=a},ty,pos,af,aE⟩::rest) n env w:=
 bA c i j b (by rintro _ w' ⟨g,rfl⟩;exact⟨_,Z,k w' (h.grow g)⟩)
theorem RI{α:Type}{R:lV α}{l:Zi α}{f:hQ}{first captured:Array aj}{xs:Array bj}{a:Array aw}{args:Zi aj}{F:aj->aj}(h:SH w0 M K w hp)(i:Nat)(j:VD P f)(b:ev n env x=.func (.func f) first captured)
  (m:first.toList++xs.toList.map (ev n env)++captured.toList=args) (c:bk P f args.toArray w (fun e w'=>Grow w w'/\∃u,e=.returned (F u)/\bS R w' (SH.A M hp) u l)) (k:∀w' u,SH w0 M K w' (bH hp i (.rd R u l))->WL P ops Q rest n (gz env d (F u)) w'):
  WL P ops Q (⟨d,.call {callee:=.value x,args:=xs,argTypes:=a},ty,pos,af,aE⟩::rest) n env w:=
 bA j b m c (by rintro _ w' ⟨g,u,rfl,g2⟩;exact⟨_,Z,k w' u (h.Cs i g g2)⟩)
theorem gP{α:Type}{R:lV α}{E:aw}{l:Zi α}{f:hQ}{first captured:Array aj}{xs:Array bj}{a:Array aw}{args:Zi aj}{F:aj->aj}(h:SH w0 M K w hp)(i:Nat)(o:VD P f)(j:ev n env x=.func (.func f) first captured)
  (p:first.toList++xs.toList.map (ev n env)++captured.toList=args) (m:bk P f args.toArray w (fun e w'=>Grow w w'/\∃u,e=.returned (F u)/\cz R E w' (SH.A M hp) u l/\(∀b,ob u b->w.heap.size<=b))) (k:∀w' u,SH w0 M K w' (bH hp i (.own R E u l))->WL P ops Q rest n (gz env d (F u)) w'):
  WL P ops Q (⟨d,.call {callee:=.value x,args:=xs,argTypes:=a},ty,pos,af,aE⟩::rest) n env w:=
 bA o j p m (by rintro _ w' ⟨g,u,rfl,g2,c⟩;exact⟨_,Z,k w' u (h.xS i g g2 c)⟩)
end
section
variable{w w' w0:al}{M K:BS}{hp:Nat->Chunk}{C:Chunk}
theorem SH.fq(h:SH w0 M K w hp)(i:Nat)(a:(hp i).VL):(hp i).holds w M (hp i).own'/\bz K w0 w/\(∀b,(hp i).own' b->b<w0.heap.size->K b):=h.outS i Z a
theorem SH.fD(h:SH w0 M K w hp)(i:Nat)(a:(hp i).VL):(hp i).holds w (fun b=>M b\/rest hp i b) (hp i).own'/\(∀b,(hp i).own' b->¬(M b\/rest hp i b))/\(∀b,(M b\/rest hp i b)->b<w.heap.size):=h.lendS i Z a
theorem SH.iJ(h:SH w0 M K w hp)(i:Nat)(a:C.holds w' (fun b=>M b\/rest hp i b) C.own')(d:C.VL)(c:bz (hp i).own' w w')(hn:∀b,C.own' b->b<w.heap.size->(hp i).own' b):SH w0 M K w' (bH hp i C):=h.back i Z d a c hn
end
section
variable{σ ρ α:Type}{b:Int->σ->(σ->ρ)->ρ}{bx:Int->α->σ->(σ->ρ)->ρ}{be:α->σ->(σ->ρ)->ρ}{K:σ->ρ}{s:σ}{r:ρ}{i c:Int}{k:Nat}{L:Zi α}
theorem rG(hik:i=(k:Int))(e:ab (i<c)=ba)(hs:upto b K i (c.toNat-k) s=r):∃nx,upto b K (i+1) (c.toNat-(k+1))=nx/\b i s nx=r:=by
 rw[upto_lt (by have:=of_decide_eq_true e;omega)]at hs;exact⟨_,Z,hs⟩
theorem yt(hik:i=(k:Int))(e:ab (i<c)=ar)(hs:upto b K i (c.toNat-k) s=r):K s=r:=by
 rw[upto_ge (by have:=of_decide_eq_false e;omega)]at hs;exact hs
theorem yu(hik:i=(k:Int))(e:ab (i<c)=ba)(a:c<=9223372036854775807):iZ (i+1):=by
 have:=of_decide_eq_true e;exact iZ.mk V V
theorem upLt(hik:i=(k:Int))(e:ab (i<c)=ba):c.toNat-(k+1)<c.toNat-k:=by
 have:=of_decide_eq_true e;omega
theorem gW(hik:i=(k:Int))(e:ab (i<(L.length:Int))=ba)(hs:each be K (L.drop k) s=r):∃x nx,L[k]? =ah x/\each be K (L.drop (k+1))=nx/\be x s nx=r:=by
 obtain⟨x,a,b⟩:=drop_lt<|hik▸e;rw[b,eQ]at hs;exact⟨x,_,a,Z,hs⟩
theorem jW(hik:i=(k:Int))(e:ab (i<(L.length:Int))=ar)(hs:each be K (L.drop k) s=r):K s=r:=by
 rw[drop_ge (hik▸e),kW]at hs;exact hs
theorem xV(hik:i=(k:Int))(e:ab (i<(L.length:Int))=ba)(hs:fG bx K i (L.drop k) s=r):∃x nx,L[k]? =ah x/\fG bx K (i+1) (L.drop (k+1))=nx/\bx i x s nx=r:=by
 obtain⟨x,a,b⟩:=drop_lt<|hik▸e;rw[b,vG]at hs;exact⟨x,_,a,Z,hs⟩
theorem CS(hik:i=(k:Int))(e:ab (i<(L.length:Int))=ar)(hs:fG bx K i (L.drop k) s=r):K s=r:=by
 rw[drop_ge (hik▸e),eachI_nil]at hs;exact hs
theorem Lu(hik:i=(k:Int))(e:ab (i<(L.length:Int))=ba):L.length-(k+1)<L.length-k:=by
 have:=of_decide_eq_true e;omega
end
abbrev cW(b:Nat)(a v1 v2:aj)(l:Zi iI):Chunk:=.two (.blk b [a,v1,v2]) (.own fK 40 v1 l)
abbrev kL(M:BS)(w:al):Prop:=∀b,M b->b<w.heap.size
open Go Go.RowKit Go.Proofs
section
variable{P:br}{ops:Array du}{Q:fR->Act->al->Prop}{rest:Zi du}{n:Nat}{env:Nat->aj}{w w0:al}{M K:BS}{hp:Nat->Chunk}{d:Yw Nat}{ty:aw}{pos:String}{af:Array ix}{x y:bj}{T T2:aw}{v:aj}
theorem lG{k:Int}{p:aj}(i:IxOk P T v k p)(e:(ev n env x,ev n env y)=(v,da .i64 k))(h:WL P ops Q rest n (gz env d p) w):WL P ops Q (⟨d,.indexAddr T x y,ty,pos,af,aE⟩::rest) n env w:=by
 injection e with e1 e2;exact aA (i _ _ _ _ _ _ _ _ _ e1 e2) h
theorem Kg{p q:Int}{k:IntKind}(e:(ev n env x,ev n env y)=(da k p,da k q))(h:WL P ops Q rest n (gz env d (.bool (ab (p=q)))) w):WL P ops Q (⟨d,.binOp .eql T x y T2,ty,pos,af,aE⟩::rest) n env w:=by
 injection e with e1 e2;exact aA (yo e1 e2) h
theorem qneq{p q:Int}{k:IntKind}(e:(ev n env x,ev n env y)=(da k p,da k q))(h:WL P ops Q rest n (gz env d (.bool (ab (p≠q)))) w):WL P ops Q (⟨d,.binOp .neq T x y T2,ty,pos,af,aE⟩::rest) n env w:=by
 injection e with e1 e2;exact aA (Pk e1 e2) h
theorem qlss{p q:Int}(e:(ev n env x,ev n env y)=(da .i64 p,da .i64 q))(h:WL P ops Q rest n (gz env d (.bool (ab (p<q)))) w):WL P ops Q (⟨d,.binOp .lss T x y T2,ty,pos,af,aE⟩::rest) n env w:=by
 injection e with e1 e2;exact aA (Jn e1 e2) h
theorem qadd{p q:Int}(e:(ev n env x,ev n env y)=(da .i64 p,da .i64 q))(a:iZ (p+q))(h:WL P ops Q rest n (gz env d (.int .i64 (p+q))) w):WL P ops Q (⟨d,.binOp .add T x y T2,ty,pos,af,aE⟩::rest) n env w:=by
 injection e with e1 e2;exact aA (EN e1 e2 a) h
theorem P7{i:Nat}{vs:Zi aj}(e:(ev n env x,vs[i]?)=(Value.tuple vs.toArray,ah v))(h:WL P ops Q rest n (gz env d v) w):WL P ops Q (⟨d,.extract x i,ty,pos,af,aE⟩::rest) n env w:=by
 injection e with e1 e2;exact aA (eP e1 e2) h
theorem VV{α:Type}{R:lV α}{E:aw}{sz:Nat}{l:Zi α}(h:SH w0 M K w hp)(i:Nat)(a:SliceOf P T E sz)(e:(hp i,ev n env x)=(Chunk.sr R v l,v))(k:WL P ops Q rest n (gz env d (.int .i64 l.length)) w):WL P ops Q (⟨d,.call {callee:=.builtin .len,args:= #[x],argTypes:= #[T]},ty,pos,af,aE⟩::rest) n env w:=by
 injection e with e1 e2;exact aA (ui a e2<|h.fU i e1) k
theorem RJ{j dj b' o:Nat}{b want:Ys}{z:aj}{cs:Zi aj}(h:SH w0 M K w hp)(i:Nat)(a:One P T z)(e:((ops[j]?).bind (·.dst),ev n env (.tmp dj),hp i,ev n env x,cs[o]?)=(ah dj,cD b,Chunk.blk b' cs,gv (b==want) (.pointer (ah ⟨b',o,aE⟩)),ah v))
    (k:WL P ops Q rest n (gz env d (gv (b==want) v)) w):WL P ops Q (⟨d,.load T x,ty,pos,af,ah (j,want)⟩::rest) n env w:=by
  injection e with e1 e2;injection e2 with e2 e3;injection e3 with e3 e4;injection e4 with e4 e5;exact bV e1 e2 (fun q=>dW h i e3 a (e4.trans<|iR q) e5) k
theorem RL{j dj b' o f off:Nat}{b want:Ys}(a:ed P T f off)(e:((ops[j]?).bind (·.dst),ev n env (.tmp dj),ev n env x)=(ah dj,cD b,hZ (ah ⟨b',o,aE⟩)))
    (k:WL P ops Q rest n (gz env d (gv (b==want) (.pointer (ah ⟨b',o+off,aE⟩)))) w):WL P ops Q (⟨d,.fieldAddr T x f,ty,pos,af,ah (j,want)⟩::rest) n env w:=by
  injection e with e1 e2;injection e2 with e2 e3;exact bV e1 e2 (fun q=>dC a e3) k
end
theorem cst{P:br}{f:hQ}{a:Func}{c:Code}{args:Zi aj}{R:mv->al->Prop}{n:Nat}{w:al}(b:P.funcs[f]? =ah a)(hn:a.ntmps=n)(e:(a.body,oj args.length n)=(ah c,ba))
  (h:WC P c (km P a R) n (Py args) w):bk P f args.toArray w R:=by
 injection e with e1 e2;exact calls_start b e1 hn (iz e2) h
open Go Go.RowKit Go.Proofs
def fillF(a:Zi (Nat×Nat))(cs:Zi aj):Zi (Nat×aj)->Yw (Zi aj)
 |[]=>ah cs
 |(i,v)::r=>match a[i]? with
  |some (off,1)=>if off<cs.length then fillF a (cs.set off v) r else aE
  |_=>aE
theorem fillF_ok{a:Zi (Nat×Nat)}:∀{pv:Zi (Nat×aj)} {cs out:Zi aj},(∀v∈pv.map (·.2),v.oneCell'=ba)->fillF a cs pv=ah out->FillOk a cs pv out
  |[],cs,out,_,h=>cG h
  |(i,v)::r,cs,out,ho,h=>by
    unfold fillF at h;split at h
    · rename_i off e;split at h
      · rename_i hl;refine⟨off,1,[v],e,dx<|ho v zq3,Z,by omega,?_⟩;rw[show Oo cs off [v]=cs.set off v by unfold Oo;rw[List.set_eq_take_append_cons_drop,Z2 hl];simp];exact fillF_ok (fun x b=>ho x<|List.mem_cons_of_mem _ b) h
      · cases h
    · cases h
section
variable{P:br}{ops:Array du}{Q:fR->Act->al->Prop}{rest:Zi du}{n:Nat}{env:Nat->aj}{w w0:al}{M K:BS}{hp:Nat->Chunk}{d:Yw Nat}{op:Op}{ty:aw}{pos:String}{af:Array ix}{x y c:bj}{T T2:aw}{v:aj}{j dj:Nat}{b b0 r:Ys}{i:Int}
theorem jY{zs out:Zi aj}{b:Zi (Nat×Nat)}{a:Array (Nat×bj)}{pv:Zi (Nat×aj)}(c:Struct P T zs b)(e:(a.toList.map fun p=>(p.1,ev n env p.2),fillF b zs pv)=(pv,ah out))(ho:∀v∈pv.map (·.2),v.oneCell'=ba)
    (h:WL P ops Q rest n (gz env d (.agg out.toArray)) w):WL P ops Q (⟨d,.build T a,ty,pos,af,aE⟩::rest) n env w:=by
  injection e with e1 e2;exact aA (oU c e1<|fillF_ok ho e2) h
theorem pkT(a:b0=ba)(e:(ev n env c,ev n env x)=(cD b0,cD r))(h:WL P ops Q rest n (gz env d (.bool r)) w):WL P ops Q (⟨d,.pick c x y,ty,pos,af,aE⟩::rest) n env w:=by
 injection e with e1 e2;exact aA (jq (b:=ba) (by rw[e1,a]) e2) h
theorem pkF(a:b0=ar)(e:(ev n env c,ev n env y)=(cD b0,cD r))(h:WL P ops Q rest n (gz env d (.bool r)) w):WL P ops Q (⟨d,.pick c x y,ty,pos,af,aE⟩::rest) n env w:=by
 injection e with e1 e2;exact aA (jq (b:=ar) (by rw[e1,a]) e2) h
theorem ofF(a:b0=ar)(e:((ops[j]?).bind (·.dst),ev n env (.tmp dj),(ar==b))=(ah dj,cD b0,ar))(h:WL P ops Q rest n (gz env d gj) w):WL P ops Q (⟨d,op,ty,pos,af,ah (j,b)⟩::rest) n env w:=by
  injection e with e1 e2;injection e2 with e2 e3;exact CG e1 (by rw[e2,a]) e3 h
theorem ofT(a:b0=ba)(e:((ops[j]?).bind (·.dst),ev n env (.tmp dj),(ba==b))=(ah dj,cD b0,ar))(h:WL P ops Q rest n (gz env d gj) w):WL P ops Q (⟨d,op,ty,pos,af,ah (j,b)⟩::rest) n env w:=by
  injection e with e1 e2;injection e2 with e2 e3;exact CG e1 (by rw[e2,a]) e3 h
theorem oN(a:b0=b)(e:((ops[j]?).bind (·.dst),ev n env (.tmp dj))=(ah dj,cD b0))(h:WL P ops Q (⟨d,op,ty,pos,af,aE⟩::rest) n env w):WL P ops Q (⟨d,op,ty,pos,af,ah (j,b)⟩::rest) n env w:=by
  injection e with e1 e2;exact Vz e1 (by rw[e2,a]) h
theorem g0I{want:Ys}(e:((ops[j]?).bind (·.dst),ev n env (.tmp dj),ev n env x)=(ah dj,cD b,da .i64 i))(h:WL P ops Q rest n (gz env d (gv (b==want) (.int .i64 i))) w):WL P ops Q (⟨d,.move x,ty,pos,af,ah (j,want)⟩::rest) n env w:=by
  injection e with e1 e2;injection e2 with e2 e3;exact bV e1 e2 (fun _=>eu e3) h
theorem g0B'{want:Ys}(e:((ops[j]?).bind (·.dst),ev n env (.tmp dj),ev n env x)=(ah dj,cD b,cD r))(h:WL P ops Q rest n (gz env d (gv (b==want) (.bool r))) w):WL P ops Q (⟨d,.move x,ty,pos,af,ah (j,want)⟩::rest) n env w:=by
  injection e with e1 e2;injection e2 with e2 e3;exact bV e1 e2 (fun _=>eu e3) h
theorem jd{L:BS}{ws:al}{u:aj}(a:bz L ws w)(g:∀b,ob u b->w.heap.size<=b):∀b,ob u b->ws.heap.size<=b:=fun b c=>Nat.le_trans a.size (g b c)
end
section
variable{P:br}{ops:Array du}{Q:fR->Act->al->Prop}{n:Nat}{env:Nat->aj}{w ws:al}{d:Yw Nat}{op:Op}{ty:aw}{pos:String}{af:Array ix}{fuel:Nat}{listed:Array Ys}{v:aj}{L:BS}
theorem aW(i:Nat)(c:Grow ws w)(hi:ops[i]? =ah ⟨d,op,ty,pos,af,aE⟩)(e:∀b,Grow ws b->(bc (ev n env) ⟨d,op,ty,pos,af,aE⟩).run P b=.ok (.value v) b)(h:WH P ops ws Q fuel (listed.setIfInBounds i ba) n (gz env d v) w)(a:(dy ops&&(fh .any ops listed i&&(cI .any ops listed).contains i))=true:=by kernel_rfl):WH P ops ws Q (fuel+1) listed n env w:=by
 simp only[cH]at a;exact iP i c hi aT a.1 a.2.1 a.2.2 e h
theorem aK(i:Nat)(c:bz L ws w)(hi:ops[i]? =ah ⟨d,op,ty,pos,af,aE⟩)(e:∀b,bz L ws b->(bc (ev n env) ⟨d,op,ty,pos,af,aE⟩).run P b=.ok (.value v) b)(h:WHK P ops L ws Q fuel (listed.setIfInBounds i ba) n (gz env d v) w)(a:(dy ops&&(fh .any ops listed i&&(cI .any ops listed).contains i))=true:=by kernel_rfl):WHK P ops L ws Q (fuel+1) listed n env w:=by
 simp only[cH]at a;exact whk_ok i c hi aT a.1 a.2.1 a.2.2 e h
end
section
variable{P:br}{ops:Array du}{w:al}{Q1:Act->Prop}{rest:Zi du}{n:Nat}{env:Nat->aj}{d:Yw Nat}{ty:aw}{pos:String}{af:Array ix}{x:bj}
theorem kI{i:Int}(a:ev n env x=.int .i64 i)(h:WK P ops w Q1 rest n (gz env d (.int .i64 i))):WK P ops w Q1 (⟨d,.move x,ty,pos,af,aE⟩::rest) n env:=bT (eu a) h
theorem kB{i:Ys}(a:ev n env x=.bool i)(h:WK P ops w Q1 rest n (gz env d (.bool i))):WK P ops w Q1 (⟨d,.move x,ty,pos,af,aE⟩::rest) n env:=bT (eu a) h
end
abbrev CK(w:al)(M:BS)(C:Chunk):Prop:=Chunk.holds w M (Chunk.own' C) C
abbrev ApC(C:Chunk)(M:BS):Prop:=∀b,Chunk.own' C b->¬M b
abbrev TP(C':Chunk)(w:al)(C:Chunk):Prop:=∀b,Chunk.own' C' b->b<w.heap.size->Chunk.own' C b
abbrev Ii(M:BS)(C:Chunk):BS:=fun b=>M b\/Chunk.own' C b
open Go Go.RowKit Go.Proofs
section
variable{P:br}{ops:Array du}{Q:fR->Act->al->Prop}{n:Nat}{env:Nat->aj}{w ws:al}{d:Yw Nat}{ty:aw}{pos:String}{af:Array ix}{fuel:Nat}{listed:Array Ys}{v:aj}{L:BS}{T:aw}{x:bj}
theorem Gf(i:Nat)(c:Grow ws w){k off b o:Nat}(f:ed P T k off)(e:(ops[i]?,ev n env x)=(ah ⟨d,.fieldAddr T x k,ty,pos,af,aE⟩,hZ (ah ⟨b,o,aE⟩)))(h:WH P ops ws Q fuel (listed.setIfInBounds i ba) n (gz env d (.pointer (ah ⟨b,o+off,aE⟩))) w)(a:(dy ops&&(fh .any ops listed i&&(cI .any ops listed).contains i))=true:=by kernel_rfl):WH P ops ws Q (fuel+1) listed n env w:=by
 injection e with e1 e2;exact aW i c e1 (fun _ _=>dC f e2) h a
theorem df(i:Nat)(c:bz L ws w){k off b o:Nat}(f:ed P T k off)(e:(ops[i]?,ev n env x)=(ah ⟨d,.fieldAddr T x k,ty,pos,af,aE⟩,hZ (ah ⟨b,o,aE⟩)))(h:WHK P ops L ws Q fuel (listed.setIfInBounds i ba) n (gz env d (.pointer (ah ⟨b,o+off,aE⟩))) w)(a:(dy ops&&(fh .any ops listed i&&(cI .any ops listed).contains i))=true:=by kernel_rfl):WHK P ops L ws Q (fuel+1) listed n env w:=by
 injection e with e1 e2;exact aK i c e1 (fun _ _=>dC f e2) h a
theorem lX(i:Nat)(b:Grow ws w)(v:aj)(e:(ops[i]?,ev n env x)=(ah ⟨d,.move x,ty,pos,af,aE⟩,v))(h:WH P ops ws Q fuel (listed.setIfInBounds i ba) n (gz env d v) w)(a:(dy ops&&(fh .any ops listed i&&(cI .any ops listed).contains i))=true:=by kernel_rfl):WH P ops ws Q (fuel+1) listed n env w:=by
 injection e with e1 e2;exact aW i b e1 (fun _ _=>eu e2) h a
theorem fA(i:Nat)(b:bz L ws w)(v:aj)(e:(ops[i]?,ev n env x)=(ah ⟨d,.move x,ty,pos,af,aE⟩,v))(h:WHK P ops L ws Q fuel (listed.setIfInBounds i ba) n (gz env d v) w)(a:(dy ops&&(fh .any ops listed i&&(cI .any ops listed).contains i))=true:=by kernel_rfl):WHK P ops L ws Q (fuel+1) listed n env w:=by
 injection e with e1 e2;exact aK i b e1 (fun _ _=>eu e2) h a
theorem Lv(i:Nat)(b:Grow ws w)(v:aj)(e:(ops[i]?,ev n env x)=(ah ⟨d,.assign x,ty,pos,af,aE⟩,v))(h:WH P ops ws Q fuel (listed.setIfInBounds i ba) n (gz env d v) w)(a:(dy ops&&(fh .any ops listed i&&(cI .any ops listed).contains i))=true:=by kernel_rfl):WH P ops ws Q (fuel+1) listed n env w:=by
 injection e with e1 e2;exact aW i b e1 (fun _ _=>j6 e2) h a
theorem vJ(i:Nat)(b:bz L ws w)(v:aj)(e:(ops[i]?,ev n env x)=(ah ⟨d,.assign x,ty,pos,af,aE⟩,v))(h:WHK P ops L ws Q fuel (listed.setIfInBounds i ba) n (gz env d v) w)(a:(dy ops&&(fh .any ops listed i&&(cI .any ops listed).contains i))=true:=by kernel_rfl):WHK P ops L ws Q (fuel+1) listed n env w:=by
 injection e with e1 e2;exact aK i b e1 (fun _ _=>j6 e2) h a
end
section
variable{P:br}{ops:Array du}{Q:fR->Act->al->Prop}{rest:Zi du}{n:Nat}{env:Nat->aj}{w w0:al}{M K:BS}{hp:Nat->Chunk}{d:Yw Nat}{ty:aw}{pos:String}{af:Array ix}{x y:bj}{T:aw}
theorem bg{zs vs:Zi aj}{b:Nat}{cs:Zi aj}(h:SH w0 M K w hp)(i:Nat)(c:yA P T zs)(e:(hp i,ev n env x,ev n env y,vs.length,cs.length)=(Chunk.blk b cs,hZ (ah ⟨b,0,aE⟩),w6 vs.toArray,zs.length,vs.length))(a:∀v∈vs,v.oneCell'=ba)
 (k:∀w',SH w0 M K w' (bH hp i (.blk b vs))->WL P ops Q rest n (gz env d gj) w'):WL P ops Q (⟨d,.store T x y,ty,pos,af,aE⟩::rest) n env w:=w_stA h i vs c e a k
theorem SH.pr(h:SH w0 M K w hp)(i j:Nat)(a:i≠j:=by decide):SH w0 M K w (bH (bH hp j .no) i (.two (hp i) (hp j))):=h.pair i j a
theorem SH.un{a c:Chunk}(h:SH w0 M K w hp)(i j:Nat)(hi:hp i=.two a c)(d:hp j=.no)(b:i≠j:=by decide):SH w0 M K w (bH (bH hp i a) j c):=h.unpair i j b hi d
end
open Go Go.RowKit Go.Proofs
theorem kR{L:BS}{w:al}:bz L w w:=bz.refl L w
theorem dh{vs:Zi aj}(e:vs.all Value.oneCell'=ba):∀v∈vs,v.oneCell'=true:=fun v h=>oA.1 e v h
section
variable{P:br}{ops:Array du}{Q:fR->Act->al->Prop}{n:Nat}{env:Nat->aj}{w:al}{fuel:Nat}{listed:Array Ys}{L:BS}
theorem gH(h:∀ws,bz L ws w->WHK P ops L ws Q fuel listed n env w):WHK P ops L w Q fuel listed n env w:=h w (bz.refl _ _)
theorem jX(h:∀ws,Grow ws w->WH P ops ws Q fuel listed n env w):WH P ops w Q fuel listed n env w:=h w (bz.refl _ _)
end
section
variable{P:br}{ops:Array du}{Q:fR->Act->al->Prop}{rest:Zi du}{n:Nat}{env:Nat->aj}{w w0:al}{M K:BS}{hp:Nat->Chunk}{d:Yw Nat}{ty:aw}{pos:String}{af:Array ix}{x:bj}{v:aj}
theorem oG{f:hQ}{first captured:Array aj}{xs:Array bj}{a:Array aw}{args:Zi aj}(h:SH w0 M K w hp)(c:VD P f)(i:ev n env x=.func (.func f) first captured)
  (j:first.toList++xs.toList.map (ev n env)++captured.toList=args) (b:bk P f args.toArray w (fun e w'=>Grow w w'/\e=.returned v)) (k:∀w',Grow w w'->SH w0 M K w' hp->WL P ops Q rest n (gz env d v) w'):
  WL P ops Q (⟨d,.call {callee:=.value x,args:=xs,argTypes:=a},ty,pos,af,aE⟩::rest) n env w:=
 bA c i j b (by rintro _ w' ⟨g,rfl⟩;exact⟨_,Z,k w' g (h.grow g)⟩)
theorem zU{α:Type}{R:lV α}{l:Zi α}{f:hQ}{first captured:Array aj}{xs:Array bj}{a:Array aw}{args:Zi aj}{F:aj->aj}(h:SH w0 M K w hp)(i:Nat)(j:VD P f)(b:ev n env x=.func (.func f) first captured)
  (m:first.toList++xs.toList.map (ev n env)++captured.toList=args) (c:bk P f args.toArray w (fun e w'=>Grow w w'/\∃u,e=.returned (F u)/\bS R w' (SH.A M hp) u l)) (k:∀w' u,Grow w w'->SH w0 M K w' (bH hp i (.rd R u l))->WL P ops Q rest n (gz env d (F u)) w'):
  WL P ops Q (⟨d,.call {callee:=.value x,args:=xs,argTypes:=a},ty,pos,af,aE⟩::rest) n env w:=
 bA j b m c (by rintro _ w' ⟨g,u,rfl,g2⟩;exact⟨_,Z,k w' u g (h.Cs i g g2)⟩)
theorem dD{α:Type}{R:lV α}{E:aw}{l:Zi α}{f:hQ}{first captured:Array aj}{xs:Array bj}{c:Array aw}{args:Zi aj}{F:aj->aj}(h:SH w0 M K w hp)(i:Nat)(o:VD P f)(j:ev n env x=.func (.func f) first captured)
  (p:first.toList++xs.toList.map (ev n env)++captured.toList=args) (m:bk P f args.toArray w (fun e w'=>Grow w w'/\∃u,e=.returned (F u)/\cz R E w' (SH.A M hp) u l/\(∀b,ob u b->w.heap.size<=b))) (k:∀w' u,Grow w w'->(∀b,ob u b->w.heap.size<=b)->SH w0 M K w' (bH hp i (.own R E u l))->WL P ops Q rest n (gz env d (F u)) w'):
  WL P ops Q (⟨d,.call {callee:=.value x,args:=xs,argTypes:=c},ty,pos,af,aE⟩::rest) n env w:=
 bA o j p m (by rintro _ w' ⟨g,u,rfl,g2,a⟩;exact⟨_,Z,k w' u g a (h.xS i g g2 a)⟩)
end
open Go Go.RowKit Go.Proofs
abbrev pT(b:Nat):Value:=.pointer (ah ⟨b,0,aE⟩)
abbrev nS:Value:=.slice aE 0 0
def fchk(P:br)(f:hQ):Ys:=match P.funcs[f]? with
 |some fn=> !(fn.name== "runtime.NumGoroutine")&& !fn.body.isNone
 |none=>ar
theorem fo{P:br}{f:hQ}(h:fchk P f=true:=by kernel_rfl):VD P f:=by
  unfold fchk at h;split at h
  · rename_i a e;simp only[cH,er]at h;exact⟨a,e,h.1,h.2⟩
  · cases h
section
variable{P:br}{ops:Array du}{Q:fR->Act->al->Prop}{n:Nat}{env:Nat->aj}{w ws:al}{d:Yw Nat}{op:Op}{ty:aw}{pos:String}{af:Array ix}{fuel:Nat}{listed:Array Ys}{L:BS}
theorem aM(i:Nat)(hi:ops[i]? =ah ⟨d,op,ty,pos,af,aE⟩)(h:WL P ops (XD P ops L ws Q fuel (listed.setIfInBounds i ba)) [⟨d,op,ty,pos,af,aE⟩] n env w)(a:cI .any ops listed=[i]:=by kernel_rfl):WHK P ops L ws Q (fuel+1) listed n env w:=whk_eff i a hi aT h
theorem uB(i:Nat)(hi:ops[i]? =ah ⟨d,op,ty,pos,af,aE⟩)(h:WL P ops (after P ops ws Q fuel (listed.setIfInBounds i ba)) [⟨d,op,ty,pos,af,aE⟩] n env w)(a:cI .any ops listed=[i]:=by kernel_rfl):WH P ops ws Q (fuel+1) listed n env w:=Mf i a hi aT h
theorem iq(h:Q .normal (act n env) w)(a:cI .any ops listed=[]:=by kernel_rfl):WHK P ops L ws Q fuel listed n env w:=whk_done a h
theorem xW(h:Q .normal (act n env) w)(a:cI .any ops listed=[]:=by kernel_rfl):WH P ops ws Q fuel listed n env w:=wh_done a h
end
open Go Go.RowKit Go.Proofs
def zk{α:Type}(L:Zi (Int×α))(us:Zi aj):Zi (Int×aj):=(L.zip us).map fun p=>(p.1.1,p.2)
def XK{α:Type}(k:Int):Zi (Int×α)->Yw Nat
  |[]=>aE
  |p::r=>if k=p.1 then ah 0 else(XK k r).map (· +1)
def hkey{α:Type}(L:Zi (Int×α))(k:Int):Nat->Prop:=fun i=>XK k L=ah i
section
variable{α:Type}{k:Int}
theorem RN(p:Int×α)(r:Zi (Int×α))(u:aj)(us:Zi aj):zk (p::r) (u::us)=(p.1,u)::zk r us:=rfl
theorem XL:∀{L:Zi (Int×α)} {us:Zi aj} {z v:aj} {a:α},us.length=L.length->XK k L=aE->
    lk k L=aE/\TI z (zk L us) k=z/\Pz (zk L us) k v=zk (L++[(k,a)]) (us++[v])/\CJ k a L=L++[(k,a)]
  |[],us,z,v,a,h,_=>by
    cases us with
    |nil=>exact⟨rfl,rfl,rfl,rfl⟩
    |cons u us=>cases h
  |p::r,us,z,v,a,h,e=>by
    cases us with
    |nil=>cases h
    |cons u us=>
      unfold XK at e;by_cases c:k=p.1
      · rw[Z2 c]at e;cases e
      · rw[Z3 c]at e;have f:XK k r=none:=by
          cases q:XK k r with
          |none=>rfl
          |some x=>rw[q]at e;cases e
        obtain⟨d,i,b,g⟩:=XL (us:=us) (z:=z) (v:=v) (a:=a) (Nat.succ.inj h) f;refine⟨?_,?_,?_,?_⟩
        · unfold lk;rw[Z3 c];exact d
        · rw[RN];unfold TI;rw[Z3 c];exact i
        · rw[RN];unfold Pz;rw[Z3 c,b];rfl
        · unfold CJ;rw[Z3 c,g];rfl
theorem RO:∀{L:Zi (Int×α)} {us:Zi aj} {z v:aj} {a:α} {i:Nat},us.length=L.length->XK k L=ah i->
    ∃x u,lk k L=ah x/\us[i]? =ah u/\(L.map fv)[i]? =ah x/\TI z (zk L us) k=u/\Pz (zk L us) k v=zk (CJ k a L) (us.set i v)/\(CJ k a L).map fv=(L.map fv).set i a
  |[],us,z,v,a,i,h,e=>by cases e
  |p::r,us,z,v,a,i,h,e=>by
    cases us with
    |nil=>cases h
    |cons u us=>
      unfold XK at e;by_cases c:k=p.1
      · rw[Z2 c]at e;cases e;refine⟨p.2,u,?_,Z,Z,?_,?_,?_⟩
        · unfold lk;rw[Z2 c]
        · rw[RN];unfold TI;rw[Z2 c]
        · rw[RN];unfold Pz CJ;rw[Z2 c,Z2 c];rfl
        · unfold CJ;rw[Z2 c];rfl
      · rw[Z3 c]at e;cases q:XK k r with
        |none=>rw[q]at e;cases e
        |some j=>
          rw[q]at e;cases e;obtain⟨x,u',d,m,b,g,l,f⟩:=RO (us:=us) (z:=z) (v:=v) (a:=a) (Nat.succ.inj h) q;refine⟨x,u',?_,m,b,?_,?_,?_⟩
          · unfold lk;rw[Z3 c];exact d
          · rw[RN];unfold TI;rw[Z3 c];exact g
          · rw[RN];unfold Pz CJ;rw[Z3 c,Z3 c,l];rfl
          · unfold CJ;rw[Z3 c];show p.2::_=_;rw[f];rfl
end
section
variable{β:Type}{R:lV β}{E:aw}{w0 w:al}{M K:BS}{hp:Nat->Chunk}{L:Zi (Int×Zi β)}{us:Zi aj}{k:Int}{u:aj}{s:Zi β}
theorem XM(e:XK k L=aE):hkey L k=hn:=by
 funext i;unfold hkey hn;rw[e];exact propext ⟨fun h=>(by cases h),fun h=>h.elim⟩
theorem SH.msLen(h:SH w0 M K w hp)(j:Nat){ho:Nat->Prop}(a:hp j=.fC (bB R E ho us (L.map fv))):us.length=L.length:=by
 have:=(h.famAt j a).1;rw[eF]at this;exact this
theorem SH.msTake(h:SH w0 M K w hp)(j m:Nat)(k:Int)(d:hp j=.fC (bB R E hn us (L.map fv)))(n:hp m=.no)(l:j≠m):
    ∃u,TI (.slice aE 0 0) (zk L us) k=u/\SH w0 M K w (bH (bH hp j (.fC (bB R E (hkey L k) us (L.map fv)))) m (.own R E u ((lk k L).getD []))):=by
  have hl:=h.msLen j d;cases e:XK k L with
  |none=>
    obtain⟨c,f,-,-⟩:=XL (z:=.slice aE 0 0) (v:=.slice aE 0 0) (a:=[]) hl e;refine⟨.slice aE 0 0,f,?_⟩;rw[c,XM e];have b:=h.wP (R:=R) (E:=E) m;have g:bH hp j (.fC<|bB R E hn us<|L.map fv)=hp:=by
      funext x;by_cases q:x=j
      · subst q;rw[bN];exact d.symm
      · rw[fe q]
    rw[g];exact b
  |some i=>
    obtain⟨x,u,c,f,b,g,-,-⟩:=RO (z:=.slice aE 0 0) (v:=.slice aE 0 0) (a:=[]) hl e;refine⟨u,g,?_⟩;rw[c];exact h.famOpen j m d n l f b (fun h=>h) (hkey L k) (fun a=>by unfold hkey hn;rw[e];exact⟨fun h=>.inr (cG h).symm,fun h=>h.elim (fun h=>h.elim) (fun h=>by rw[h])⟩)
theorem SH.msBack(h:SH w0 M K w hp)(j m:Nat)(c:hp j=.fC (bB R E (hkey L k) us (L.map fv)))(g:hp m=.own R E u ((lk k L).getD []))(b:j≠m)(n:TI (.slice aE 0 0) (zk L us) k=u):
    SH w0 M K w (bH (bH hp m .no) j (.fC (bB R E hn us (L.map fv)))):=by
  have hl:=h.msLen j c;cases e:XK k L with
  |none=>
    rw[XM e]at c;have f:=h.iA m;have d:bH (bH hp m .no) j (.fC<|bB R E hn us<|L.map fv)=bH hp m .no:=by
      funext x;by_cases q:x=j
      · subst q;rw[bN,fe b];exact c.symm
      · rw[fe q]
    rw[d];exact f
  |some i=>
    obtain⟨x,u',l,o,f,d,-,-⟩:=RO (z:=.slice aE 0 0) (v:=.slice aE 0 0) (a:=[]) hl e;rw[l]at g;rw[n]at d;have:=h.MP (k:=i) j m c g b (d▸o) e hn (fun a=>by unfold hkey hn;rw[e];exact⟨fun h=>.inr (cG h).symm,fun h=>h.elim (fun h=>h.elim) (fun h=>by rw[h])⟩) (fun h=>h);have q:(L.map fv).set i ((ah x).getD [])=L.map Prod.snd:=Ef f;rw[q]at this;exact this
theorem SH.msPut(h:SH w0 M K w hp)(j m:Nat)(c:hp j=.fC (bB R E (hkey L k) us (L.map fv)))(l:hp m=.own R E u s)(b:j≠m):
  ∃us',Pz (zk L us) k u=zk (CJ k s L) us'/\SH w0 M K w (bH (bH hp m .no) j (.fC (bB R E hn us' ((CJ k s L).map fv)))):=by
 have hl:=h.msLen j c;cases e:XK k L with
 |none=>
  rw[XM e]at c;obtain⟨-,-,g,o⟩:=XL (z:=.slice aE 0 0) (v:=u) (a:=s) hl e;refine⟨us++[u],by rw[g,o],?_⟩;have f:=h.famNew m l;have d:=f.Dr (us:=us) (ss:=L.map fv) j m (by rw[fe b];exact c) (by rw[bN]) b;rw[Gz]at d;rw[o,eb];exact d
 |some i=>
  have q:hkey L k=hat i:=by
   funext a;unfold hkey hat;rw[e];exact propext ⟨fun h=>(cG h).symm,fun h=>by rw[h]⟩
  rw[q]at c;obtain⟨x,u',t,r,g,-,f,d⟩:=RO (z:=.slice aE 0 0) (v:=u) (a:=s) hl e;refine⟨us.set i u,f,?_⟩;have p:=h.famU j u c;have n:=p.MP (k:=i) (ho:=hat i) j m (by rw[bN]) (by rw[fe (Ne.symm b)];exact l) b (XF r) Z hn (fun a=>⟨fun h=>.inr h,fun h=>h.elim (fun h=>h.elim) id⟩) (fun h=>h);rw[d];rw[hupd_comm hp (.fC (bB R E (hat i) (us.set i u) (L.map fv))) .no b,Gz]at n;exact n
end
section
variable{P:br}{w w0:al}{M K:BS}{hp:Nat->Chunk}{d:Yw Nat}{ty:aw}{pos:String}{af:Array ix}{g:Yw (Nat×Ys)}{T:aw}{ρ:bj->aj}
theorem r_lkS{x y:bj}{z:aj}{b:Nat}{k:Int}{kE:Zi (Int×aj)}{u:aj}(h:SH w0 M K w hp)(i:Nat)(hi:hp i=.mp b kE)(e:MapOf P T z)(a:ρ x=.map (ah b))(c:ρ y=.int .i64 k)(f:TI z kE k=u):
  (bc ρ ⟨d,.lookup T x y ar,ty,pos,af,g⟩).run P w=.ok (.value u) w:=by
 have:=r_lookup (d:=d) (ty:=ty) (pos:=pos) (af:=af) (g:=g) e a c<|h.mpAt i hi;rw[f]at this;exact this
theorem w_mapUpdateG{ops:Array du}{Q:fR->Act->al->Prop}{n:Nat}{env:Nat->aj}{rest:Zi du}{v z:aj}{x y u:bj}{b:Nat}{k:Int}{kE nW:Zi (Int×aj)}(h:SH w0 M K w hp)(i:Nat)(hi:hp i=.mp b kE)(e:MapOf P T z)(j:ev n env x=.map (ah b))(m:ev n env y=.int .i64 k)(f:ev n env u=v)(g:Pz kE k v=nW)
  (l:∀w',SH w0 M K w' (bH hp i (.mp b nW))->bz (fun x=>x=b) w w'->WL P ops Q rest n (gz env d gj) w'):WL P ops Q (⟨d,.mapUpdate T x y u,ty,pos,af,aE⟩::rest) n env w:=
 VH e j m f (h.mpAt i hi) fun w' a c=>l w' (h.mpSet i hi a (g▸c)) a
end
open Go Go.RowKit Go.Proofs
structure Arr3(P:br)(T E:aw):Prop where
  desc:P.underlying T=ah (.array 3 E)
  zero:∃z0 z1 z2,(P.info? T).map (·.zero)=ah (ah (.agg #[z0,z1,z2]))
  size:(P.info? E).map (·.size)=ah 1
  plain:P.underlying E=ah (.int .i64)
  key:P.plainKey E=ba
  cells:P.cellsOf E=1
  guard:P.eqGuardType P.depth T=ar
section
variable{P:br}{w:al}{d:Yw Nat}{ty:aw}{pos:String}{af:Array ix}{g:Yw (Nat×Ys)}{T:aw}{ρ:bj->aj}
theorem r_build3{E:aw}{x y z:bj}{p q r:Int}(b:Arr3 P T E)(n:ρ x=.int .i64 p)(o:ρ y=.int .i64 q)(a:ρ z=.int .i64 r):(bc ρ ⟨d,.build T #[(0,x),(1,y),(2,z)],ty,pos,af,g⟩).run P w=.ok (.value (.agg #[.int .i64 p,.int .i64 q,.int .i64 r])) w:=by
 obtain⟨z0,e,k,f⟩:=b.zero;obtain⟨i,hi,m⟩:∃i,P.info? T=ah i/\i.zero=ah (.agg #[z0,e,k]):=by
  cases hi:P.info? T with
  |none=>simp[hi]at f
  |some i=>simp[hi]at f;exact⟨i,Z,f⟩
 obtain⟨j,t,l⟩:∃j,P.info? E=ah j/\j.size=1:=by
  have:=b.size;cases hi:P.info? E with
  |none=>simp[hi]at this
  |some i=>simp[hi]at this;exact⟨i,Z,this⟩
 have c (p:Int):(da .i64 p).cells= #[.int .i64 p]:=rfl;simp only[bc,Instr.build,n,o,a,cx,zeroValue,typeInfo,sizeOf];have s:(w6 #[z0,e,k]).cells= #[z0,e,k]:=rfl;simp[hi,m,b.desc,t,l,Instr.fill,c,s,n,o,a]
theorem eq_arr3{E:aw}(d:Arr3 P T E)(a b c a' b' e:Int):(Op.equalIn 10000 T (.agg #[.int .i64 a,.int .i64 b,.int .i64 c]) (.agg #[.int .i64 a',.int .i64 b',.int .i64 e])).run P w=.ok (ab (a=a')&&(ab (b=b')&&ab (c=e))) w:=by
  obtain⟨j,f⟩:∃j,P.info? E=ah j:=by
    have:=d.size;cases hi:P.info? E with
    |none=>simp[hi]at this
    |some i=>exact⟨i,rfl⟩
  rw[show(10000:Nat)=9999+1 from rfl,run_equalIn_array w 9999 _ _ d.desc f,d.cells,show List.range 3=[0,1,2]from rfl];simp only[Op.eqItems,cq,Nat.zero_mul,Nat.one_mul,Nat.mul_one];rw[hH w d.key (xs:= #[.int .i64 a,.int .i64 b,.int .i64 c]) (off:=0) (v:=.int .i64 a) rfl];simp only[bn];rw[hH w d.key (xs:= #[.int .i64 a',.int .i64 b',.int .i64 e]) (off:=0) (v:=.int .i64 a') rfl];simp only[bn];rw[show(9999:Nat)=9998+1 from rfl,tv w 9998 E .i64 .i64 a a' d.plain];simp only[bn,Sem.run_ite,cq];by_cases h:a=a'
  · subst h;simp only[beq_self_eq_true,cS,de,if_false];rw[hH w d.key (xs:= #[.int .i64 a,.int .i64 b,.int .i64 c]) (off:=1) (v:=.int .i64 b) rfl];simp only[bn];rw[hH w d.key (xs:= #[.int .i64 a,.int .i64 b',.int .i64 e]) (off:=1) (v:=.int .i64 b') rfl];simp only[bn];rw[tv w 9998 E .i64 .i64 b b' d.plain];simp only[bn,Sem.run_ite,cq];by_cases h:b=b'
    · subst h;simp only[beq_self_eq_true,cS,de,if_false];rw[hH w d.key (xs:= #[.int .i64 a,.int .i64 b,.int .i64 c]) (off:=2) (v:=.int .i64 c) rfl];simp only[bn];rw[hH w d.key (xs:= #[.int .i64 a,.int .i64 b,.int .i64 e]) (off:=2) (v:=.int .i64 e) rfl];simp only[bn];rw[tv w 9998 E .i64 .i64 c e d.plain];by_cases h:c=e<;>simp[h]
    · simp[h]
  · simp[h]
theorem r_neq3{T2 E:aw}{x y:bj}{a b c a' b' f:Int}(e:Arr3 P T E)(j:ρ x=.agg #[.int .i64 a,.int .i64 b,.int .i64 c])(i:ρ y=.agg #[.int .i64 a',.int .i64 b',.int .i64 f]):(bc ρ ⟨d,.binOp .neq T x y T2,ty,pos,af,g⟩).run P w=.ok (.value (.bool (!(ab (a=a')&&(ab (b=b')&&ab (c=f)))))) w:=by
 simp only[bc,j,i,cq,run_eqGuard_agg w .neq T x y _ _ e.guard,bn,run_neq_struct,eq_arr3 e];simp
end
structure T3 where
 a:Int
 b:Int
 c:Int
deriving DecidableEq
def rT3:lV T3 where
 sz:=3
 rd w A cs x:=cs=[.int .i64 x.a,.int .i64 x.b,.int .i64 x.c]
 len:=by rintro w A cs x rfl;rfl
 one:=by rintro w A cs x rfl u hu;simp only[bp,cO,or_false]at hu;rcases hu with rfl|rfl|rfl<;>first|rfl
 pos:=by decide
 go:=fun h _ _ _=>h
open Go Go.RowKit Go.Proofs
section
variable{P:br}{w:al}{d:Yw Nat}{ty:aw}{pos:String}{af:Array ix}{g:Yw (Nat×Ys)}{T:aw}{ρ:bj->aj}{x y:bj}
theorem r_toU{a:aw}{p:Int}(f:P.underlying T=ah (.int .i64))(e:P.underlying a=ah (.int .u64))(c:ρ x=.int .i64 p)(hp:0<=p/\p<=9223372036854775807):(bc ρ ⟨d,.convert T a x,ty,pos,af,g⟩).run P w=.ok (.value (.int .u64 p)) w:=by
 have b:IntKind.u64.wrap p=p:=by
  have:p%(2 ^ 64:Int)=p:=Int.emod_eq_of_lt hp.1 (by have:=hp.2;omega);simp[IntKind.wrap,IntKind.bits,IntKind.signed];omega
 simp[bc,convert,c,cx,f,e,Conv.intToInt,b]
theorem r_ofU{a:aw}{p:Int}(f:P.underlying T=ah (.int .u64))(e:P.underlying a=ah (.int .i64))(c:ρ x=.int .u64 p)(hp:iZ p):(bc ρ ⟨d,.convert T a x,ty,pos,af,g⟩).run P w=.ok (.value (.int .i64 p)) w:=by
 have b:IntKind.i64.wrap p=p:=wrap_in hp.1 hp.2;simp[bc,convert,c,cx,f,e,Conv.intToInt,b]
theorem r_shr1{T2:aw}{p:Int}(c:ρ x=.int .u64 p)(a:ρ y=.int .u64 1):(bc ρ ⟨d,.binOp .shr T x y T2,ty,pos,af,g⟩).run P w=.ok (.value (.int .u64 (p / 2))) w:=by
 have:p.fdiv 2=p / 2:=Int.fdiv_eq_ediv_of_nonneg _ zq1;have b:min 1 IntKind.u64.bits=1:=by decide
 simp[bc,c,a,eqGuard,binOp,Op.shift,b,this]
end
open Go Go.RowKit Go.Proofs
class Look (hp:Nat->Chunk) (b:Nat) (i:outParam Nat):Prop where
 t:True
instance {hp:Nat->Chunk} {b i:Nat} {vs:List aj}:Look (bH hp i (.blk b vs)) b i:=⟨trivial⟩
instance (priority:=500) {hp:Nat->Chunk} {b i j:Nat} {c:Chunk} [Look hp b i]:Look (bH hp j c) b i:=⟨trivial⟩
instance {b i:Nat} {vs:List aj} {l:List (Nat×Chunk)}:Look (hset ((i,.blk b vs)::l)) b i:=⟨trivial⟩
instance (priority:=500) {b i:Nat} {p:Nat×Chunk} {l:List (Nat×Chunk)} [Look (hset l) b i]:Look (hset (p::l)) b i:=⟨trivial⟩
class P8 (hp:Nat->Chunk) (b:Nat) (i:outParam Nat):Prop where
 t:True
instance {hp:Nat->Chunk} {b o i:Nat} {vs:List aj}:P8 (bH hp i (.pt b o vs)) b i:=⟨trivial⟩
instance (priority:=500) {hp:Nat->Chunk} {b i j:Nat} {c:Chunk} [P8 hp b i]:P8 (bH hp j c) b i:=⟨trivial⟩
instance {b o i:Nat} {vs:List aj} {l:List (Nat×Chunk)}:P8 (hset ((i,.pt b o vs)::l)) b i:=⟨trivial⟩
instance (priority:=500) {b i:Nat} {p:Nat×Chunk} {l:List (Nat×Chunk)} [P8 (hset l) b i]:P8 (hset (p::l)) b i:=⟨trivial⟩
class Ij (hp:Nat->Chunk) (v:aj) (i:outParam Nat):Prop where
 t:True
section
variable{α:Type}{R:lV α}{E:aw}{hp:Nat->Chunk}{v:aj}{i:Nat}{L:Zi α}{l:Zi (Nat×Chunk)}
instance:Ij (bH hp i (.sr R v L)) v i:=⟨trivial⟩
instance:Ij (bH hp i (.rd R v L)) v i:=⟨trivial⟩
instance:Ij (bH hp i (.own R E v L)) v i:=⟨trivial⟩
instance (priority:=500) {j:Nat} {c:Chunk} [Ij hp v i]:Ij (bH hp j c) v i:=⟨trivial⟩
instance:Ij (hset ((i,.sr R v L)::l)) v i:=⟨trivial⟩
instance:Ij (hset ((i,.rd R v L)::l)) v i:=⟨trivial⟩
instance:Ij (hset ((i,.own R E v L)::l)) v i:=⟨trivial⟩
instance (priority:=500) {p:Nat×Chunk} [Ij (hset l) v i]:Ij (hset (p::l)) v i:=⟨trivial⟩
end
section
variable{P:br}{ops:Array du}{Q:fR->Act->al->Prop}{rest:Zi du}{n:Nat}{env:Nat->aj}{w w0:al}{M K:BS}{hp:Nat->Chunk}{d:Yw Nat}{op:Op}{ty:aw}{pos:String}{af:Array ix}{x y:bj}{T T2:aw}{v z:aj}{b o k off i:Nat}{cs zs vs:Zi aj}
theorem fadi(a:ev n env x=.pointer (ah ⟨b,o,aE⟩)) [hT:ed P T k off](h:WL P ops Q rest n (gz env d (.pointer (ah ⟨b,o+off,aE⟩))) w):WL P ops Q (⟨d,.fieldAddr T x k,ty,pos,af,aE⟩::rest) n env w:=aA (dC hT a) h
theorem lBi(h:SH w0 M K w hp)(a:ev n env x=.pointer (ah ⟨b,o,aE⟩)) [hT:One P T z] [Look hp b i](e:(hp i,cs[o]?)=(Chunk.blk b cs,ah v))(k:WL P ops Q rest n (gz env d v) w):WL P ops Q (⟨d,.load T x,ty,pos,af,aE⟩::rest) n env w:=by
 injection e with e1 e2;exact aA (dW h i e1 hT a e2) k
theorem lBNi(h:SH w0 M K w hp)(a:ev n env x=.pointer (ah ⟨b,o,aE⟩)) [hT:yA P T zs] [Look hp b i](e:(hp i,(cs.drop o).take zs.length,vs.length)=(Chunk.blk b cs,vs,zs.length))(k:WL P ops Q rest n (gz env d (.agg vs.toArray)) w):WL P ops Q (⟨d,.load T x,ty,pos,af,aE⟩::rest) n env w:=by
 injection e with e1 e2;injection e2 with e2 e3;exact aA (wV h i e1 hT a e2 e3) k
theorem lPi{a:Nat}(h:SH w0 M K w hp)(c:ev n env x=.pointer (ah ⟨b,a,aE⟩)) [hT:One P T z] [P8 hp b i](e:(hp i,a,cs[k]?)=(Chunk.pt b o cs,o+k,ah v))(q:WL P ops Q rest n (gz env d v) w):WL P ops Q (⟨d,.load T x,ty,pos,af,aE⟩::rest) n env w:=by
 injection e with e1 e2;injection e2 with e2 e3;exact aA (Jo h i e1 hT (e2▸c) e3) q
theorem lP0i{a:Nat}(h:SH w0 M K w hp)(c:ev n env x=.pointer (ah ⟨b,a,aE⟩)) [hT:One P T z] [P8 hp b i](e:(hp i,cs[0]?)=(Chunk.pt b a cs,ah v))(q:WL P ops Q rest n (gz env d v) w):WL P ops Q (⟨d,.load T x,ty,pos,af,aE⟩::rest) n env w:=by
 injection e with e1 e2;exact aA (Jo (k:=0) h i e1 hT c e2) q
theorem lPN0i{a:Nat}(h:SH w0 M K w hp)(c:ev n env x=.pointer (ah ⟨b,a,aE⟩)) [hT:yA P T zs] [P8 hp b i](e:(hp i,cs.take zs.length,vs.length,oj zs.length cs.length)=(Chunk.pt b a cs,vs,zs.length,ba))(q:WL P ops Q rest n (gz env d (.agg vs.toArray)) w):WL P ops Q (⟨d,.load T x,ty,pos,af,aE⟩::rest) n env w:=by
 injection e with e1 e2;injection e2 with e2 e3;injection e3 with e3 e4;exact aA (Ot (k:=0) h i e1 hT c (by rw[List.drop_zero];exact e2) e3 (by rw[Nat.zero_add];exact iz e4)) q
structure WLn(P:br)(ops:Array du)(Q:fR->Act->al->Prop)(T:aw)(v:aj)(rest:List du)(n:Nat)(env:Nat->aj)(d:Option Nat)(w:al):Prop where
 out:∃m:Nat,(∃a c E sz,v=.slice a m c/\SliceOf P T E sz)/\WL P ops Q rest n (gz env d (.int .i64 m)) w
theorem lenK(f:ev n env x=v)(k:WLn P ops Q T v rest n env d w):WL P ops Q (⟨d,.call {callee:=.builtin .len,args:= #[x],argTypes:= #[T]},ty,pos,af,aE⟩::rest) n env w:=by
 obtain⟨m,⟨a,c,E,sz,b,e⟩,k⟩:=k;exact aA (oP e<|f.trans b) k
theorem g0Fi{j dj b' off k:Nat}{b want:Ys}{o:Nat}(e:((ops[j]?).bind (·.dst),ev n env (.tmp dj),ev n env x)=(ah dj,cD b,hZ (ah ⟨b',o,aE⟩))) [hT:ed P T k off]
    (q:WL P ops Q rest n (gz env d (gv (b==want) (.pointer (ah ⟨b',o+off,aE⟩)))) w):WL P ops Q (⟨d,.fieldAddr T x k,ty,pos,af,ah (j,want)⟩::rest) n env w:=RL hT e q
theorem g0Bi{j dj b':Nat}{b want:Ys}(h:SH w0 M K w hp)(e:((ops[j]?).bind (·.dst),ev n env (.tmp dj),ev n env x)=(ah dj,cD b,gv (b==want) (.pointer (ah ⟨b',o,aE⟩)))) [hT:One P T z] [Look hp b' i](a:(hp i,cs[o]?)=(Chunk.blk b' cs,ah v))
    (q:WL P ops Q rest n (gz env d (gv (b==want) v)) w):WL P ops Q (⟨d,.load T x,ty,pos,af,ah (j,want)⟩::rest) n env w:=by
  injection e with e1 e3;injection e3 with e3 e4;injection a with e5 e6;exact RJ h i hT (by rw[e1,e3,e4,e5,e6]) q
section
variable{α:Type}{R:lV α}{E E2:aw}{sz:Nat}{l:Zi α}
theorem lnS(h:SH w0 M K w hp) [hT:SliceOf P T E sz] [Ij hp v i](e:hp i=.sr R v l)(k:WL P ops Q rest n (gz env d (.int .i64 l.length)) w):WLn P ops Q T v rest n env d w:=by
 obtain⟨a,c,e,_⟩:=h.fU i e;exact⟨_,⟨a,c,E,sz,e,hT⟩,k⟩
theorem lnR(h:SH w0 M K w hp) [hT:SliceOf P T E sz] [Ij hp v i](e:hp i=.rd R v l)(k:WL P ops Q rest n (gz env d (.int .i64 l.length)) w):WLn P ops Q T v rest n env d w:=by
 obtain⟨a,c,e,_⟩:=h.kK i e;exact⟨_,⟨a,c,E,sz,e,hT⟩,k⟩
theorem lnO(h:SH w0 M K w hp) [hT:SliceOf P T E sz] [Ij hp v i](e:hp i=.own R E2 v l)(k:WL P ops Q rest n (gz env d (.int .i64 l.length)) w):WLn P ops Q T v rest n env d w:=by
 obtain⟨a,c,e,_⟩:=h.dB i e;exact⟨_,⟨a,c,E,sz,e,hT⟩,k⟩
end
end
section
variable{α:Type}{R:lV α}{E E2:aw}{sz:Nat}{l:Zi α}{P:br}{ops:Array du}{Q:fR->Act->al->Prop}{rest:Zi du}{n:Nat}{env:Nat->aj}{w w0:al}{M K:BS}{hp:Nat->Chunk}{d:Yw Nat}{ty:aw}{pos:String}{af:Array ix}{x:bj}{T:aw}{v:aj}{i j dj:Nat}{b want:Ys}
theorem g0LS(h:SH w0 M K w hp)(e:((ops[j]?).bind (·.dst),ev n env (.tmp dj),ev n env x)=(ah dj,cD b,gv (b==want) v)) [hT:SliceOf P T E sz] [Ij hp v i](a:hp i=.sr R v l)
    (q:WL P ops Q rest n (gz env d (gv (b==want) (.int .i64 l.length))) w):WL P ops Q (⟨d,.call {callee:=.builtin .len,args:= #[x],argTypes:= #[T]},ty,pos,af,ah (j,want)⟩::rest) n env w:=by
  injection e with e1 e3;injection e3 with e3 e4;exact bV e1 e3 (fun q=>ui hT (e4.trans<|iR q)<|h.fU i a) q
theorem g0LR(h:SH w0 M K w hp)(e:((ops[j]?).bind (·.dst),ev n env (.tmp dj),ev n env x)=(ah dj,cD b,gv (b==want) v)) [hT:SliceOf P T E sz] [Ij hp v i](a:hp i=.rd R v l)
    (q:WL P ops Q rest n (gz env d (gv (b==want) (.int .i64 l.length))) w):WL P ops Q (⟨d,.call {callee:=.builtin .len,args:= #[x],argTypes:= #[T]},ty,pos,af,ah (j,want)⟩::rest) n env w:=by
  injection e with e1 e3;injection e3 with e3 e4;exact bV e1 e3 (fun q=>ui hT (e4.trans<|iR q)<|h.kK i a) q
end
section
variable{P:br}{ops:Array du}{Q1:Act->Prop}{rest:Zi du}{n:Nat}{env:Nat->aj}{w w0:al}{M K:BS}{hp:Nat->Chunk}{d:Yw Nat}{op:Op}{ty:aw}{pos:String}{af:Array ix}{x y c:bj}{T T2:aw}{v z:aj}{b o k off i j dj:Nat}{cs zs vs:Zi aj}{b0 bb want:Ys}
theorem kV(a:ev n env x=v)(h:WK P ops w Q1 rest n (gz env d v)):WK P ops w Q1 (⟨d,.move x,ty,pos,af,aE⟩::rest) n env:=bT (eu a) h
theorem kA(a:ev n env x=v)(h:WK P ops w Q1 rest n (gz env d v)):WK P ops w Q1 (⟨d,.assign x,ty,pos,af,aE⟩::rest) n env:=bT (j6 a) h
theorem kFi(a:ev n env x=.pointer (ah ⟨b,o,aE⟩)) [hT:ed P T k off](h:WK P ops w Q1 rest n (gz env d (.pointer (ah ⟨b,o+off,aE⟩)))):WK P ops w Q1 (⟨d,.fieldAddr T x k,ty,pos,af,aE⟩::rest) n env:=bT (dC hT a) h
theorem kBi(h:SH w0 M K w hp)(a:ev n env x=.pointer (ah ⟨b,o,aE⟩)) [hT:One P T z] [Look hp b i](e:(hp i,cs[o]?)=(Chunk.blk b cs,ah v))(q:WK P ops w Q1 rest n (gz env d v)):WK P ops w Q1 (⟨d,.load T x,ty,pos,af,aE⟩::rest) n env:=by
 injection e with e1 e2;exact bT (dW h i e1 hT a e2) q
theorem kPi{a:Nat}(h:SH w0 M K w hp)(c:ev n env x=.pointer (ah ⟨b,a,aE⟩)) [hT:One P T z] [P8 hp b i](e:(hp i,a,cs[k]?)=(Chunk.pt b o cs,o+k,ah v))(q:WK P ops w Q1 rest n (gz env d v)):WK P ops w Q1 (⟨d,.load T x,ty,pos,af,aE⟩::rest) n env:=by
 injection e with e1 e2;injection e2 with e2 e3;exact bT (Jo h i e1 hT (e2▸c) e3) q
theorem kP0i{a:Nat}(h:SH w0 M K w hp)(c:ev n env x=.pointer (ah ⟨b,a,aE⟩)) [hT:One P T z] [P8 hp b i](e:(hp i,cs[0]?)=(Chunk.pt b a cs,ah v))(q:WK P ops w Q1 rest n (gz env d v)):WK P ops w Q1 (⟨d,.load T x,ty,pos,af,aE⟩::rest) n env:=by
 injection e with e1 e2;exact bT (Jo (k:=0) h i e1 hT c e2) q
theorem kOn(a:b0=bb)(e:((ops[j]?).bind (·.dst),ev n env (.tmp dj))=(ah dj,cD b0))(h:WK P ops w Q1 (⟨d,op,ty,pos,af,aE⟩::rest) n env):WK P ops w Q1 (⟨d,op,ty,pos,af,ah (j,bb)⟩::rest) n env:=by
  injection e with e1 e2;exact wk_on e1 (by rw[e2,a]) h
theorem kOffF(a:b0=ar)(e:((ops[j]?).bind (·.dst),ev n env (.tmp dj),(ar==bb))=(ah dj,cD b0,ar))(h:WK P ops w Q1 rest n (gz env d gj)):WK P ops w Q1 (⟨d,op,ty,pos,af,ah (j,bb)⟩::rest) n env:=by
  injection e with e1 e2;injection e2 with e2 e3;exact I4 e1 (by rw[e2,a]) e3 h
theorem kOffT(a:b0=ba)(e:((ops[j]?).bind (·.dst),ev n env (.tmp dj),(ba==bb))=(ah dj,cD b0,ar))(h:WK P ops w Q1 rest n (gz env d gj)):WK P ops w Q1 (⟨d,op,ty,pos,af,ah (j,bb)⟩::rest) n env:=by
  injection e with e1 e2;injection e2 with e2 e3;exact I4 e1 (by rw[e2,a]) e3 h
theorem kpT(a:b0=ba)(e:(ev n env c,ev n env x)=(cD b0,v))(h:WK P ops w Q1 rest n (gz env d v)):WK P ops w Q1 (⟨d,.pick c x y,ty,pos,af,aE⟩::rest) n env:=by
 injection e with e1 e2;exact bT (jq (b:=ba) (by rw[e1,a]) e2) h
theorem kpF(a:b0=ar)(e:(ev n env c,ev n env y)=(cD b0,v))(h:WK P ops w Q1 rest n (gz env d v)):WK P ops w Q1 (⟨d,.pick c x y,ty,pos,af,aE⟩::rest) n env:=by
 injection e with e1 e2;exact bT (jq (b:=ar) (by rw[e1,a]) e2) h
end
structure Beh(q:Prop):Prop where
 g:q
theorem D{p q:Prop}(k:q)(z:Beh q->p:=by
 intro k;repeat first
  |refine ak ?_
  |(show WL _ _ _ (⟨_,.move _,_,_,_,none⟩::_) _ _ _;refine mV _ (by(conv=>lhs;whnf);first|done|fail) ?_)
  |(show WL _ _ _ (⟨_,.assign _,_,_,_,none⟩::_) _ _ _;refine aV _ (by(conv=>lhs;whnf);first|done|fail) ?_)
  |(show WL _ _ _ (⟨_,.fieldAddr _ _ _,_,_,_,none⟩::_) _ _ _;refine fadi Z ?_)
  |(show WL _ _ _ (⟨_,.load _ _,_,_,_,none⟩::_) _ _ _;first|refine lBi h rfl rfl ?_|refine lBNi h rfl rfl ?_|refine lP0i h rfl rfl ?_|refine lPN0i h rfl rfl ?_|refine lPi h rfl rfl ?_|refine lPNi h rfl rfl ?_)
  |(show WL _ _ _ (⟨_,.binOp _ _ _ _ _,_,_,_,none⟩::_) _ _ _;first
   |(show WL _ _ _ (⟨_,.binOp .eql _ _ _ _,_,_,_,none⟩::_) _ _ _;refine Kg Z ?_)
   |(show WL _ _ _ (⟨_,.binOp .neq _ _ _ _,_,_,_,none⟩::_) _ _ _;refine qneq Z ?_)
   |(show WL _ _ _ (⟨_,.binOp .lss _ _ _ _,_,_,_,none⟩::_) _ _ _;refine qlss Z ?_)
   |(show WL _ _ _ (⟨_,.binOp .gtr _ _ _ _,_,_,_,none⟩::_) _ _ _;refine aA (zT Z Z) ?_)
   |(show WL _ _ _ (⟨_,.binOp .leq _ _ _ _,_,_,_,none⟩::_) _ _ _;refine aA (r_leq Z Z) ?_)
   |(show WL _ _ _ (⟨_,.binOp .geq _ _ _ _,_,_,_,none⟩::_) _ _ _;refine aA (LC Z Z) ?_)
   |(show WL _ _ _ (⟨_,.binOp .add _ _ _ _,_,_,_,none⟩::_) _ _ _;first|refine qadd rfl (by assumption) ?_|refine aA (Ke rfl rfl (by assumption)) ?_)
   |(show WL _ _ _ (⟨_,.binOp .sub _ _ _ _,_,_,_,none⟩::_) _ _ _;refine aA (Eb Z Z (by assumption)) ?_))
  |(show WL _ _ _ (⟨_,.call _,_,_,_,none⟩::_) _ _ _;refine lenK (by(conv=>lhs;whnf);first|done|fail) ?_;first|refine lnS h rfl ?_|refine lnR h rfl ?_|refine lnO h rfl ?_)
  |(show WL _ _ _ (⟨_,.extract _ _,_,_,_,none⟩::_) _ _ _;refine P7 Z ?_)
  |(show WL _ _ _ (⟨_,.pick _ _ _,_,_,_,none⟩::_) _ _ _;first|refine aA (LG rfl rfl PT) ?_|refine aA (xU rfl rfl PT) ?_|refine pkT (by assumption) rfl ?_|refine pkF (by assumption) rfl ?_)
  |(show WL _ _ _ (⟨_,.unOp .not _ _,_,_,_,none⟩::_) _ _ _;refine aA (rC Z) ?_)
  |(show WL _ _ _ (⟨_,.nilCheck _,_,_,_,none⟩::_) _ _ _;refine aA (fM Z) ?_)
  |(show WL _ _ _ (⟨_,_,_,_,_,some _⟩::_) _ _ _;first
   |refine oN (by assumption) Z ?_|refine ofF (by assumption) Z ?_|refine ofT (by assumption) Z ?_
   |refine Vz Z (by(conv=>lhs;whnf);first|done|fail) ?_|refine CG (b':=false) rfl (by(conv=>lhs;whnf);first|done|fail) rfl ?_|refine CG (b':=true) rfl (by(conv=>lhs;whnf);first|done|fail) rfl ?_
   |(show WL _ _ _ (⟨_,.fieldAddr _ _ _,_,_,_,_⟩::_) _ _ _;refine g0Fi Z ?_)
   |(show WL _ _ _ (⟨_,.load _ _,_,_,_,_⟩::_) _ _ _;refine g0Bi h Z Z ?_)
   |(show WL _ _ _ (⟨_,.move _,_,_,_,_⟩::_) _ _ _;first|refine g0I rfl ?_|refine g0B' rfl ?_)
   |(show WL _ _ _ (⟨_,.call _,_,_,_,_⟩::_) _ _ _;first|refine g0LS h rfl rfl ?_|refine g0LR h rfl rfl ?_)
   |(show WL _ _ _ (⟨_,.unOp .not _ _,_,_,_,_⟩::_) _ _ _;refine bV Z Z (fun q=>rC (iR q)) ?_)
   |(show WL _ _ _ (⟨_,.pick _ _ _,_,_,_,_⟩::_) _ _ _;first|refine bV rfl rfl (fun q=>LG (iR q) (gvn q) PT) ?_|refine bV rfl rfl (fun q=>xU (iR q) (gvn q) PT) ?_)
   |(show WL _ _ _ (⟨_,.binOp .eql _ _ _ _,_,_,_,_⟩::_) _ _ _;first|refine bV rfl rfl (fun q=>yo (iR q) rfl) ?_|refine bV rfl rfl (fun q=>yo (iR q) (iR q)) ?_)
   |(show WL _ _ _ (⟨_,.binOp .neq _ _ _ _,_,_,_,_⟩::_) _ _ _;first|refine bV rfl rfl (fun q=>Pk (iR q) rfl) ?_|refine bV rfl rfl (fun q=>Pk (iR q) (iR q)) ?_)
   |(show WL _ _ _ (⟨_,.binOp .lss _ _ _ _,_,_,_,_⟩::_) _ _ _;first|refine bV rfl rfl (fun q=>Jn (iR q) rfl) ?_|refine bV rfl rfl (fun q=>Jn (iR q) (iR q)) ?_)
   |(show WL _ _ _ (⟨_,.binOp .gtr _ _ _ _,_,_,_,_⟩::_) _ _ _;first|refine bV rfl rfl (fun q=>zT (iR q) rfl) ?_|refine bV rfl rfl (fun q=>zT (iR q) (iR q)) ?_)
   |(show WL _ _ _ (⟨_,.binOp .geq _ _ _ _,_,_,_,_⟩::_) _ _ _;first|refine bV rfl rfl (fun q=>LC (iR q) rfl) ?_|refine bV rfl rfl (fun q=>LC (iR q) (iR q)) ?_))
  |(show WK _ _ _ _ _ _ _;first
   |(show WK _ _ _ _ (⟨_,_,_,_,_,none⟩::_) _ _;first
    |(show WK _ _ _ _ (⟨_,.move _,_,_,_,_⟩::_) _ _;refine kV (by(conv=>lhs;whnf);first|done|fail) ?_)
    |(show WK _ _ _ _ (⟨_,.assign _,_,_,_,_⟩::_) _ _;refine kA (by(conv=>lhs;whnf);first|done|fail) ?_)
    |(show WK _ _ _ _ (⟨_,.fieldAddr _ _ _,_,_,_,_⟩::_) _ _;refine kFi Z ?_)
    |(show WK _ _ _ _ (⟨_,.load _ _,_,_,_,_⟩::_) _ _;first|refine kBi h rfl rfl ?_|refine kP0i h rfl rfl ?_|refine kPi h rfl rfl ?_)
    |(show WK _ _ _ _ (⟨_,.nilCheck _,_,_,_,_⟩::_) _ _;refine bT (fM Z) ?_)
    |(show WK _ _ _ _ (⟨_,.unOp .not _ _,_,_,_,_⟩::_) _ _;refine bT (rC Z) ?_)
    |(show WK _ _ _ _ (⟨_,.binOp .eql _ _ _ _,_,_,_,_⟩::_) _ _;refine bT (yo Z Z) ?_)
    |(show WK _ _ _ _ (⟨_,.binOp .neq _ _ _ _,_,_,_,_⟩::_) _ _;refine bT (Pk Z Z) ?_)
    |(show WK _ _ _ _ (⟨_,.binOp .lss _ _ _ _,_,_,_,_⟩::_) _ _;refine bT (Jn Z Z) ?_)
    |(show WK _ _ _ _ (⟨_,.binOp .gtr _ _ _ _,_,_,_,_⟩::_) _ _;refine bT (zT Z Z) ?_)
    |(show WK _ _ _ _ (⟨_,.binOp .leq _ _ _ _,_,_,_,_⟩::_) _ _;refine bT (r_leq Z Z) ?_)
    |(show WK _ _ _ _ (⟨_,.binOp .geq _ _ _ _,_,_,_,_⟩::_) _ _;refine bT (LC Z Z) ?_)
    |(show WK _ _ _ _ (⟨_,.binOp .add _ _ _ _,_,_,_,_⟩::_) _ _;refine bT (EN Z Z (by assumption)) ?_)
    |(show WK _ _ _ _ (⟨_,.binOp .sub _ _ _ _,_,_,_,_⟩::_) _ _;refine bT (Eb Z Z (by assumption)) ?_)
    |(show WK _ _ _ _ (⟨_,.pick _ _ _,_,_,_,_⟩::_) _ _;first|refine kpT (by assumption) rfl ?_|refine kpF (by assumption) rfl ?_))
   |refine kOn (by assumption) Z ?_|refine kOffF (by assumption) Z ?_|refine kOffT (by assumption) Z ?_
   |refine wk_end ?_)
  |refine jb ?_|refine iK ?_|refine bR ?_|refine wc_ret ?_|refine mF ?_|refine Jw ?_
  |refine aN ?_|refine jM ?_|refine zq ?_|refine gK ?_|refine sj ?_|refine AR ?_
 exact k.g):p:=z ⟨k⟩
open Go Go.RowKit Go.Proofs
section
variable{w w0:al}{M K:BS}{hp:Nat->Chunk}{v:aj}{i:Nat}{α:Type}{R:lV α}{E:aw}{l:Zi α}
theorem SH.oO(h:SH w0 M BE w hp) [Ij hp v i](e:hp i=.own R E v l):cz R E w M v l/\∀b,ob v b->w0.heap.size<=b:=h.mq i e
theorem SH.oR(h:SH w0 M BE w hp) [Ij hp v i](e:hp i=.rd R v l):bS R w M v l:=h.Az i e
end
section
variable{P:br}{n:Nat}{env:Nat->aj}{w w0:al}{M K:BS}{hp:Nat->Chunk}
theorem fnct{c:Func}{R:mv->al->Prop}{u a:Tmp}{T:aw}{v2:aj}{zs vs:Zi aj}{b i:Nat}(f:c.results= #[.cell a T,.tmp u])(d:SH w0 M K w hp)(j:ev n env (.tmp a)=.pointer (ah ⟨b,0,aE⟩))(g:ev n env (.tmp u)=v2)
  [hT:yA P T zs] [Look hp b i] (e:(hp i,vs.length)=(Chunk.blk b vs,zs.length)) (h:R (.returned (.tuple #[.agg vs.toArray,v2])) w):km P c R .ret (act n env) w:=by
 injection e with e1 e2;exact kX f j g d i e1 hT e2 h
end
theorem lf{p:Prop}(z:p:=by
 refine D ?_;first
  |refine ek Z (by(conv=>lhs;whnf);first|done|fail) ?_
  |refine fin2 Z (by(conv=>lhs;whnf);first|done|fail) (by(conv=>lhs;whnf);first|done|fail) ?_
  |refine fin3 Z (by(conv=>lhs;whnf);first|done|fail) (by(conv=>lhs;whnf);first|done|fail) (by(conv=>lhs;whnf);first|done|fail) ?_
  |refine fnct Z h Z (by(conv=>lhs;whnf);first|done|fail) rfl ?_
  |refine fin4 Z (by(conv=>lhs;whnf);first|done|fail) (by(conv=>lhs;whnf);first|done|fail) (by(conv=>lhs;whnf);first|done|fail) (by(conv=>lhs;whnf);first|done|fail) ?_
 first|rewrite [<-Option.some.inj hs]|rewrite [<-hs]
 first
  |exact Ya h
  |exact⟨h.grown,_,Z,cz.nil,lL⟩
  |exact⟨h.grown,_,Z,h.oO Z⟩
  |exact⟨h.grown,_,_,Z,fB.nil,fB.nil⟩
  |exact⟨h.grown,_,_,Z,h.oR Z,h.oR Z⟩):p:=z
theorem sg{p q:Prop}(k:q)(z:Beh q->p:=by
 intro k;refine D ?_;obtain⟨_,hs⟩:=bO hs;first|refine qadd rfl (by assumption) ?_|refine aA (Eb rfl rfl (by assumption)) ?_|refine aA (Ke rfl rfl (by assumption)) ?_
 exact k.g hs):p:=z ⟨k⟩
theorem kS{p q:Prop}(k:q)(z:Beh q->p:=by
 intro k;refine D ?_;first
  |(refine az hs Z (fun _ hs=>lf) ?_;intro _ hs;exact k.g hs)
  |(refine az hs Z ?_ (fun _ hs=>lf);intro _ hs;exact k.g hs)):p:=z ⟨k⟩
theorem sp1{p q:Prop}(k:q)(z:Beh q->p:=by
 intro k;refine D ?_;first
  |(refine az hs Z (fun _ hs=>lf) ?_;intro c hs;exact k.g c hs)
  |(refine az hs Z ?_ (fun _ hs=>lf);intro c hs;exact k.g c hs)):p:=z ⟨k⟩
section
variable{σ:Type}{n:Nat}{mod:Nat->Ys}{Py e:Nat->aj}{live:σ->Zi (Nat×aj)}{J:σ->al->Prop}{w:al}{μ:σ->Nat}{s0:σ}
theorem jn(s:σ)(b:Holds e (live s))(a:J s w)(hA:Gu mod e Py):JP n mod Py live J (act n e) w:=⟨s,e,rfl,hA,b,a⟩
theorem ln(s:σ)(c:Holds e (live s))(b:J s w)(a:μ s<μ s0)(hA:Gu mod e Py):JL n mod Py live J μ s0 (act n e) w:=⟨s,e,rfl,hA,c,b,a⟩
end
theorem ag{p:Prop}(z:p:=by repeat (first|(with_reducible exact Gu.refl _ _)|(with_reducible exact Gu.hav _ _ _)|(with_reducible refine Gu.on ?_)|((with_reducible refine Gu.hin ?_ ?_);rfl)|(with_reducible refine Gu.un ?_)|((with_reducible refine Gu.os ?_ ?_);rfl)|((with_reducible refine Gu.uc ?_ ?_);rfl))):p:=z
theorem hl{p:Prop}(z:p:=by repeat (first|exact U|refine⟨rfl,?_⟩)):p:=z
theorem je{p:Prop}(z:p:=by
 refine D ?_;refine ay ?_;first
  |exact jn _ hl ⟨h.cn _,hs⟩ ag
  |exact jn (_,_) hl ⟨h.cn _,hs⟩ ag
  |exact jn (_,_,_) hl ⟨h.cn _,hs⟩ ag
  |exact jn (_,_,_,_) hl ⟨h.cn _,hs⟩ ag
  |exact jn (_,_,_,_,_) hl ⟨h.cn _,hs⟩ ag
  |exact jn (_,_,_,_,_,_) hl ⟨h.cn _,hs⟩ ag
  |exact jn (_,_,_,_,_,_,_) hl ⟨h.cn _,hs⟩ ag
  |exact jn (_,_,_,_,_,_,_,_) hl ⟨h.cn _,hs⟩ ag):p:=z
theorem le{p:Prop}(z:p:=by
 refine D ?_;refine ay ?_;try subst hnx
 first
  |exact ln (_,_) hl ⟨h.cn _,by omega,hs⟩ (by first|exact Lu hik (by assumption)|exact upLt hik (by assumption)|(dsimp only;omega)) ag
  |exact ln (_,_,_) hl ⟨h.cn _,by omega,hs⟩ (by first|exact Lu hik (by assumption)|exact upLt hik (by assumption)|(dsimp only;omega)) ag
  |exact ln (_,_,_,_) hl ⟨h.cn _,by omega,hs⟩ (by first|exact Lu hik (by assumption)|exact upLt hik (by assumption)|(dsimp only;omega)) ag
  |exact ln (_,_,_,_,_) hl ⟨h.cn _,by omega,hs⟩ (by first|exact Lu hik (by assumption)|exact upLt hik (by assumption)|(dsimp only;omega)) ag
  |exact ln (_,_,_,_,_,_) hl ⟨h.cn _,by omega,hs⟩ (by first|exact Lu hik (by assumption)|exact upLt hik (by assumption)|(dsimp only;omega)) ag
  |exact ln (_,_,_,_,_,_,_) hl ⟨h.cn _,by omega,hs⟩ (by first|exact Lu hik (by assumption)|exact upLt hik (by assumption)|(dsimp only;omega)) ag):p:=z
end Go.LX
namespace Go.Proofs
open Go.Shelf
def Tryz.lays145_ren:Go.Shelf.Ren:=⟨fun|145=>189|220=>242|219=>263|217=>288|225=>289|224=>290|267=>291|266=>304|314=>305|n=>n,fun|9=>9|4=>4|59=>253|3=>3|5=>5|46=>249|146=>376|51=>294|n=>n,fun|1=>4|n=>n⟩
theorem Tryz.lays145:Go.Proofs.Lays.n145 cl Tryz.lays145_ren:={
 mixed:=zq2
 f145:=Tryz.func189.trans (ZD ah zq2)
 f217:=Tryz.func288.trans (ZD ah zq2)
 f219:=Tryz.func263.trans (ZD ah zq2)
 f220:=Tryz.func242.trans (ZD ah zq2)
 f224:=Tryz.func290.trans (ZD ah zq2)
 f225:=Tryz.func289.trans (ZD ah zq2)
 f266:=Tryz.func304.trans (ZD ah zq2)
 f267:=Tryz.func291.trans (ZD ah zq2)
 f314:=Tryz.func305.trans (ZD ah zq2)
 t3:=ei
 a3:=gn
 z3:=fx
 v3:=ey
 t4:=ej
 a4:=gw
 z4:=fy
 v4:=ez
 t5:=eI
 a5:=hP
 z5:=gx
 v5:=eV
 t9:=ee
 a9:=gA
 z9:=fL
 v9:=eA
 t46:=eB
 a46:=gE
 z46:=fW
 v46:=eM
 t51:=eC
 a51:=gF
 z51:=fX
 v51:=eN
 t59:=Tryz.underlying253
 a59:=Tryz.isAgg253
 z59:=Tryz.sizeOf253
 v59:=Tryz.zeroValue253
 t146:=rh
 a146:=tj
 z146:=s7
 v146:=rK
 g1:=by kernel_rfl}
open Go.RowKit Go.Lib in
theorem Tryz.strings_Cut(s a:ByteArray)(m:Int)(w:al)(hs:s.size<4294967281)(b:w.cell? ⟨4,0,aE⟩=ah (.int .i64 m)):
 bk cl 189 #[.string s,.string a] w fun e w'=>e=.returned (.tuple #[.string ⟨(rv s.data.toList a.data.toList).1.toArray⟩,.string ⟨(rv s.data.toList a.data.toList).2.1.toArray⟩,.bool (rv s.data.toList a.data.toList).2.2])/\∃n,w'=w.drewN n:=Any.strings_Cut Tryz.lays145 s a m w hs b
def Tryz.lays146_ren:Go.Shelf.Ren:=⟨fun|146=>161|221=>195|268=>245|138=>246|143=>226|195=>273|197=>274|218=>275|219=>263|260=>300|217=>288|225=>289|224=>290|267=>291|266=>304|314=>305|n=>n,fun|9=>9|31=>187|3=>3|4=>4|0=>0|105=>333|21=>21|5=>5|46=>249|119=>271|139=>383|138=>382|146=>376|51=>294|n=>n,fun|1=>4|3=>6|4=>7|n=>n⟩
theorem Tryz.lays146:Go.Proofs.Lays.n146 cl Tryz.lays146_ren:={
 mixed:=zq2
 f138:=Tryz.func246.trans (ZD ah zq2)
 f143:=Tryz.func226.trans (ZD ah zq2)
 f146:=Tryz.func161.trans (ZD ah zq2)
 f195:=Tryz.func273.trans (ZD ah zq2)
 f197:=Tryz.func274.trans (ZD ah zq2)
 f217:=Tryz.func288.trans (ZD ah zq2)
 f218:=Tryz.func275.trans (ZD ah zq2)
 f219:=Tryz.func263.trans (ZD ah zq2)
 f221:=Tryz.func195.trans (ZD ah zq2)
 f224:=Tryz.func290.trans (ZD ah zq2)
 f225:=Tryz.func289.trans (ZD ah zq2)
 f260:=Tryz.func300.trans (ZD ah zq2)
 f266:=Tryz.func304.trans (ZD ah zq2)
 f267:=Tryz.func291.trans (ZD ah zq2)
 f268:=Tryz.func245.trans (ZD ah zq2)
 f314:=Tryz.func305.trans (ZD ah zq2)
 t0:=ff
 a0:=iS
 z0:=hR
 v0:=ft
 t3:=ei
 a3:=gn
 z3:=fx
 v3:=ey
 t4:=ej
 a4:=gw
 z4:=fy
 v4:=ez
 t5:=eI
 a5:=hP
 z5:=gx
 v5:=eV
 t9:=ee
 a9:=gA
 z9:=fL
 v9:=eA
 t21:=kr
 a21:=oB
 z21:=nv
 v21:=lv
 t31:=my
 a31:=qe
 z31:=po
 v31:=nk
 t46:=eB
 a46:=gE
 z46:=fW
 v46:=eM
 t51:=eC
 a51:=gF
 z51:=fX
 v51:=eN
 t105:=vt
 a105:=BI
 z105:=AF
 v105:=w7
 t119:=ri
 a119:=tk
 z119:=s8
 t138:=vu
 a138:=BJ
 z138:=AG
 v138:=w8
 t139:=vx
 a139:=BT
 z139:=AH
 v139:=xa
 t146:=rh
 a146:=tj
 z146:=s7
 v146:=rK
 g1:=zq2
 g3:=zq2
 g4:=by kernel_rfl}
open Go.RowKit Go.Lib in
theorem Tryz.strings_Split(s a:ByteArray)(m:Int)(w:al)(hs:s.size<4294967281)(c:w.cell? ⟨4,0,aE⟩=ah (.int .i64 m))(b:1<=a.size):
 bk cl 161 #[.string s,.string a] w fun e w'=>
  e=.returned (.slice (ah ⟨w.heap.size,0,aE⟩) (dZ s a+1) (dZ s a+1))/\w'=w.alloc (.cells ((kp a 0 (dZ s a) s).map oy).toArray 9):=Any.strings_Split Tryz.lays146 zq2 s a m w hs c b
def Tryz.laysC172_ren:Go.Shelf.Ren:=⟨fun|172=>162|244=>210|245=>211|247=>252|279=>253|280=>254|281=>255|282=>256|287=>282|316=>283|171=>187|205=>284|321=>302|322=>303|243=>238|246=>269|283=>293|284=>294|285=>295|286=>296|129=>236|317=>306|318=>307|319=>308|320=>309|337=>310|338=>311|n=>n,fun|9=>9|3=>3|75=>225|76=>226|4=>4|5=>5|167=>313|37=>36|0=>0|85=>305|2=>2|168=>314|53=>296|175=>340|46=>249|210=>344|127=>331|145=>373|143=>371|21=>21|171=>361|173=>363|212=>379|51=>294|20=>20|213=>380|232=>384|233=>385|80=>228|n=>n,fun|15=>2|16=>3|17=>5|18=>8|19=>9|n=>n⟩
theorem Tryz.laysC172:Go.Proofs.LaysC.n172 cl Tryz.laysC172_ren:={
 mixed:=zq2
 f129:=Tryz.func236.trans (ZD ah zq2)
 f171:=Tryz.func187.trans (ZD ah zq2)
 f172:=Tryz.func162.trans (ZD ah zq2)
 f205:=Tryz.func284.trans (ZD ah zq2)
 f243:=Tryz.func238.trans (ZD ah zq2)
 f244:=Tryz.func210.trans (ZD ah zq2)
 f245:=Tryz.func211.trans (ZD ah zq2)
 f246:=Tryz.func269.trans (ZD ah zq2)
 f247:=Tryz.func252.trans (ZD ah zq2)
 f279:=Tryz.func253.trans (ZD ah zq2)
 f280:=Tryz.func254.trans (ZD ah zq2)
 f281:=Tryz.func255.trans (ZD ah zq2)
 f282:=Tryz.func256.trans (ZD ah zq2)
 f283:=Tryz.func293.trans (ZD ah zq2)
 f284:=Tryz.func294.trans (ZD ah zq2)
 f285:=Tryz.func295.trans (ZD ah zq2)
 f286:=Tryz.func296.trans (ZD ah zq2)
 f287:=Tryz.func282.trans (ZD ah zq2)
 f316:=Tryz.func283.trans (ZD ah zq2)
 f317:=Tryz.func306.trans (ZD ah zq2)
 f318:=Tryz.func307.trans (ZD ah zq2)
 f319:=Tryz.func308.trans (ZD ah zq2)
 f320:=Tryz.func309.trans (ZD ah zq2)
 f321:=Tryz.func302.trans (ZD ah zq2)
 f322:=Tryz.func303.trans (ZD ah zq2)
 f337:=Tryz.func310.trans (ZD ah zq2)
 f338:=Tryz.func311.trans (ZD ah zq2)
 t0:=ff
 a0:=iS
 z0:=hR
 v0:=ft
 t2:=oc
 a2:=sv
 z2:=rL
 v2:=pa
 t3:=ei
 a3:=gn
 z3:=fx
 v3:=ey
 t4:=ej
 a4:=gw
 z4:=fy
 v4:=ez
 t5:=eI
 a5:=hP
 z5:=gx
 v5:=eV
 t9:=ee
 a9:=gA
 z9:=fL
 v9:=eA
 t20:=ks
 a20:=oE
 z20:=nw
 v20:=lx
 t21:=kr
 a21:=oB
 z21:=nv
 v21:=lv
 t37:=kt
 a37:=oS
 z37:=ny
 v37:=ly
 t46:=eB
 a46:=gE
 z46:=fW
 v46:=eM
 t51:=eC
 a51:=gF
 z51:=fX
 v51:=eN
 t53:=jx
 a53:=nB
 z53:=mz
 v53:=ku
 t75:=rj
 a75:=tl
 z75:=s9
 v75:=rN
 t76:=vy
 a76:=BY
 z76:=AI
 v76:=xb
 t85:=vA
 a85:=B0
 z85:=AK
 v85:=xc
 t127:=rk
 a127:=tm
 z127:=ta
 v127:=rS
 t143:=rT
 a143:=B1
 z143:=AM
 v143:=xd
 t145:=rY
 a145:=B2
 z145:=AN
 v145:=xf
 t167:=vF
 a167:=B3
 z167:=AS
 v167:=xi
 t168:=vI
 a168:=B4
 z168:=AT
 v168:=xj
 t171:=mA
 a171:=qj
 z171:=pq
 v171:=np
 t173:=mC
 a173:=qk
 z173:=ps
 v173:=nq
 t175:=vW
 a175:=B5
 z175:=AW
 v175:=xl
 t210:=wa
 a210:=B6
 z210:=A3
 v210:=xo
 t212:=mL
 a212:=qn
 z212:=pw
 v212:=nr
 t213:=mN
 a213:=qq
 z213:=px
 t232:=mS
 a232:=qs
 z232:=py
 v232:=ns
 t233:=mT
 a233:=qt
 z233:=pA
 v233:=nt
 g15:=zq2
 g16:=zq2
 g17:=zq2
 g18:=zq2
 g19:=zq2
 t80:=wb
 a80:=B7
 z80:=A4
 v80:=xp
 i0:=zq2
 i2:=zq2
 i3:=zq2
 i4:=zq2
 i5:=zq2
 i9:=zq2
 i20:=zq2
 i21:=zq2
 i37:=zq2
 i46:=zq2
 i51:=zq2
 i53:=zq2
 i75:=zq2
 i76:=zq2
 i80:=zq2
 i85:=zq2
 i127:=zq2
 i143:=zq2
 i145:=zq2
 i167:=zq2
 i168:=zq2
 i171:=zq2
 i173:=zq2
 i175:=zq2
 i210:=zq2
 i212:=zq2
 i232:=zq2
 i233:=zq2
 m15:=zq2
 m16:=zq2
 m17:=zq2
 m18:=zq2
 m19:=zq2
 c0:=zq2
 c2:=zq2
 c3:=zq2
 c4:=zq2
 c5:=zq2
 c9:=zq2
 c20:=zq2
 c21:=zq2
 c37:=zq2
 c46:=zq2
 c51:=zq2
 c53:=zq2
 c75:=zq2
 c76:=zq2
 c80:=zq2
 c85:=zq2
 c127:=zq2
 c143:=zq2
 c145:=zq2
 c167:=zq2
 c168:=zq2
 c171:=zq2
 c173:=zq2
 c175:=zq2
 c210:=zq2
 c212:=zq2
 c213:=zq2
 c232:=zq2
 c233:=by kernel_rfl}
open Go.RowKit in
theorem Tryz.strconv_Atoi_ok(s:ByteArray)(a:s.size<=9223372036854775806)(v:Int)(h:ew s.data.toList=.ok v)(w:al):
 bk cl 162 #[.string s] w fun e w'=>e=.returned (.tuple #[.int .i64 v,.nilIface])/\(w'=w\/∃t,w'=ra w 5 t):=Any.strconv_Atoi_ok Tryz.laysC172 s a v h w
open Go.RowKit in
theorem Tryz.strconv_Atoi_syntax_var(s:ByteArray)(b:s.size<=281474976710656)(e:Lib.NumEnd Int)(h:ew s.data.toList=e)(d:∀v,e≠ .ok v)(f:e≠ .range)(c:aw)(p:aj)(w:al)(a:w.var? cl "strconv.ErrSyntax" =ah #[.iface c p]):
 bk cl 162 #[.string s] w fun e w'=>∃N,e=.returned (.tuple #[.int .i64 0,.iface 314 (.pointer (ah ⟨N,0,aE⟩))])/\w.heap.size<=N/\w'.heap[N]? =ah (.cells #[.string ⟨#[65,116,111,105]⟩,.string s,.iface c p] 344 (0,0))/\Below w.heap.size w w':=Any.strconv_Atoi_syntax_var Tryz.laysC172 s b (by cases e with|ok v=>exact Zs Z (d v)|range=>exact Zs Z f|_=>exact h) c p w a
open Go.RowKit in
theorem Tryz.strconv_Atoi_range_var(s:ByteArray)(b:s.size<=281474976710656)(h:ew s.data.toList=.range)(c:aw)(p:aj)(w:al)(a:w.var? cl "strconv.ErrRange" =ah #[.iface c p]):
 bk cl 162 #[.string s] w fun e w'=>∃N,e=.returned (.tuple #[.int .i64 (Lib.atoiSat s.data.toList),.iface 314 (.pointer (ah ⟨N,0,aE⟩))])/\w.heap.size<=N/\w'.heap[N]? =ah (.cells #[.string ⟨#[65,116,111,105]⟩,.string s,.iface c p] 344 (0,0))/\Below w.heap.size w w':=Any.strconv_Atoi_range_var Tryz.laysC172 s b h c p w a
def Tryz.laysM171_ren:Go.Shelf.Ren:=⟨fun|171=>187|243=>238|246=>269|283=>293|284=>294|285=>295|286=>296|129=>236|317=>306|318=>307|319=>308|320=>309|337=>310|338=>311|n=>n,fun|3=>3|9=>9|2=>2|4=>4|171=>361|0=>0|53=>296|37=>36|5=>5|173=>363|212=>379|51=>294|20=>20|213=>380|46=>249|232=>384|233=>385|n=>n,fun|17=>5|18=>8|19=>9|n=>n⟩
theorem Tryz.laysM171:Go.Proofs.LaysM.n171 cl Tryz.laysM171_ren:={
 mixed:=zq2
 f129:=Tryz.func236.trans (ZD ah zq2)
 f171:=Tryz.func187.trans (ZD ah zq2)
 f243:=Tryz.func238.trans (ZD ah zq2)
 f246:=Tryz.func269.trans (ZD ah zq2)
 f283:=Tryz.func293.trans (ZD ah zq2)
 f284:=Tryz.func294.trans (ZD ah zq2)
 f285:=Tryz.func295.trans (ZD ah zq2)
 f286:=Tryz.func296.trans (ZD ah zq2)
 f317:=Tryz.func306.trans (ZD ah zq2)
 f318:=Tryz.func307.trans (ZD ah zq2)
 f319:=Tryz.func308.trans (ZD ah zq2)
 f320:=Tryz.func309.trans (ZD ah zq2)
 f337:=Tryz.func310.trans (ZD ah zq2)
 f338:=Tryz.func311.trans (ZD ah zq2)
 t0:=ff
 a0:=iS
 z0:=hR
 v0:=ft
 t2:=oc
 a2:=sv
 z2:=rL
 v2:=pa
 t3:=ei
 a3:=gn
 z3:=fx
 v3:=ey
 t4:=ej
 a4:=gw
 z4:=fy
 v4:=ez
 t5:=eI
 a5:=hP
 z5:=gx
 v5:=eV
 t9:=ee
 a9:=gA
 z9:=fL
 v9:=eA
 t20:=ks
 a20:=oE
 z20:=nw
 v20:=lx
 t37:=kt
 a37:=oS
 z37:=ny
 v37:=ly
 t46:=eB
 a46:=gE
 z46:=fW
 v46:=eM
 t51:=eC
 a51:=gF
 z51:=fX
 v51:=eN
 t53:=jx
 a53:=nB
 z53:=mz
 v53:=ku
 t171:=mA
 a171:=qj
 z171:=pq
 v171:=np
 t173:=mC
 a173:=qk
 z173:=ps
 v173:=nq
 t212:=mL
 a212:=qn
 z212:=pw
 v212:=nr
 t213:=mN
 a213:=qq
 z213:=px
 t232:=mS
 a232:=qs
 z232:=py
 v232:=ns
 t233:=mT
 a233:=qt
 z233:=pA
 v233:=nt
 g17:=zq2
 g18:=zq2
 g19:=zq2
 i0:=zq2
 i2:=zq2
 i3:=zq2
 i4:=zq2
 i5:=zq2
 i9:=zq2
 i20:=zq2
 i37:=zq2
 i46:=zq2
 i51:=zq2
 i53:=zq2
 i171:=zq2
 i173:=zq2
 i212:=zq2
 i232:=zq2
 i233:=zq2
 m17:=zq2
 m18:=zq2
 m19:=by kernel_rfl}
open Go.RowKit Go.Sort Go.Lib in
theorem Tryz.strconv_Itoa(n:Int)(c: -9223372036854775808<=n)(b:n<=9223372036854775807)(w:al)(a:pe cl w "internal/strconv.uint64pow10" .u64 Lib.pow10Tab):
 bk cl 187 #[.int .i64 n] w fun e w'=>e=.returned (.string ⟨(Lib.itoa n).toArray⟩)/\∃k os,w'=grow (w.drewN k) os:=Any.strconv_Itoa Tryz.laysM171 n c b w a
def Tryz.lays221_ren:Go.Shelf.Ren:=⟨fun|221=>195|268=>245|138=>246|143=>226|195=>273|197=>274|218=>275|219=>263|260=>300|217=>288|225=>289|224=>290|267=>291|266=>304|314=>305|n=>n,fun|9=>9|3=>3|31=>187|4=>4|0=>0|105=>333|21=>21|5=>5|46=>249|119=>271|139=>383|138=>382|146=>376|51=>294|n=>n,fun|1=>4|3=>6|4=>7|n=>n⟩
theorem Tryz.lays221:Go.Proofs.Lays.n221 cl Tryz.lays221_ren:={
 mixed:=zq2
 f138:=Tryz.func246.trans (ZD ah zq2)
 f143:=Tryz.func226.trans (ZD ah zq2)
 f195:=Tryz.func273.trans (ZD ah zq2)
 f197:=Tryz.func274.trans (ZD ah zq2)
 f217:=Tryz.func288.trans (ZD ah zq2)
 f218:=Tryz.func275.trans (ZD ah zq2)
 f219:=Tryz.func263.trans (ZD ah zq2)
 f221:=Tryz.func195.trans (ZD ah zq2)
 f224:=Tryz.func290.trans (ZD ah zq2)
 f225:=Tryz.func289.trans (ZD ah zq2)
 f260:=Tryz.func300.trans (ZD ah zq2)
 f266:=Tryz.func304.trans (ZD ah zq2)
 f267:=Tryz.func291.trans (ZD ah zq2)
 f268:=Tryz.func245.trans (ZD ah zq2)
 f314:=Tryz.func305.trans (ZD ah zq2)
 t0:=ff
 a0:=iS
 z0:=hR
 v0:=ft
 t3:=ei
 a3:=gn
 z3:=fx
 v3:=ey
 t4:=ej
 a4:=gw
 z4:=fy
 v4:=ez
 t5:=eI
 a5:=hP
 z5:=gx
 v5:=eV
 t9:=ee
 a9:=gA
 z9:=fL
 v9:=eA
 t21:=kr
 a21:=oB
 z21:=nv
 v21:=lv
 t31:=my
 a31:=qe
 z31:=po
 v31:=nk
 t46:=eB
 a46:=gE
 z46:=fW
 v46:=eM
 t51:=eC
 a51:=gF
 z51:=fX
 v51:=eN
 t105:=vt
 a105:=BI
 z105:=AF
 v105:=w7
 t119:=ri
 a119:=tk
 z119:=s8
 t138:=vu
 a138:=BJ
 z138:=AG
 v138:=w8
 t139:=vx
 a139:=BT
 z139:=AH
 v139:=xa
 t146:=rh
 a146:=tj
 z146:=s7
 v146:=rK
 g1:=zq2
 g3:=zq2
 g4:=by kernel_rfl}
open Go.RowKit Go.Lib in
theorem Tryz.strings_genSplit(s a:ByteArray)(c:Nat)(n:Int)(N:Nat)(m:Int)(w:al)(hs:s.size<4294967281)(i:w.cell? ⟨4,0,aE⟩=ah (.int .i64 m))(g:1<=a.size)(d:c<=a.size)(f:n≠0)(b:n<=9223372036854775807)(j:(N:Int)=min (if n<0 then(dZ s a:Int)+1 else n) ((s.size:Int)+1)):
 bk cl 195 #[.string s,.string a,.int .i64 c,.int .i64 n] w fun e w'=>
  e=.returned (.slice (ah ⟨w.heap.size,0,aE⟩) (kp a c (N-1) s).length N)/\w'=w.alloc (.cells (Lib.cellsOf (kp a c (N-1) s) N) 9):=Any.strings_genSplit Tryz.lays221 zq2 s a c n N m w hs i g d f b j
def Tryz.lays100_ren:Go.Shelf.Ren:=⟨fun|100=>131|207=>196|n=>n,fun|9=>9|4=>4|3=>3|n=>n,fun|n=>n⟩
theorem Tryz.lays100:Go.Proofs.Lays.n100 cl Tryz.lays100_ren:={
 mixed:=zq2
 f100:=Tryz.func131.trans (ZD ah zq2)
 f207:=Tryz.func196.trans (ZD ah zq2)
 t3:=ei
 a3:=gn
 z3:=fx
 v3:=ey
 t4:=ej
 a4:=gw
 z4:=fy
 v4:=ez
 t9:=ee
 a9:=gA
 z9:=fL
 v9:=eA}
open Go.RowKit Go.Lib in
theorem Tryz.strings_HasSuffix(s p:ByteArray)(w:al)(hs:s.size<=9223372036854775807):
 bk cl 131 #[.string s,.string p] w fun e w'=>e=.returned (.bool (tt s.data.toList p.data.toList))/\w'=w:=Any.strings_HasSuffix Tryz.lays100 s p w hs
def Tryz.laysC174_ren:Go.Shelf.Ren:=⟨fun|174=>247|247=>252|245=>211|287=>282|279=>253|280=>254|281=>255|282=>256|321=>302|322=>303|316=>283|171=>187|205=>284|243=>238|246=>269|283=>293|284=>294|285=>295|286=>296|129=>236|317=>306|318=>307|319=>308|320=>309|337=>310|338=>311|n=>n,fun|9=>9|3=>3|2=>2|75=>225|85=>305|4=>4|167=>313|5=>5|53=>296|175=>340|46=>249|168=>314|37=>36|0=>0|210=>344|21=>21|127=>331|145=>373|143=>371|171=>361|173=>363|212=>379|51=>294|20=>20|213=>380|232=>384|233=>385|80=>228|n=>n,fun|15=>2|16=>3|17=>5|18=>8|19=>9|n=>n⟩
theorem Tryz.laysC174:Go.Proofs.LaysC.n174 cl Tryz.laysC174_ren:={
 mixed:=zq2
 f129:=Tryz.func236.trans (ZD ah zq2)
 f171:=Tryz.func187.trans (ZD ah zq2)
 f174:=Tryz.func247.trans (ZD ah zq2)
 f205:=Tryz.func284.trans (ZD ah zq2)
 f243:=Tryz.func238.trans (ZD ah zq2)
 f245:=Tryz.func211.trans (ZD ah zq2)
 f246:=Tryz.func269.trans (ZD ah zq2)
 f247:=Tryz.func252.trans (ZD ah zq2)
 f279:=Tryz.func253.trans (ZD ah zq2)
 f280:=Tryz.func254.trans (ZD ah zq2)
 f281:=Tryz.func255.trans (ZD ah zq2)
 f282:=Tryz.func256.trans (ZD ah zq2)
 f283:=Tryz.func293.trans (ZD ah zq2)
 f284:=Tryz.func294.trans (ZD ah zq2)
 f285:=Tryz.func295.trans (ZD ah zq2)
 f286:=Tryz.func296.trans (ZD ah zq2)
 f287:=Tryz.func282.trans (ZD ah zq2)
 f316:=Tryz.func283.trans (ZD ah zq2)
 f317:=Tryz.func306.trans (ZD ah zq2)
 f318:=Tryz.func307.trans (ZD ah zq2)
 f319:=Tryz.func308.trans (ZD ah zq2)
 f320:=Tryz.func309.trans (ZD ah zq2)
 f321:=Tryz.func302.trans (ZD ah zq2)
 f322:=Tryz.func303.trans (ZD ah zq2)
 f337:=Tryz.func310.trans (ZD ah zq2)
 f338:=Tryz.func311.trans (ZD ah zq2)
 t0:=ff
 a0:=iS
 z0:=hR
 v0:=ft
 t2:=oc
 a2:=sv
 z2:=rL
 v2:=pa
 t3:=ei
 a3:=gn
 z3:=fx
 v3:=ey
 t4:=ej
 a4:=gw
 z4:=fy
 v4:=ez
 t5:=eI
 a5:=hP
 z5:=gx
 v5:=eV
 t9:=ee
 a9:=gA
 z9:=fL
 v9:=eA
 t20:=ks
 a20:=oE
 z20:=nw
 v20:=lx
 t21:=kr
 a21:=oB
 z21:=nv
 v21:=lv
 t37:=kt
 a37:=oS
 z37:=ny
 v37:=ly
 t46:=eB
 a46:=gE
 z46:=fW
 v46:=eM
 t51:=eC
 a51:=gF
 z51:=fX
 v51:=eN
 t53:=jx
 a53:=nB
 z53:=mz
 v53:=ku
 t75:=rj
 a75:=tl
 z75:=s9
 v75:=rN
 t85:=vA
 a85:=B0
 z85:=AK
 v85:=xc
 t127:=rk
 a127:=tm
 z127:=ta
 v127:=rS
 t143:=rT
 a143:=B1
 z143:=AM
 v143:=xd
 t145:=rY
 a145:=B2
 z145:=AN
 v145:=xf
 t167:=vF
 a167:=B3
 z167:=AS
 v167:=xi
 t168:=vI
 a168:=B4
 z168:=AT
 v168:=xj
 t171:=mA
 a171:=qj
 z171:=pq
 v171:=np
 t173:=mC
 a173:=qk
 z173:=ps
 v173:=nq
 t175:=vW
 a175:=B5
 z175:=AW
 v175:=xl
 t210:=wa
 a210:=B6
 z210:=A3
 v210:=xo
 t212:=mL
 a212:=qn
 z212:=pw
 v212:=nr
 t213:=mN
 a213:=qq
 z213:=px
 t232:=mS
 a232:=qs
 z232:=py
 v232:=ns
 t233:=mT
 a233:=qt
 z233:=pA
 v233:=nt
 g15:=zq2
 g16:=zq2
 g17:=zq2
 g18:=zq2
 g19:=zq2
 t80:=wb
 a80:=B7
 z80:=A4
 v80:=xp
 i0:=zq2
 i2:=zq2
 i3:=zq2
 i4:=zq2
 i5:=zq2
 i9:=zq2
 i20:=zq2
 i21:=zq2
 i37:=zq2
 i46:=zq2
 i51:=zq2
 i53:=zq2
 i75:=zq2
 i80:=zq2
 i85:=zq2
 i127:=zq2
 i143:=zq2
 i145:=zq2
 i167:=zq2
 i168:=zq2
 i171:=zq2
 i173:=zq2
 i175:=zq2
 i210:=zq2
 i212:=zq2
 i232:=zq2
 i233:=zq2
 m15:=zq2
 m16:=zq2
 m17:=zq2
 m18:=zq2
 m19:=zq2
 c0:=zq2
 c2:=zq2
 c3:=zq2
 c4:=zq2
 c5:=zq2
 c9:=zq2
 c20:=zq2
 c21:=zq2
 c37:=zq2
 c46:=zq2
 c51:=zq2
 c53:=zq2
 c75:=zq2
 c80:=zq2
 c85:=zq2
 c127:=zq2
 c143:=zq2
 c145:=zq2
 c167:=zq2
 c168:=zq2
 c171:=zq2
 c173:=zq2
 c175:=zq2
 c210:=zq2
 c212:=zq2
 c213:=zq2
 c232:=zq2
 c233:=by kernel_rfl}
open Go.RowKit in
theorem Tryz.strconv_ParseInt_10_at64_ok(s:ByteArray)(a:s.size<=9223372036854775806)(v:Int)(h:ke 64 s.data.toList=.ok v)(w:al):
 bk cl 247 #[.string s,.int .i64 10,.int .i64 64] w fun e w'=>e=.returned (.tuple #[.int .i64 v,.nilIface])/\(w'=w\/∃t,w'=ra w 5 t):=Any.strconv_ParseInt_10_at64_ok Tryz.laysC174 s a v h w
open Go.RowKit in
theorem Tryz.strconv_ParseInt_10_at64_syntax_var(s:ByteArray)(b:s.size<=281474976710656)(e:Lib.NumEnd Int)(h:ke 64 s.data.toList=e)(d:∀v,e≠ .ok v)(f:e≠ .range)(c:aw)(p:aj)(w:al)(a:w.var? cl "strconv.ErrSyntax" =ah #[.iface c p]):
 bk cl 247 #[.string s,.int .i64 10,.int .i64 64] w fun e w'=>∃N,e=.returned (.tuple #[.int .i64 (0),.iface 314 (.pointer (ah ⟨N,0,aE⟩))])/\w.heap.size<=N/\w'.heap[N]? =ah (.cells #[.string ⟨#[80,97,114,115,101,73,110,116]⟩,.string s,.iface c p] 344 (0,0))/\Below w.heap.size w w':=Any.strconv_ParseInt_10_at64_syntax_var Tryz.laysC174 s b (by cases e with|ok v=>exact Zs Z (d v)|range=>exact Zs Z f|_=>exact h) c p w a
open Go.RowKit in
theorem Tryz.strconv_ParseInt_10_at64_range_var(s:ByteArray)(b:s.size<=281474976710656)(h:ke 64 s.data.toList=.range)(c:aw)(p:aj)(w:al)(a:w.var? cl "strconv.ErrRange" =ah #[.iface c p]):
 bk cl 247 #[.string s,.int .i64 10,.int .i64 64] w fun e w'=>∃N,e=.returned (.tuple #[.int .i64 (Lib.intSat 64 s.data.toList),.iface 314 (.pointer (ah ⟨N,0,aE⟩))])/\w.heap.size<=N/\w'.heap[N]? =ah (.cells #[.string ⟨#[80,97,114,115,101,73,110,116]⟩,.string s,.iface c p] 344 (0,0))/\Below w.heap.size w w':=Any.strconv_ParseInt_10_at64_range_var Tryz.laysC174 s b h c p w a
def Tryz.laysM173_ren:Go.Shelf.Ren:=⟨fun|173=>248|246=>269|283=>293|284=>294|285=>295|286=>296|129=>236|317=>306|318=>307|319=>308|320=>309|337=>310|338=>311|n=>n,fun|2=>2|3=>3|9=>9|4=>4|171=>361|0=>0|53=>296|37=>36|5=>5|173=>363|212=>379|51=>294|20=>20|213=>380|46=>249|232=>384|233=>385|n=>n,fun|17=>5|18=>8|19=>9|n=>n⟩
theorem Tryz.laysM173:Go.Proofs.LaysM.n173 cl Tryz.laysM173_ren:={
 mixed:=zq2
 f129:=Tryz.func236.trans (ZD ah zq2)
 f173:=Tryz.func248.trans (ZD ah zq2)
 f246:=Tryz.func269.trans (ZD ah zq2)
 f283:=Tryz.func293.trans (ZD ah zq2)
 f284:=Tryz.func294.trans (ZD ah zq2)
 f285:=Tryz.func295.trans (ZD ah zq2)
 f286:=Tryz.func296.trans (ZD ah zq2)
 f317:=Tryz.func306.trans (ZD ah zq2)
 f318:=Tryz.func307.trans (ZD ah zq2)
 f319:=Tryz.func308.trans (ZD ah zq2)
 f320:=Tryz.func309.trans (ZD ah zq2)
 f337:=Tryz.func310.trans (ZD ah zq2)
 f338:=Tryz.func311.trans (ZD ah zq2)
 t0:=ff
 a0:=iS
 z0:=hR
 v0:=ft
 t2:=oc
 a2:=sv
 z2:=rL
 v2:=pa
 t3:=ei
 a3:=gn
 z3:=fx
 v3:=ey
 t4:=ej
 a4:=gw
 z4:=fy
 v4:=ez
 t5:=eI
 a5:=hP
 z5:=gx
 v5:=eV
 t9:=ee
 a9:=gA
 z9:=fL
 v9:=eA
 t20:=ks
 a20:=oE
 z20:=nw
 v20:=lx
 t37:=kt
 a37:=oS
 z37:=ny
 v37:=ly
 t46:=eB
 a46:=gE
 z46:=fW
 v46:=eM
 t51:=eC
 a51:=gF
 z51:=fX
 v51:=eN
 t53:=jx
 a53:=nB
 z53:=mz
 v53:=ku
 t171:=mA
 a171:=qj
 z171:=pq
 v171:=np
 t173:=mC
 a173:=qk
 z173:=ps
 v173:=nq
 t212:=mL
 a212:=qn
 z212:=pw
 v212:=nr
 t213:=mN
 a213:=qq
 z213:=px
 t232:=mS
 a232:=qs
 z232:=py
 v232:=ns
 t233:=mT
 a233:=qt
 z233:=pA
 v233:=nt
 g17:=zq2
 g18:=zq2
 g19:=zq2
 i0:=zq2
 i2:=zq2
 i3:=zq2
 i4:=zq2
 i5:=zq2
 i9:=zq2
 i20:=zq2
 i37:=zq2
 i46:=zq2
 i51:=zq2
 i53:=zq2
 i171:=zq2
 i173:=zq2
 i212:=zq2
 i232:=zq2
 i233:=zq2
 m17:=zq2
 m18:=zq2
 m19:=by kernel_rfl}
open Go.RowKit Go.Sort Go.Lib in
theorem Tryz.strconv_FormatInt_10(n:Int)(c: -9223372036854775808<=n)(b:n<=9223372036854775807)(w:al)(a:pe cl w "internal/strconv.uint64pow10" .u64 Lib.pow10Tab):
 bk cl 248 #[.int .i64 n,.int .i64 10] w fun e w'=>e=.returned (.string ⟨(Lib.itoa n).toArray⟩)/\∃k os,w'=grow (w.drewN k) os:=Any.strconv_FormatInt_10 Tryz.laysM173 n c b w a
def Tryz.lays157_ren:Go.Shelf.Ren:=⟨fun|157=>171|229=>213|199=>214|261=>258|311=>285|312=>286|n=>n,fun|9=>9|31=>187|3=>3|5=>5|4=>4|119=>271|0=>0|40=>273|152=>317|21=>21|154=>319|51=>294|141=>321|196=>349|193=>346|198=>352|49=>350|194=>347|201=>355|226=>374|46=>249|227=>375|n=>n,fun|0=>0|6=>1|n=>n⟩
theorem Tryz.lays157:Go.Proofs.Lays.n157 cl Tryz.lays157_ren:={
 mixed:=zq2
 f157:=Tryz.func171.trans (ZD ah zq2)
 f199:=Tryz.func214.trans (ZD ah zq2)
 f229:=Tryz.func213.trans (ZD ah zq2)
 f261:=Tryz.func258.trans (ZD ah zq2)
 f311:=Tryz.func285.trans (ZD ah zq2)
 f312:=Tryz.func286.trans (ZD ah zq2)
 t0:=ff
 a0:=iS
 z0:=hR
 v0:=ft
 t3:=ei
 a3:=gn
 z3:=fx
 v3:=ey
 t4:=ej
 a4:=gw
 z4:=fy
 v4:=ez
 t5:=eI
 a5:=hP
 z5:=gx
 v5:=eV
 t9:=ee
 a9:=gA
 z9:=fL
 v9:=eA
 t21:=kr
 a21:=oB
 z21:=nv
 v21:=lv
 t31:=my
 a31:=qe
 z31:=po
 v31:=nk
 t40:=Tryz.underlying273
 a40:=Tryz.isAgg273
 z40:=Tryz.sizeOf273
 v40:=Tryz.zeroValue273
 t46:=eB
 a46:=gE
 z46:=fW
 v46:=eM
 t49:=Tryz.underlying350
 a49:=Tryz.isAgg350
 z49:=Tryz.sizeOf350
 v49:=Tryz.zeroValue350
 t51:=eC
 a51:=gF
 z51:=fX
 v51:=eN
 t119:=ri
 a119:=tk
 z119:=s8
 t141:=Tryz.underlying321
 a141:=Tryz.isAgg321
 z141:=Tryz.sizeOf321
 v141:=Tryz.zeroValue321
 t152:=Tryz.underlying317
 a152:=Tryz.isAgg317
 z152:=Tryz.sizeOf317
 v152:=Tryz.zeroValue317
 t154:=Tryz.underlying319
 a154:=Tryz.isAgg319
 z154:=Tryz.sizeOf319
 v154:=Tryz.zeroValue319
 t193:=Tryz.underlying346
 a193:=Tryz.isAgg346
 z193:=Tryz.sizeOf346
 v193:=Tryz.zeroValue346
 t194:=Tryz.underlying347
 a194:=Tryz.isAgg347
 z194:=Tryz.sizeOf347
 v194:=Tryz.zeroValue347
 t196:=Tryz.underlying349
 a196:=Tryz.isAgg349
 z196:=Tryz.sizeOf349
 v196:=Tryz.zeroValue349
 t198:=Tryz.underlying352
 a198:=Tryz.isAgg352
 z198:=Tryz.sizeOf352
 v198:=Tryz.zeroValue352
 t201:=Tryz.underlying355
 a201:=Tryz.isAgg355
 z201:=Tryz.sizeOf355
 v201:=Tryz.zeroValue355
 t226:=Tryz.underlying374
 a226:=Tryz.isAgg374
 z226:=Tryz.sizeOf374
 v226:=Tryz.zeroValue374
 t227:=Tryz.underlying375
 a227:=Tryz.isAgg375
 z227:=Tryz.sizeOf375
 v227:=Tryz.zeroValue375
 g0:=zq2
 g6:=by kernel_rfl}
open Go.RowKit Go.Lib in
theorem Tryz.strings_Fields(s:ByteArray)(w:al)(hs:s.size<4294967281)(a:∀(j:Nat) b,s.data.toList[j]? =ah b->b.toNat<128)(c:pe cl w "strings.asciiSpace" .u8 xN):
 bk cl 171 #[.string s] w fun e w'=>
  e=.returned (.slice (ah ⟨w.heap.size,0,aE⟩) (gf s.data.toList).length (gf s.data.toList).length)/\w'=w.alloc (.cells ((gf s.data.toList).map fun l=>oy ⟨l.toArray⟩).toArray 9):=Any.strings_Fields Tryz.lays157 zq2 zq2 s w hs a c
def Tryz.lays156_ren:Go.Shelf.Ren:=⟨fun|156=>188|165=>239|166=>240|169=>241|240=>270|241=>271|276=>297|277=>298|n=>n,fun|31=>187|9=>9|3=>3|4=>4|0=>0|20=>20|72=>301|76=>226|70=>299|37=>36|75=>225|127=>331|164=>365|5=>5|80=>228|n=>n,fun|n=>n⟩
theorem Tryz.lays156:Go.Proofs.Lays.n156 cl Tryz.lays156_ren:={
 mixed:=zq2
 f156:=Tryz.func188.trans (ZD ah zq2)
 f165:=Tryz.func239.trans (ZD ah zq2)
 f166:=Tryz.func240.trans (ZD ah zq2)
 f169:=Tryz.func241.trans (ZD ah zq2)
 f240:=Tryz.func270.trans (ZD ah zq2)
 f241:=Tryz.func271.trans (ZD ah zq2)
 f276:=Tryz.func297.trans (ZD ah zq2)
 f277:=Tryz.func298.trans (ZD ah zq2)
 t0:=ff
 a0:=iS
 z0:=hR
 v0:=ft
 t3:=ei
 a3:=gn
 z3:=fx
 v3:=ey
 t4:=ej
 a4:=gw
 z4:=fy
 v4:=ez
 t9:=ee
 a9:=gA
 z9:=fL
 v9:=eA
 t20:=ks
 a20:=oE
 z20:=nw
 v20:=lx
 t31:=my
 a31:=qe
 z31:=po
 v31:=nk
 t37:=kt
 a37:=oS
 z37:=ny
 v37:=ly
 t70:=Tryz.underlying299
 a70:=Tryz.isAgg299
 z70:=Tryz.sizeOf299
 v70:=Tryz.zeroValue299
 t72:=Tryz.underlying301
 a72:=Tryz.isAgg301
 z72:=Tryz.sizeOf301
 v72:=Tryz.zeroValue301
 t75:=rj
 a75:=tl
 z75:=s9
 v75:=rN
 t76:=vy
 a76:=BY
 z76:=AI
 v76:=xb
 t127:=rk
 a127:=tm
 z127:=ta
 v127:=rS
 t164:=Tryz.underlying365
 a164:=Tryz.isAgg365
 z164:=Tryz.sizeOf365
 v164:=Tryz.zeroValue365}
theorem Tryz.LU:Builder.Extra cl Tryz.lays156_ren:={
 sizeBuilder:=zq2
 liesBuilder:=zq2
 t5:=eI
 a5:=hP
 z5:=gx
 v5:=eV
 infoByte:=zq2
 cellsByte:=zq2
 sizeByte:=zq2
 neB5:=by decide}
open Go.RowKit in
theorem Tryz.strings_Join_none(a:Yw Addr)(c:Nat)(b:ByteArray)(w:al):
 bk cl 188 #[.slice a 0 c,.string b] w fun e w'=>e=.returned (.string ⟨#[]⟩)/\w'=w:=Any.strings_Join_none Tryz.lays156 Tryz.LU a c b w
open Go.RowKit in
theorem Tryz.strings_Join(g o c:Nat)(xs:Zi ByteArray)(b:ByteArray)(w:al)(a:∀(j:Nat) x,xs[j]? =ah x->w.cell? ⟨g,o+j,aE⟩=ah (.string x))(i:g<w.heap.size)(k:xs.length<=140737488355328)(d:xs.length<=c)(f:(Lib.join (xs.map (·.data.toList)) b.data.toList).length<=140737488355328):
    bk cl 188 #[.slice (ah ⟨g,o,aE⟩) xs.length c,.string b] w fun e w'=>e=.returned (.string ⟨(Lib.join (xs.map (·.data.toList)) b.data.toList).toArray⟩)/\Below w.heap.size w w':=Any.strings_Join Tryz.lays156 Tryz.LU g o c xs b w a i k d f
def Tryz.sortCo_ren:Go.Shelf.Ren:=⟨fun|6=>125|15=>185|14=>184|28=>235|29=>236|20=>227|21=>228|22=>229|23=>230|24=>231|25=>232|26=>233|27=>234|46=>264|47=>265|48=>266|49=>267|50=>268|57=>292|n=>n,fun|22=>35|24=>75|25=>184|3=>3|39=>249|0=>0|53=>294|55=>296|4=>4|46=>288|45=>287|50=>274|5=>5|9=>9|66=>325|70=>329|76=>358|77=>359|n=>n,fun|n=>n⟩
theorem Tryz.sortCo:Go.Proofs.SlLaysF0.n6 cl Tryz.sortCo_ren:={
 mixed:=by kernel_rfl,
 f6:=⟨Tryz.f125.name,by decide,Tryz.func125.trans (ZD ah zq2)⟩,
 f14:=⟨Tryz.f184.name,by decide,Tryz.func184.trans (ZD ah zq2)⟩,
 f15:=Tryz.func185.trans (ZD ah zq2),
 f20:=⟨Tryz.f227.name,by decide,Tryz.func227.trans (ZD ah zq2)⟩,
 f21:=⟨Tryz.f228.name,by decide,Tryz.func228.trans (ZD ah zq2)⟩,
 f22:=⟨Tryz.f229.name,by decide,Tryz.func229.trans (ZD ah zq2)⟩,
 f23:=⟨Tryz.f230.name,by decide,Tryz.func230.trans (ZD ah zq2)⟩,
 f24:=⟨Tryz.f231.name,by decide,Tryz.func231.trans (ZD ah zq2)⟩,
 f25:=⟨Tryz.f232.name,by decide,Tryz.func232.trans (ZD ah zq2)⟩,
 f26:=⟨Tryz.f233.name,by decide,Tryz.func233.trans (ZD ah zq2)⟩,
 f27:=⟨Tryz.f234.name,by decide,Tryz.func234.trans (ZD ah zq2)⟩,
 f28:=Tryz.func235.trans (ZD ah zq2),
 f29:=Tryz.func236.trans (ZD ah zq2),
 f46:=⟨Tryz.f264.name,by decide,Tryz.func264.trans (ZD ah zq2)⟩,
 f47:=Tryz.func265.trans (ZD ah zq2),
 f48:=Tryz.func266.trans (ZD ah zq2),
 f49:=⟨Tryz.f267.name,by decide,Tryz.func267.trans (ZD ah zq2)⟩,
 f50:=⟨Tryz.f268.name,by decide,Tryz.func268.trans (ZD ah zq2)⟩,
 f57:=⟨Tryz.f292.name,by decide,Tryz.func292.trans (ZD ah zq2)⟩,
 t0:=ff,
 a0:=iS,
 z0:=hR,
 v0:=ft,
 t3:=ei,
 a3:=gn,
 z3:=fx,
 v3:=ey,
 t4:=ej,
 a4:=gw,
 z4:=fy,
 v4:=ez,
 t5:=eI,
 a5:=hP,
 z5:=gx,
 v5:=eV,
 t9:=ee,
 a9:=gA,
 z9:=fL,
 v9:=eA,
 t22:=Tryz.underlying35,
 a22:=Tryz.isAgg35,
 z22:=Tryz.sizeOf35,
 v22:=Tryz.zeroValue35,
 t25:=Tryz.underlying184,
 a25:=Tryz.isAgg184,
 z25:=Tryz.sizeOf184,
 v25:=Tryz.zeroValue184,
 t39:=eB,
 a39:=gE,
 z39:=fW,
 v39:=eM,
 t45:=Tryz.underlying287,
 a45:=Tryz.isAgg287,
 z45:=Tryz.sizeOf287,
 v45:=Tryz.zeroValue287,
 t46:=Tryz.underlying288,
 a46:=Tryz.isAgg288,
 z46:=Tryz.sizeOf288,
 v46:=Tryz.zeroValue288,
 t50:=Tryz.underlying274,
 a50:=Tryz.isAgg274,
 z50:=Tryz.sizeOf274,
 v50:=Tryz.zeroValue274,
 t53:=eC,
 a53:=gF,
 z53:=fX,
 v53:=eN,
 t55:=jx,
 a55:=nB,
 z55:=mz,
 v55:=ku,
 t66:=Tryz.underlying325,
 a66:=Tryz.isAgg325,
 z66:=Tryz.sizeOf325,
 v66:=Tryz.zeroValue325,
 t70:=Tryz.underlying329,
 a70:=Tryz.isAgg329,
 z70:=Tryz.sizeOf329,
 v70:=Tryz.zeroValue329,
 t76:=Tryz.underlying358,
 a76:=Tryz.isAgg358,
 z76:=Tryz.sizeOf358,
 v76:=Tryz.zeroValue358,
 t77:=Tryz.underlying359,
 a77:=Tryz.isAgg359,
 z77:=Tryz.sizeOf359,
 v77:=Tryz.zeroValue359}
end Go.Proofs