/-
  What the law WorldRuns needs of our own library and of the walks, no more.
-/
import Derived.Shelf.Strings.Builder1
import Derived.Laws.IdiomRangeMap
import Derived.Lib.FieldsLaws
import Derived.KernelRfl
import Derived.Shelf.Strings.OnBuilder
import Derived.Shelf.LaysM
import Derived.Shelf.Strconv.Itoa3
import Derived.Shelf.Strconv.Itoa4
import Derived.Shelf.LaysC
import Derived.Shelf.Strconv.AtoiAll
import Derived.Shelf.Strconv.ErrVarAll
import Derived.Shelf.Strconv.ParseIntPublic10
import Derived.Shelf.Strconv.ErrVarParseInt
import Derived.Shelf.Strings.Cut
import Derived.Shelf.Strings.Prefix
import Derived.Shelf.Strings.Split
import Derived.Shelf.Strings.Fields
import Derived.Shelf.Strings.BuilderX
import Derived.Test.YteijalgmijkphaaGreatDoorWorldRunsTb
set_option linter.unusedSimpArgs false
set_option linter.unusedVariables false
set_option maxRecDepth 10000
set_option maxHeartbeats 4000000
open Array renaming filter->CC,filter_eq_self->vr,getD_eq_getD_getElem?->da,getElem?_eq_getElem->jx,toList_filter->my
open Bool renaming and_eq_true->cS,false_eq_true->cL,not_eq_true'->ep,false->aw,true->bh
open Decidable renaming decide->G
open Go renaming Calls->bp,Edge->hX,Ending->td,Exit->gd,FuncId->nd,Oper->ec,Operand->bt,Program->cd,TypeId->bk,Value->B,World->ay,bodyPost->kt,execOp->bn,getObj->kx,leftOf->nB,madeCells->xc,run_program->gf,undef->gC,underlying->cF
open Go.Instr renaming findKey->iv,findNow->ua,keyThatStays->kb,mapUpdate->mx,next->wj,sameNow->ub
open Go.Lib renaming TabIs->pH,asciiSpaceTab->zw,atoiAll->eC,bytesWorld->lI,countB->eh,cut->sy,fields->gx,hasSuffix->uI,parseIntB->kl,splitB->kO
open Go.Proofs.Tryz renaming isAgg0->iR,isAgg187->rv,isAgg2->th,isAgg20->pn,isAgg21->pk,isAgg225->ur,isAgg226->CN,isAgg228->C5,isAgg249->hO,isAgg271->ue,isAgg294->hP,isAgg296->oS,isAgg3->hd,isAgg305->CP,isAgg313->CZ,isAgg314->C0,isAgg331->uv,isAgg333->CD,isAgg340->C3,isAgg344->C4,isAgg36->po,isAgg361->rB,isAgg363->rI,isAgg371->CQ,isAgg373->CT,isAgg376->ud,isAgg379->rJ,isAgg380->rK,isAgg382->CH,isAgg383->CI,isAgg384->rL,isAgg385->rN,isAgg4->hB,isAgg5->ij,isAgg9->hF,prog->cv,sizeOf0->im,sizeOf187->qh,sizeOf2->sL,sizeOf20->oE,sizeOf21->oB,sizeOf225->tD,sizeOf226->B3,sizeOf228->Cd,sizeOf249->gi,sizeOf271->tB,sizeOf294->gj,sizeOf296->np,sizeOf3->fS,sizeOf305->B4,sizeOf313->B7,sizeOf314->B8,sizeOf331->tE,sizeOf333->B0,sizeOf340->B9,sizeOf344->Cb,sizeOf36->oP,sizeOf361->qk,sizeOf363->qq,sizeOf371->B5,sizeOf373->B6,sizeOf376->tA,sizeOf379->qs,sizeOf380->qt,sizeOf382->B1,sizeOf383->B2,sizeOf384->qu,sizeOf385->qv,sizeOf4->fW,sizeOf5->hE,sizeOf9->fX,underlying0->fl,underlying187->nj,underlying2->pb,underlying20->la,underlying21->kU,underlying225->sh,underlying226->xj,underlying228->xv,underlying249->eL,underlying271->sf,underlying294->eM,underlying296->kc,underlying3->ez,underlying305->xl,underlying313->xo,underlying314->xp,underlying331->sk,underlying333->xd,underlying340->xr,underlying344->xt,underlying36->lb,underlying361->nq,underlying363->nr,underlying371->sX,underlying373->sY,underlying376->se,underlying379->ns,underlying380->nt,underlying382->xf,underlying383->xi,underlying384->nv,underlying385->nw,underlying4->eA,underlying5->eW,underlying9->ej,zeroValue0->fx,zeroValue187->oi,zeroValue2->pB,zeroValue20->lO,zeroValue21->lN,zeroValue225->sR,zeroValue226->yv,zeroValue228->zd,zeroValue249->ff,zeroValue294->fg,zeroValue296->ld,zeroValue3->eE,zeroValue305->yy,zeroValue313->yW,zeroValue314->za,zeroValue331->sT,zeroValue333->yp,zeroValue340->zb,zeroValue344->zc,zeroValue36->lP,zeroValue361->oj,zeroValue363->ot,zeroValue371->yG,zeroValue373->yH,zeroValue376->sE,zeroValue379->ov,zeroValue382->yq,zeroValue383->yr,zeroValue384->ox,zeroValue385->oy,zeroValue4->eI,zeroValue5->fj,zeroValue9->eJ
open Go.Question renaming forced->sC
open Go.Region renaming free->fo,noSelect->ef,ready->dy
open Go.Result renaming andThen_ok->bT
open Go.Sem renaming run->lA,run_bind->cD,run_pure->cR
open Go.Value renaming bool->cM,int->dd,pointer->fc,string->ph
open List renaming all_eq_true->pj,any_cons->vf,append_assoc->cg,eq_nil_of_length_eq_zero->cA,ext_getElem?->cP,filter_eq_self->sd,getElem?_append->js,getElem?_append_left->nH,getElem?_append_right->nh,getElem?_drop->ct,getElem?_eq_getElem->bl,getElem?_eq_none->bE,getElem?_map->eo,getElem?_set->fL,getElem?_set_ne->ew,getElem?_set_self->kQ,getElem?_take->ca,getElem?_zipWith->pL,getElem?_zip_eq_some->tP,getElem_set_ne->sa,getElem_set_self->qg,getElem_zip->zE,length->O,length_append->bm,length_drop->cQ,length_map->dr,length_replicate->mv,length_set->cp,length_take->cf,length_zip->fv,map_append->cY,map_cons->cr,map_set->kT,mem_cons->bs,mem_cons_self->fp,nodup_cons->AT,not_mem_nil->dk,size_toArray->yo,take_left->jz,toArray->ar,zip_eq_zipWith->rb
open List.Perm renaming refl->tc
open Nat renaming add_mul->cj,beq->hR,beq_eq->yk,ble->ly,ble_eq->tR,blt->mz,eq_or_lt_of_le->yl,le_of_ble_eq_true->gE,le_of_succ_le->zV,le_refl->cl,lt_of_lt_of_le->ey,lt_or_ge->cG,mul_le_mul_right->bj,not_succ_le_self->wk,zero_le->gk
open Option renaming map_some->dt,none->bd,some->U
open Option.some renaming inj->dp,injEq->fb
open Prod.mk renaming injEq->ie
namespace Go.LX
open Go.RowKit Go.Proofs
section
variable{P:cd}{ops:Array ec}{sc:gd->Act->ay->Prop}{n:Nat}{env:Nat->B}{w w' I:ay}{M K:BS}{J:Nat->Chunk}{rest:H ec}
 {d:L Nat} {op:Op} {ty:bk} {pos:String} {af:Array hX} {v:B} {g:L (Nat×YU)} {T:bk} {ρ:bt->B} {x y:bt} {i fuel:Nat} {listed:Array YU}
theorem SH.pceAt{S:Pce}(h:SH I M K w J)(i:Nat)(hi:J i=.gK S):S.P w (SH.A M J):=by
 have:=h.ok i;rw[hi]at this;exact this
theorem SH.Oi{S S':Pce}(h:SH I M K w J)(i:Nat)(hi:J i=.gK S)(d:S'.P w' (SH.A M J))(c:bF S.own w w')(hn:∀b,S'.own b->b<w.heap.size->S.own b):SH I M K w' (cz J i (.gK S')):=by
  refine h.step i c (λb a _=>by rw[hi];exact a) (λb a hl=>by rw[hi];exact hn b a hl) ?_;refine S'.go d (bF.refl BE w') (λ_ h=>h.elim) (λ_ h=>h.elim) λb a _=>?_;rcases a with a|a|a
  · exact .inl<|.inl a
  · exact .inl<|.inr<|nQ a
  · exact .inr a
end
open Go.RowKit Go.Proofs
structure WS(α β:Type)where
 sz:Nat
 enc:α->B->List B
 sub:α->List β
 put:α->List β->α
 len:∀x u,(enc x u).length=sz
 one:∀x u,u.oneCell'=bh->∀c∈enc x u,c.oneCell'=bh
 pos:0<sz
 Zd:∀x s u,enc (put x s) u=enc x u
 Ze:∀x s,sub (put x s)=s
def WS.raw{α β:Type}(N:WS α β):uO (α×B) where
 sz:=N.sz
 rd _ _ cs p:=cs=N.enc p.1 p.2/\p.2.oneCell'=bh
 len:=by rintro w A cs x ⟨rfl,_⟩;exact N.len _ _
 one:=by rintro w A cs x ⟨rfl,h⟩;exact N.one _ _ h
 pos:=N.pos
 go:=λh _ _ _=>h
def hn:Nat->Prop:=λ_=>False
def D2(k:Nat):Nat->Prop:=λi=>i=k
def KL(ho:Nat->Prop)(us:H B):BS:=λb=>∃i u,us[i]? =U u/\¬ho i/\ob u b
def FamP{β:Type}(R:uO β)(E:bk)(ho:Nat->Prop)(us:H B)(ss:H (H β))(w:ay)(A:BS):Prop:=
 O us=O ss/\
 (∀i u s,us[i]? =U u->ss[i]? =U s->¬ho i->dz R E w (λb=>A b\/KL ho us b) u s)/\
 (∀i j u v,i≠j->¬ho i->¬ho j->us[i]? =U u->us[j]? =U v->∀b,ob u b->¬ob v b)
theorem FamP.at{β:Type}{R:uO β}{E:bk}{ho:Nat->Prop}{us:H B}{ss:H (H β)}{w:ay}{A:BS}(h:FamP R E ho us ss w A){i:Nat}{u:B}(a:us[i]? =U u):∃s,ss[i]? =U s:=by
  have:i<O us:=by
    rcases cG i (O us) with h|h
    · exact h
    · rw[bE h]at a;cases a
  exact⟨ss[i]'(h.1▸this),bl _⟩
def bQ{β:Type}(R:uO β)(E:bk)(ho:Nat->Prop)(us:H B)(ss:H (H β)):Pce where
  own:=KL ho us
  P w A:=FamP R E ho us ss w A
  lt:=by
    rintro w A b h⟨i,u,h1,h2,h3⟩;obtain⟨s,W⟩:=h.at h1;exact(h.2.1 i u s h1 W h2).lt b h3
  go:=by
    rintro w w' A A' K⟨h1,h2,h3⟩hk hK hKo hA;refine⟨h1,λi u s hu W hi=>(h2 i u s hu W hi).go hk (λb hb hl=>.inl<|hK b hb hl) (λb hb ho=>hKo b hb ⟨i,u,hu,hi,ho⟩) λb hb hl=>?_,h3⟩;rcases hb with hb|hb
    · exact .inl<|hA b hb hl
    · exact .inl<|.inr hb
section
variable{α β:Type}{N:WS α β}{R:uO β}{E Es T:bk}{I w w':ay}{M K A:BS}{J:Nat->Chunk}{v u u':B}{us us':H B}{Zs L':H α}{ss ss':H (H β)}{s:H β}{x y:α}{k:Nat}{ho ho':Nat->Prop}
theorem PE(J:Nat->Chunk)(i:Nat)(a c:Chunk):cz (cz J i a) i c=cz J i c:=by
  funext j;by_cases e:j=i
  · subst e;rw[dG,dG]
  · rw[iH e,iH e,iH e]
theorem SH.famAt(h:SH I M K w J)(j:Nat)(a:J j=.gK (bQ R E ho us ss)):FamP R E ho us ss w (SH.A M J):=h.pceAt j a
theorem SH.ig(h:SH I M K w J)(j:Nat)(a:J j=.gK (bQ R E ho us (Zs.map N.sub))):O us=O Zs:=by
 have:=(h.famAt j a).1;rw[dr]at this;exact this
theorem dA(h:O us=O Zs):O (Zs.zip us)=O Zs:=by rw[fv];omega
theorem fD(a:Zs[k]? =U x)(b:us[k]? =U u):(Zs.zip us)[k]? =U (x,u):=by
 rw[tP];exact⟨a,b⟩
theorem PG(a:us[k]? =U u):(Zs.zip us).set k (y,u)=(Zs.set k y).zip us:=by
  apply cP;intro i;rw[fL];by_cases e:k=i
  · subst e;rw[Z3 rfl];by_cases hl:k<O Zs
    · rw[fD (x:=y) (u:=u) (by rw[kQ hl]) a];have:k<O us:=by
        rcases cG k (O us) with h|h
        · exact h
        · rw[bE h]at a;cases a
      rw[Z3 (by rw[fv];omega)]
    · rw[Z4 (by rw[fv];omega),bE (by rw[fv,cp];omega)]
  · rw[Z4 e];simp only[rb,pL,ew e]
theorem Zf(a:Zs[k]? =U x):(Zs.zip us).set k (x,u)=Zs.zip (us.set k u):=by
  apply cP;intro i;rw[fL];by_cases e:k=i
  · subst e;rw[Z3 rfl];by_cases hl:k<O us
    · rw[fD (x:=x) (u:=u) a (by rw[kQ hl])];have:k<O Zs:=by
        rcases cG k (O Zs) with h|h
        · exact h
        · rw[bE h]at a;cases a
      rw[Z3 (by rw[fv];omega)]
    · rw[Z4 (by rw[fv];omega),bE (by rw[fv,cp];omega)]
  · rw[Z4 e];simp only[rb,pL,ew e]
theorem Jl(a:Zs[k]? =U y):Zs.set k y=Zs:=by
  apply cP;intro i;rw[fL];by_cases e:k=i
  · subst e;by_cases hl:k<O Zs
    · rw[Z3 rfl,Z3 hl,a]
    · rw[bE V]at a;cases a
  · rw[Z4 e]
theorem qa{z:α}(a:Zs[k]? =U x):(Zs.set k z)[k]? =U z:=by
  rw[kQ];rcases cG k (O Zs) with h|h
  · exact h
  · rw[bE h]at a;cases a
theorem Vc(a:us[k]? =U u):(us.set k u')[k]? =U u':=qa a
theorem own_re{l b:H (α×B)}(h:dz N.raw E w A v l)(hl:O b=O l)(g:∀(i:Nat) (p a:α×B),l[i]? =U p->b[i]? =U a->N.enc a.1 a.2=N.enc p.1 p.2/\a.2=p.2):dz N.raw E w A v b:=by
 obtain⟨xs,j,c⟩:=h;refine⟨xs,by rw[hl];exact j,λi hi=>?_⟩;obtain⟨d,f⟩:=c i<|hl▸hi;obtain⟨k,e⟩:=g i _ _ (bl<|hl▸hi)<|bl hi;exact⟨d.trans k.symm,by rw[e];exact f⟩
theorem SH.rawRe(h:SH I M K w J)(i:Nat)(hi:J i=.own N.raw E v (Zs.zip us))(f:Zs[k]? =U x)(m:∀u,N.enc y u=N.enc x u):SH I M K w (cz J i (.own N.raw E v ((Zs.set k y).zip us))):=by
  refine h.step i (bF.refl BE w) (λ_ h=>h.elim) (λb d _=>by rw[hi];exact d) ?_;have ho:=h.ok i;rw[hi]at ho;refine Chunk.sub (ab:=kg J) (c:=.own N.raw E v ((Zs.set k y).zip us)) ?_ λb d _=>?_
  · refine own_re ho (by rw[fv,fv,cp]) λi p n J a=>?_;rw[tP]at J a;rw[fL]at a;have j:=dp<|J.2.symm.trans a.2;by_cases e:k=i
    · subst e;have hl:k<O Zs:=by
        rcases cG k (O Zs) with h|h
        · exact h
        · rw[bE h]at f;cases f
      rw[Z3 rfl,Z3 hl]at a;have g:=dp a.1;have l:=dp<|f.symm.trans J.1;rw[<-j,<-g,<-l];exact⟨m _,Z⟩
    · rw[Z4 e]at a;have g:=dp<|J.1.symm.trans a.1;rw[<-j,<-g];exact⟨Z,Z⟩
  · rcases d with d|d
    · exact nQ d
    · exact⟨i,by rw[hi];exact d⟩
theorem SH.famRe(h:SH I M K w J)(j:Nat)(m:J j=.gK (bQ R E ho us ss))(hl:O us'=O ss')(d:∀i,¬ho i->us'[i]? =us[i]? /\ss'[i]? =ss[i]?):SH I M K w (cz J j (.gK (bQ R E ho us' ss'))):=by
 have l:=h.famAt j m;have a:∀b,KL ho us' b->KL ho us b:=λb⟨i,u,o,k,p⟩=>⟨i,u,(d i k).1▸o,k,p⟩;refine h.Oi j m ?_ (bF.refl _ _) λb e _=>a b e;refine⟨hl,λi u s g W hi=>?_,λi j u v f hi c g n=>l.2.2 i j u v f hi c ((d i hi).1▸g) ((d j c).1▸n)⟩;refine(l.2.1 i u s ((d i hi).1▸g) ((d i hi).2▸W) hi).go (bF.refl BE w) (λ_ h=>h.elim) (λ_ h=>h.elim) λb e _=>.inl<|e.imp id<|a b
theorem SH.famL(h:SH I M K w J)(j:Nat)(y:α)(a:J j=.gK (bQ R E (D2 k) us (Zs.map N.sub))):SH I M K w (cz J j (.gK (bQ R E (D2 k) us ((Zs.set k y).map N.sub)))):=by
  refine h.famRe j a ?_ λi hi=>⟨Z,?_⟩
  · rw[dr,cp];exact h.ig j a
  · rw[kT,ew (λe=>hi e.symm)]
theorem SH.famOpen(h:SH I M K w J)(j m:Nat)(A:J j=.gK (bQ R E ho us ss))(aq:J m=.no)(n:j≠m)(f:us[k]? =U u)(W:ss[k]? =U s)(o:¬ho k)(ho':Nat->Prop)(g:∀i,ho' i↔ho i\/i=k):
    SH I M K w (cz (cz J j (.gK (bQ R E ho' us ss))) m (.own R E u s)):=by
  have p:=h.famAt j A;have c:∀b,KL ho' us b->KL ho us b:=λb⟨i,u,l,d,y⟩=>⟨i,u,l,λh=>d ((g i).2<|.inl h),y⟩;have z:(Chunk.two (.gK<|bQ R E ho' us ss)<|.own R E u s).holds w M (SH.av J j<|Chunk.two (.gK<|bQ R E ho' us ss)<|.own R E u s):=by
    refine⟨⟨p.1,λi v t q C hi=>?_,λi j u v r hi x f q=>p.2.2 i j u v r (λh=>hi ((g i).2<|.inl h)) (λh=>x ((g j).2<|.inl h)) f q⟩,?_,?_⟩
    · refine(p.2.1 i v t q C λh=>hi ((g i).2<|.inl h)).go (bF.refl BE w) (λ_ h=>h.elim) (λ_ h=>h.elim) λb a _=>.inl ?_;rcases a with(a|a|a)|a
      · exact .inl<|.inl a
      · exact .inl<|.inr<|nQ a
      · rcases a with a|a
        · exact .inr<|c b a
        · exact .inr ⟨k,u,f,o,a⟩
      · exact .inr<|c b a
    · refine(p.2.1 k u s f W o).go (bF.refl BE w) (λ_ h=>h.elim) (λ_ h=>h.elim) λb a _=>.inl ?_;rcases a with a|a|a
      · exact .inl<|.inl a
      · exact .inl<|.inr<|nQ a
      · rcases a with a|a
        · exact .inr<|c b a
        · exact .inr ⟨k,u,f,o,a⟩
    · rintro b⟨i,v,l,d,y⟩a;exact p.2.2 i k v u (λe=>d ((g i).2<|.inr e)) (λh=>d ((g i).2<|.inl h)) o l f b y a
  have l:=h.step j (bF.refl BE w) (λ_ h=>h.elim) (λb a _=>by
    rw[A];rcases a with a|a
    · exact c b a
    · exact⟨k,u,f,o,a⟩) z
  have d:=l.unpair j m n (dG _ _ _) (by rw[iH (Ne.symm n)];exact aq);rw[PE]at d;exact d
theorem SH.Zg(h:SH I M K w J)(j m:Nat)(T:J j=.gK (bQ R E ho us ss))(ab:J m=.own R E u s)(sc:j≠m)(x:us[k]? =U u)(hk:ho k)(ho':Nat->Prop)(X:∀i,ho i↔ho' i\/i=k)(S:¬ho' k):
    SH I M K w (cz (cz J m .no) j (.gK (bQ R E ho' us (ss.set k s)))):=by
  have o:=h.pair j m sc;have d:∀i,¬ho' i->i=k\/¬ho i:=λi hi=>by
    by_cases e:i=k
    · exact .inl e
    · exact .inr λh=>((X i).1 h).elim hi e
  have p:∀b,KL ho' us b->KL ho us b\/ob u b:=λb⟨i,v,o,r,al⟩=>by
    rcases d i r with rfl|h4
    · rw[x]at o;cases o;exact .inr al
    · exact .inl ⟨i,v,o,h4,al⟩
  have Zs:∀b,KL ho us b\/ob u b->KL ho' us b:=λb a=>by
    rcases a with⟨i,v,o,r,al⟩|a
    · exact⟨i,v,o,λh=>r ((X i).2<|.inl h),al⟩
    · exact⟨k,u,x,S,a⟩
  have ok:=o.ok j;have P:cz (cz J m .no) j (.two (J j)<|J m)=cz (cz J m .no) j (.two (.gK<|bQ R E ho us ss)<|.own R E u s):=by rw[T,ab]
  rw[dG,T,ab]at ok;have r:=o.step (c:=.gK (bQ R E ho' us (ss.set k s))) j (bF.refl BE w) (λ_ h=>h.elim) (λb a _=>by
    rw[dG,T,ab];exact p b a) ?_
  · rw[PE]at r;exact r
  · rw[P];have hA:∀b,(M b\/SH.av (cz (cz J m .no) j<|.two (.gK<|bQ R E ho us ss)<|.own R E u s) j (.gK<|bQ R E ho' us<|ss.set k s) b)\/KL ho' us b->(M b\/kg (cz (cz J m .no) j<|.two (.gK<|bQ R E ho us ss)<|.own R E u s) b):=by
      have A:∀b,KL ho' us b->kg (cz (cz J m .no) j (.two (.gK (bQ R E ho us ss)) (.own R E u s))) b:=λb a=>⟨j,by rw[dG];exact p b a⟩;rintro b((a|a|a)|a)
      · exact .inl a
      · exact .inr<|nQ a
      · exact .inr<|A b a
      · exact .inr<|A b a
    refine⟨by rw[cp];exact ok.1.1,λi v t l w0 hi=>?_,λi n v v' C hi z l g b a q=>?_⟩
    · by_cases e:i=k
      · subst e;rw[x]at l;cases l;have N:i<O ss:=by
          obtain⟨s',y⟩:=ok.1.at x;rcases cG i (O ss) with h|h
          · exact h
          · rw[bE h]at y;cases y
        rw[kQ N]at w0;cases w0;refine dz.go ok.2.1 (bF.refl BE w) (λ_ h=>h.elim) (λ_ h=>h.elim) λb a _=>.inl<|hA b a
      · rw[ew (λh=>e h.symm)]at w0;have f:¬ho i:=(d i hi).resolve_left e;refine(ok.1.2.1 i v t l w0 f).go (bF.refl BE w) (λ_ h=>h.elim) (λ_ h=>h.elim) λb a _=>.inl<|.inl<|hA b a
    · by_cases e:i=k
      · have F:n≠k:=λh=>C<|e.trans h.symm;have f:¬ho n:=(d n z).resolve_left F;subst e;rw[x]at l;cases l;exact ok.2.2 b ⟨n,v',g,f,q⟩ a
      · have f:¬ho i:=(d i hi).resolve_left e;by_cases F:n=k
        · subst F;rw[x]at g;cases g;exact ok.2.2 b ⟨i,v,l,f,a⟩ q
        · have aq:¬ho n:=(d n z).resolve_left F;exact ok.1.2.2 i n v v' C f aq l g b a q
end
open Go.RowKit Go.Proofs
section
variable{α β:Type}{N:WS α β}{R:uO β}{E Es T:bk}{I w w':ay}{M K A:BS}{J:Nat->Chunk}{v u u':B}{us us' yw:H B}{Zs L':H α}{ss ss' ss2:H (H β)}{s:H β}{x y:α}{k:Nat}{ho ho':Nat->Prop}
theorem OM{a:Type}{l:H a}{z:a}(h:l[k]? =U z):k<O l:=by
  rcases cG k (O l) with h1|h1
  · exact h1
  · rw[bE h1]at h;cases h
theorem SH.dnOpen(h:SH I M K w J)(j m:Nat)(d:J j=.gK (bQ R Es hn us (Zs.map N.sub)))(e:J m=.no)(a:j≠m)(c:Zs[k]? =U x):
  ∃u,us[k]? =U u/\SH I M K w (cz (cz J j (.gK (bQ R Es (D2 k) us (Zs.map N.sub)))) m (.own R Es u (N.sub x))):=by
 have hl:=h.ig j d;have b:=OM c;exact⟨us[k]'(hl▸b),bl _,h.famOpen j m d e a (bl _) (by rw[eo,c];rfl) (λh=>h) _ (λi=>⟨.inr,λh=>h.elim (λh=>h.elim) id⟩)⟩
theorem SH.sN(h:SH I M K w J)(i j m:Nat)(y:α)(hi:J i=.own N.raw E v (Zs.zip us))(p:J j=.gK (bQ R Es (D2 k) us (Zs.map N.sub)))(g:J m=.own R Es u s)(b:i≠j)(a:i≠m)(c:j≠m)(o:Zs[k]? =U x)(n:us[k]? =U u)(f:y=N.put x s):
  SH I M K w (cz (cz (cz J m .no) j (.gK (bQ R Es hn us ((Zs.set k y).map N.sub)))) i (.own N.raw E v ((Zs.set k y).zip us))):=by
 have l:=h.Zg j m p g c n Z hn (λi=>⟨.inr,λh=>h.elim (λh=>h.elim) id⟩) λh=>h;have d:=l.rawRe (N:=N) (x:=x) (y:=y) (k:=k) (E:=E) (v:=v) i (by rw[iH b,iH a];exact hi) o (λu=>by rw[f];exact N.Zd _ _ _);have e:(Zs.map N.sub).set k s=(Zs.set k y).map N.sub:=by rw[kT,f,N.Ze]
 rw[e]at d;exact d
theorem SH.gB(h:SH I M K w J)(j m:Nat)(g:J j=.gK (bQ R Es (D2 k) us (Zs.map N.sub)))(c:J m=.own R Es u s)(a:j≠m)(f:Zs[k]? =U x)(d:us[k]? =U u)(W:N.sub x=s):
  SH I M K w (cz (cz J m .no) j (.gK (bQ R Es hn us (Zs.map N.sub)))):=by
 have b:=h.Zg j m g c a d Z hn (λi=>⟨.inr,λh=>h.elim (λh=>h.elim) id⟩) λh=>h;have e:(Zs.map N.sub).set k s=Zs.map N.sub:=Jl (by rw[eo,f,<-W];rfl);rw[e]at b;exact b
theorem SH.famNew(h:SH I M K w J)(m:Nat)(g:J m=.own R Es u s):SH I M K w (cz J m (.gK (bQ R Es hn [u] [s]))):=by
  have ho:=h.ok m;rw[g]at ho;have c:∀b,KL hn [u] b->ob u b:=by
    rintro b⟨i,v,k,_,l⟩;cases i with
    |zero=>cases k;exact l
    |succ i=>cases k
  refine h.step m (bF.refl BE w) (λ_ h=>h.elim) (λb a _=>by rw[g];exact c b a) ⟨Z,λi v t d e _=>?_,λi j v t f _ _ d e=>?_⟩
  · cases i with
    |succ i=>cases d
    |zero=>
      cases d;cases e;refine dz.go ho (bF.refl BE w) (λ_ h=>h.elim) (λ_ h=>h.elim) λb a _=>?_;rcases a with(a|a|a)|a
      · exact .inl<|.inl a
      · exact .inl<|.inr<|nQ a
      · exact .inr<|c b a
      · exact .inr<|c b a
  · cases i with
    |zero=>cases j with
      |zero=>exact ZL Z f
      |succ j=>cases e
    |succ i=>cases d
theorem SH.famNil(h:SH I M K w J)(j:Nat):SH I M K w (cz J j (.gK (bQ R Es hn [] []))):=
  h.learn j (bF.refl BE w) (by rintro b ⟨i,u,c,_⟩;cases c) (by
    refine⟨Z,?_,?_⟩
    · intro i v t a;cases a
    · intro i j v t _ _ _ a;cases a)
theorem SH.xI(h:SH I M K w J)(j m:Nat)(aq:J j=.gK (bQ R Es hn us ss))(A:J m=.gK (bQ R Es hn yw ss2))(u:j≠m):SH I M K w (cz (cz J m .no) j (.gK (bQ R Es hn (us++yw) (ss++ss2)))):=by
  have f:=h.pair j m u;have ok:=f.ok j;rw[aq,A]at f;rw[dG,aq,A]at ok;have l:∀b,KL hn (us++yw) b->KL hn us b\/KL hn yw b:=by
    rintro b⟨i,v,f,_,n⟩;rw[js]at f;split at f
    · exact .inl ⟨i,v,f,λh=>h,n⟩
    · exact .inr ⟨_,v,f,λh=>h,n⟩
  have r:∀b,KL hn us b\/KL hn yw b->KL hn (us++yw) b:=by
    rintro b(⟨i,v,f,_,n⟩|⟨i,v,f,_,n⟩)
    · exact⟨i,v,by rw[nH (OM f)];exact f,λh=>h,n⟩
    · exact⟨O us+i,v,by rw[nh V,Nat.add_sub_cancel_left];exact f,λh=>h,n⟩
  have y:=f.step (c:=.gK (bQ R Es hn (us++yw) (ss++ss2))) j (bF.refl BE w) (λ_ h=>h.elim) (λb a _=>by rw[dG];exact l b a) ?_
  · rw[PE]at y;exact y
  · have z:∀b,(M b\/SH.av (cz (cz J m .no) j<|.two (.gK<|bQ R Es hn us ss)<|.gK<|bQ R Es hn yw ss2) j (.gK<|bQ R Es hn (us++yw)<|ss++ss2) b)\/KL hn (us++yw) b->(M b\/kg (cz (cz J m .no) j<|.two (.gK<|bQ R Es hn us ss)<|.gK<|bQ R Es hn yw ss2) b):=by
      have o:∀b,KL hn (us++yw) b->kg (cz (cz J m .no) j (.two (.gK (bQ R Es hn us ss)) (.gK (bQ R Es hn yw ss2)))) b:=λb a=>⟨j,by rw[dG];exact l b a⟩;rintro b((a|a|a)|a)
      · exact .inl a
      · exact .inr<|nQ a
      · exact .inr<|o b a
      · exact .inr<|o b a
    have C:=ok.1.1;have E:=ok.2.1.1;refine⟨by simp only[bm];omega,λi v t e p _=>?_,λi s v q x _ _ e d b a k=>?_⟩
    · rw[js]at e p;by_cases hl:i<O us
      · rw[Z3 hl]at e;rw[Z3 V]at p;exact(ok.1.2.1 i v t e p λh=>h).go (bF.refl BE w) (λ_ h=>h.elim) (λ_ h=>h.elim) λb a _=>.inl<|.inl<|z b a
      · rw[Z4 hl]at e;rw[Z4 V,<-C]at p;exact(ok.2.1.2.1 _ v t e p λh=>h).go (bF.refl BE w) (λ_ h=>h.elim) (λ_ h=>h.elim) λb a _=>.inl<|.inl<|z b a
    · rw[js]at e d;by_cases hl:i<O us
      · rw[Z3 hl]at e;by_cases g:s<O us
        · rw[Z3 g]at d;exact ok.1.2.2 i s v q x (λh=>h) (λh=>h) e d b a k
        · rw[Z4 g]at d;exact ok.2.2 b ⟨_,v,e,λh=>h,a⟩ ⟨_,q,d,λh=>h,k⟩
      · rw[Z4 hl]at e;by_cases g:s<O us
        · rw[Z3 g]at d;exact ok.2.2 b ⟨_,q,d,λh=>h,k⟩ ⟨_,v,e,λh=>h,a⟩
        · rw[Z4 g]at d;exact ok.2.1.2.2 _ _ v q V (λh=>h) (λh=>h) e d b a k
theorem SH.famTake(h:SH I M K w J)(j n:Nat)(k:J j=.gK (bQ R Es hn us (Zs.map N.sub))):SH I M K w (cz J j (.gK (bQ R Es hn (us.take n) ((Zs.take n).map N.sub)))):=by
  have g:=h.famAt j k;have D2:∀(i:Nat) (u:B),(us.take n)[i]? =U u->us[i]? =U u/\i<n:=λi u a=>by
    rw[ca]at a;split at a
    · exact⟨a,by assumption⟩
    · cases a
  have c:∀b,KL hn (us.take n) b->KL hn us b:=λb⟨i,u,m,o,p⟩=>⟨i,u,(D2 i u m).1,o,p⟩;refine h.Oi j k ?_ (bF.refl _ _) λb d _=>c b d;have hl:=g.1;rw[dr]at hl;refine⟨by rw[cf,dr,cf];omega,λi u s a W hi=>?_,λi j u v e hi f a l=>g.2.2 i j u v e hi f (D2 i u a).1 (D2 j v l).1⟩;rw[List.map_take,ca,Z3 (D2 i u a).2]at W;refine(g.2.1 i u s (D2 i u a).1 W hi).go (bF.refl BE w) (λ_ h=>h.elim) (λ_ h=>h.elim) λb d _=>.inl<|d.imp id<|c b
theorem SD(n:Nat):(Zs.zip us).take n=(Zs.take n).zip (us.take n):=by
 apply cP;intro i;simp only[rb,ca,pL];split<;>rfl
theorem xJ{a:H α}(h:O us=O Zs):(Zs.zip us)++(a.zip yw)=(Zs++a).zip (us++yw):=(List.zip_append h.symm).symm
theorem nU{P:cd}{ρ:bt->B}{d:L Nat}{ty:bk}{pos:String}{af:Array hX}{g:L (Nat×YU)}{a:bt}{sz:Nat}{aq A:BS}{w1:ay}(c:SliceOf P T E sz)(b:ρ a=v)(e:ek N.raw w1 aq A v (Zs.zip us))(hl:O us=O Zs):
  (bn ρ ⟨d,.call {callee:=.builtin .len,args:= #[a],argTypes:= #[T]},ty,pos,af,g⟩).run P w=.ok (.value (.int .i64 (O Zs))) w:=by
 have h:=sH (P:=P) (w:=w) (d:=d) (ty:=ty) (pos:=pos) (af:=af) (g:=g) c b e;rw[dA hl]at h;exact h
theorem SH.yB{R':uO α}(h:SH I M K w J)(i j:Nat)(hi:J i=.own N.raw E v (Zs.zip us))(m:J j=.gK (bQ R Es hn us (Zs.map N.sub)))(p:i≠j)(n:R'.sz=N.sz)(T:∀w A x u,bX R w A u (N.sub x)->R'.rd w A (N.enc x u) x):SH I M K w (cz (cz J j .no) i (.rd R' v Zs)):=by
  have hl:=h.ig j m;have l:=h.pair i j p;have g:=l.apart i;have r:=l.apM i;have ok:=l.ok i;rw[dG]at g r;rw[dG,hi,m]at ok;have y:=l.step (c:=.rd R' v Zs) i (bF.refl BE w) (λ_ h=>h.elim) (λb d _=>d.elim) ?_
  · rw[PE]at y;exact y
  · have T7:∀b,(J i).own' b\/(J j).own' b->¬(M b\/SH.av (cz (cz J j .no) i<|.two (J i)<|J j) i (.rd R' v Zs) b):=by
      intro b d f;rcases f with f|⟨q,k,f⟩|f
      · exact r b d f
      · exact g q (λe=>k e.symm) b d f
      · exact f
    have s:∀b,(M b\/SH.av (cz (cz J j .no) i<|.two (J i)<|J j) i (.rd R' v Zs) b)->M b\/kg (cz (cz J j .no) i<|.two (.own N.raw E v<|Zs.zip us)<|.gK<|bQ R Es hn us<|Zs.map N.sub) b:=by
      rw[hi,m];rintro b(d|d|d)
      · exact .inl d
      · exact .inr<|nQ d
      · exact d.elim
    have S:bX N.raw w (λb=>M b\/SH.av (cz (cz J j .no) i<|.two (J i)<|J j) i (.rd R' v Zs) b) v (Zs.zip us):=
      dz.rd ok.1 (λb d=>T7 b (.inl (by rw[hi];exact d))) (λb d _=>.inl (s b d))
    obtain⟨a,cap,aq,t,e3,C,ab⟩:=S;rw[dA hl]at aq t;refine⟨a,cap,aq,t,e3,C,λq k=>?_⟩;obtain⟨b,o,cells,F,P,q1,sc,X,z⟩:=ab q (by rw[dA hl];exact k);refine⟨b,o,cells,F,P,q1,sc,X,?_⟩;rw[n];have w0:(Zs.zip us)[q]'(by rw[dA hl];exact k)=(Zs[q],us[q]'V):=by simp
    rw[w0]at z;obtain⟨al,_⟩:=z;have q6:((cells.toList.drop<|o+q*N.sz).take N.sz)=N.enc Zs[q] (us[q]'V):=al;rw[q6];refine T _ _ _ _ (dz.rd (ok.2.1.2.1 q _ _ (bl V) (by rw[eo,bl k];rfl) (λh=>h)) (λb d=>T7 b (.inr (by rw[m];exact⟨q,_,bl V,λh=>h,d⟩))) (λb d _=>.inl (.inl (s b d))))
theorem SH.moveC(h:SH I M K w J)(j i:Nat){c:Chunk}(t:J j=c)(hi:J i=.no)(r:j≠i):SH I M K w (cz (cz J j .no) i c):=by
  subst t;have f:∀x b,(cz (cz J j .no) i (J j) x).own' b->∃y,(J y).own' b/\(x=i->y=j)/\(x≠i->y=x/\x≠j):=by
    intro x b a;by_cases e:x=i
    · subst e;rw[dG]at a;exact⟨j,a,λ_=>rfl,λh=>ZL Z h⟩
    · rw[iH e]at a;by_cases d:x=j
      · subst d;rw[dG]at a;exact a.elim
      · rw[iH d]at a;exact⟨x,a,λh=>ZL h e,λ_=>⟨Z,d⟩⟩
  have g:∀b,kg (cz (cz J j .no) i<|J j) b->kg J b:=λb⟨x,m⟩=>let ⟨y,k,_⟩:=f x b m;⟨y,k⟩;refine⟨h.keep,h.ltM,λx b a=>let ⟨y,k,_⟩:=f x b a;h.apM y b k,λx=>?_,λx y l b m k=>?_,λx b a=>let ⟨y,k,_⟩:=f x b a;h.old y b k⟩
  · by_cases e:x=i
    · subst e;rw[dG];exact Chunk.sub (h.ok j) λb a _=>g b a
    · rw[iH e];by_cases d:x=j
      · subst d;rw[dG];trivial
      · rw[iH d];exact Chunk.sub (h.ok x) (λb a _=>g b a)
  · obtain⟨x',s,q,o⟩:=f x b m;obtain⟨p,k1,k2,n⟩:=f y b k;have:x'≠p:=by
      by_cases e:x=i
      · have d:y≠i:=λh=>l<|e.trans h.symm;rw[q e,(n d).1];exact λh=>(n d).2 h.symm
      · by_cases d:y=i
        · rw[k2 d,(o e).1];exact(o e).2
        · rw[(o e).1,(n d).1];exact l
    exact h.apart x' p this b s k1
def cu(β:Type):WS (H β) β where
 sz:=1
 enc _ u:=[u]
 sub x:=x
 put _ s:=s
 len _ _:=rfl
 one:=by intro x u h c hc;simp at hc;subst hc;exact h
 pos:=by decide
 Zd _ _ _:=rfl
 Ze _ _:=rfl
theorem EF{R:uO β}:∀w A (x:H β) u,bX R w A u ((cu β).sub x)->(ui R).rd w A ((cu β).enc x u) x:=λ_ _ _ u h=>⟨u,rfl,h⟩
end
open Go.RowKit Go.Proofs
section
variable{P:cd}{w:ay}{ρ:bt->B}{d:L Nat}{ty:bk}{pos:String}{af:Array hX}{g:L (Nat×YU)}{T:bk}{x y:bt}
theorem r_indexS{s:vh}{k:Int}{b:UInt8}(i:P.underlying T=U .string)(e:ρ x=bJ s)(j:ρ y=.int .i64 k)(c:0<=k)(a:s[k.toNat]? =U b):
  (bn ρ ⟨d,.index T x y,ty,pos,af,g⟩).run P w=.ok (.value (.int .u8 (b.toNat:Int))) w:=by
 simp only[bn,Instr.index,e,j,cF,asIntOf,bJ];have f:((⟨ar s⟩:ByteArray)[k.toNat]? :L UInt8)=U b:=by
  have hl:k.toNat<O s:=OM a;rw[bl hl]at a;have m:k.toNat<(⟨ar s⟩:ByteArray).size:=by simpa[ByteArray.size]using hl
  have l:=getElem?_pos (⟨ar s⟩:ByteArray) k.toNat m;rw[l];rw[<-dp a];rfl
 simp[i,c,f]
theorem SH.xK{α β:Type}{N:WS α β}{R:uO β}{E:bk}{I:ay}{M K:BS}{J:Nat->Chunk}{u:B}{s:H β}(h:SH I M K w J)(m:Nat)(x:α)(a:J m=.own R E u s)(W:N.sub x=s):SH I M K w (cz J m (.gK (bQ R E hn [u] (List.map N.sub [x])))):=by
 subst W;exact h.famNew m a
theorem us_at{α:Type}{us:H B}{Zs:H α}{k:Nat}{z:α}(h:O us=O Zs)(a:Zs[k]? =U z):∃u,us[k]? =U u:=by
 have:=OM a;exact⟨us[k]'(h▸this),bl _⟩
end
open Go.RowKit Go.Proofs
section
variable{α:Type}{R:uO α}{E:bk}{I w w':ay}{M K:BS}{J:Nat->Chunk}{C C':Chunk}{v:B}{l:H α}
theorem rf:∀b,kg (cz T7 1 C) b->C.own' b:=by
  rintro b⟨j,a⟩;by_cases e:j=1
  · subst e;rw[dG]at a;exact a
  · rw[iH e]at a;exact a.elim
theorem jo{i:Nat}(hn:∀b,kg J b->C.own' b):∀b,kg (cz J i (.rd R v l)) b->C.own' b:=by
  rintro b⟨j,a⟩;by_cases e:j=i
  · subst e;rw[dG]at a;exact a.elim
  · rw[iH e]at a;exact hn b ⟨j,a⟩
theorem SH.kH(h:SH w M K w J)(i:Nat)(ho:bX R w (λb=>M b\/C.own' b) v l)(hn:∀b,kg J b->C.own' b):SH w M K w (cz J i (.rd R v l)):=
 h.aA i (ho.sub (λb a _=>a.imp id (hn b)) (λb a _=>a.imp id (hn b)))
theorem SH.lendS(h:SH I M K w J)(i:Nat)(hi:J i=C)(a:C.Zb):C.holds w (λb=>M b\/rest J i b) C.own'/\(∀b,C.own' b->¬(M b\/rest J i b))/\(∀b,(M b\/rest J i b)->b<w.heap.size):=by
 subst hi;exact h.lendC i a
theorem SH.wB(h:SH I M K w J)(i j:Nat)(d:J j=.rd R v l)(hi:J i=C):bX R w (λb=>(M b\/rest J i b)\/C.own' b) v l:=by
  have c:∀b,(M b\/rest J i b)\/C.own' b->SH.A M J b:=by
    rintro b((a|a)|a)
    · exact .inl a
    · exact .inr<|nQ a
    · exact .inr ⟨i,by rw[hi];exact a⟩
  exact(h.dQ j d).sub (λb a _=>c b a) λb a _=>c b a
theorem SH.back(h:SH I M K w J)(i:Nat)(hi:J i=C)(c:C'.Zb)(d:C'.holds w' (λb=>M b\/rest J i b) C'.own')(a:bF C.own' w w')(hn:∀b,C'.own' b->b<w.heap.size->C.own' b):SH I M K w' (cz J i C'):=by
 subst hi;exact h.givenC i c d a hn
theorem gV{i:Nat}(h:bX R w (λb=>(M b\/rest J i b)\/C.own' b) v l):bX R w (SH.A M (cz J i C)) v l:=by
  have c:∀b,SH.A M (cz J i C) b->(M b\/rest J i b)\/C.own' b:=by
    rintro b(a|⟨j,d⟩)
    · exact .inl<|.inl a
    · by_cases e:j=i
      · subst e;rw[dG]at d;exact .inr d
      · rw[iH e]at d;exact .inl (.inr ⟨j,e,d⟩)
  exact h.sub (λb a _=>c b a) λb a _=>c b a
theorem SH.outRdC(h:SH I M K w J)(i j:Nat)(d:J j=.rd R v l)(hi:J i=C):bX R w (λb=>M b\/C.own' b) v l:=by
  have c:∀b,M b\/C.own' b->SH.A M J b:=by
    rintro b(a|a)
    · exact .inl a
    · exact .inr ⟨i,by rw[hi];exact a⟩
  exact(h.dQ j d).sub (λb a _=>c b a) λb a _=>c b a
theorem SH.outS(h:SH I M K w J)(i:Nat)(hi:J i=C)(a:C.Zb):C.holds w M C.own'/\bF K I w/\(∀b,C.own' b->b<I.heap.size->K b):=h.outC i hi a
end
section
variable{P:cd}{ops:Array ec}{sc:gd->Act->ay->Prop}{n:Nat}{env:Nat->B}{w:ay}
theorem At.hold{w w':ay}{Zs:BS}{b o:Nat}{cs:H B}(h:At w b o cs)(d:bF Zs w w')(hn:¬Zs b):At w' b o cs:=by
 obtain⟨cells,E,e,c,a⟩:=h;exact⟨cells,E,e,d.blk c hn,a⟩
theorem fin4{fn:Func}{R:td->ay->Prop}{t u a c:Tmp}{v1 v2 v3 v4:B}(g:fn.results= #[.tmp t,.tmp u,.tmp a,.tmp c])(i:ev n env (.tmp t)=v1)(j:ev n env (.tmp u)=v2)(l:ev n env (.tmp a)=v3)(k:ev n env (.tmp c)=v4)(h:R (.returned (.tuple #[v1,v2,v3,v4])) w):kt P fn R .ret (DB n env) w:=by
 refine⟨Z,_,?_,h⟩;have f:=congrFun (jB n env)<|.tmp t;have d:=congrFun (jB n env)<|.tmp u;have e:=congrFun (jB n env)<|.tmp a;have b:=congrFun (jB n env)<|.tmp c;rw[i]at f;rw[j]at d;rw[l]at e;rw[k]at b;simp only[Act.eval]at f d e b;rw[da]at f d e b;unfold results;rw[g];simp[f,d,e,b]
end
structure An where
 op:Int
 a:Int
 b:Int
 c:Int
 args:List Int
deriving DecidableEq
def qB:uO An where
 sz:=5
 rd w A cs x:=∃vargs,cs=[.int .i64 x.op,.int .i64 x.a,.int .i64 x.b,.int .i64 x.c,vargs]/\bX dL w A vargs x.args
 len:=by rintro w A cs x ⟨vargs,rfl,h0⟩;rfl
 one:=by rintro w A cs x ⟨vargs,rfl,h0⟩ u hu;simp only[bs,dk,or_false]at hu;rcases hu with rfl|rfl|rfl|rfl|rfl<;>first|rfl|exact h0.one
 pos:=by decide
 go:=by rintro w A cs x w2 A2 K ⟨vargs,rfl,h0⟩ hk hK hA;exact⟨_,Z,h0.go hk hK hA⟩
theorem zM{w:ay}{A:BS}{cs:H B}{x:An}(h:qB.rd w A cs x):∃d,cs=[.int .i64 x.op,.int .i64 x.a,.int .i64 x.b,.int .i64 x.c,d]/\bX dL w A d x.args:=h
structure bM where
 params:Int
 regs:Int
 C:List An
deriving DecidableEq
def iO:uO bM where
 sz:=3
 rd w A cs x:=∃vcode,cs=[.int .i64 x.params,.int .i64 x.regs,vcode]/\bX qB w A vcode x.C
 len:=by rintro w A cs x ⟨vcode,rfl,h0⟩;rfl
 one:=by rintro w A cs x ⟨vcode,rfl,h0⟩ u hu;simp only[bs,dk,or_false]at hu;rcases hu with rfl|rfl|rfl<;>first|rfl|exact h0.one
 pos:=by decide
 go:=by rintro w A cs x w2 A2 K ⟨vcode,rfl,h0⟩ hk hK hA;exact⟨_,Z,h0.go hk hK hA⟩
theorem lS{w:ay}{A:BS}{cs:H B}{x:bM}(h:iO.rd w A cs x):∃a,cs=[.int .i64 x.params,.int .i64 x.regs,a]/\bX qB w A a x.C:=h
structure Frame where
 F:Int
 at_:Int
 regs:List tp
 x:Int
deriving DecidableEq
def jv:uO Frame where
 sz:=4
 rd w A cs x:=∃vregs,cs=[.int .i64 x.F,.int .i64 x.at_,vregs,.int .i64 x.x]/\bX bG w A vregs x.regs
 len:=by rintro w A cs x ⟨vregs,rfl,h0⟩;rfl
 one:=by rintro w A cs x ⟨vregs,rfl,h0⟩ u hu;simp only[bs,dk,or_false]at hu;rcases hu with rfl|rfl|rfl|rfl<;>first|rfl|exact h0.one
 pos:=by decide
 go:=by rintro w A cs x w2 A2 K ⟨vregs,rfl,h0⟩ hk hK hA;exact⟨_,Z,h0.go hk hK hA⟩
theorem wC{w:ay}{A:BS}{cs:H B}{x:Frame}(h:jv.rd w A cs x):∃a,cs=[.int .i64 x.F,.int .i64 x.at_,a,.int .i64 x.x]/\bX bG w A a x.regs:=h
structure State where
 i:List Frame
 j:List (List tp)
 q:Int
 bC:Int
deriving DecidableEq
def PH:WS bM An where
 sz:=3
 enc x u:=[.int .i64 x.params,.int .i64 x.regs,u]
 sub x:=x.C
 put x s:={x with C:=s}
 len _ _:=rfl
 one:=by intro x u h c hc;simp only[bs,dk,or_false]at hc;rcases hc with rfl|rfl|rfl<;>first|rfl|exact h
 pos:=by decide
 Zd _ _ _:=rfl
 Ze _ _:=rfl
theorem nProc_br:∀w A (x:bM) u,bX qB w A u (PH.sub x)->iO.rd w A (PH.enc x u) x:=λ_ _ _ u h=>⟨u,rfl,h⟩
def aS:WS Frame tp where
 sz:=4
 enc x u:=[.int .i64 x.F,.int .i64 x.at_,u,.int .i64 x.x]
 sub x:=x.regs
 put x s:={x with regs:=s}
 len _ _:=rfl
 one:=by intro x u h c hc;simp only[bs,dk,or_false]at hc;rcases hc with rfl|rfl|rfl|rfl<;>first|rfl|exact h
 pos:=by decide
 Zd _ _ _:=rfl
 Ze _ _:=rfl
theorem yx:∀w A (x:Frame) u,bX bG w A u (aS.sub x)->jv.rd w A (aS.enc x u) x:=λ_ _ _ u h=>⟨u,rfl,h⟩
open Go.RowKit Go.Proofs
section
variable{P:cd}{ops:Array ec}{sc:gd->Act->ay->Prop}{n:Nat}{env:Nat->B}{w w' I:ay}{M K:BS}{J:Nat->Chunk}{rest:H ec}
 {d:L Nat} {op:Op} {ty:bk} {pos:String} {af:Array hX} {v:B} {g:L (Nat×YU)} {T:bk} {ρ:bt->B} {x y:bt}
theorem LS{fn:Func}{R:td->ay->Prop}{a:Tmp}{T:bk}{zs vs:H B}{b:Nat}(j:fn.results= #[.cell a T])(g:ev n env (.tmp a)=.pointer (U ⟨b,0,bd⟩))
  (e:SH I M K w J) (i:Nat) (hi:J i=.blk b vs) (f:yV P T zs) (hl:O vs=O zs) (h:R (.returned (.agg (ar vs))) w):kt P fn R .ret (DB n env) w:=by
 refine⟨Z,_,?_,h⟩;have c:=congrFun (jB n env)<|.tmp a;rw[g]at c;simp only[Act.eval]at c;rw[da]at c;have d:=FY (P:=P) e hi f hl Z;unfold results;rw[j];simp[c,asAddr,d]
end
theorem cutS_free{c:UInt8}{s:vh}(h:c∉s)(hl:O s<4294967281):cutS s [c]=U (s,[],aw):=by
  unfold cutS;rw[gH hl];rcases idx1 c s with⟨h1,h2⟩|⟨x,r,h1,h2,h3⟩
  · unfold sy;rw[h1,Z4 tS]
  · exact ZL (by rw[h1];simp) h
theorem cutS_hit{c:UInt8}{x r:vh}(h:c∉x)(hl:O (x++c::r)<4294967281):cutS (x++c::r) [c]=U (x,r,bh):=by
  unfold cutS;rw[gH hl];rcases idx1 c (x++c::r)with⟨h1,h2⟩|⟨y,q,h1,h2,h3⟩
  · exact ZL C7 h2
  · have e:x=y/\r=q:=by
      have k1:=Ci (r:=r) h;have k2:=Ci (r:=q) h2;rw[<-h1,k1]at k2;injection k2 with k2 k3;subst k2;refine⟨Z,?_⟩;have:=List.append_cancel_left h1;injection this
    obtain⟨rfl,rfl⟩:=e;unfold sy;rw[h3,Z3 V];simp only[Int.toNat_natCast];rw[jz,show O x+O [c]=O (x++[c]) by simp,show x++c::r=(x++[c])++r by simp,List.drop_left]
def addC(c:UInt8):H vh->H vh
 |[]=>[]
 |[x]=>[x]
 |x::y::r=>(x++[c])::addC c (y::r)
theorem addC_cons(c:UInt8)(x:vh){l:H vh}(h:l≠[]):addC c (x::l)=(x++[c])::addC c l:=by
 cases l with
 |nil=>exact ZL Z h
 |cons y r=>rfl
theorem splitK_A(c:UInt8):∀(k:Nat) (s:vh),Lib.count s [c]=k->Lib.splitK [c] 1 k s=addC c (kG c s):=by
  intro k;induction k with
  |zero=>
    intro s W;rcases idx1 c s with⟨h1,h2⟩|⟨x,r,h1,h2,h3⟩
    · rw[Jk h2];rfl
    · rw[Lib.count_hit C7 h3]at W;omega
  |succ k ih=>
    intro s W;rcases idx1 c s with⟨h1,h2⟩|⟨x,r,h1,h2,h3⟩
    · rw[Lib.count_miss h1]at W;omega
    · have a:¬(Lib.index s [c]== -1)=true:=by rw[h3];simp
      rw[Lib.count_hit C7 h3]at W;have b:s.drop (O x+O [c])=r:=by rw[h1];simp
      rw[Lib.splitK,Z4 a,h3];simp only[Int.toNat_natCast];rw[b]at W⊢;rw[ih r V,h1,Ci h2,addC_cons c x (E8 c r)];congr 1;rw[show O x+1=O (x++[c]) by simp,show x++c::r=(x++[c])++r by simp,jz]
theorem LR{s:vh}(c:UInt8)(h:O s<4294967281):Jh s [c]=U (addC c (kG c s)):=by
 unfold Jh;rw[gH ⟨h,cl _⟩];exact ZS U<|splitK_A c _ s Z
theorem hasSuf_app{c:UInt8}(x:vh)(h:O (x++[c])<=281474976710656):Ri (x++[c]) [c]=U true:=by
 unfold Ri;rw[gH h];simp[uI]
theorem hasSuf_free{c:UInt8}{x:vh}(a:c∉x)(h:O x<=281474976710656):Ri x [c]=U false:=by
 unfold Ri;rw[gH h];have:¬[c]<:+x:=λW=>a<|W.subset C7;cases hq:[c].isSuffixOf x with
 |false=>simp[uI,hq]
 |true=>exact ZL (List.isSuffixOf_iff_suffix.1 hq) this
theorem splitC_cons{c:UInt8}{s x y:vh}{l:H vh}(h:kG c s=x::y::l):∃r,s=x++c::r/\kG c r=y::l/\c∉x:=by
 have b:=(Cm c s x (by rw[h];exact fp)).2;have a:=Ck c s;rw[h,Cj]at a;refine⟨zn c<|y::l,a.symm,?_,b⟩;rw[<-a,Ci b]at h;injection h
theorem PJ{c:UInt8}{s x:vh}(h:kG c s=[x]):s=x/\c∉x:=by
 have b:=(Cm c s x (by rw[h];exact fp)).2;have a:=Ck c s;rw[h,E9]at a;exact⟨a.symm,b⟩
open Go.RowKit Go.Proofs
def RngP{α:Type}(f:α->B)(m r:Nat)(last:L (Int×α))(left:H (Int×α))(w:ay):Prop:=
 m≠r/\∃es a b,w.heap[m]? =U (.map es a)/\LF es a/\w.heap[r]? =U (.mapIter (U m) a b a)/\
  (nB es b).toList.map (λe=>(e.key,e.val))=left.map (λp=>(dd .i64 p.1,f p.2))/\
  ∀p,last=U p->∃e∈es.toList,b.back?=U e.born/\e.key=.int .i64 p.1/\e.val=f p.2
def rngS{α:Type}(f:α->B)(m r:Nat)(last:L (Int×α))(left:H (Int×α)):Pce where
  own x:=x=m\/x=r
  P w _:=RngP f m r last left w
  lt:=by
    rintro w A x⟨_,es,clock,seen,h1,_,h2,_⟩(rfl|rfl)
    · exact jf h1
    · exact jf h2
  go:=by
    rintro w w' A A' K⟨h0,es,clock,seen,h1,h2,h3,h4⟩hk hK hKo hA;exact⟨h0,es,clock,seen,hk.blk h1 λh=>hKo m h<|.inl Z,h2,hk.blk h3 λh=>hKo r h<|.inr Z,h4⟩
section
variable{P:cd}{ops:Array ec}{sc:gd->Act->ay->Prop}{n:Nat}{env:Nat->B}{w w' I:ay}{M K:BS}{J:Nat->Chunk}{rest:H ec}
 {d:L Nat} {op:Op} {ty:bk} {pos:String} {af:Array hX} {v:B} {g:L (Nat×YU)} {T:bk} {ρ:bt->B} {x y:bt} {α:Type} {f:α->B}
theorem w_range{z:B}{m:Nat}{jc:H (Int×B)}(l:H (Int×α))(h:SH I M K w J)(i:Nat)(hi:J i=.mp m jc)(v:D3 P T z)(u:ev n env x=.map (U m))(s:jc=l.map λp=>(p.1,f p.2))
    (k:∀w' r,SH I M K w' (cz J i (.gK (rngS f m r bd l)))->WL P ops sc rest n (gp env d (.pointer (U ⟨r,0,bd⟩))) w'):WL P ops sc (⟨d,.range T x,ty,pos,af,bd⟩::rest) n env w:=by
  obtain⟨y,E,t,A,aq⟩:=v.desc;obtain⟨es,a,e,g,o⟩:=h.mpAt i hi;have c:(bn (ev n env) ⟨d,.range T x,ty,pos,af,bd⟩).run P w=.ok (.value<|.pointer<|some ⟨w.heap.size,0,bd⟩) (w.alloc<|.mapIter (U m) a #[] a):=by
    simp only[bn,u];simp[run_range_map w T y E m es a t e]
  refine aC c<|k _ _ ?_;have j:=jf e;refine h.step i (N:=BE) (Grow.alloc _ _) (λ_ h=>h.elim) (λb q hl=>?_) ?_
  · rw[hi];rcases q with rfl|rfl
    · rfl
    · exact ZL hl<|Nat.lt_irrefl _
  · refine⟨Nat.ne_of_lt j,es,a,#[],by rw[(Grow.alloc _ _).blk e],o,heap_alloc_new _ _,?_,λp h=>by cases h⟩;have:nB es #[]=es:=by unfold nB;exact vr.2 (λx _=>by simp)
    rw[this,g,s,List.map_map];rfl
theorem HS{r:Nat}{a:L Nat}{s c:Nat}{b:Array Nat}(o:Obj)(d:w.heap[r]? =U (.mapIter a s b c)):(setObj r o).run P w=.ok () (yA w r o):=by
 simp only[setObj,lA,d];rfl
theorem run_next_any(ty:bk){m r a:Nat}{es:Array MapEntry}{b:Array Nat}(y:w.heap[m]? =U (.map es a))(q:w.heap[r]? =U (.mapIter (U m) a b a))(f:∀e∈es.toList,e.born<a):
    ((nB es b).size=0/\(wj (.pointer (U ⟨r,0,bd⟩)) aw ty).run P w=.ok (.tuple #[.bool aw]) w)\/
    ∃e∈(nB es b).toList,∃w1:ay,(w1=w\/w1=w.drew)/\(wj (.pointer (U ⟨r,0,bd⟩)) aw ty).run P w=.ok (.tuple #[.bool bh,e.key,e.val]) (yA w1 r (.mapIter (U m) a (b.push e.born) a)):=by
  have n:(kx r).run P w=.ok (.mapIter (U m) a b a) w:=by simp[kx,lA,q]
  have k:(kx m).run P w=.ok (.map es a) w:=by simp[kx,lA,y]
  simp only[wj,cD,n,k,bT,next_test_false b es a a f (cl _),cL,if_false];unfold nB;have c:∀x∈(CC (λe=> !b.contains e.born) es).toList,x.born<a:=λx d=>f x (by simp at d⊢;exact d.1);generalize CC (λe=> !b.contains e.born) es=Zs at c⊢;have z:Zs.filter (λx=>decide<|x.born<a)=Zs:=vr.2 (λx d=>by simpa using c x (by simpa using d));have v:Zs.filter (λx=>decide<|x.born≥a)= #[]:=by
    rw[Array.filter_eq_empty_iff];intro x d;have:=c x (by simpa using d);simp;omega
  simp only[z,v,Array.append_empty];by_cases s:Zs.size=0
  · left;have:Zs= #[]:=Array.eq_empty_of_size_eq_zero s;subst this;refine⟨Z,?_⟩;simp[choose,lA,sC]
  · right;have l:Zs.isEmpty=false:=by simp[Array.isEmpty,s]
    simp only[l,cL,if_false,Array.empty_append,Array.size_map];have p:∃(j:Nat) (w1:ay),j<Zs.size/\(w1=w\/w1=w.drew)/\(choose<|Question.mapNext Zs.size).run P w=.ok j w1:=by
      by_cases t:Zs.size<=1
      · exact⟨0,w,by omega,.inl Z,by simp[choose,lA,sC,t]⟩
      · exact⟨_,w.drew,Nat.mod_lt _ V,.inr Z,by
          simp only[choose,lA,sC,decide_eq_true_eq,t,if_false,Question.cut];rfl⟩
    obtain⟨j,w1,u,g,i⟩:=p;refine⟨Zs[j],by simp,w1,g,?_⟩;have o:w1.heap[r]? =U (.mapIter (U m) a b a):=by rcases g with rfl|rfl<;>exact q
    simp only[i,Array.getElem?_map,jx u,dt,cD,HS _ o,bT];rfl
theorem leftOf_push(es:Array MapEntry)(a:Array Nat)(b:Nat):(nB es (a.push b)).toList=(nB es a).toList.filter (λx=>x.born !=b):=by
 unfold nB;rw[my,my,List.filter_filter];apply List.filter_congr;intro x _;have:(a.push b).contains x.born=(a.contains x.born||(x.born==b)):=by
  rw[Bool.eq_iff_iff];simp[Array.contains_iff_mem]
 rw[this];cases a.contains x.born<;>cases hq:(x.born==b)<;>simp[bne,hq]
section
variable{m r:Nat}{last:L (Int×α)}{left:H (Int×α)}
theorem w_next(h:SH I M K w J)(i:Nat)(hi:J i=.gK (rngS f m r last left))(k:ev n env x=.pointer (U ⟨r,0,bd⟩))(k0:left=[]->WL P ops sc rest n (gp env d (.tuple #[.bool aw])) w)(k1:∀p g w',left.Perm (p::g)->SH I M K w' (cz J i (.gK (rngS f m r (U p) g)))->WL P ops sc rest n (gp env d (.tuple #[.bool bh,.int .i64 p.1,f p.2])) w'):
    WL P ops sc (⟨d,.next x aw,ty,pos,af,bd⟩::rest) n env w:=by
  have Zs:=h.ok i;rw[hi]at Zs;obtain⟨q,es,a,c,z,al,ab,y,h5⟩:=Zs;rcases run_next_any (P:=P) ty z ab al.1 with⟨g1,g2⟩|⟨e,he,w1,hw1,g2⟩
  · have hl:left=[]:=by
      have:(nB es c).toList=[]:=cA (by simpa using g1);rw[this]at y;cases left with
      |nil=>rfl
      |cons p l=>cases y
    refine aC (v:=.tuple #[.bool aw]) (w':=w) ?_<|k0 hl;simp only[bn,k];simp[g2]
  · obtain⟨A,aq,o⟩:=List.append_of_mem he;rw[o,cY,cr]at y;obtain⟨N,l2,rfl,q1,S⟩:=List.map_eq_append_iff.1 y.symm;obtain⟨p,w0,rfl,s,X⟩:=List.map_eq_cons_iff.1 S;simp only[ie]at s;have u:=jf ab;have j:Grow w w1:=by
      rcases hw1 with rfl|rfl
      · exact bF.refl _ _
      · exact⟨Z,Z,Z,cl _,λ_ _ _=>rfl⟩
    have hk:bF (λx=>x=m\/x=r) w (yA w1 r<|.mapIter (U m) a (c.push e.born) a):=bF.step (j.weaken λ_ h _=>h.elim) (bF.yA _ _ _) λx k _=>.inr k;have C:(yA w1 r<|.mapIter (U m) a (c.push e.born) a).heap[m]? =U (.map es a):=by
      rw[(bF.yA w1 r _).block m q (ey (jf z) j.size),j.blk z]
    refine aC (v:=.tuple #[.bool bh,.int .i64 p.1,f p.2]) (w':=yA w1 r<|.mapIter (U m) a (c.push e.born) a) ?_<|k1 p (N++w0) _ (List.perm_middle) ?_
    · rw[s.1,s.2];simp only[bn,k];simp[g2]
    · refine h.Oi (S':=rngS f m r (U p)<|N++w0) i hi ?_ hk λb R _=>R;refine⟨q,es,a,c.push e.born,C,al,wK<|ey u j.size,?_,λp' F=>?_⟩
      · rw[leftOf_push,o];have t:((nB es c).toList.map (·.born)).Nodup:=by
          unfold nB;rw[my];exact(al.2.sublist ((List.filter_sublist (l:=es.toList)).map _))
        rw[o,cY,cr,List.nodup_append]at t;obtain⟨n1,T,n3⟩:=t;rw[List.filter_append,List.filter_cons_of_neg C7,sd.2 (λx k=>?_),sd.2 (λx k=>?_),cY,cY,<-q1,<-X]
        · have:=(AT.1 T).1;simp only[bne_iff_ne,ne_eq,decide_not,ep,beq_eq_false_iff_ne];intro E;exact this (by rw[<-E];exact List.mem_map.2 ⟨x,k,Z⟩)
        · simp only[bne_iff_ne,ne_eq,decide_not,ep,beq_eq_false_iff_ne];intro E;exact n3 x.born (List.mem_map.2 ⟨x,k,Z⟩) e.born C7 E
      · cases F;refine⟨e,?_,by simp,s.1.symm,s.2.symm⟩;have:e∈(nB es c).toList:=he;unfold nB at this;rw[my]at this;exact(List.mem_filter.1 this).1
theorem r_entry{p:Int×α}(h:SH I M K w J)(i:Nat)(hi:J i=.gK (rngS f m r (U p) left))(l:ρ x=.pointer (U ⟨r,0,bd⟩)):
    (bn ρ ⟨d,.entry x,ty,pos,af,g⟩).run P w=.ok (.value (.tuple #[.int .i64 p.1,f p.2])) w:=by
  have k:=h.ok i;rw[hi]at k;obtain⟨t,es,a,b,u,n,y,A,o⟩:=k;obtain⟨e,v,W,s,q⟩:=o p Z;have c:(kx r).run P w=.ok (.mapIter (U m) a b a) w:=by simp[kx,lA,y]
  have j:(kx m).run P w=.ok (.map es a) w:=by simp[kx,lA,u]
  have z:es.find? (·.born==e.born)=U e:=by rw[<-Array.find?_toList];exact find_born e es.toList n.2 v
  simp only[bn,l];have:(Instr.entry<|.pointer<|some ⟨r,0,bd⟩).run P w=.ok (.tuple #[.int .i64 p.1,f p.2]) w:=by
    simp only[Instr.entry,cD,c,j,bT,W,bne_self_eq_false,cL,if_false,z];rw[s,q];rfl
  simp[this]
theorem SH.rngForget(h:SH I M K w J)(i:Nat)(hi:J i=.gK (rngS f m r last left)):SH I M K w (cz J i (.gK (rngS f m r bd left))):=by
 have e:=h.ok i;rw[hi]at e;obtain⟨d,es,a,c,k,g,n,l,o⟩:=e;exact h.Oi (S':=rngS f m r bd left) i hi ⟨d,es,a,c,k,g,n,l,λp h=>by cases h⟩ (bF.refl _ _) λb j _=>j
end
end
def MT{α σ:Type}(step:α->σ->L σ):H α->σ->L σ
 |[],s=>U s
 |a::l,s=>(step a s).bind (MT step l)
def EG{α σ:Type}(step:α->σ->L σ)(Zs:H α)(s fin:σ):Prop:=∀p,p.Perm Zs->MT step p s=U fin
open Classical in
noncomputable def Oj{α σ:Type}(step:α->σ->L σ)(Zs:H α)(s:σ):L σ:=if h:∃fin,EG step Zs s fin then U h.choose else bd
section
variable{α σ:Type}{step:α->σ->L σ}{Zs:H α}{s fin:σ}
theorem o_fold(h:Oj step Zs s=U fin):EG step Zs s fin:=by
  unfold Oj at h;split at h
  · rename_i a;cases h;exact a.choose_spec
  · cases h
theorem foldAny_eq(h:EG step Zs s fin):Oj step Zs s=U fin:=by
 have b:∃fin,EG step Zs s fin:=⟨fin,h⟩;unfold Oj;rw[dif_pos b];have a:=b.choose_spec Zs<|tc _;rw[h Zs (tc _)]at a;exact a.symm
theorem EG.nil(h:EG step [] s fin):s=fin:=by
 have:=h []<|tc _;exact dp this
theorem EG.cons{Zs L':H α}{p:α}(h:EG step Zs s fin)(J:Zs.Perm (p::L')):∃a,step p s=U a/\EG step L' a fin:=by
 have c:=h (p::L') J.symm;obtain⟨a,b,e⟩:=aR c;refine⟨a,b,λq d=>?_⟩;have:=h (p::q) ((d.cons p).trans J.symm);unfold MT at this;rw[b]at this;exact this
end
open Go.RowKit Go.Proofs
section
variable{I w w':ay}{M K:BS}{J:Nat->Chunk}{C:Chunk}
theorem SH.Kc{b:Nat}{cs:H B}(h:SH w M K w J)(i:Nat)(ho:∃E,w.heap[b]? =U (.cells (ar cs) E (0,0)))(a:¬C.own' b)(hn:∀b,kg J b->C.own' b):SH w M K w (cz J i (.pt b 0 cs)):=by
 obtain⟨E,c⟩:=ho;exact h.pt i (λh=>a<|hn b h) ⟨_,E,_,c,by simp⟩
theorem BQ{i b o:Nat}{cs:H B}(hn:∀b,kg J b->C.own' b):∀x,kg (cz J i (.pt b o cs)) x->C.own' x:=by
  rintro x⟨j,a⟩;by_cases e:j=i
  · subst e;rw[dG]at a;exact a.elim
  · rw[iH e]at a;exact hn x ⟨j,a⟩
theorem SH.loseC3{c e f:Chunk}(h:SH I M K w J)(i j k:Nat)(g:i≠j)(hik:i≠k)(l:j≠k)(hi:J i=c)(n:J j=e)(d:J k=f)(p:bF (λb=>c.own' b\/e.own' b\/f.own' b) w w'):
    SH I M K w' (cz (cz (cz (cz (cz J j .no) i (.two (J i) (J j))) k .no) i (.two ((cz (cz J j .no) i (.two (J i) (J j))) i) ((cz (cz J j .no) i (.two (J i) (J j))) k))) i .no):=by
  have o:=h.pair i j g;have m:=o.pair i k hik;refine m.Wm i (dG _ _ _) ?_;rw[dG,iH (λe=>hik e.symm),iH (λe=>l e.symm),hi,n,d];refine p.weaken λb a _=>?_;rcases a with a|a|a
  · exact .inl<|.inl a
  · exact .inl<|.inr a
  · exact .inr a
end
section
variable{α:Type}{R:uO α}{E:bk}{I w w':ay}{M K A:BS}{J:Nat->Chunk}{C:Chunk}{v:B}{l:H α}
theorem dz.srcB{aq:BS}(h:dz R E w A v l)(q:∀b,ob v b->¬aq b):ek R w aq A v l:=by
  have p:=h.src;obtain⟨xs,m,x⟩:=h;rcases m.2 with⟨rfl,hn⟩|⟨g,cap,cur,rfl,e1,e2,e3,e4,e5,e6⟩
  · have:l=[]:=cA hn;subst this;exact ek.nil
  · obtain⟨a,c,d,t,k,n,s⟩:=p;refine⟨a,c,d,t,k,n,λi hi=>?_⟩;obtain⟨b,o,cells,F,f,e,u,r,j⟩:=s i hi;refine⟨b,o,cells,F,f,e,?_,r,j⟩;subst e;simp only[Value.slice.injEq,fb,Addr.mk.injEq]at d;exact q b (by simp[ob,d.1.1])
theorem Ol{i:Nat}(hn:∀b,kg J b->C.own' b):∀b,kg (cz J i (.sr R v l)) b->C.own' b:=by
  rintro b⟨j,a⟩;by_cases e:j=i
  · subst e;rw[dG]at a;exact a.elim
  · rw[iH e]at a;exact hn b ⟨j,a⟩
theorem SH.argSrC(h:SH w M K w J)(i:Nat)(ho:ek R w C.own' (λb=>M b\/C.own' b) v l)(hn:∀b,kg J b->C.own' b):SH w M K w (cz J i (.sr R v l)):=
 h.know i (λ_ h=>h) (ho.sub (λb a _=>hn b a) (λb a _=>a.imp id (hn b)))
theorem av_all{i:Nat}(hi:J i=C):∀b,(M b\/rest J i b)\/C.own' b->SH.A M J b:=by
  rintro b((a|a)|a)
  · exact .inl a
  · exact .inr<|nQ a
  · exact .inr ⟨i,by rw[hi];exact a⟩
theorem SH.ownSr(h:SH I M K w J)(i j:Nat)(c:i≠j)(d:J j=.own R E v l)(hi:J i=C):ek R w C.own' (λb=>(M b\/rest J i b)\/C.own' b) v l:=
 ((h.bW j d).srcB (aq:=C.own') (λb a e=>h.apart i j c b (by rw[hi];exact e) (by rw[d];exact a))).sub (λ_ h _=>h) (λb a _=>av_all hi b a)
theorem SH.srSr(h:SH I M K w J)(i j:Nat)(c:J j=.sr R v l)(hi:J i=C):ek R w C.own' (λb=>(M b\/rest J i b)\/C.own' b) v l:=
 (h.srAt j c).sub (λb a _=>⟨i,by rw[hi];exact a⟩) (λb a _=>av_all hi b a)
end
def Zh(s:vh):L (H vh):=iC (O s<4294967281/\(s.all λb=>G (b.toNat<128))=bh/\O (gx s)<=4294967281) (U (gx s))
theorem fields_w{P:cd}{f:nd}{E:bk}{g q:Nat}{I:ay}{M:BS}(k:∀(s:ByteArray) (w:ay),s.size<4294967281->(∀(j:Nat) b,s.data.toList[j]? =U b->b.toNat<128)->pH P w "strings.asciiSpace" .u8 zw->
    bp P f #[.string s] w λe w'=>e=.returned (.slice (U ⟨w.heap.size,0,bd⟩) (O (gx s.data.toList)) (O (gx s.data.toList)))/\w'=w.alloc (.cells ((gx s.data.toList).map λl=>ph ⟨ar l⟩).toArray E))
    (n:P.globalNamed "strings.asciiSpace" =U q) (i:∀b,M b->b<I.heap.size) (a:ql P g I) {s:vh} {r:H vh} (W:Zh s=U r):bp P f #[bJ s] I (λe w'=>Grow I w'/\∃u,e=.returned u/\bX KG w' M u r):=by
  obtain⟨⟨m,c,o⟩,W⟩:=cK W;cases W;refine(k ⟨ar s⟩ I (by rw[oZ];exact m) (λj b d=>?_) (a.asc q n)).mono ?_
  · have:=pj.1 c b<|List.mem_of_getElem? (by simpa using d);simpa using this
  · rintro e w'⟨rfl,rfl⟩;refine⟨Grow.alloc _ _,_,Z,?_⟩;have:=W7 (E:=E) (l:=(gx s).map λl=>(⟨ar l⟩:ByteArray)) (cap:=O (gx s)) (cells:=((gx s).map λl=>ph ⟨ar l⟩).toArray) I i (by rw[dr];exact cl _) (by unfold maxLen;omega) (λj p=>by simp);rw[dr,List.map_map]at this;have e:(List.map (((λx=>x.data.toList):ByteArray->vh)∘λl=>⟨ar l⟩)<|gx s)=gx s:=by simp[Function.comp_def]
    simpa[Function.comp_def]using this
open Go.RowKit Go.Proofs Go.ChangeShapes
def Wn(b o:Nat)(r:Nat×Nat×Nat):YU:=hR r.1 b&&(ly r.2.1 o&&mz o (r.2.1+r.2.2))
def Hk(b o:Nat):H (Nat×Nat×Nat)->H (Nat×Nat×Nat)
 |[]=>[(b,o,1)]
 |(c,s,l)::r=>bif hR c b&&hR (o+1) s then(b,o,l+1)::r else(b,o,1)::(c,s,l)::r
def runsOf:H MemPlace->L (H (Nat×Nat×Nat))
 |[]=>U []
 | .cell b o::r=>Option.bind (runsOf r) λrs=>bif rs.any (Wn b o)then bd else U (Hk b o rs)
 |_::_=>bd
theorem addRun_old{b o c q:Nat}{rs:H (Nat×Nat×Nat)}(h:rs.any (Wn c q)=bh):(Hk b o rs).any (Wn c q)=true:=by
  cases rs with
  |nil=>cases h
  |cons r rs=>
    obtain⟨d,s,l⟩:=r;have e:Hk b o ((d,s,l)::rs)=bif hR d b&&hR (o+1) s then(b,o,l+1)::rs else(b,o,1)::(d,s,l)::rs:=rfl;rw[e];cases hc:(hR d b&&hR (o+1) s)with
    |false=>rw[Z2,vf,h,Bool.or_true]
    |true=>
      rw[Z1];simp only[cS,yk]at hc;obtain⟨rfl,rfl⟩:=hc;rw[vf]at h⊢;rcases Bool.or_eq_true_iff.1 h with h|h
      · unfold Wn at h⊢;simp only[cS,yk,tR,Nat.blt_eq]at h;have:(hR d c&&(ly o q&&mz q (o+(l+1))))=true:=by
          simp only[cS,yk,tR,Nat.blt_eq];omega
        rw[this,Bool.true_or]
      · rw[h,Bool.or_true]
theorem addRun_new{b o:Nat}{rs:H (Nat×Nat×Nat)}:(Hk b o rs).any (Wn b o)=true:=by
 cases rs with
 |nil=>simp[Hk,Wn]
 |cons r rs=>
  obtain⟨d,s,l⟩:=r;have e:Hk b o ((d,s,l)::rs)=bif hR d b&&hR (o+1) s then(b,o,l+1)::rs else(b,o,1)::(d,s,l)::rs:=rfl;rw[e];cases (hR d b&&hR (o+1) s)with
  |false=>simp[Wn]
  |true=>simp[Wn]
theorem Zi:∀{d:H MemPlace} {rs:H (Nat×Nat×Nat)},runsOf d=U rs->d.Nodup/\∀b o,MemPlace.cell b o∈d->rs.any (Wn b o)=bh
  |[],rs,h=>⟨List.nodup_nil,λ_ _ a=>by cases a⟩
  | .cell b o::r,rs,h=>by
    unfold runsOf at h;obtain⟨q,i,h⟩:=Option.bind_eq_some_iff.1 h;obtain⟨g,f⟩:=Zi i;cases hc:q.any (Wn b o)with
    |true=>rw[hc]at h;cases h
    |false=>
      rw[hc,Z2]at h;cases h;refine⟨AT.2 ⟨λa=>(by rw[f b o a]at hc;cases hc),g⟩,λc p a=>?_⟩;rcases bs.1 a with e|a
      · cases e;exact addRun_new
      · exact addRun_old<|f c p a
  | .map _::_,rs,h=>by cases h
theorem HT{P:cd}{w:ay}{l:H (String×DataW Unit)}(fuel:Nat)(h:(DataW.laidRun P w fuel (l.map (·.1))).map (·.1)=U l)
    (a:(DataW.laidRun P w fuel (l.map (·.1))).map (λx=>(runsOf x.2).isSome&&laidRowsB P w x.2)=U bh):laidMet P l w:=by
  cases hx:DataW.laidRun P w fuel (l.map (·.1))with
  |none=>simp[hx]at h
  |some x=>
    obtain⟨d,c⟩:=x;simp only[hx,dt,fb]at h a;subst h;simp only[cS]at a;obtain⟨rs,b⟩:=Option.isSome_iff_exists.1 a.1;exact laidMet_of_run fuel hx (decide_eq_true (Zi b).1) a.2
structure gY where
 at_:Int
 ok:Bool
deriving DecidableEq
open Go.RowKit Go.Proofs
section
variable{α β:Type}{N:WS α β}{R:uO β}{E Es T:bk}{I w w':ay}{M K A:BS}{J:Nat->Chunk}{v u u':B}{us us':H B}{Zs L':H α}{ss ss':H (H β)}{s:H β}{x y:α}{k:Nat}{ho ho':Nat->Prop}{C:Chunk}
theorem HQ{b:Type}(P:Nat->b->Prop):∀(n:Nat),(∀i,i<n->∃u,P i u)->∃us:H b,O us=n/\∀i u,us[i]? =U u->P i u
  |0,_=>⟨[],rfl,λi u h=>by cases h⟩
  |n+1,h=>by
    obtain⟨us,d,c⟩:=HQ P n λi hi=>h i V;obtain⟨u,e⟩:=h n V;refine⟨us++[u],by simp[d],λi z a=>?_⟩;rw[js]at a;split at a
    · exact c i z a
    · rename_i hl;have:i-O us=0:=by
        rcases Nat.eq_zero_or_pos (i-O us)with h0|h0
        · exact h0
        · rw[bE (by simp;omega)]at a;cases a
      rw[this]at a;cases a;obtain rfl:i=n:=by omega
      exact e
def E0(k:Nat):Nat->Prop:=λi=>k<=i
def Rj{β:Type}(R:uO β)(k:Nat)(us:H B)(ss:H (H β)):Pce where
 own:=BE
 P w A:=∀i u s,k<=i->us[i]? =U u->ss[i]? =U s->bX R w A u s
 lt:=λ_ h=>h.elim
 go:=λh hk hK hKo hA i u s hi hu W=>bX.go (h i u s hi hu W) hk hK (λb hb hl=>(hA b hb hl).elim id (λh=>h.elim))
theorem SH.famHo(h:SH I M K w J)(j:Nat)(ho':Nat->Prop)(a:J j=.gK (bQ R E ho us ss))(d:∀i,ho i↔ho' i):SH I M K w (cz J j (.gK (bQ R E ho' us ss))):=by
 have e:ho=ho':=funext λi=>propext<|d i;subst e;exact h.Oi (S':=bQ R E ho us ss) j a (h.famAt j a) (bF.refl _ _) λb c _=>c
theorem SH.thaw{R':uO α}(h:SH I M K w J)(i j q:Nat)(hi:J i=.own R' E v Zs)(ab:i≠j)(aq:i≠q)(S:j≠q)(m:R'.sz=N.sz)(op:∀w A cs x,R'.rd w A cs x->∃u,cs=N.enc x u/\bX R w A u (N.sub x)):
    ∃us,O us=O Zs/\SH I M K w (cz (cz (cz J i (.own N.raw E v (Zs.zip us))) j (.gK (bQ R Es (E0 0) us (Zs.map N.sub)))) q (.gK (Rj R 0 us (Zs.map N.sub)))):=by
  have ho:=h.bW i hi;have w0:=ho;obtain⟨xs,C,al⟩:=ho;obtain⟨us,hl,k⟩:=HQ (λi u=>∃hi:i<O Zs,(xs.drop (i*R'.sz)).take R'.sz=N.enc Zs[i] u/\bX R w (λb=>SH.A M J b\/ob v b) u (N.sub Zs[i])) (O Zs) (λi hi=>by
    obtain⟨u,n,l⟩:=op _ _ _ _<|al i hi;exact⟨u,hi,n,l⟩)
  refine⟨us,hl,?_⟩;have z:SH I M K w (cz J i<|.own N.raw E v<|Zs.zip us):=by
    refine h.step i (bF.refl BE w) (λ_ h=>h.elim) (λb a _=>by rw[hi];exact a) ⟨xs,?_,?_⟩
    · rw[dA hl];show w.ownsRow 0 E N.sz v (O Zs) xs;rw[<-m];exact C
    · intro q y;have F:q<O Zs:=by rw[dA hl]at y;exact y
      have o:q<O us:=by omega
      obtain⟨_,n,l⟩:=k q us[q]<|bl o;refine⟨?_,?_⟩
      · show(xs.drop<|q*N.sz).take N.sz=N.enc ((Zs.zip us)[q]).1 ((Zs.zip us)[q]).2;rw[zE,<-m];exact n
      · rw[zE];exact l.one
  have d:∀b,¬KL (E0 0) us b:=λb⟨i,u,_,hn,_⟩=>hn<|gk i;have P:SH I M K w (cz (cz J i<|.own N.raw E v<|Zs.zip us) j<|.gK<|bQ R Es (E0 0) us<|Zs.map N.sub):=
    z.know j (c:=.gK (bQ R Es (E0 0) us (Zs.map N.sub))) (λb a=>d b a) ⟨by rw[dr];exact hl,λi u s _ _ hn=>ZL (gk i) hn,λi j u v _ hn=>ZL (gk i) hn⟩
  refine P.know q (c:=.gK<|Rj R 0 us<|Zs.map N.sub) (λb a=>a) ?_;intro p u s _ sc W;obtain⟨r,n,l⟩:=k p u sc;rw[eo,bl r]at W;cases W;have f:∀b,(M b\/kg (cz (cz J i<|.own N.raw E v<|Zs.zip us) j<|.gK<|bQ R Es (E0 0) us<|Zs.map N.sub) b)->SH.A M J b\/ob v b:=by
    rintro b(a|⟨c,g⟩)
    · exact .inl<|.inl a
    · by_cases e:c=j
      · subst e;rw[dG]at g;exact ZL g (d b)
      · rw[iH e]at g;by_cases t:c=i
        · subst t;rw[dG]at g;exact .inr g
        · rw[iH t]at g;exact .inl (.inr ⟨c,g⟩)
  exact l.sub (λb a _=>f b a) λb a _=>f b a
theorem SH.rdpAt(h:SH I M K w J)(q:Nat)(c:J q=.gK (Rj R k us (Zs.map N.sub)))(hl:O us=O Zs)(a:Zs[k]? =U x):∃u,us[k]? =U u/\bX R w (SH.A M J) u (N.sub x):=by
 obtain⟨u,b⟩:=us_at hl a;exact⟨u,b,h.pceAt q c k u _ (cl _) b (by rw[eo,a];rfl)⟩
theorem SH.rdpStep(h:SH I M K w J)(q:Nat)(d:J q=.gK (Rj R k us ss)):SH I M K w (cz J q (.gK (Rj R (k+1) (us.set k u) (ss.set k s)))):=by
 have f:=h.pceAt q d;refine h.Oi (S':=Rj R (k+1) (us.set k u)<|ss.set k s) q d ?_ (bF.refl _ _) λb e _=>e;intro i z t hi a c;rw[ew V]at a c;exact f i z t V a c
theorem SH.pendPut(h:SH I M K w J)(j q m:Nat)(y:α)(f:J j=.gK (bQ R Es (E0 k) us (Zs.map N.sub)))(v:J q=.gK (Rj R k us (Zs.map N.sub)))(g:J m=.own R Es u s)(c:j≠q)(a:j≠m)(b:q≠m)(n:Zs[k]? =U x)(d:us[k]? =U u')(p:N.sub y=s):
    SH I M K w (cz (cz (cz (cz (cz J q (.gK (Rj R (k+1) (us.set k u) ((Zs.map N.sub).set k s)))) j (.gK (bQ R Es (E0 k) (us.set k u) ((Zs.map N.sub).set k s)))) m .no) j (.gK (bQ R Es (E0 (k+1)) (us.set k u) (((Zs.map N.sub).set k s).set k s)))) j (.gK (bQ R Es (E0 (k+1)) (us.set k u) ((Zs.set k y).map N.sub)))):=by
  have l:=h.rdpStep (u:=u) (s:=s) q v;have hl:=h.ig j f;have o:=l.famRe (us':=us.set k u) (ss':=(Zs.map N.sub).set k s) j (by rw[iH c];exact f) (by simp[hl]) (λi hi=>by
    have:k≠i:=λe=>hi (by subst e;exact cl _);rw[ew this,ew this];exact⟨Z,Z⟩)
  have z:=OM n;have t:=o.Zg j m (k:=k) (u:=u) (s:=s) (dG _ _ _) (by rw[iH (λe=>a e.symm),iH (λe=>b e.symm)];exact g) a (Vc d) (cl k) (E0 (k+1)) (λi=>⟨λhi=>by
    rcases yl (show k<=i from hi)with e|e
    · exact .inr e.symm
    · exact .inl e,λhi=>hi.elim (λhi=>zV hi) (λe=>by subst e;exact cl _)⟩) (λhi=>ZL hi (wk k))
  have e:((Zs.map N.sub).set k s).set k s=(Zs.set k y).map N.sub:=by rw[List.set_set,kT,p]
  have r:=t.famRe (us':=us.set k u) (ss':=(Zs.set k y).map N.sub) j (dG _ _ _) (by simp[hl]) (λi hi=>⟨Z,by rw[e]⟩);exact r
theorem SH.famAll(h:SH I M K w J)(j:Nat)(m:J j=.gK (bQ R Es (E0 k) us (Zs.map N.sub)))(p:O Zs<=k):SH I M K w (cz J j (.gK (bQ R Es hn us (Zs.map N.sub)))):=by
  have hl:=h.ig j m;have l:=h.famAt j m;have a:∀i (z:B),us[i]? =U z->¬E0 k i:=λi z c hi=>by
    have:=OM c;have:k<=i:=hi;omega
  refine h.Oi (S':=bQ R Es hn us<|Zs.map N.sub) j m ⟨l.1,λi z t c o _=>?_,λi j z v f _ _ c n=>l.2.2 i j z v f (a i z c) (a j v n) c n⟩ (bF.refl _ _) λb⟨i,z,d,_,g⟩_=>⟨i,z,d,a i z d,g⟩;refine(l.2.1 i z t c o<|a i z c).go (bF.refl BE w) (λ_ h=>h.elim) (λ_ h=>h.elim) λb e _=>?_;rcases e with e|⟨i,z,d,_,g⟩
  · exact .inl<|.inl e
  · exact .inl<|.inr ⟨i,z,d,a i z d,g⟩
def hmv(a:H Int):Nat->Prop:=λi=>(i:Int)∈a
theorem SH.famMv0(h:SH I M K w J)(j:Nat)(a:J j=.gK (bQ R Es hn us ss)):SH I M K w (cz J j (.gK (bQ R Es (hmv []) us ss))):=
 h.famHo j (hmv []) a (λi=>⟨λh=>h.elim,λh=>by cases h⟩)
theorem SH.mvOpen{b:H Int}{kk:Int}(h:SH I M K w J)(j m:Nat)(g:J j=.gK (bQ R Es (hmv b) us (Zs.map N.sub)))(l:J m=.no)(c:j≠m)(k:0<=kk)(f:Zs[kk.toNat]? =U x)(a:kk∉b):
    ∃u,us[kk.toNat]? =U u/\SH I M K w (cz (cz J j (.gK (bQ R Es (hmv (b++[kk])) us (Zs.map N.sub)))) m (.own R Es u (N.sub x))):=by
  have hl:=h.ig j g;obtain⟨u,d⟩:=us_at hl f;have e:((kk.toNat:Nat):Int)=kk:=Int.toNat_of_nonneg k;refine⟨u,d,h.famOpen j m g l c d (by rw[eo,f];rfl) (λh=>a (by rw[<-e];exact h)) (hmv (b++[kk])) (λi=>?_)⟩;unfold hmv;rw[List.mem_append,List.mem_singleton];constructor
  · rintro(h|h)
    · exact .inl h
    · exact .inr V
  · rintro(h|h)
    · exact .inl h
    · exact .inr (by rw[h];exact e)
theorem SH.gotC(h:SH I M K w J)(i:Nat)(c:Grow w w')(d:C.Zb)(e:C.holds w' (SH.A M J) C.own')(hn:∀b,C.own' b->w.heap.size<=b):SH I M K w' (cz J i C):=
  h.learn i c hn (Chunk.re d e (λb a _=>by
    rcases a with a|a|a
    · exact .inl<|.inl a
    · exact .inl<|.inr a
    · exact .inr a))
theorem Zj(ho:∀b,C.own' b->b<I.heap.size->BE b):∀b,C.own' b->I.heap.size<=b:=λb a=>Nat.le_of_not_lt (λhl=>ho b a hl)
theorem nLst_op{R:uO β}:∀(w:ay) (A:BS) cs (x:H β),(ui R).rd w A cs x->∃u,cs=(cu β).enc x u/\bX R w A u ((cu β).sub x):=λ_ _ _ _ h=>h
end
theorem Hr:∀(w:ay) (A:BS) cs (x:Frame),jv.rd w A cs x->∃u,cs=aS.enc x u/\bX bG w A u (aS.sub x):=λ_ _ _ _ h=>h
def VT{α:Type}(k:Int)(v:α):H (Int×α)->H (Int×α)
 |[]=>[(k,v)]
 |p::r=>if k=p.1 then(p.1,v)::r else p::VT k v r
theorem Vf{α:Type}{f:α->B}{k:Int}{v:α}:∀(l:H (Int×α)),Mz (l.map λp=>(p.1,f p.2)) k (f v)=(VT k v l).map λp=>(p.1,f p.2)
  |[]=>rfl
  |p::r=>by
    show(if k=p.1 then(p.1,f v)::_ else(p.1,f p.2)::Mz _ k (f v))=_;unfold VT;split
    · rfl
    · rw[Vf r];rfl
theorem Oc.keep{w w':ay}{K:BS}{b:Nat}{jc:H (Int×B)}(h:Oc w b jc)(d:bF K w w')(hn:¬K b):Oc w' b jc:=by
 obtain⟨es,c,e,a,f⟩:=h;exact⟨es,c,d.blk e hn,a,f⟩
section
variable{P:cd}{w:ay}{ρ:bt->B}{d:L Nat}{ty:bk}{pos:String}{af:Array hX}{g:L (Nat×YU)}{T:bk}
theorem r_lk1M{α:Type}{f:α->B}{zz:α}{z:B}{x y:bt}{b:Nat}{k:Int}(l:H (Int×α))(c:Oc w b (l.map λp=>(p.1,f p.2)))(e:D3 P T z)(a:ρ x=.map (U b))(j:ρ y=.int .i64 k)(i:z=f zz):
  (bn ρ ⟨d,.lookup T x y aw,ty,pos,af,g⟩).run P w=.ok (.value (f ((lk k l).getD zz))) w:=by
 have:=r_lookup (d:=d) (ty:=ty) (pos:=pos) (af:=af) (g:=g) e a j c;rw[i,Ik]at this;exact this
end
open Go.RowKit Go.Proofs Go.MapKept
def Xp(w:ay)(b:Nat)(jc:H (YU×B)):Prop:=
 ∃es a,w.heap[b]? =U (.map es a)/\es.toList.map (λe=>(e.key,e.val))=jc.map (λp=>(cM p.1,p.2))/\LF es a
def agetB(z:B)(jc:H (YU×B))(k:YU):Value:=match jc with|[]=>z|p::r=>if k=p.1 then p.2 else agetB z r k
def Ok(jc:H (YU×B))(k:YU)(v:B):H (YU×B):=match jc with|[]=>[(k,v)]|p::r=>if k=p.1 then(p.1,v)::r else p::Ok r k v
def Tz(jc:H (YU×B))(k:YU)(i:Nat):L (Nat×B):=match jc with|[]=>bd|p::r=>if k=p.1 then U (i,p.2)else Tz r k (i+1)
theorem Wo{jc:H (YU×B)}{k:YU}:∀{es:H MapEntry} {i:Nat},es.map (λe=>(e.key,e.val))=jc.map (λp=>(cM p.1,p.2))->
    ua .bool (.bool k) es i=U (Tz jc k i):=by
  induction jc with
  |nil=>intro es i h;cases es with|nil=>rfl|cons e r=>simp at h
  |cons p r ih=>
    intro es i h;cases es with
    |nil=>simp at h
    |cons e s=>
      simp only[cr,List.cons.injEq,ie]at h;obtain⟨⟨b,c⟩,d⟩:=h;unfold ua Tz;by_cases a:k=p.1
      · simp[ub,b,c,a]
      · have:(k==p.1)=false:=by simpa using a
        simp[ub,b,this,a,ih d]
theorem T0{z:B}{k:YU}:∀{jc:H (YU×B)} {i:Nat},agetB z jc k=match Tz jc k i with|some (_,v)=>v|none=>z
  |[],i=>rfl
  |p::r,i=>by
    unfold agetB Tz;by_cases a:k=p.1
    · simp[a]
    · simp only[a,if_false];exact T0
theorem MU{k:YU}{v:B}:∀{jc:H (YU×B)} {i:Nat},Tz jc k i=bd->Ok jc k v=jc++[(k,v)]
  |[],i,_=>rfl
  |p::r,i,h=>by
    unfold Tz at h;unfold Ok;by_cases a:k=p.1
    · simp[a]at h
    · simp only[a,if_false]at h⊢;rw[MU h];rfl
theorem I2{k:YU}{v u:B}:∀{jc:H (YU×B)} {i j:Nat},Tz jc k i=U (j,u)->i<=j/\∃p,jc[j-i]? =U p/\p.1=k/\Ok jc k v=jc.set (j-i) (k,v)
  |[],i,j,h=>by cases h
  |p::r,i,j,h=>by
    unfold Tz at h;unfold Ok;by_cases a:k=p.1
    · simp only[a,if_true,fb,ie]at h;obtain⟨rfl,_⟩:=h;refine⟨cl _,p,by simp,a.symm,?_⟩;simp[a]
    · simp only[a,if_false]at h⊢;obtain⟨e,q,b,d,c⟩:=I2 (v:=v) h;refine⟨by omega,q,?_,d,?_⟩
      · rw[show j-i=(j-(i+1))+1 by omega];simpa using b
      · rw[show j-i=(j-(i+1))+1 by omega,c];simp
structure NO(P:cd)(T:bk)(z:B):Prop where
  desc:∃K E,P.underlying T=U (.map K E)/\P.underlying K=U .bool/\(P.info? E).map (·.zero)=U (U z)
def mpB(b:Nat)(jc:H (YU×B)):Pce where
 own:=λx=>x=b
 P w _:=Xp w b jc
 lt:=by rintro w A x ⟨es,c,h,_⟩ rfl;exact jf h
 go:=by rintro w w' A A' K ⟨es,c,h1,h2,h3⟩ hk _ hKo _;exact⟨es,c,hk.blk h1 λh=>hKo b h Z,h2,h3⟩
section
variable{P:cd}{ops:Array ec}{sc:gd->Act->ay->Prop}{n:Nat}{env:Nat->B}{w w' I:ay}{M K:BS}{J:Nat->Chunk}{rest:H ec}
 {d:L Nat} {op:Op} {ty:bk} {pos:String} {af:Array hX} {v:B} {g:L (Nat×YU)} {T:bk} {ρ:bt->B}
section
variable{k:YU}
theorem ckBool{e:YU}{K:bk}(a:P.underlying K=U .bool):(Instr.checkKey e 10000 K (.bool k)).run P w=.ok () w:=
 run_checkKey a (by trivial) e 9999
variable{z:B}{x y:bt}{b:Nat}{jc:H (YU×B)}
theorem r_lookupB(s:NO P T z)(r:ρ x=.map (U b))(t:ρ y=.bool k)(c:Xp w b jc):
  (bn ρ ⟨d,.lookup T x y aw,ty,pos,af,g⟩).run P w=.ok (.value (agetB z jc k)) w:=by
 obtain⟨K,E,o,j,f⟩:=s.desc;obtain⟨es,a,c,q,n⟩:=c;obtain⟨i,hi,l⟩:∃i,P.info? E=U i/\i.zero=U z:=by
  cases hi:P.info? E with
  |none=>simp[hi]at f
  |some i=>simp[hi]at f;exact⟨i,Z,f⟩
 have v:=Wo (k:=k) (i:=0) q;have u:(kx b).run P w=.ok (.map es a) w:=by simp[kx,lA,c]
 rw[T0 (z:=z) (k:=k) (jc:=jc) (i:=0)];simp only[bn,Instr.lookup,cF,r,t];have m:=λe=>ckBool (P:=P) (w:=w) (e:=e) (K:=K) (k:=k) j;simp only[cD,gf,bT,o,cR,u,m,iv,cF,j,v];cases ha:Tz jc k 0 with
 |none=>simp[zeroValue,typeInfo,hi,l]
 |some p=>simp
theorem wl_insertB{x y u:bt}(X:NO P T z)(N:ev n env x=.map (U b))(ab:ev n env y=.bool k)(S:ev n env u=v)(c:Xp w b jc)(h:∀w',bF (λx=>x=b) w w'->Xp w' b (Ok jc k v)->WL P ops sc rest n (gp env d gC) w'):
    WL P ops sc (⟨d,.insert T x y u,ty,pos,af,bd⟩::rest) n env w:=by
  obtain⟨K,E,M,C,h3⟩:=X.desc;obtain⟨es,a,c,o,m⟩:=c;have t:=Wo (k:=k) (i:=0) o;have R:(kx b).run P w=.ok (.map es a) w:=by simp[kx,lA,c]
  have g:=jf c;have Zs:=λe=>ckBool (P:=P) (w:=w) (e:=e) (K:=K) (k:=k) C;have s:O es.toList=O jc:=by have:=ZS O o;simpa using this
  cases ha:Tz jc k 0 with
  |none=>
    refine BO (w':=yA w b<|.map (es.push {key:=.bool k,val:=v,born:=a})<|a+1) ?_<|h _ (bF.yA _ _ _) ⟨_,_,wK g,?_,m.push _ _⟩
    · rw[ha]at t;simp only[bn,mx,cF,N,ab,S];simp only[cD,gf,bT,M,cR,R,Zs,iv,cF,C,t,run_setObj_map _ c];rfl
    · rw[MU ha];simp[o]
  |some p=>
    obtain⟨j,u0⟩:=p;obtain⟨_,q,A,F,C6⟩:=I2 (v:=v) ha;simp only[Nat.sub_zero]at A C6;have aq:j<es.size:=by
      have r:j<O jc:=by
        rcases cG j (O jc) with r|r
        · exact r
        · rw[bE r]at A;cases A
      simpa[<-s]using r
    have f:es[j].key=.bool k:=by
      have w0:=ZS (λl=>l[j]?) o;simp[A,aq]at w0;rw[w0.1,F]
    refine BO (w':=yA w b<|.map (es.modify j λe=>{e with key:=.bool k,val:=v}) a) ?_<|h _ (bF.yA _ _ _) ⟨_,_,wK g,?_,m.modify _ _ _⟩
    · rw[ha]at t;have al:(kb (.bool k)<|.bool k).run P w=.ok (.bool k) w:=by simp[kb,Instr.sameBits]
      simp only[bn,mx,cF,N,ab,S];simp only[cD,gf,bT,M,cR,R,Zs,iv,cF,C,t,jx aq,dt,Option.getD_some,f,al,run_setObj_map _ c];rfl
    · rw[C6,kT,<-o];apply cP;intro i;simp only[eo,Array.getElem?_toList,Array.getElem?_modify,fL,dr,Array.length_toList];by_cases hi:j=i
      · subst hi;simp[aq]
      · simp[hi]
theorem w_makeMapB(h:SH I M K w J)(i:Nat)(k:∀w' b,SH I M K w' (cz J i (.gK (mpB b [])))->WL P ops sc rest n (gp env d (.map (U b))) w'):WL P ops sc (⟨d,.makeMap T bd,ty,pos,af,bd⟩::rest) n env w:=
 aC P2 (k _ _ (h.learn i (Grow.alloc _ _) (λb a=>Nat.le_of_eq a.symm) ⟨#[],0,Pt _ _,rfl,by simp[LF]⟩))
theorem Sp{x y u:bt}{jc nA:H (YU×B)}(h:SH I M K w J)(i:Nat)(hi:J i=.gK (mpB b jc))(c:NO P T z)(a:ev n env x=.map (U b))(m:ev n env y=.bool k)(j:ev n env u=v)(g:Ok jc k v=nA)(kk:∀w',SH I M K w' (cz J i (.gK (mpB b nA)))->WL P ops sc rest n (gp env d gC) w'):WL P ops sc (⟨d,.insert T x y u,ty,pos,af,bd⟩::rest) n env w:=
 wl_insertB c a m j (h.pceAt i hi) λw' l e=>kk w' (h.Oi (S':=mpB b nA) i hi (g▸e) l (λ_ f _=>f))
theorem r_lkB{f e a c:Int}(h:SH I M K w J)(i:Nat)(hi:J i=.gK (mpB b [(bh,.agg #[.int .i64 f,.int .i64 e]),(aw,.agg #[.int .i64 a,.int .i64 c])]))(l:NO P T z)(j:ρ x=.map (U b))(m:ρ y=.bool k):
  (bn ρ ⟨d,.lookup T x y aw,ty,pos,af,g⟩).run P w=.ok (.value (.agg #[.int .i64 (bif k then f else a),.int .i64 (bif k then e else c)])) w:=by
 have:=r_lookupB (d:=d) (ty:=ty) (pos:=pos) (af:=af) (g:=g) l j m<|h.pceAt i hi;rw[this];cases k<;>rfl
theorem made_drop(zs:H B)(m q:Nat)(c:q<m):((xc (ar zs) (m*O zs)).toList.drop (q*O zs)).take (O zs)=zs:=by
  apply cP;intro i;rw[ca];split
  · rename_i hi;rw[ct];have b:q*O zs+i<m*O zs:=by
      have:=bj (O zs) (show q+1<=m from c);rw[Nat.succ_mul]at this;omega
    have a:(q*O zs+i)%zs.length=i:=by rw[Nat.mul_comm,Nat.mul_add_mod];exact Nat.mod_eq_of_lt hi
    simp[xc,b,a,hi]
  · rename_i hi;rw[bE V]
theorem Bq{α:Type}{R:uO α}{E:bk}{bytes sz:Nat}{k:Int}{zs:H B}{a:α}(h:SH I M K w J)(i:Nat)(t:lK P T E sz bytes)(C:yV P E zs)(W:R.sz=sz)(o:0<bytes)(w0:ev n env x=.int .i64 k)(Zs:ev n env y=.int .i64 k)(hk:0<=k/\k*bytes<=140737488355328)(hl:O zs=sz)(N:∀w A,R.rd w A zs a)(kk:∀w' u,SH I M K w' (cz J i (.own R E u (List.replicate k.toNat a)))->Grow w w'->(∀b,ob u b->w.heap.size<=b)->WL P ops sc rest n (gp env d u) w'):
    WL P ops sc (⟨d,.makeSlice T x y,ty,pos,af,bd⟩::rest) n env w:=by
  obtain⟨h0,F⟩:=hk;obtain⟨m,rfl⟩:=Int.eq_ofNat_of_zero_le h0;obtain⟨j,z',hi,X,s,p,aq⟩:=t.info;have f:=C.info;rw[hi]at f;simp only[dt,fb,ie]at f;have ab:m<=m*bytes:=Nat.le_mul_of_pos_right _ o;have al:m*bytes<=140737488355328:=by
    have:((m*bytes:Nat):Int)<=140737488355328:=by rw[Int.natCast_mul];exact F
    omega
  obtain⟨w',S,ho,hg⟩:=run_make_full (P:=P) w 0 T E j _ sz t.desc hi f.1 s .i64 .i64 m (by rw[p,Nat.mul_comm];omega) (by unfold maxLen;omega) (gk _);have l:Grow w w':=(ED (v:=.slice bd 0 0) hg).weaken λ_ h _=>h.elim;have g:(bn (ev n env) ⟨d,.makeSlice T x y,ty,pos,af,bd⟩).run P w=.ok (.value<|.slice (U ⟨w.heap.size,0,bd⟩) m m) w':=by
    simp only[bn,cD,cR,bT,w0,Zs,S]
  have c:∀b,ob (.slice (U ⟨w.heap.size,0,bd⟩) m m) b->w.heap.size<=b:=λb o=>by
    have:b=w.heap.size:=o;omega
  refine aC g<|kk w' _ (h.wJ i l ⟨(xc (ar zs)<|m*sz).toList,?_,?_⟩ c) l c
  · rw[W];rw[mv];exact ho
  · intro q z;simp only[mv]at z;have r:q<m:=z;have e:((xc (ar zs)<|m*sz).toList.drop<|q*R.sz).take R.sz=zs:=by rw[W,<-hl];exact made_drop zs m q r
    rw[e];simp only[List.getElem_replicate];exact N _ _
end
end
open Go.RowKit Go.Proofs
section
variable{α β:Type}{N:WS α β}{R:uO β}{E Es T:bk}{I w w':ay}{M K A:BS}{J:Nat->Chunk}{u u':B}{us:H B}{Zs:H α}{s:H β}{x:α}{k:Nat}
theorem PI{a:Type}{l:H a}{z:a}{i:Int}(hi:i=(k:Int))(h:l[i.toNat]? =U z):l[k]? =U z:=by subst hi;simpa using h
theorem at_pd{a:Type}{l:H a}{z:a}{i:Int}(hi:i=(k:Int))(h:l[k]? =U z):l[i.toNat]? =U z:=by subst hi;simpa using h
theorem Ix{i:Int}(hi:i=(k:Int)):i.toNat=k:=by subst hi;simp
theorem SH.pendPut0(h:SH I M K w J)(j q m:Nat)(n:J j=.gK (bQ R Es (E0 k) us (Zs.map N.sub)))(o:J q=.gK (Rj R k us (Zs.map N.sub)))(l:J m=.own R Es u s)(b:j≠q)(d:j≠m)(f:q≠m)(a:Zs[k]? =U x)(c:us[k]? =U u')(i:N.sub x=s):
  SH I M K w (cz (cz (cz (cz (cz J q (.gK (Rj R (k+1) (us.set k u) (Zs.map N.sub)))) j (.gK (bQ R Es (E0 k) (us.set k u) (Zs.map N.sub)))) m .no) j (.gK (bQ R Es (E0 (k+1)) (us.set k u) (Zs.map N.sub)))) j (.gK (bQ R Es (E0 (k+1)) (us.set k u) (Zs.map N.sub)))):=by
 have g:=h.pendPut (y:=x) j q m n o l b d f a c i;have e:(Zs.map N.sub).set k s=Zs.map N.sub:=by rw[<-i,<-kT,Jl a]
 rw[e,e,Jl a]at g;exact g
end
theorem F3{α:Type}{b:Nat}{a r:H α}(h:Dd b a=U r):a=r:=by
 unfold Dd at h;obtain⟨_,h⟩:=cK h;exact dp h
theorem TA{α β:Type}{N:WS α β}{w:ay}{aq A:BS}{v:B}{Zs:H α}{us:H B}(h:ek N.raw w aq A v (Zs.zip us))(hl:O us=O Zs):O Zs<=9223372036854775807:=by
 have:=h.aZ;rwa[dA hl]at this
theorem r_mul{P:cd}{w:ay}{ρ:bt->B}{d:L Nat}{ty:bk}{pos:String}{af:Array hX}{g:L (Nat×YU)}{x y:bt}{T T2:bk}{p q:Int}(a:ρ x=.int .i64 p)(b:ρ y=.int .i64 q)(h: -9223372036854775808<=p*q/\p*q<=9223372036854775807):
  (bn ρ ⟨d,.binOp .mul T x y T2,ty,pos,af,g⟩).run P w=.ok (.value (.int .i64 (p*q))) w:=by
 simp[bn,a,b,eqGuard,binOp,Op.intArith,wrap_in h.1 h.2]
open Go.RowKit Go.Proofs
section
variable{cs vs:H B}{o:Nat}
theorem Vg(h:o+O vs<=O cs)(j:Nat):(Q7 cs o vs)[j]? =if j<o then cs[j]? else if j<o+O vs then vs[j-o]? else cs[j]? :=by
  unfold Q7;have b:O (cs.take o)=o:=by rw[cf];omega
  by_cases a:j<o
  · rw[Z3 a,cg,nH V,ca,Z3 a]
  · rw[Z4 a];by_cases c:j<o+O vs
    · rw[Z3 c,cg,nh V,b,nH V]
    · rw[Z4 c,nh (by rw[bm,b];omega),bm,b,ct];congr 1;omega
theorem Io(h:o+O vs<=O cs):O (Q7 cs o vs)=O cs:=by
 unfold Q7;simp only[bm,cf,cQ];omega
theorem spl_take{o n:Nat}(h:o+O vs<=n)(hn:n<=O cs):(Q7 cs o vs).take n=Q7 (cs.take n) o vs:=by
  apply cP;intro j;have hl:O (cs.take n)=n:=by rw[cf];omega
  rw[ca,Vg V,Vg V,ca];by_cases a:j<n
  · rw[Z3 a,Z3 a]
  · rw[Z4 a,Z4 V,Z4 V,Z4 a]
theorem spl_self(h:o+O vs<=O cs):((Q7 cs o vs).drop o).take (O vs)=vs:=by
  apply cP;intro j;rw[ca,ct,Vg h];by_cases a:j<O vs
  · rw[Z3 a,Z4 V,Z3 V];congr 1;omega
  · rw[Z4 a,bE V]
theorem Rg{o p s:Nat}(h:o+O vs<=O cs)(J:p+s<=o\/o+O vs<=p):((Q7 cs o vs).drop p).take s=(cs.drop p).take s:=by
  apply cP;intro j;rw[ca,ct,Vg h,ca,ct];by_cases a:j<s
  · rw[Z3 a,Z3 a];by_cases b:p+j<o
    · rw[Z3 b]
    · rw[Z4 b,Z4 V]
  · rw[Z4 a,Z4 a]
end
section
variable{P:cd}{ops:Array ec}{sc:gd->Act->ay->Prop}{n:Nat}{env:Nat->B}{w w' I:ay}{M K:BS}{J:Nat->Chunk}{rest:H ec}
 {d:L Nat} {op:Op} {ty:bk} {pos:String} {af:Array hX} {v:B} {g:L (Nat×YU)} {T:bk} {ρ:bt->B} {x y:bt}
theorem tV{α:Type}{R:uO α}{E:bk}{sz:Nat}{l:H α}{k:Int}{a a':α}{b:Nat}{zs vs:H B}{u:B}(h:SH I M K w J)(i:Nat)(hi:J i=.own R E u l)(s:ob u b)(W:R.sz=sz)(hk:l[k.toNat]? =U a)(X:yV P T zs)(c:ev n env x=.pointer (U ⟨b,k.toNat*sz,bd⟩))
    (hy:ev n env y=.agg (ar vs)) (hl:O vs=O zs) (t:O zs=sz) (C6:R.rd w (SH.A M J) vs a')
    (kk:∀w',SH I M K w' (cz J i (.own R E u (l.set k.toNat a')))->bF (ob u) w w'->WL P ops sc rest n (gp env d gC) w'):
    WL P ops sc (⟨d,.store T x y,ty,pos,af,bd⟩::rest) n env w:=by
  subst W;have N:k.toNat<O l:=OM hk;generalize k.toNat=k at*;have f:∀b,ob u b->SH.A M J b:=λb s=>.inr ⟨i,by rw[hi];exact s⟩;obtain⟨xs,Zs,ab⟩:=h.bW i hi;rcases Zs.2 with⟨rfl,hn⟩|⟨g',cap,cur,rfl,e1,e2,e3,e4,e5,e6⟩
  · omega
  have C:b=g':=s;subst C;have F:(k+1)*R.sz<=O l*R.sz:=bj _ N;have S:O l*R.sz<=cap*R.sz:=bj _ e3;rw[cj]at F;have z:O vs=R.sz:=hl.trans t;have w0:O cur.toList=cap*R.sz:=by simpa using e5
  have a0:O xs=O l*R.sz:=Zs.1;have r:k*R.sz+O vs<=O cur.toList:=by omega
  have o:k*R.sz+O vs<=O xs:=by omega
  have m:=bF.yA w b<|.cells (ar (Q7 cur.toList (k*R.sz) vs)) E (0,0);have al:=Y0 (P:=P) (w:=w) (ρ:=ev n env) (d:=d) (ty:=ty) (pos:=pos) (af:=af) (g:=bd) (cs:=cur.toList) (E:=E) X c (by simpa using e2) hy hl r<|R.one C6;refine BO al (kk _ (h.step i m (λx c _=>by rw[hi];exact c) (λx c _=>by rw[hi];exact c) ⟨Q7 xs (k*R.sz) vs,⟨?_,.inr ⟨b,cap,ar (Q7 cur.toList (k*R.sz) vs),?_,e1,?_,?_,e4,?_,?_⟩⟩,?_⟩) (m.weaken (λx c _=>c)))
  · rw[Io o,cp];exact Zs.1
  · rw[cp]
  · rw[wK (jf e2)]
  · rw[cp];exact e3
  · rw[yo,Io r];exact w0
  · rw[cp];show(Q7 cur.toList (k*R.sz) vs).take (O l*R.sz)=Q7 xs (k*R.sz) vs;rw[spl_take V V,e6]
  · intro p v;have aq:p<O l:=by rwa[cp]at v
    have q:=λcs a(h:R.rd w (SH.A M J) cs a)=>R.go (A':=λx=>(M x\/(SH.av J i (.own R E (.slice (U ⟨b,0,bd⟩) (O l) cap) (l.set k a'))) x)\/ob (.slice (U ⟨b,0,bd⟩) (O l) cap) x) h m (λx c _=>f x c) (λx c _=>by
      rcases c with(c|c|c)|c
      · exact .inl c
      · exact .inr<|nQ c
      · exact f x c
      · exact f x c)
    have hq:=λj(hj:j<O l)=>R.go (A':=SH.A M J) (ab j hj) (bF.refl BE w) (λ_ h=>h.elim) λx c _=>.inl c;by_cases hik:p=k
    · subst hik;rw[qg];have e:=spl_self o;rw[z]at e;rw[e];exact q _ _ C6
    · rw[sa (Ne.symm hik),Rg o]
      · exact q _ _<|hq p aq
      · rcases cG k p with h5|h5
        · right;have:(k+1)*R.sz<=p*R.sz:=bj _ h5;rw[cj]at this;omega
        · left;have:(p+1)*R.sz<=k*R.sz:=bj _ V;rw[cj]at this;omega
end
section
variable{α β:Type}{N:WS α β}{R:uO β}{E Es T:bk}{I w w':ay}{M K A:BS}{J:Nat->Chunk}{us:H B}{Zs:H α}{x:α}{k:Nat}
theorem SH.pQ(h:SH I M K w J)(j m:Nat)(s:H β)(d:J j=.gK (bQ R Es hn us (Zs.map N.sub)))(b:J m=.no)(a:j≠m)(c:Zs[k]? =U x)(W:N.sub x=s):
 ∃u,us[k]? =U u/\SH I M K w (cz (cz J j (.gK (bQ R Es (D2 k) us (Zs.map N.sub)))) m (.own R Es u s)):=by subst W;exact h.dnOpen j m d b a c
theorem SH.mvOpenL{c:H Int}{kk:Int}(h:SH I M K w J)(j m:Nat)(s:H β)(g:J j=.gK (bQ R Es (hmv c) us (Zs.map N.sub)))(e:J m=.no)(b:j≠m)(d:0<=kk)(f:Zs[kk.toNat]? =U x)(a:kk∉c)(W:N.sub x=s):
 ∃u,us[kk.toNat]? =U u/\SH I M K w (cz (cz J j (.gK (bQ R Es (hmv (c++[kk])) us (Zs.map N.sub)))) m (.own R Es u s)):=by subst W;exact h.mvOpen j m g e b d f a
theorem SH.rdpAtL(h:SH I M K w J)(q:Nat)(s:H β)(b:J q=.gK (Rj R k us (Zs.map N.sub)))(hl:O us=O Zs)(a:Zs[k]? =U x)(W:N.sub x=s):∃u,us[k]? =U u/\bX R w (SH.A M J) u s:=by subst W;exact h.rdpAt q b hl a
end
open Go.RowKit Go.Proofs
def Chunk.flat:Chunk->Prop
 | .no=>True
 | .own R _ _ _=>∀w A A' cs x,R.rd w A cs x->R.rd w A' cs x
 | .two a b=>a.flat/\b.flat
 | .gK S=>∀w A A',S.P w A->S.P w A'
 |_=>False
theorem dz.flat{α:Type}{R:uO α}{E:bk}{w:ay}{A A':BS}{v:B}{l:H α}(c:∀w A A' cs x,R.rd w A cs x->R.rd w A' cs x)(h:dz R E w A v l):dz R E w A' v l:=by
 obtain⟨xs,b,a⟩:=h;exact⟨xs,b,λi hi=>c _ _ _ _ _<|a i hi⟩
theorem Chunk.flatten{c:Chunk}{w:ay}{M ab f e:BS}(d:c.flat)(h:c.holds w M ab):c.holds w f e:=by
 induction c with
 |no=>trivial
 |own R E v l=>exact dz.flat d h
 |two a b ha hb=>exact⟨ha d.1 h.1,hb d.2 h.2.1,h.2.2⟩
 |gK S=>exact d _ _ _ h
 |_=>exact d.elim
theorem Fa{β:Type}{R:uO β}{E:bk}{ho:Nat->Prop}{us:H B}{ss:H (H β)}(e:∀w A A' cs x,R.rd w A cs x->R.rd w A' cs x):∀w A A',(bQ R E ho us ss).P w A->(bQ R E ho us ss).P w A':=by
 rintro w A A'⟨b,a,d⟩;exact⟨b,λi u s c W hi=>dz.flat e<|a i u s c W hi,d⟩
theorem ek.toBE{α:Type}{R:uO α}{w:ay}{aq A:BS}{v:B}{l:H α}(h:ek R w aq A v l):ek R w BE BE v l:=
 ek.go h (bF.refl BE w) (λ_ h=>h.elim) (λ_ h=>h.elim) (λ_ h=>h.elim) (λ_ h=>h.elim)
section
variable{α β:Type}{N:WS α β}{R:uO β}{E Es T:bk}{I w w':ay}{M K A:BS}{J:Nat->Chunk}{v u u':B}{us us':H B}{Zs L':H α}
theorem SH.Ke{R':uO α}(h:SH I M K w J)(i j:Nat)(hi:J i=.own N.raw E v (Zs.zip us))(d:J j=.gK (bQ R Es hn us (Zs.map N.sub)))(a:i≠j)(b:R'.sz=N.sz)(c:∀w A x u,bX R w A u (N.sub x)->R'.rd w A (N.enc x u) x):ek R' w BE BE v Zs:=
 ek.toBE ((h.yB i j hi d a b c).dQ i (dG _ _ _))
theorem SH.gotCF{C:Chunk}{ab:BS}(h:SH I M K w J)(i:Nat)(d:Grow w w')(e:C.Zb)(a:C.flat)(c:C.holds w' BE ab)(hn:∀b,C.own' b->w.heap.size<=b):SH I M K w' (cz J i C):=
 h.gotC i d e (Chunk.flatten a c) hn
end
section
variable{P:cd}{sc:gd->Act->ay->Prop}{n:Nat}{env:Nat->B}{w w' I:ay}{M K:BS}{J:Nat->Chunk}
theorem Zk{fn:Func}{R:td->ay->Prop}{t u g a:Tmp}{T:bk}{v2 v3 v4:B}{zs vs:H B}{b:Nat}(p:fn.results= #[.cell a T,.tmp t,.tmp u,.tmp g])(o:ev n env (.tmp a)=.pointer (U ⟨b,0,bd⟩))(q:ev n env (.tmp t)=v2)(k:ev n env (.tmp u)=v3)(r:ev n env (.tmp g)=v4)
  (l:SH I M K w J) (i:Nat) (hi:J i=.blk b vs) (m:yV P T zs) (hl:O vs=O zs) (h:R (.returned (.tuple #[.agg (ar vs),v2,v3,v4])) w):kt P fn R .ret (DB n env) w:=by
 refine⟨Z,_,?_,h⟩;have e:=congrFun (jB n env)<|.tmp t;have f:=congrFun (jB n env)<|.tmp u;have c:=congrFun (jB n env)<|.tmp g;have d:=congrFun (jB n env)<|.tmp a;rw[q]at e;rw[k]at f;rw[r]at c;rw[o]at d;simp only[Act.eval]at e f d c;rw[da]at e f d c;have j:=FY (P:=P) l hi m hl Z;unfold results;rw[p];simp[e,f,d,c,asAddr,j]
end
section
variable{P:cd}{w:ay}{ρ:bt->B}{d:L Tmp}{x y:bt}{ty:bk}{pos:String}
theorem r_eqnil0{T T2 E:bk}{sz:Nat}{af:Array hX}{b:_}(c:SliceOf P T E sz)(a:ρ x=.slice bd 0 0)(e:ρ y=.slice bd 0 0):(bn ρ ⟨d,.binOp .eql T x y T2,ty,pos,af,b⟩).run P w=.ok (.value (.bool bh)) w:=by
 rw[Dm (R:=dL) (l:=[]) (w1:=w) (aq:=BE) (A:=BE) c a ek.nil e];rfl
end
section
variable{α β:Type}{R:uO α}{E:bk}{I w:ay}{M K:BS}{J:Nat->Chunk}{v:B}{l:H α}{C:Chunk}
theorem SH.ownSrB(h:SH I M K w J)(i j:Nat)(c:i≠j)(d:J j=.own R E v l)(hi:J i=C):bX R w (λb=>BE b\/C.own' b) v l:=
 (h.ownSr i j c d hi).sub (λb a _=>a.elim (λe=>e.elim) id) (λb a _=>a.elim (λe=>e.elim) .inr)
theorem ap_BE{C:Chunk}:∀b,C.own' b->¬BE b:=λ_ _ h=>h
end
structure WT where
 said:Bool
 n:Int
 I:Bool
structure rD where
 l:List Int
 bad:Bool
open Go.RowKit Go.Proofs
theorem spl_mid{xs vs:H B}{p s off:Nat}(h:off+O vs<=s)(J:p+s<=O xs):((Q7 xs (p+off) vs).drop p).take s=Q7 ((xs.drop p).take s) off vs:=by
  apply cP;intro j;have hl:O ((xs.drop p).take s)=s:=by rw[cf,cQ];omega
  rw[Vg V,ca];by_cases a:j<s
  · rw[Z3 a,ct,Vg V,ca,Z3 a,ct];by_cases c:j<off
    · rw[Z3 c,Z3 V]
    · rw[Z4 c,Z4 V];by_cases b:j<off+O vs
      · rw[Z3 b,Z3 V,show p+j-(p+off)=j-off by omega]
      · rw[Z4 b,Z4 V]
  · rw[Z4 a,Z4 V,Z4 V,ca,Z4 a]
section
variable{P:cd}{ops:Array ec}{sc:gd->Act->ay->Prop}{n:Nat}{env:Nat->B}{w w' I:ay}{M K:BS}{J:Nat->Chunk}{rest:H ec}
 {d:L Nat} {op:Op} {ty:bk} {pos:String} {af:Array hX} {v:B} {g:L (Nat×YU)} {T:bk} {ρ:bt->B} {x y:bt}
theorem w_stOP{α:Type}{R:uO α}{E:bk}{sz:Nat}{l:H α}{k:Int}{a a':α}{b off:Nat}{zs vs:H B}{u:B}(h:SH I M K w J)(i:Nat)(hi:J i=.own R E u l)(v:ob u b)(W:R.sz=sz)(N:l[k.toNat]? =U a)(hT:yV P T zs)(c:ev n env x=.pointer (U ⟨b,k.toNat*sz+off,bd⟩))
    (hy:ev n env y=.agg (ar vs)) (hl:O vs=O zs) (p:ly (off+O vs) sz=bh) (s:∀u∈vs,u.oneCell'=bh) (C6:∀cs,R.rd w (SH.A M J) cs a->R.rd w (SH.A M J) (Q7 cs off vs) a')
    (kk:∀w',SH I M K w' (cz J i (.own R E u (l.set k.toNat a')))->bF (ob u) w w'->WL P ops sc rest n (gp env d gC) w'):
    WL P ops sc (⟨d,.store T x y,ty,pos,af,bd⟩::rest) n env w:=by
  subst W;rw[tR]at p;have o:k.toNat<O l:=OM N;have Zs:l[k.toNat]=a:=by rw[bl o]at N;exact dp N
  generalize k.toNat=k at*;have e:∀b,ob u b->SH.A M J b:=λb v=>.inr ⟨i,by rw[hi];exact v⟩;obtain⟨xs,ab,X⟩:=h.bW i hi;rcases ab.2 with⟨rfl,hn⟩|⟨g',cap,cur,rfl,e1,e2,e3,e4,e5,e6⟩
  · omega
  have C:b=g':=v;subst C;have F:(k+1)*R.sz<=O l*R.sz:=bj _ o;have a0:O l*R.sz<=cap*R.sz:=bj _ e3;rw[cj]at F;have w0:O cur.toList=cap*R.sz:=by simpa using e5
  have a1:O xs=O l*R.sz:=ab.1;have t:k*R.sz+off+O vs<=O cur.toList:=by omega
  have r:k*R.sz+off+O vs<=O xs:=by omega
  have m:=bF.yA w b<|.cells (ar (Q7 cur.toList (k*R.sz+off) vs)) E (0,0);have al:=Y0 (P:=P) (w:=w) (ρ:=ev n env) (d:=d) (ty:=ty) (pos:=pos) (af:=af) (g:=bd) (cs:=cur.toList) (E:=E) hT c (by simpa using e2) hy hl t s;refine BO al (kk _ (h.step i m (λx c _=>by rw[hi];exact c) (λx c _=>by rw[hi];exact c) ⟨Q7 xs (k*R.sz+off) vs,⟨?_,.inr ⟨b,cap,ar (Q7 cur.toList (k*R.sz+off) vs),?_,e1,?_,?_,e4,?_,?_⟩⟩,?_⟩) (m.weaken (λx c _=>c)))
  · rw[Io r,cp];exact ab.1
  · rw[cp]
  · rw[wK (jf e2)]
  · rw[cp];exact e3
  · rw[yo,Io t];exact w0
  · rw[cp];show(Q7 cur.toList (k*R.sz+off) vs).take (O l*R.sz)=Q7 xs (k*R.sz+off) vs;rw[spl_take V V,e6]
  · intro f z;have aq:f<O l:=by rwa[cp]at z
    have q:=λcs a(h:R.rd w (SH.A M J) cs a)=>R.go (A':=λx=>(M x\/(SH.av J i (.own R E (.slice (U ⟨b,0,bd⟩) (O l) cap) (l.set k a'))) x)\/ob (.slice (U ⟨b,0,bd⟩) (O l) cap) x) h m (λx c _=>e x c) (λx c _=>by
      rcases c with(c|c|c)|c
      · exact .inl c
      · exact .inr<|nQ c
      · exact e x c
      · exact e x c)
    have S:=λj(hj:j<O l)=>R.go (A':=SH.A M J) (X j hj) (bF.refl BE w) (λ_ h=>h.elim) λx c _=>.inl c;by_cases hik:f=k
    · subst hik;rw[qg];rw[spl_mid p V];exact q _ _<|C6 _<|Zs▸S f o
    · rw[sa (Ne.symm hik),Rg r]
      · exact q _ _<|S f aq
      · rcases cG k f with h5|h5
        · right;have:(k+1)*R.sz<=f*R.sz:=bj _ h5;rw[cj]at this;omega
        · left;have:(f+1)*R.sz<=k*R.sz:=bj _ V;rw[cj]at this;omega
end
open Go.RowKit Go.Proofs
def W0:WS An Int where
 sz:=5
 enc x u:=[.int .i64 x.op,.int .i64 x.a,.int .i64 x.b,.int .i64 x.c,u]
 sub x:=x.args
 put x s:={x with args:=s}
 len _ _:=rfl
 one:=by intro x u h c hc;simp only[bs,dk,or_false]at hc;rcases hc with rfl|rfl|rfl|rfl|rfl<;>first|rfl|exact h
 pos:=by decide
 Zd _ _ _:=rfl
 Ze _ _:=rfl
theorem nIns_br:∀w A (x:An) u,bX dL w A u (W0.sub x)->qB.rd w A (W0.enc x u) x:=λ_ _ _ u h=>⟨u,rfl,h⟩
theorem nIns_op:∀(w:ay) (A:BS) cs (x:An),qB.rd w A cs x->∃u,cs=W0.enc x u/\bX dL w A u (W0.sub x):=λ_ _ _ _ h=>h
theorem nProc_op:∀(w:ay) (A:BS) cs (x:bM),iO.rd w A cs x->∃u,cs=PH.enc x u/\bX qB w A u (PH.sub x):=λ_ _ _ _ h=>h
theorem cells_two{cs:H B}{k:Nat}{u v:B}(h:(cs.drop k).take 2=[u,v]):(cs.drop k).take 1=[u]/\(cs.drop (k+1)).take 1=[v]:=by
  constructor
  · have:=ZS (List.take 1) h;rw[List.take_take]at this;exact this
  · have:=ZS (List.drop 1) h;rw[List.drop_take,List.drop_drop]at this;exact this
section
variable{α β:Type}{N:WS α β}{R:uO β}{E Es T:bk}{I w w':ay}{M K A:BS}{J:Nat->Chunk}{v u u':B}{us us':H B}{Zs L':H α}{ss ss':H (H β)}{s:H β}{x y:α}{k:Nat}
theorem SH.pendSet(h:SH I M K w J)(j q:Nat)(c:J j=.gK (bQ R Es (E0 k) us (Zs.map N.sub)))(g:J q=.gK (Rj R k us (Zs.map N.sub)))(a:j≠q)(d:Zs[k]? =U x):
  SH I M K w (cz (cz J q (.gK (Rj R (k+1) (us.set k u) (Zs.map N.sub)))) j (.gK (bQ R Es (E0 k) (us.set k u) (Zs.map N.sub)))):=by
 have f:=h.rdpStep (u:=u) (s:=N.sub x) q g;have hl:=h.ig j c;have b:=f.famRe (us':=us.set k u) (ss':=(Zs.map N.sub).set k (N.sub x)) j (by rw[iH a];exact c) (by simp[hl]) (λi hi=>by
  have:k≠i:=λe=>hi (by subst e;exact cl _);rw[ew this,ew this];exact⟨Z,Z⟩)
 have e:(Zs.map N.sub).set k (N.sub x)=Zs.map N.sub:=by rw[<-kT,Jl d]
 rw[e]at b;exact b
theorem SH.pendDel(h:SH I M K w J)(j m:Nat)(g:J j=.gK (bQ R Es (E0 k) us (Zs.map N.sub)))(d:J m=.own R Es u s)(a:j≠m)(c:Zs[k]? =U x)(f:us[k]? =U u)(W:N.sub x=s):
    SH I M K w (cz (cz J m .no) j (.gK (bQ R Es (E0 (k+1)) us (Zs.map N.sub)))):=by
  have b:=h.Zg j m (k:=k) (u:=u) (s:=s) g d a f (cl k) (E0 (k+1)) (λi=>⟨λhi=>by
    rcases yl (show k<=i from hi)with e|e
    · exact .inr e.symm
    · exact .inl e,λhi=>hi.elim (λhi=>zV hi) (λe=>by subst e;exact cl _)⟩) (λhi=>ZL hi (wk k))
  have e:(Zs.map N.sub).set k s=Zs.map N.sub:=by rw[<-W,<-kT,Jl c]
  rw[e]at b;exact b
theorem SH.dnOwn{R':uO α}(h:SH I M K w J)(i j:Nat)(hi:J i=.own N.raw E v (Zs.zip us))(f:J j=.gK (bQ R Es hn us (Zs.map N.sub)))(o:i≠j)(g:R'.sz=N.sz)(al:∀w A x u,bX R w A u (N.sub x)->R'.rd w A (N.enc x u) x):SH I M K w (cz (cz J j .no) i (.own R' E v Zs)):=by
  have hl:=h.ig j f;have l:=h.pair i j o;have k:=l.apart i;have r:=l.apM i;have ok:=l.ok i;rw[dG]at k r;rw[dG,hi,f]at ok;have s:=l.step (c:=.own R' E v Zs) i (bF.refl BE w) (λ_ h=>h.elim) (λb a _=>by rw[dG,hi];exact .inl a) ?_
  · rw[PE]at s;exact s
  · have T7:∀b,(J j).own' b->¬((M b\/SH.av (cz (cz J j .no) i<|.two (J i)<|J j) i (.own R' E v Zs) b)\/ob v b):=by
      intro b a d;rcases d with(d|⟨q,m,d⟩|d)|d
      · exact r b (.inr a) d
      · exact k q (λe=>m e.symm) b (.inr a) d
      · exact ok.2.2 b d (by rw[<-f];exact a)
      · exact ok.2.2 b d (by rw[<-f];exact a)
    have C:∀b,((M b\/SH.av (cz (cz J j .no) i<|.two (J i)<|J j) i (.own R' E v Zs) b)\/ob v b)->M b\/kg (cz (cz J j .no) i<|.two (.own N.raw E v<|Zs.zip us)<|.gK<|bQ R Es hn us<|Zs.map N.sub) b:=by
      rw[hi,f];have p:∀b,ob v b->kg (cz (cz J j .no) i (.two (.own N.raw E v (Zs.zip us)) (.gK (bQ R Es hn us (Zs.map N.sub))))) b:=λb a=>⟨i,by rw[dG];exact .inl a⟩;rintro b((a|a|a)|a)
      · exact .inl a
      · exact .inr<|nQ a
      · exact .inr<|p b a
      · exact .inr<|p b a
    obtain⟨xs,y,F⟩:=ok.1;refine⟨xs,?_,λq m=>?_⟩
    · rw[dA hl]at y;show w.ownsRow 0 E R'.sz v (O Zs) xs;rw[g];exact y
    · have n:q<O (Zs.zip us):=by rw[dA hl];exact m
      have t:=F q n;have aq:(Zs.zip us)[q]=(Zs[q],us[q]'V):=by simp
      rw[aq]at t;obtain⟨z,_⟩:=t;have w0:((xs.drop<|q*N.sz).take N.sz)=N.enc Zs[q] (us[q]'V):=z;show R'.rd w _ ((xs.drop<|q*R'.sz).take R'.sz) Zs[q];rw[g,w0];exact al _ _ _ _ (dz.rd (ok.2.1.2.1 q _ _ (bl V) (by rw[eo,bl m];rfl) (λh=>h)) (λb a=>T7 b (by rw[f];exact⟨q,_,bl V,λh=>h,a⟩)) (λb a _=>.inl (.inl (C b a))))
end
structure dD where
 D:List Co
 B:List UInt8
 z:List UInt8
 up:Bool
def iV:uO dD where
 sz:=4
 rd w A cs x:=∃vcos,∃Ji,∃Jj,cs=[vcos,Ji,Jj,.bool x.up]/\bX Jf w A vcos x.D/\bX gQ w A Ji x.B/\bX gQ w A Jj x.z
 len:=by rintro w A cs x ⟨vcos,Ji,Jj,rfl,h0,h1,h2⟩;rfl
 one:=by rintro w A cs x ⟨vcos,Ji,Jj,rfl,h0,h1,h2⟩ u hu;simp only[bs,dk,or_false]at hu;rcases hu with rfl|rfl|rfl|rfl<;>first|rfl|exact h0.one|exact h1.one|exact h2.one
 pos:=by decide
 go:=by rintro w A cs x w2 A2 K ⟨vcos,Ji,Jj,rfl,h0,h1,h2⟩ hk hK hA;exact⟨_,_,_,Z,h0.go hk hK hA,h1.go hk hK hA,h2.go hk hK hA⟩
theorem fM{w:ay}{A:BS}{cs:H B}{x:dD}(h:iV.rd w A cs x):∃a,∃c,∃b,cs=[a,c,b,.bool x.up]/\bX Jf w A a x.D/\bX gQ w A c x.B/\bX gQ w A b x.z:=h
structure aH where
 r:List bM
 m:List dD
 s:List dJ
def rWorld:uO aH where
 sz:=3
 rd w A cs x:=∃vprog,∃Om,∃vmail,cs=[vprog,Om,vmail]/\bX iO w A vprog x.r/\bX iV w A Om x.m/\bX fK w A vmail x.s
 len:=by rintro w A cs x ⟨vprog,Om,vmail,rfl,h0,h1,h2⟩;rfl
 one:=by rintro w A cs x ⟨vprog,Om,vmail,rfl,h0,h1,h2⟩ u hu;simp only[bs,dk,or_false]at hu;rcases hu with rfl|rfl|rfl<;>first|rfl|exact h0.one|exact h1.one|exact h2.one
 pos:=by decide
 go:=by rintro w A cs x w2 A2 K ⟨vprog,Om,vmail,rfl,h0,h1,h2⟩ hk hK hA;exact⟨_,_,_,Z,h0.go hk hK hA,h1.go hk hK hA,h2.go hk hK hA⟩
theorem rWorld_open{w:ay}{A:BS}{cs:H B}{x:aH}(h:rWorld.rd w A cs x):∃a,∃c,∃b,cs=[a,c,b]/\bX iO w A a x.r/\bX iV w A c x.m/\bX fK w A b x.s:=h
structure mQ where
 h:Int
 o:Int
 t:Int
 n:Int
def rHap:uO mQ where
 sz:=4
 rd w A cs x:=cs=[.int .i64 x.h,.int .i64 x.o,.int .i64 x.t,.int .i64 x.n]
 len:=by rintro w A cs x rfl;rfl
 one:=by rintro w A cs x rfl u hu;simp only[bs,dk,or_false]at hu;rcases hu with rfl|rfl|rfl|rfl<;>first|rfl
 pos:=by decide
 go:=λh _ _ _=>h
open Go Go.RowKit Go.Proofs
section
variable{P:cd}{ops:Array ec}{sc:gd->Act->ay->Prop}{rest:H ec}{n:Nat}{env:Nat->B}{w I:ay}{M K:BS}{J:Nat->Chunk}{d:L Nat}{ty:bk}{pos:String}{af:Array hX}{x y:bt}{T:bk}{v:B}
theorem mI{i:Int}(a:ev n env x=.int .i64 i)(h:WL P ops sc rest n (gp env d (.int .i64 i)) w):WL P ops sc (⟨d,.move x,ty,pos,af,bd⟩::rest) n env w:=aC (fI a) h
theorem mB{i:YU}(a:ev n env x=.bool i)(h:WL P ops sc rest n (gp env d (.bool i)) w):WL P ops sc (⟨d,.move x,ty,pos,af,bd⟩::rest) n env w:=aC (fI a) h
section
variable{i:L Addr}
theorem mP(a:ev n env x=.pointer i)(h:WL P ops sc rest n (gp env d (.pointer i)) w):WL P ops sc (⟨d,.move x,ty,pos,af,bd⟩::rest) n env w:=aC (fI a) h
theorem mV(v:B)(a:ev n env x=v)(h:WL P ops sc rest n (gp env d v) w):WL P ops sc (⟨d,.move x,ty,pos,af,bd⟩::rest) n env w:=aC (fI a) h
theorem aI{i:Int}(a:ev n env x=.int .i64 i)(h:WL P ops sc rest n (gp env d (.int .i64 i)) w):WL P ops sc (⟨d,.assign x,ty,pos,af,bd⟩::rest) n env w:=aC (lG a) h
theorem aB{i:YU}(a:ev n env x=.bool i)(h:WL P ops sc rest n (gp env d (.bool i)) w):WL P ops sc (⟨d,.assign x,ty,pos,af,bd⟩::rest) n env w:=aC (lG a) h
theorem aP(a:ev n env x=.pointer i)(h:WL P ops sc rest n (gp env d (.pointer i)) w):WL P ops sc (⟨d,.assign x,ty,pos,af,bd⟩::rest) n env w:=aC (lG a) h
theorem aV(v:B)(a:ev n env x=v)(h:WL P ops sc rest n (gp env d v) w):WL P ops sc (⟨d,.assign x,ty,pos,af,bd⟩::rest) n env w:=aC (lG a) h
variable{b o:Nat}{cs:H B}
theorem lB{z:B}(h:SH I M K w J)(i:Nat)(a:One P T z)(e:(J i,ev n env x,cs[o]?)=(Chunk.blk b cs,fc (U ⟨b,o,bd⟩),U v))(k:WL P ops sc rest n (gp env d v) w):WL P ops sc (⟨d,.load T x,ty,pos,af,bd⟩::rest) n env w:=by
 injection e with e1 e2;injection e2 with e2 e3;exact aC (jr h i e1 a e2 e3) k
theorem lBN{zs vs:H B}(h:SH I M K w J)(i:Nat)(a:yV P T zs)(e:(J i,ev n env x,(cs.drop o).take (O zs),O vs)=(Chunk.blk b cs,fc (U ⟨b,o,bd⟩),vs,O zs))(k:WL P ops sc rest n (gp env d (.agg (ar vs))) w):WL P ops sc (⟨d,.load T x,ty,pos,af,bd⟩::rest) n env w:=by
 injection e with e1 e2;injection e2 with e2 e3;injection e3 with e3 e4;exact aC (BC h i e1 a e2 e3 e4) k
theorem kY{b o k off:Nat}(c:fB P T k off)(a:ev n env x=.pointer (U ⟨b,o,bd⟩))(h:WL P ops sc rest n (gp env d (.pointer (U ⟨b,o+off,bd⟩))) w):WL P ops sc (⟨d,.fieldAddr T x k,ty,pos,af,bd⟩::rest) n env w:=aC (dE c a) h
theorem w_stA{zs:H B}{b:Nat}(h:SH I M K w J)(i:Nat)(vs:H B)(a:yV P T zs)(e:(J i,ev n env x,ev n env y,O vs,O cs)=(Chunk.blk b cs,fc (U ⟨b,0,bd⟩),Value.agg (ar vs),O zs,O vs))(c:∀v∈vs,v.oneCell'=bh)(k:∀w',SH I M K w' (cz J i (.blk b vs))->WL P ops sc rest n (gp env d gC) w'):WL P ops sc (⟨d,.store T x y,ty,pos,af,bd⟩::rest) n env w:=by
 injection e with e1 e2;injection e2 with e2 e3;injection e3 with e3 e4;injection e4 with e4 e5;refine w_stN h i vs e1 a e2 e3 e4 ?_ (by rw[tR];omega) c k;unfold Q7;simp[e5]
variable{f:nd}{first captured:Array B}{xs:Array bt}{args:H B}
theorem bg{ts:Array bk}(h:SH I M K w J)(c:VR P f)(a:ev n env x=.func (.func f) first captured)(b:first.toList++xs.toList.map (ev n env)++captured.toList=args)(i:bp P f (ar args) w (λe w'=>Grow w w'/\e=.returned v))(k:∀w',SH I M K w' J->WL P ops sc rest n (gp env d v) w'):
  WL P ops sc (⟨d,.call {callee:=.value x,args:=xs,argTypes:=ts},ty,pos,af,bd⟩::rest) n env w:=
 OJ c a b i (by rintro _ w' ⟨g,rfl⟩;exact⟨_,Z,k w' (h.grow g)⟩)
variable{α:Type}{R:uO α}{l:H α}{F:B->B}
theorem Vh{ts:Array bk}(h:SH I M K w J)(i:Nat)(j:VR P f)(a:ev n env x=.func (.func f) first captured)(b:first.toList++xs.toList.map (ev n env)++captured.toList=args)(c:bp P f (ar args) w (λe w'=>Grow w w'/\∃u,e=.returned (F u)/\bX R w' (SH.A M J) u l))(k:∀w' u,SH I M K w' (cz J i (.rd R u l))->WL P ops sc rest n (gp env d (F u)) w'):
  WL P ops sc (⟨d,.call {callee:=.value x,args:=xs,argTypes:=ts},ty,pos,af,bd⟩::rest) n env w:=
 OJ j a b c (by rintro _ w' ⟨g,u,rfl,g2⟩;exact⟨_,Z,k w' u (h.xQ i g g2)⟩)
theorem ja{E:bk}{ts:Array bk}(h:SH I M K w J)(i:Nat)(o:VR P f)(a:ev n env x=.func (.func f) first captured)(c:first.toList++xs.toList.map (ev n env)++captured.toList=args)(m:bp P f (ar args) w (λe w'=>Grow w w'/\∃u,e=.returned (F u)/\dz R E w' (SH.A M J) u l/\(∀b,ob u b->w.heap.size<=b)))(k:∀w' u,SH I M K w' (cz J i (.own R E u l))->WL P ops sc rest n (gp env d (F u)) w'):
  WL P ops sc (⟨d,.call {callee:=.value x,args:=xs,argTypes:=ts},ty,pos,af,bd⟩::rest) n env w:=
 OJ o a c m (by rintro _ w' ⟨g,u,rfl,g2,j⟩;exact⟨_,Z,k w' u (h.wJ i g g2 j)⟩)
end
end
section
variable{w w' I:ay}{M K:BS}{J:Nat->Chunk}{C:Chunk}
theorem SH.outSi(h:SH I M K w J)(i:Nat)(a:(J i).Zb):(J i).holds w M (J i).own'/\bF K I w/\(∀b,(J i).own' b->b<I.heap.size->K b):=h.outS i Z a
theorem SH.iw(h:SH I M K w J)(i:Nat)(a:(J i).Zb):(J i).holds w (λb=>M b\/rest J i b) (J i).own'/\(∀b,(J i).own' b->¬(M b\/rest J i b))/\(∀b,(M b\/rest J i b)->b<w.heap.size):=h.lendS i Z a
theorem SH.jR(h:SH I M K w J)(i:Nat)(c:C.holds w' (λb=>M b\/rest J i b) C.own')(d:C.Zb)(a:bF (J i).own' w w')(hn:∀b,C.own' b->b<w.heap.size->(J i).own' b):SH I M K w' (cz J i C):=h.back i Z d c a hn
end
section
variable{σ ρ α:Type}{b:Int->σ->(σ->ρ)->ρ}{bx:Int->α->σ->(σ->ρ)->ρ}{be:α->σ->(σ->ρ)->ρ}{K:σ->ρ}{s:σ}{r:ρ}{i c:Int}{k:Nat}{Zs:H α}
theorem upNext(hik:i=(k:Int))(e:G (i<c)=bh)(W:Ax b K i (c.toNat-k) s=r):∃a,Ax b K (i+1) (c.toNat-(k+1))=a/\b i s a=r:=by
 rw[upto_lt (by have:=of_decide_eq_true e;omega)]at W;exact⟨_,Z,W⟩
theorem upEnd(hik:i=(k:Int))(e:G (i<c)=aw)(W:Ax b K i (c.toNat-k) s=r):K s=r:=by
 rw[upto_ge (by have:=of_decide_eq_false e;omega)]at W;exact W
theorem upRng(hik:i=(k:Int))(e:G (i<c)=bh)(a:c<=9223372036854775807):j6 (i+1):=by
 have:=of_decide_eq_true e;exact j6.mk V V
theorem eaNext(hik:i=(k:Int))(e:G (i<(O Zs:Int))=bh)(W:vq be K (Zs.drop k) s=r):∃x a,Zs[k]? =U x/\vq be K (Zs.drop (k+1))=a/\be x s a=r:=by
 obtain⟨x,c,b⟩:=X2<|hik▸e;rw[b,fQ]at W;exact⟨x,_,c,Z,W⟩
theorem eaEnd(hik:i=(k:Int))(e:G (i<(O Zs:Int))=aw)(W:vq be K (Zs.drop k) s=r):K s=r:=by
 rw[drop_ge (hik▸e),kJ]at W;exact W
theorem eaLt(hik:i=(k:Int))(e:G (i<(O Zs:Int))=bh):O Zs-(k+1)<O Zs-k:=by
 have:=of_decide_eq_true e;omega
end
abbrev cW(b:Nat)(a v1 v2:B)(l:H dD):Chunk:=.two (.blk b [a,v1,v2]) (.own iV 40 v1 l)
abbrev lg(M:BS)(w:ay):Prop:=∀b,M b->b<w.heap.size
open Go Go.RowKit Go.Proofs
section
variable{P:cd}{ops:Array ec}{sc:gd->Act->ay->Prop}{rest:H ec}{n:Nat}{env:Nat->B}{w I:ay}{M K:BS}{J:Nat->Chunk}{d:L Nat}{ty:bk}{pos:String}{af:Array hX}{x y:bt}{T T2:bk}{v:B}
theorem jN{k:Int}{p:B}(i:IxOk P T v k p)(e:(ev n env x,ev n env y)=(v,dd .i64 k))(h:WL P ops sc rest n (gp env d p) w):WL P ops sc (⟨d,.indexAddr T x y,ty,pos,af,bd⟩::rest) n env w:=by
 injection e with e1 e2;exact aC (i _ _ _ _ _ _ _ _ _ e1 e2) h
section
variable{p q:Int}{k:IntKind}
theorem Ej(e:(ev n env x,ev n env y)=(dd k p,dd k q))(h:WL P ops sc rest n (gp env d (.bool (G (p=q)))) w):WL P ops sc (⟨d,.binOp .eql T x y T2,ty,pos,af,bd⟩::rest) n env w:=by
 injection e with e1 e2;exact aC (uQ e1 e2) h
theorem Pr(e:(ev n env x,ev n env y)=(dd k p,dd k q))(h:WL P ops sc rest n (gp env d (.bool (G (p≠q)))) w):WL P ops sc (⟨d,.binOp .neq T x y T2,ty,pos,af,bd⟩::rest) n env w:=by
 injection e with e1 e2;exact aC (Sk e1 e2) h
theorem qlss(e:(ev n env x,ev n env y)=(dd .i64 p,dd .i64 q))(h:WL P ops sc rest n (gp env d (.bool (G (p<q)))) w):WL P ops sc (⟨d,.binOp .lss T x y T2,ty,pos,af,bd⟩::rest) n env w:=by
 injection e with e1 e2;exact aC (LB e1 e2) h
theorem qadd(e:(ev n env x,ev n env y)=(dd .i64 p,dd .i64 q))(a:j6 (p+q))(h:WL P ops sc rest n (gp env d (.int .i64 (p+q))) w):WL P ops sc (⟨d,.binOp .add T x y T2,ty,pos,af,bd⟩::rest) n env w:=by
 injection e with e1 e2;exact aC (LC e1 e2 a) h
theorem LH{i:Nat}{vs:H B}(e:(ev n env x,vs[i]?)=(Value.tuple (ar vs),U v))(h:WL P ops sc rest n (gp env d v) w):WL P ops sc (⟨d,.extract x i,ty,pos,af,bd⟩::rest) n env w:=by
 injection e with e1 e2;exact aC (VB e1 e2) h
variable{α:Type}{R:uO α}{E:bk}{sz:Nat}{l:H α}
theorem Be(h:SH I M K w J)(i:Nat)(a:SliceOf P T E sz)(e:(J i,ev n env x)=(Chunk.sr R v l,v))(k:WL P ops sc rest n (gp env d (.int .i64 (O l))) w):WL P ops sc (⟨d,.call {callee:=.builtin .len,args:= #[x],argTypes:= #[T]},ty,pos,af,bd⟩::rest) n env w:=by
 injection e with e1 e2;exact aC (sH a e2<|h.gW i e1) k
theorem HF(h:SH I M K w J)(i:Nat)(a:SliceOf P T E sz)(e:(J i,ev n env x)=(Chunk.rd R v l,v))(k:WL P ops sc rest n (gp env d (.int .i64 (O l))) w):WL P ops sc (⟨d,.call {callee:=.builtin .len,args:= #[x],argTypes:= #[T]},ty,pos,af,bd⟩::rest) n env w:=by
 injection e with e1 e2;exact aC (sH a e2<|h.kC i e1) k
variable{b want:YU}
theorem NK{j dj b' o:Nat}{z:B}{cs:H B}(h:SH I M K w J)(i:Nat)(a:One P T z)(e:((ops[j]?).bind (·.dst),ev n env (.tmp dj),J i,ev n env x,cs[o]?)=(U dj,cM b,Chunk.blk b' cs,gv (b==want) (.pointer (U ⟨b',o,bd⟩)),U v))(k:WL P ops sc rest n (gp env d (gv (b==want) v)) w):WL P ops sc (⟨d,.load T x,ty,pos,af,U (j,want)⟩::rest) n env w:=by
  injection e with e1 e2;injection e2 with e2 e3;injection e3 with e3 e4;injection e4 with e4 e5;exact cO e1 e2 (λq=>jr h i e3 a (e4.trans<|iY q) e5) k
theorem NL{j dj b' o f off:Nat}(a:fB P T f off)(e:((ops[j]?).bind (·.dst),ev n env (.tmp dj),ev n env x)=(U dj,cM b,fc (U ⟨b',o,bd⟩)))(k:WL P ops sc rest n (gp env d (gv (b==want) (.pointer (U ⟨b',o+off,bd⟩)))) w):WL P ops sc (⟨d,.fieldAddr T x f,ty,pos,af,U (j,want)⟩::rest) n env w:=by
  injection e with e1 e2;injection e2 with e2 e3;exact cO e1 e2 (λq=>dE a e3) k
end
end
theorem xF{P:cd}{f:nd}{fn:Func}{c:Code}{args:H B}{R:td->ay->Prop}{n:Nat}{w:ay}(a:P.funcs[f]? =U fn)(hn:fn.ntmps=n)(e:(fn.body,ly (O args) n)=(U c,bh))
  (h:WC P c (kt P fn R) n (HR args) w):bp P f (ar args) w R:=by
 injection e with e1 e2;exact calls_start a e1 hn (gE e2) h
open Go Go.RowKit Go.Proofs
def fillF(a:H (Nat×Nat))(cs:H B):H (Nat×B)->L (H B)
 |[]=>U cs
 |(i,v)::r=>match a[i]? with
  |some (off,1)=>if off<O cs then fillF a (cs.set off v) r else bd
  |_=>bd
theorem fillF_ok{a:H (Nat×Nat)}:∀{pv:H (Nat×B)} {cs out:H B},(∀v∈pv.map (·.2),v.oneCell'=bh)->fillF a cs pv=U out->X6 a cs pv out
  |[],cs,out,_,h=>dp h
  |(i,v)::r,cs,out,ho,h=>by
    unfold fillF at h;split at h
    · rename_i off e;split at h
      · rename_i hl;refine⟨off,1,[v],e,bY<|ho v C7,Z,by omega,?_⟩;rw[show Q7 cs off [v]=cs.set off v by unfold Q7;rw[List.set_eq_take_append_cons_drop,Z3 hl];simp];exact fillF_ok (λx b=>ho x<|List.mem_cons_of_mem _ b) h
      · cases h
    · cases h
section
variable{P:cd}{ops:Array ec}{sc:gd->Act->ay->Prop}{rest:H ec}{n:Nat}{env:Nat->B}{w I:ay}{M K:BS}{J:Nat->Chunk}{d:L Nat}{op:Op}{ty:bk}{pos:String}{af:Array hX}{x y c:bt}{T T2:bk}{v:B}{j dj:Nat}{b b0 r:YU}{i:Int}
theorem iW{zs out:H B}{a:H (Nat×Nat)}{parts:Array (Nat×bt)}{pv:H (Nat×B)}(b:Struct P T zs a)(e:(parts.toList.map λp=>(p.1,ev n env p.2),fillF a zs pv)=(pv,U out))(ho:∀v∈pv.map (·.2),v.oneCell'=bh)
    (h:WL P ops sc rest n (gp env d (.agg (ar out))) w):WL P ops sc (⟨d,.build T parts,ty,pos,af,bd⟩::rest) n env w:=by
  injection e with e1 e2;exact aC (lD b e1<|fillF_ok ho e2) h
theorem S8(a:b0=bh)(e:(ev n env c,ev n env x)=(cM b0,cM r))(h:WL P ops sc rest n (gp env d (.bool r)) w):WL P ops sc (⟨d,.pick c x y,ty,pos,af,bd⟩::rest) n env w:=by
 injection e with e1 e2;exact aC (je (b:=bh) (by rw[e1,a]) e2) h
theorem pkF(a:b0=aw)(e:(ev n env c,ev n env y)=(cM b0,cM r))(h:WL P ops sc rest n (gp env d (.bool r)) w):WL P ops sc (⟨d,.pick c x y,ty,pos,af,bd⟩::rest) n env w:=by
 injection e with e1 e2;exact aC (je (b:=aw) (by rw[e1,a]) e2) h
theorem Hz(a:b0=aw)(e:((ops[j]?).bind (·.dst),ev n env (.tmp dj),aw==b)=(U dj,cM b0,aw))(h:WL P ops sc rest n (gp env d gC) w):WL P ops sc (⟨d,op,ty,pos,af,U (j,b)⟩::rest) n env w:=by
  injection e with e1 e2;injection e2 with e2 e3;exact ny e1 (by rw[e2,a]) e3 h
theorem ofT(a:b0=bh)(e:((ops[j]?).bind (·.dst),ev n env (.tmp dj),bh==b)=(U dj,cM b0,aw))(h:WL P ops sc rest n (gp env d gC) w):WL P ops sc (⟨d,op,ty,pos,af,U (j,b)⟩::rest) n env w:=by
  injection e with e1 e2;injection e2 with e2 e3;exact ny e1 (by rw[e2,a]) e3 h
theorem oN(a:b0=b)(e:((ops[j]?).bind (·.dst),ev n env (.tmp dj))=(U dj,cM b0))(h:WL P ops sc (⟨d,op,ty,pos,af,bd⟩::rest) n env w):WL P ops sc (⟨d,op,ty,pos,af,U (j,b)⟩::rest) n env w:=by
  injection e with e1 e2;exact YW e1 (by rw[e2,a]) h
theorem g0I{want:YU}(e:((ops[j]?).bind (·.dst),ev n env (.tmp dj),ev n env x)=(U dj,cM b,dd .i64 i))(h:WL P ops sc rest n (gp env d (gv (b==want) (.int .i64 i))) w):WL P ops sc (⟨d,.move x,ty,pos,af,U (j,want)⟩::rest) n env w:=by
  injection e with e1 e2;injection e2 with e2 e3;exact cO e1 e2 (λ_=>fI e3) h
theorem g0B'{want:YU}(e:((ops[j]?).bind (·.dst),ev n env (.tmp dj),ev n env x)=(U dj,cM b,cM r))(h:WL P ops sc rest n (gp env d (gv (b==want) (.bool r))) w):WL P ops sc (⟨d,.move x,ty,pos,af,U (j,want)⟩::rest) n env w:=by
  injection e with e1 e2;injection e2 with e2 e3;exact cO e1 e2 (λ_=>fI e3) h
theorem lPN{zs vs:H B}{a o k:Nat}{cs:H B}(h:SH I M K w J)(i:Nat)(b:yV P T zs)(e:(J i,ev n env x,(cs.drop k).take (O zs),O vs,ly (k+O zs) (O cs))=(Chunk.pt a o cs,fc (U ⟨a,o+k,bd⟩),vs,O zs,bh))(q:WL P ops sc rest n (gp env d (.agg (ar vs))) w):WL P ops sc (⟨d,.load T x,ty,pos,af,bd⟩::rest) n env w:=by
 injection e with e1 e2;injection e2 with e2 e3;injection e3 with e3 e4;injection e4 with e4 e5;exact aC (Tq h i e1 b e2 e3 e4<|gE e5) q
theorem mf{Zs:BS}{ws:ay}{u:B}(a:bF Zs ws w)(g:∀b,ob u b->w.heap.size<=b):∀b,ob u b->ws.heap.size<=b:=λb c=>Nat.le_trans a.size (g b c)
end
section
variable{P:cd}{ops:Array ec}{sc:gd->Act->ay->Prop}{n:Nat}{env:Nat->B}{w ws:ay}{d:L Nat}{op:Op}{ty:bk}{pos:String}{af:Array hX}{fuel:Nat}{listed:Array YU}{v:B}{Zs:BS}
theorem bA(i:Nat)(c:bF Zs ws w)(hi:ops[i]? =U ⟨d,op,ty,pos,af,bd⟩)(e:∀b,bF Zs ws b->(bn (ev n env) ⟨d,op,ty,pos,af,bd⟩).run P b=.ok (.value v) b)(h:Px P ops Zs ws sc fuel (listed.setIfInBounds i bh) n (gp env d v) w)(a:(ef ops&&(fo .any ops listed i&&(dy .any ops listed).contains i))=true:=by kernel_rfl):Px P ops Zs ws sc (fuel+1) listed n env w:=by
 simp only[cS]at a;exact iQ i c hi bu a.1 a.2.1 a.2.2 e h
end
section
variable{P:cd}{ops:Array ec}{w:ay}{Q1:Act->Prop}{rest:H ec}{n:Nat}{env:Nat->B}{d:L Nat}{ty:bk}{pos:String}{af:Array hX}{x:bt}
theorem kI{i:Int}(a:ev n env x=.int .i64 i)(h:WK P ops w Q1 rest n (gp env d (.int .i64 i))):WK P ops w Q1 (⟨d,.move x,ty,pos,af,bd⟩::rest) n env:=eG (fI a) h
theorem kB{i:YU}(a:ev n env x=.bool i)(h:WK P ops w Q1 rest n (gp env d (.bool i))):WK P ops w Q1 (⟨d,.move x,ty,pos,af,bd⟩::rest) n env:=eG (fI a) h
end
abbrev F4(w:ay)(M:BS)(C:Chunk):Prop:=Chunk.holds w M (Chunk.own' C) C
abbrev ApC(C:Chunk)(M:BS):Prop:=∀b,Chunk.own' C b->¬M b
abbrev GW(C':Chunk)(w:ay)(C:Chunk):Prop:=∀b,Chunk.own' C' b->b<w.heap.size->Chunk.own' C b
abbrev Jm(M:BS)(C:Chunk):BS:=λb=>M b\/Chunk.own' C b
open Go Go.RowKit Go.Proofs
section
variable{P:cd}{ops:Array ec}{sc:gd->Act->ay->Prop}{n:Nat}{env:Nat->B}{w ws:ay}{d:L Nat}{ty:bk}{pos:String}{af:Array hX}{fuel:Nat}{listed:Array YU}{v:B}{Zs:BS}{T:bk}{x:bt}
theorem bK(i:Nat)(c:bF Zs ws w){k off b o:Nat}(a:fB P T k off)(e:(ops[i]?,ev n env x)=(U ⟨d,.fieldAddr T x k,ty,pos,af,bd⟩,fc (U ⟨b,o,bd⟩)))(h:Px P ops Zs ws sc fuel (listed.setIfInBounds i bh) n (gp env d (.pointer (U ⟨b,o+off,bd⟩))) w)(f:(ef ops&&(fo .any ops listed i&&(dy .any ops listed).contains i))=true:=by kernel_rfl):Px P ops Zs ws sc (fuel+1) listed n env w:=by
 injection e with e1 e2;exact bA i c e1 (λ_ _=>dE a e2) h f
theorem dH(i:Nat)(b:bF Zs ws w)(v:B)(e:(ops[i]?,ev n env x)=(U ⟨d,.move x,ty,pos,af,bd⟩,v))(h:Px P ops Zs ws sc fuel (listed.setIfInBounds i bh) n (gp env d v) w)(a:(ef ops&&(fo .any ops listed i&&(dy .any ops listed).contains i))=true:=by kernel_rfl):Px P ops Zs ws sc (fuel+1) listed n env w:=by
 injection e with e1 e2;exact bA i b e1 (λ_ _=>fI e2) h a
theorem kD(i:Nat)(b:bF Zs ws w)(v:B)(e:(ops[i]?,ev n env x)=(U ⟨d,.assign x,ty,pos,af,bd⟩,v))(h:Px P ops Zs ws sc fuel (listed.setIfInBounds i bh) n (gp env d v) w)(a:(ef ops&&(fo .any ops listed i&&(dy .any ops listed).contains i))=true:=by kernel_rfl):Px P ops Zs ws sc (fuel+1) listed n env w:=by
 injection e with e1 e2;exact bA i b e1 (λ_ _=>lG e2) h a
end
section
variable{P:cd}{ops:Array ec}{sc:gd->Act->ay->Prop}{rest:H ec}{n:Nat}{env:Nat->B}{w I:ay}{M K:BS}{J:Nat->Chunk}{d:L Nat}{ty:bk}{pos:String}{af:Array hX}{x y:bt}{T:bk}
theorem aW{zs vs:H B}{b:Nat}{cs:H B}(h:SH I M K w J)(i:Nat)(a:yV P T zs)(e:(J i,ev n env x,ev n env y,O vs,O cs)=(Chunk.blk b cs,fc (U ⟨b,0,bd⟩),Value.agg (ar vs),O zs,O vs))(c:∀v∈vs,v.oneCell'=bh)
 (k:∀w',SH I M K w' (cz J i (.blk b vs))->WL P ops sc rest n (gp env d gC) w'):WL P ops sc (⟨d,.store T x y,ty,pos,af,bd⟩::rest) n env w:=w_stA h i vs a e c k
theorem SH.pr(h:SH I M K w J)(i j:Nat)(a:i≠j:=by decide):SH I M K w (cz (cz J j .no) i (.two (J i) (J j))):=h.pair i j a
theorem SH.un{a c:Chunk}(h:SH I M K w J)(i j:Nat)(hi:J i=.two a c)(d:J j=.no)(b:i≠j:=by decide):SH I M K w (cz (cz J i a) j c):=h.unpair i j b hi d
end
open Go Go.RowKit Go.Proofs
theorem kR{Zs:BS}{w:ay}:bF Zs w w:=bF.refl Zs w
theorem bO{vs:H B}(e:vs.all Value.oneCell'=bh):∀v∈vs,v.oneCell'=true:=λv h=>pj.1 e v h
section
variable{P:cd}{ops:Array ec}{sc:gd->Act->ay->Prop}{n:Nat}{env:Nat->B}{w:ay}{fuel:Nat}{listed:Array YU}{Zs:BS}
theorem bR(h:∀ws,bF Zs ws w->Px P ops Zs ws sc fuel listed n env w):Px P ops Zs w sc fuel listed n env w:=h w (bF.refl _ _)
end
section
variable{P:cd}{ops:Array ec}{sc:gd->Act->ay->Prop}{rest:H ec}{n:Nat}{env:Nat->B}{w I:ay}{M K:BS}{J:Nat->Chunk}{d:L Nat}{ty:bk}{pos:String}{af:Array hX}{x:bt}{v:B}
section
variable{f:nd}{first captured:Array B}{xs:Array bt}{args:H B}
theorem qb{ts:Array bk}(h:SH I M K w J)(c:VR P f)(a:ev n env x=.func (.func f) first captured)(b:first.toList++xs.toList.map (ev n env)++captured.toList=args)(i:bp P f (ar args) w (λe w'=>Grow w w'/\e=.returned v))(k:∀w',Grow w w'->SH I M K w' J->WL P ops sc rest n (gp env d v) w'):
  WL P ops sc (⟨d,.call {callee:=.value x,args:=xs,argTypes:=ts},ty,pos,af,bd⟩::rest) n env w:=
 OJ c a b i (by rintro _ w' ⟨g,rfl⟩;exact⟨_,Z,k w' g (h.grow g)⟩)
variable{α:Type}{R:uO α}{l:H α}{F:B->B}
theorem Bf{ts:Array bk}(h:SH I M K w J)(i:Nat)(j:VR P f)(a:ev n env x=.func (.func f) first captured)(b:first.toList++xs.toList.map (ev n env)++captured.toList=args)(c:bp P f (ar args) w (λe w'=>Grow w w'/\∃u,e=.returned (F u)/\bX R w' (SH.A M J) u l))(k:∀w' u,Grow w w'->SH I M K w' (cz J i (.rd R u l))->WL P ops sc rest n (gp env d (F u)) w'):
  WL P ops sc (⟨d,.call {callee:=.value x,args:=xs,argTypes:=ts},ty,pos,af,bd⟩::rest) n env w:=
 OJ j a b c (by rintro _ w' ⟨g,u,rfl,g2⟩;exact⟨_,Z,k w' u g (h.xQ i g g2)⟩)
theorem nV{E:bk}{ts:Array bk}(h:SH I M K w J)(i:Nat)(o:VR P f)(c:ev n env x=.func (.func f) first captured)(j:first.toList++xs.toList.map (ev n env)++captured.toList=args)(m:bp P f (ar args) w (λe w'=>Grow w w'/\∃u,e=.returned (F u)/\dz R E w' (SH.A M J) u l/\(∀b,ob u b->w.heap.size<=b)))(k:∀w' u,Grow w w'->(∀b,ob u b->w.heap.size<=b)->SH I M K w' (cz J i (.own R E u l))->WL P ops sc rest n (gp env d (F u)) w'):
  WL P ops sc (⟨d,.call {callee:=.value x,args:=xs,argTypes:=ts},ty,pos,af,bd⟩::rest) n env w:=
 OJ o c j m (by rintro _ w' ⟨g,u,rfl,g2,a⟩;exact⟨_,Z,k w' u g a (h.wJ i g g2 a)⟩)
end
end
open Go Go.RowKit Go.Proofs
abbrev pT(b:Nat):Value:=.pointer (U ⟨b,0,bd⟩)
abbrev nS:Value:=.slice bd 0 0
def fchk(P:cd)(f:nd):YU:=match P.funcs[f]? with
 |some fn=> !(fn.name== "runtime.NumGoroutine")&& !fn.body.isNone
 |none=>aw
theorem hp{P:cd}{f:nd}(h:fchk P f=true:=by kernel_rfl):VR P f:=by
  unfold fchk at h;split at h
  · rename_i fn e;simp only[cS,ep]at h;exact⟨fn,e,h.1,h.2⟩
  · cases h
section
variable{P:cd}{ops:Array ec}{sc:gd->Act->ay->Prop}{n:Nat}{env:Nat->B}{w ws:ay}{d:L Nat}{op:Op}{ty:bk}{pos:String}{af:Array hX}{fuel:Nat}{listed:Array YU}{Zs:BS}
theorem aO(i:Nat)(hi:ops[i]? =U ⟨d,op,ty,pos,af,bd⟩)(h:WL P ops (WN P ops Zs ws sc fuel (listed.setIfInBounds i bh)) [⟨d,op,ty,pos,af,bd⟩] n env w)(a:dy .any ops listed=[i]:=by kernel_rfl):Px P ops Zs ws sc (fuel+1) listed n env w:=KI i a hi bu h
theorem dP(h:sc .normal (DB n env) w)(a:dy .any ops listed=[]:=by kernel_rfl):Px P ops Zs ws sc fuel listed n env w:=whk_done a h
end
open Go Go.RowKit Go.Proofs
class WU (J:Nat->Chunk) (b:Nat) (i:outParam Nat):Prop where
 t:True
instance {J:Nat->Chunk} {b i:Nat} {vs:List B}:WU (cz J i (.blk b vs)) b i:=⟨trivial⟩
instance (priority:=500) {J:Nat->Chunk} {b i j:Nat} {c:Chunk} [WU J b i]:WU (cz J j c) b i:=⟨trivial⟩
instance {b i:Nat} {vs:List B} {l:List (Nat×Chunk)}:WU (C6 ((i,.blk b vs)::l)) b i:=⟨trivial⟩
instance (priority:=500) {b i:Nat} {p:Nat×Chunk} {l:List (Nat×Chunk)} [WU (C6 l) b i]:WU (C6 (p::l)) b i:=⟨trivial⟩
class LJ (J:Nat->Chunk) (b:Nat) (i:outParam Nat):Prop where
 t:True
instance {J:Nat->Chunk} {b o i:Nat} {vs:List B}:LJ (cz J i (.pt b o vs)) b i:=⟨trivial⟩
instance (priority:=500) {J:Nat->Chunk} {b i j:Nat} {c:Chunk} [LJ J b i]:LJ (cz J j c) b i:=⟨trivial⟩
instance {b o i:Nat} {vs:List B} {l:List (Nat×Chunk)}:LJ (C6 ((i,.pt b o vs)::l)) b i:=⟨trivial⟩
instance (priority:=500) {b i:Nat} {p:Nat×Chunk} {l:List (Nat×Chunk)} [LJ (C6 l) b i]:LJ (C6 (p::l)) b i:=⟨trivial⟩
class Bg (J:Nat->Chunk) (v:B) (i:outParam Nat):Prop where
 t:True
section
variable{α:Type}{R:uO α}{E:bk}{J:Nat->Chunk}{v:B}{i:Nat}{Zs:H α}{l:H (Nat×Chunk)}
instance:Bg (cz J i (.sr R v Zs)) v i:=⟨trivial⟩
instance:Bg (cz J i (.rd R v Zs)) v i:=⟨trivial⟩
instance:Bg (cz J i (.own R E v Zs)) v i:=⟨trivial⟩
instance (priority:=500) {j:Nat} {c:Chunk} [Bg J v i]:Bg (cz J j c) v i:=⟨trivial⟩
instance:Bg (C6 ((i,.sr R v Zs)::l)) v i:=⟨trivial⟩
instance:Bg (C6 ((i,.rd R v Zs)::l)) v i:=⟨trivial⟩
instance:Bg (C6 ((i,.own R E v Zs)::l)) v i:=⟨trivial⟩
instance (priority:=500) {p:Nat×Chunk} [Bg (C6 l) v i]:Bg (C6 (p::l)) v i:=⟨trivial⟩
end
section
variable{P:cd}{ops:Array ec}{sc:gd->Act->ay->Prop}{rest:H ec}{n:Nat}{env:Nat->B}{w I:ay}{M K:BS}{J:Nat->Chunk}{d:L Nat}{op:Op}{ty:bk}{pos:String}{af:Array hX}{x y:bt}{T T2:bk}{v z:B}{b o k off i:Nat}{cs zs vs:H B}
theorem fadi(a:ev n env x=.pointer (U ⟨b,o,bd⟩)) [hT:fB P T k off](h:WL P ops sc rest n (gp env d (.pointer (U ⟨b,o+off,bd⟩))) w):WL P ops sc (⟨d,.fieldAddr T x k,ty,pos,af,bd⟩::rest) n env w:=aC (dE hT a) h
theorem lBi(h:SH I M K w J)(a:ev n env x=.pointer (U ⟨b,o,bd⟩)) [hT:One P T z] [WU J b i](e:(J i,cs[o]?)=(Chunk.blk b cs,U v))(k:WL P ops sc rest n (gp env d v) w):WL P ops sc (⟨d,.load T x,ty,pos,af,bd⟩::rest) n env w:=by
 injection e with e1 e2;exact aC (jr h i e1 hT a e2) k
theorem lBNi(h:SH I M K w J)(a:ev n env x=.pointer (U ⟨b,o,bd⟩)) [hT:yV P T zs] [WU J b i](e:(J i,(cs.drop o).take (O zs),O vs)=(Chunk.blk b cs,vs,O zs))(k:WL P ops sc rest n (gp env d (.agg (ar vs))) w):WL P ops sc (⟨d,.load T x,ty,pos,af,bd⟩::rest) n env w:=by
 injection e with e1 e2;injection e2 with e2 e3;exact aC (BC h i e1 hT a e2 e3) k
theorem lPi{a:Nat}(h:SH I M K w J)(c:ev n env x=.pointer (U ⟨b,a,bd⟩)) [hT:One P T z] [LJ J b i](e:(J i,a,cs[k]?)=(Chunk.pt b o cs,o+k,U v))(q:WL P ops sc rest n (gp env d v) w):WL P ops sc (⟨d,.load T x,ty,pos,af,bd⟩::rest) n env w:=by
 injection e with e1 e2;injection e2 with e2 e3;exact aC (ug h i e1 hT (e2▸c) e3) q
theorem lP0i{a:Nat}(h:SH I M K w J)(c:ev n env x=.pointer (U ⟨b,a,bd⟩)) [hT:One P T z] [LJ J b i](e:(J i,cs[0]?)=(Chunk.pt b a cs,U v))(q:WL P ops sc rest n (gp env d v) w):WL P ops sc (⟨d,.load T x,ty,pos,af,bd⟩::rest) n env w:=by
 injection e with e1 e2;exact aC (ug (k:=0) h i e1 hT c e2) q
theorem lPN0i{a:Nat}(h:SH I M K w J)(c:ev n env x=.pointer (U ⟨b,a,bd⟩)) [hT:yV P T zs] [LJ J b i](e:(J i,cs.take (O zs),O vs,ly (O zs) (O cs))=(Chunk.pt b a cs,vs,O zs,bh))(q:WL P ops sc rest n (gp env d (.agg (ar vs))) w):WL P ops sc (⟨d,.load T x,ty,pos,af,bd⟩::rest) n env w:=by
 injection e with e1 e2;injection e2 with e2 e3;injection e3 with e3 e4;exact aC (Tq (k:=0) h i e1 hT c (by rw[List.drop_zero];exact e2) e3 (by rw[Nat.zero_add];exact gE e4)) q
structure WLn(P:cd)(ops:Array ec)(sc:gd->Act->ay->Prop)(T:bk)(v:B)(rest:List ec)(n:Nat)(env:Nat->B)(d:Option Nat)(w:ay):Prop where
 out:∃m:Nat,(∃a c E sz,v=.slice a m c/\SliceOf P T E sz)/\WL P ops sc rest n (gp env d (.int .i64 m)) w
theorem lenK(b:ev n env x=v)(k:WLn P ops sc T v rest n env d w):WL P ops sc (⟨d,.call {callee:=.builtin .len,args:= #[x],argTypes:= #[T]},ty,pos,af,bd⟩::rest) n env w:=by
 obtain⟨m,⟨a,c,E,sz,f,e⟩,k⟩:=k;exact aC (mW e<|b.trans f) k
theorem g0Fi{j dj b' off k:Nat}{b want:YU}{o:Nat}(e:((ops[j]?).bind (·.dst),ev n env (.tmp dj),ev n env x)=(U dj,cM b,fc (U ⟨b',o,bd⟩))) [hT:fB P T k off]
    (q:WL P ops sc rest n (gp env d (gv (b==want) (.pointer (U ⟨b',o+off,bd⟩)))) w):WL P ops sc (⟨d,.fieldAddr T x k,ty,pos,af,U (j,want)⟩::rest) n env w:=NL hT e q
theorem g0Bi{j dj b':Nat}{b want:YU}(h:SH I M K w J)(e:((ops[j]?).bind (·.dst),ev n env (.tmp dj),ev n env x)=(U dj,cM b,gv (b==want) (.pointer (U ⟨b',o,bd⟩)))) [hT:One P T z] [WU J b' i](a:(J i,cs[o]?)=(Chunk.blk b' cs,U v))
    (q:WL P ops sc rest n (gp env d (gv (b==want) v)) w):WL P ops sc (⟨d,.load T x,ty,pos,af,U (j,want)⟩::rest) n env w:=by
  injection e with e1 e3;injection e3 with e3 e4;injection a with e5 e6;exact NK h i hT (by rw[e1,e3,e4,e5,e6]) q
section
variable{α:Type}{R:uO α}{E E2:bk}{sz:Nat}{l:H α}
theorem lnS(h:SH I M K w J) [hT:SliceOf P T E sz] [Bg J v i](e:J i=.sr R v l)(k:WL P ops sc rest n (gp env d (.int .i64 (O l))) w):WLn P ops sc T v rest n env d w:=by
 obtain⟨a,c,e,_⟩:=h.gW i e;exact⟨_,⟨a,c,E,sz,e,hT⟩,k⟩
theorem lnR(h:SH I M K w J) [hT:SliceOf P T E sz] [Bg J v i](e:J i=.rd R v l)(k:WL P ops sc rest n (gp env d (.int .i64 (O l))) w):WLn P ops sc T v rest n env d w:=by
 obtain⟨a,c,e,_⟩:=h.kC i e;exact⟨_,⟨a,c,E,sz,e,hT⟩,k⟩
theorem lnO(h:SH I M K w J) [hT:SliceOf P T E sz] [Bg J v i](e:J i=.own R E2 v l)(k:WL P ops sc rest n (gp env d (.int .i64 (O l))) w):WLn P ops sc T v rest n env d w:=by
 obtain⟨a,c,e,_⟩:=h.cZ i e;exact⟨_,⟨a,c,E,sz,e,hT⟩,k⟩
end
end
section
variable{α:Type}{R:uO α}{E E2:bk}{sz:Nat}{l:H α}{P:cd}{ops:Array ec}{sc:gd->Act->ay->Prop}{rest:H ec}{n:Nat}{env:Nat->B}{w I:ay}{M K:BS}{J:Nat->Chunk}{d:L Nat}{ty:bk}{pos:String}{af:Array hX}{x:bt}{T:bk}{v:B}{i j dj:Nat}{b want:YU}
theorem g0LS(h:SH I M K w J)(e:((ops[j]?).bind (·.dst),ev n env (.tmp dj),ev n env x)=(U dj,cM b,gv (b==want) v)) [hT:SliceOf P T E sz] [Bg J v i](a:J i=.sr R v l)
    (q:WL P ops sc rest n (gp env d (gv (b==want) (.int .i64 (O l)))) w):WL P ops sc (⟨d,.call {callee:=.builtin .len,args:= #[x],argTypes:= #[T]},ty,pos,af,U (j,want)⟩::rest) n env w:=by
  injection e with e1 e3;injection e3 with e3 e4;exact cO e1 e3 (λq=>sH hT (e4.trans<|iY q)<|h.gW i a) q
theorem g0LR(h:SH I M K w J)(e:((ops[j]?).bind (·.dst),ev n env (.tmp dj),ev n env x)=(U dj,cM b,gv (b==want) v)) [hT:SliceOf P T E sz] [Bg J v i](a:J i=.rd R v l)
    (q:WL P ops sc rest n (gp env d (gv (b==want) (.int .i64 (O l)))) w):WL P ops sc (⟨d,.call {callee:=.builtin .len,args:= #[x],argTypes:= #[T]},ty,pos,af,U (j,want)⟩::rest) n env w:=by
  injection e with e1 e3;injection e3 with e3 e4;exact cO e1 e3 (λq=>sH hT (e4.trans<|iY q)<|h.kC i a) q
end
section
variable{P:cd}{ops:Array ec}{Q1:Act->Prop}{rest:H ec}{n:Nat}{env:Nat->B}{w I:ay}{M K:BS}{J:Nat->Chunk}{d:L Nat}{op:Op}{ty:bk}{pos:String}{af:Array hX}{x y c:bt}{T T2:bk}{v z:B}{b o k off i j dj:Nat}{cs zs vs:H B}{b0 bb want:YU}
theorem kV(a:ev n env x=v)(h:WK P ops w Q1 rest n (gp env d v)):WK P ops w Q1 (⟨d,.move x,ty,pos,af,bd⟩::rest) n env:=eG (fI a) h
theorem kA(a:ev n env x=v)(h:WK P ops w Q1 rest n (gp env d v)):WK P ops w Q1 (⟨d,.assign x,ty,pos,af,bd⟩::rest) n env:=eG (lG a) h
theorem kFi(a:ev n env x=.pointer (U ⟨b,o,bd⟩)) [hT:fB P T k off](h:WK P ops w Q1 rest n (gp env d (.pointer (U ⟨b,o+off,bd⟩)))):WK P ops w Q1 (⟨d,.fieldAddr T x k,ty,pos,af,bd⟩::rest) n env:=eG (dE hT a) h
theorem kBi(h:SH I M K w J)(a:ev n env x=.pointer (U ⟨b,o,bd⟩)) [hT:One P T z] [WU J b i](e:(J i,cs[o]?)=(Chunk.blk b cs,U v))(q:WK P ops w Q1 rest n (gp env d v)):WK P ops w Q1 (⟨d,.load T x,ty,pos,af,bd⟩::rest) n env:=by
 injection e with e1 e2;exact eG (jr h i e1 hT a e2) q
theorem kPi{a:Nat}(h:SH I M K w J)(c:ev n env x=.pointer (U ⟨b,a,bd⟩)) [hT:One P T z] [LJ J b i](e:(J i,a,cs[k]?)=(Chunk.pt b o cs,o+k,U v))(q:WK P ops w Q1 rest n (gp env d v)):WK P ops w Q1 (⟨d,.load T x,ty,pos,af,bd⟩::rest) n env:=by
 injection e with e1 e2;injection e2 with e2 e3;exact eG (ug h i e1 hT (e2▸c) e3) q
theorem kP0i{a:Nat}(h:SH I M K w J)(c:ev n env x=.pointer (U ⟨b,a,bd⟩)) [hT:One P T z] [LJ J b i](e:(J i,cs[0]?)=(Chunk.pt b a cs,U v))(q:WK P ops w Q1 rest n (gp env d v)):WK P ops w Q1 (⟨d,.load T x,ty,pos,af,bd⟩::rest) n env:=by
 injection e with e1 e2;exact eG (ug (k:=0) h i e1 hT c e2) q
theorem kOn(a:b0=bb)(e:((ops[j]?).bind (·.dst),ev n env (.tmp dj))=(U dj,cM b0))(h:WK P ops w Q1 (⟨d,op,ty,pos,af,bd⟩::rest) n env):WK P ops w Q1 (⟨d,op,ty,pos,af,U (j,bb)⟩::rest) n env:=by
  injection e with e1 e2;exact wk_on e1 (by rw[e2,a]) h
theorem kOffF(a:b0=aw)(e:((ops[j]?).bind (·.dst),ev n env (.tmp dj),aw==bb)=(U dj,cM b0,aw))(h:WK P ops w Q1 rest n (gp env d gC)):WK P ops w Q1 (⟨d,op,ty,pos,af,U (j,bb)⟩::rest) n env:=by
  injection e with e1 e2;injection e2 with e2 e3;exact Ka e1 (by rw[e2,a]) e3 h
theorem kOffT(a:b0=bh)(e:((ops[j]?).bind (·.dst),ev n env (.tmp dj),bh==bb)=(U dj,cM b0,aw))(h:WK P ops w Q1 rest n (gp env d gC)):WK P ops w Q1 (⟨d,op,ty,pos,af,U (j,bb)⟩::rest) n env:=by
  injection e with e1 e2;injection e2 with e2 e3;exact Ka e1 (by rw[e2,a]) e3 h
theorem kpT(a:b0=bh)(e:(ev n env c,ev n env x)=(cM b0,v))(h:WK P ops w Q1 rest n (gp env d v)):WK P ops w Q1 (⟨d,.pick c x y,ty,pos,af,bd⟩::rest) n env:=by
 injection e with e1 e2;exact eG (je (b:=bh) (by rw[e1,a]) e2) h
theorem kpF(a:b0=aw)(e:(ev n env c,ev n env y)=(cM b0,v))(h:WK P ops w Q1 rest n (gp env d v)):WK P ops w Q1 (⟨d,.pick c x y,ty,pos,af,bd⟩::rest) n env:=by
 injection e with e1 e2;exact eG (je (b:=aw) (by rw[e1,a]) e2) h
end
structure Beh(q:Prop):Prop where
 g:q
theorem D{p q:Prop}(k:q)(z:Beh q->p:=by
 intro k;repeat first
  |refine ax ?_
  |(show WL _ _ _ (⟨_,.move _,_,_,_,none⟩::_) _ _ _;refine mV _ (by(conv=>lhs;whnf);first|done|fail) ?_)
  |(show WL _ _ _ (⟨_,.assign _,_,_,_,none⟩::_) _ _ _;refine aV _ (by(conv=>lhs;whnf);first|done|fail) ?_)
  |(show WL _ _ _ (⟨_,.fieldAddr _ _ _,_,_,_,none⟩::_) _ _ _;refine fadi Z ?_)
  |(show WL _ _ _ (⟨_,.load _ _,_,_,_,none⟩::_) _ _ _;first|refine lBi h rfl rfl ?_|refine lBNi h rfl rfl ?_|refine lP0i h rfl rfl ?_|refine lPN0i h rfl rfl ?_|refine lPi h rfl rfl ?_|refine lPNi h rfl rfl ?_)
  |(show WL _ _ _ (⟨_,.binOp _ _ _ _ _,_,_,_,none⟩::_) _ _ _;first
   |(show WL _ _ _ (⟨_,.binOp .eql _ _ _ _,_,_,_,none⟩::_) _ _ _;refine Ej Z ?_)
   |(show WL _ _ _ (⟨_,.binOp .neq _ _ _ _,_,_,_,none⟩::_) _ _ _;refine Pr Z ?_)
   |(show WL _ _ _ (⟨_,.binOp .lss _ _ _ _,_,_,_,none⟩::_) _ _ _;refine qlss Z ?_)
   |(show WL _ _ _ (⟨_,.binOp .gtr _ _ _ _,_,_,_,none⟩::_) _ _ _;refine aC (BP Z Z) ?_)
   |(show WL _ _ _ (⟨_,.binOp .leq _ _ _ _,_,_,_,none⟩::_) _ _ _;refine aC (HN Z Z) ?_)
   |(show WL _ _ _ (⟨_,.binOp .geq _ _ _ _,_,_,_,none⟩::_) _ _ _;refine aC (Hu Z Z) ?_)
   |(show WL _ _ _ (⟨_,.binOp .add _ _ _ _,_,_,_,none⟩::_) _ _ _;first|refine qadd rfl (by assumption) ?_|refine aC (Kb rfl rfl (by assumption)) ?_)
   |(show WL _ _ _ (⟨_,.binOp .sub _ _ _ _,_,_,_,none⟩::_) _ _ _;refine aC (LD Z Z (by assumption)) ?_))
  |(show WL _ _ _ (⟨_,.call _,_,_,_,none⟩::_) _ _ _;refine lenK (by(conv=>lhs;whnf);first|done|fail) ?_;first|refine lnS h rfl ?_|refine lnR h rfl ?_|refine lnO h rfl ?_)
  |(show WL _ _ _ (⟨_,.extract _ _,_,_,_,none⟩::_) _ _ _;refine LH Z ?_)
  |(show WL _ _ _ (⟨_,.pick _ _ _,_,_,_,none⟩::_) _ _ _;first|refine aC (LG rfl rfl Pp) ?_|refine aC (tO rfl rfl Pp) ?_|refine S8 (by assumption) rfl ?_|refine pkF (by assumption) rfl ?_)
  |(show WL _ _ _ (⟨_,.unOp .not _ _,_,_,_,none⟩::_) _ _ _;refine aC (tQ Z) ?_)
  |(show WL _ _ _ (⟨_,.nilCheck _,_,_,_,none⟩::_) _ _ _;refine aC (qx Z) ?_)
  |(show WL _ _ _ (⟨_,_,_,_,_,some _⟩::_) _ _ _;first
   |refine oN (by assumption) Z ?_|refine Hz (by assumption) Z ?_|refine ofT (by assumption) Z ?_
   |refine YW Z (by(conv=>lhs;whnf);first|done|fail) ?_|refine ny (b':=false) rfl (by(conv=>lhs;whnf);first|done|fail) rfl ?_|refine ny (b':=true) rfl (by(conv=>lhs;whnf);first|done|fail) rfl ?_
   |(show WL _ _ _ (⟨_,.fieldAddr _ _ _,_,_,_,_⟩::_) _ _ _;refine g0Fi Z ?_)
   |(show WL _ _ _ (⟨_,.load _ _,_,_,_,_⟩::_) _ _ _;refine g0Bi h Z Z ?_)
   |(show WL _ _ _ (⟨_,.move _,_,_,_,_⟩::_) _ _ _;first|refine g0I rfl ?_|refine g0B' rfl ?_)
   |(show WL _ _ _ (⟨_,.call _,_,_,_,_⟩::_) _ _ _;first|refine g0LS h rfl rfl ?_|refine g0LR h rfl rfl ?_)
   |(show WL _ _ _ (⟨_,.unOp .not _ _,_,_,_,_⟩::_) _ _ _;refine cO Z Z (λq=>tQ (iY q)) ?_)
   |(show WL _ _ _ (⟨_,.pick _ _ _,_,_,_,_⟩::_) _ _ _;first|refine cO rfl rfl (λq=>LG (iY q) (gvn q) Pp) ?_|refine cO rfl rfl (λq=>tO (iY q) (gvn q) Pp) ?_)
   |(show WL _ _ _ (⟨_,.binOp .eql _ _ _ _,_,_,_,_⟩::_) _ _ _;first|refine cO rfl rfl (λq=>uQ (iY q) rfl) ?_|refine cO rfl rfl (λq=>uQ (iY q) (iY q)) ?_)
   |(show WL _ _ _ (⟨_,.binOp .neq _ _ _ _,_,_,_,_⟩::_) _ _ _;first|refine cO rfl rfl (λq=>Sk (iY q) rfl) ?_|refine cO rfl rfl (λq=>Sk (iY q) (iY q)) ?_)
   |(show WL _ _ _ (⟨_,.binOp .lss _ _ _ _,_,_,_,_⟩::_) _ _ _;first|refine cO rfl rfl (λq=>LB (iY q) rfl) ?_|refine cO rfl rfl (λq=>LB (iY q) (iY q)) ?_)
   |(show WL _ _ _ (⟨_,.binOp .gtr _ _ _ _,_,_,_,_⟩::_) _ _ _;first|refine cO rfl rfl (λq=>BP (iY q) rfl) ?_|refine cO rfl rfl (λq=>BP (iY q) (iY q)) ?_)
   |(show WL _ _ _ (⟨_,.binOp .geq _ _ _ _,_,_,_,_⟩::_) _ _ _;first|refine cO rfl rfl (λq=>Hu (iY q) rfl) ?_|refine cO rfl rfl (λq=>Hu (iY q) (iY q)) ?_))
  |(show WK _ _ _ _ _ _ _;first
   |(show WK _ _ _ _ (⟨_,_,_,_,_,none⟩::_) _ _;first
    |(show WK _ _ _ _ (⟨_,.move _,_,_,_,_⟩::_) _ _;refine kV (by(conv=>lhs;whnf);first|done|fail) ?_)
    |(show WK _ _ _ _ (⟨_,.assign _,_,_,_,_⟩::_) _ _;refine kA (by(conv=>lhs;whnf);first|done|fail) ?_)
    |(show WK _ _ _ _ (⟨_,.fieldAddr _ _ _,_,_,_,_⟩::_) _ _;refine kFi Z ?_)
    |(show WK _ _ _ _ (⟨_,.load _ _,_,_,_,_⟩::_) _ _;first|refine kBi h rfl rfl ?_|refine kP0i h rfl rfl ?_|refine kPi h rfl rfl ?_)
    |(show WK _ _ _ _ (⟨_,.nilCheck _,_,_,_,_⟩::_) _ _;refine eG (qx Z) ?_)
    |(show WK _ _ _ _ (⟨_,.unOp .not _ _,_,_,_,_⟩::_) _ _;refine eG (tQ Z) ?_)
    |(show WK _ _ _ _ (⟨_,.binOp .eql _ _ _ _,_,_,_,_⟩::_) _ _;refine eG (uQ Z Z) ?_)
    |(show WK _ _ _ _ (⟨_,.binOp .neq _ _ _ _,_,_,_,_⟩::_) _ _;refine eG (Sk Z Z) ?_)
    |(show WK _ _ _ _ (⟨_,.binOp .lss _ _ _ _,_,_,_,_⟩::_) _ _;refine eG (LB Z Z) ?_)
    |(show WK _ _ _ _ (⟨_,.binOp .gtr _ _ _ _,_,_,_,_⟩::_) _ _;refine eG (BP Z Z) ?_)
    |(show WK _ _ _ _ (⟨_,.binOp .leq _ _ _ _,_,_,_,_⟩::_) _ _;refine eG (HN Z Z) ?_)
    |(show WK _ _ _ _ (⟨_,.binOp .geq _ _ _ _,_,_,_,_⟩::_) _ _;refine eG (Hu Z Z) ?_)
    |(show WK _ _ _ _ (⟨_,.binOp .add _ _ _ _,_,_,_,_⟩::_) _ _;refine eG (LC Z Z (by assumption)) ?_)
    |(show WK _ _ _ _ (⟨_,.binOp .sub _ _ _ _,_,_,_,_⟩::_) _ _;refine eG (LD Z Z (by assumption)) ?_)
    |(show WK _ _ _ _ (⟨_,.pick _ _ _,_,_,_,_⟩::_) _ _;first|refine kpT (by assumption) rfl ?_|refine kpF (by assumption) rfl ?_))
   |refine kOn (by assumption) Z ?_|refine kOffF (by assumption) Z ?_|refine kOffT (by assumption) Z ?_
   |refine wk_end ?_)
  |refine iq ?_|refine gP ?_|refine dn ?_|refine wc_ret ?_|refine jC ?_|refine YX ?_
  |refine bB ?_|refine iL ?_|refine mX ?_|refine fZ ?_|refine U9 ?_|refine lh ?_
 exact k.g):p:=z ⟨k⟩
open Go Go.RowKit Go.Proofs
section
variable{w I:ay}{M K:BS}{J:Nat->Chunk}{v:B}{i:Nat}{α:Type}{R:uO α}{E:bk}{l:H α}
theorem SH.oO(h:SH I M BE w J) [Bg J v i](e:J i=.own R E v l):dz R E w M v l/\∀b,ob v b->I.heap.size<=b:=h.kL i e
theorem SH.oR(h:SH I M BE w J) [Bg J v i](e:J i=.rd R v l):bX R w M v l:=h.lH i e
end
section
variable{P:cd}{n:Nat}{env:Nat->B}{w I:ay}{M K:BS}{J:Nat->Chunk}
theorem fnct{fn:Func}{R:td->ay->Prop}{u a:Tmp}{T:bk}{v2:B}{zs vs:H B}{b i:Nat}(c:fn.results= #[.cell a T,.tmp u])(f:SH I M K w J)(g:ev n env (.tmp a)=.pointer (U ⟨b,0,bd⟩))(d:ev n env (.tmp u)=v2)
  [hT:yV P T zs] [WU J b i] (e:(J i,O vs)=(Chunk.blk b vs,O zs)) (h:R (.returned (.tuple #[.agg (ar vs),v2])) w):kt P fn R .ret (DB n env) w:=by
 injection e with e1 e2;exact gy c g d f i e1 hT e2 h
end
theorem lf{p:Prop}(z:p:=by
 refine D ?_;first
  |refine iB Z (by(conv=>lhs;whnf);first|done|fail) ?_
  |refine fin2 Z (by(conv=>lhs;whnf);first|done|fail) (by(conv=>lhs;whnf);first|done|fail) ?_
  |refine fin3 Z (by(conv=>lhs;whnf);first|done|fail) (by(conv=>lhs;whnf);first|done|fail) (by(conv=>lhs;whnf);first|done|fail) ?_
  |refine fnct Z h Z (by(conv=>lhs;whnf);first|done|fail) rfl ?_
  |refine fin4 Z (by(conv=>lhs;whnf);first|done|fail) (by(conv=>lhs;whnf);first|done|fail) (by(conv=>lhs;whnf);first|done|fail) (by(conv=>lhs;whnf);first|done|fail) ?_
 first|rewrite [<-Option.some.inj W]|rewrite [<-W]
 first
  |exact X8 h
  |exact⟨h.grown,_,Z,dz.nil,lQ⟩
  |exact⟨h.grown,_,Z,h.oO Z⟩
  |exact⟨h.grown,_,_,Z,ek.nil,ek.nil⟩
  |exact⟨h.grown,_,_,Z,h.oR Z,h.oR Z⟩):p:=z
theorem sg{p q:Prop}(k:q)(z:Beh q->p:=by
 intro k;refine D ?_;obtain⟨_,W⟩:=cK W;first|refine qadd rfl (by assumption) ?_|refine aC (LD rfl rfl (by assumption)) ?_|refine aC (Kb rfl rfl (by assumption)) ?_
 exact k.g W):p:=z ⟨k⟩
theorem lT{p q:Prop}(k:q)(z:Beh q->p:=by
 intro k;refine D ?_;first
  |(refine eX W Z (λ_ W=>lf) ?_;intro _ W;exact k.g W)
  |(refine eX W Z ?_ (λ_ W=>lf);intro _ W;exact k.g W)):p:=z ⟨k⟩
theorem sp1{p q:Prop}(k:q)(z:Beh q->p:=by
 intro k;refine D ?_;first
  |(refine eX W Z (λ_ W=>lf) ?_;intro c W;exact k.g c W)
  |(refine eX W Z ?_ (λ_ W=>lf);intro c W;exact k.g c W)):p:=z ⟨k⟩
section
variable{σ:Type}{n:Nat}{mod:Nat->YU}{HR e:Nat->B}{live:σ->H (Nat×B)}{hp:σ->ay->Prop}{w:ay}{μ:σ->Nat}{s0:σ}
theorem ln(s:σ)(c:DH e (live s))(d:hp s w)(a:μ s<μ s0)(b:Bb mod e HR):JL n mod HR live hp μ s0 (DB n e) w:=⟨s,e,rfl,b,c,d,a⟩
end
theorem ag{p:Prop}(z:p:=by repeat (first|(with_reducible exact Bb.refl _ _)|(with_reducible exact Bb.YS _ _ _)|(with_reducible refine Bb.on ?_)|((with_reducible refine Bb.hin ?_ ?_);rfl)|(with_reducible refine Bb.un ?_)|((with_reducible refine Bb.os ?_ ?_);rfl)|((with_reducible refine Bb.uc ?_ ?_);rfl))):p:=z
theorem hl{p:Prop}(z:p:=by repeat (first|exact an|refine⟨rfl,?_⟩)):p:=z
theorem le{p:Prop}(z:p:=by
 refine D ?_;refine aL ?_;try subst hnx
 first
  |exact ln (_,_) hl ⟨h.cn _,by omega,W⟩ (by first|exact eaLt hik (by assumption)|exact upLt hik (by assumption)|(dsimp only;omega)) ag
  |exact ln (_,_,_) hl ⟨h.cn _,by omega,W⟩ (by first|exact eaLt hik (by assumption)|exact upLt hik (by assumption)|(dsimp only;omega)) ag
  |exact ln (_,_,_,_) hl ⟨h.cn _,by omega,W⟩ (by first|exact eaLt hik (by assumption)|exact upLt hik (by assumption)|(dsimp only;omega)) ag
  |exact ln (_,_,_,_,_) hl ⟨h.cn _,by omega,W⟩ (by first|exact eaLt hik (by assumption)|exact upLt hik (by assumption)|(dsimp only;omega)) ag
  |exact ln (_,_,_,_,_,_) hl ⟨h.cn _,by omega,W⟩ (by first|exact eaLt hik (by assumption)|exact upLt hik (by assumption)|(dsimp only;omega)) ag
  |exact ln (_,_,_,_,_,_,_) hl ⟨h.cn _,by omega,W⟩ (by first|exact eaLt hik (by assumption)|exact upLt hik (by assumption)|(dsimp only;omega)) ag):p:=z
open Go Go.RowKit Go.Proofs
structure JD(δ:Type)where
 lv:List (Nat×B)
 pc:List (Nat×Chunk)
 d:δ
theorem wN{n:Nat}(h:n<=9223372036854775807):(n:Int)<=9223372036854775807:=by omega
def kp(J:Nat->Chunk):H Nat->H (Nat×Chunk)->H (Nat×Chunk)
 |[],r=>r
 |i::l,r=>(i,J i)::kp J l r
instance (priority:=600) {J:Nat->Chunk} {b:Nat} {i:Nat} {l:List Nat} {r:List (Nat×Chunk)} [WU (C6 r) b i]:WU (C6 (kp J l r)) b i:=⟨trivial⟩
instance (priority:=500) {J:Nat->Chunk} {b:Nat} {i:Nat} {l:List Nat} {r:List (Nat×Chunk)} [WU J b i]:WU (C6 (kp J l r)) b i:=⟨trivial⟩
instance (priority:=600) {J:Nat->Chunk} {b:Nat} {i:Nat} {l:List Nat} {r:List (Nat×Chunk)} [LJ (C6 r) b i]:LJ (C6 (kp J l r)) b i:=⟨trivial⟩
instance (priority:=500) {J:Nat->Chunk} {b:Nat} {i:Nat} {l:List Nat} {r:List (Nat×Chunk)} [LJ J b i]:LJ (C6 (kp J l r)) b i:=⟨trivial⟩
instance (priority:=600) {J:Nat->Chunk} {v:B} {i:Nat} {l:List Nat} {r:List (Nat×Chunk)} [Bg (C6 r) v i]:Bg (C6 (kp J l r)) v i:=⟨trivial⟩
instance (priority:=500) {J:Nat->Chunk} {v:B} {i:Nat} {l:List Nat} {r:List (Nat×Chunk)} [Bg J v i]:Bg (C6 (kp J l r)) v i:=⟨trivial⟩
section
variable{P:cd}{sc:gd->Act->ay->Prop}{n:Nat}{env:Nat->B}{w I:ay}{M K:BS}{J:Nat->Chunk}{σ τ ρ α β:Type}
def JQ(n:Nat)(mod:Nat->YU)(env:Nat->B)(I:ay)(M K:BS)(J:Nat->Chunk)(l:H Nat)(F:σ->JD Prop):Act->ay->Prop:=λa' w'=>
 ∃s e,a'=DB n e/\Bb mod e env/\match F s with|⟨lv,pc,d⟩=>DH e lv/\SH I M K w' (C6 (kp J l pc))/\d
theorem dX{x y:Code}(h:SH I M K w J)(mod:Nat->YU)(l:H Nat)(F:σ->JD Prop)
  (o:∀s w i,match F s with|⟨f,c,d⟩=>SH I M K w (C6 (kp J l c))->d->WC P y sc n (J9 (YS mod i env) f) w)
  (g:WC P x (Exit.then (JQ n mod env I M K J l F) sc) n env w):WC P (Code.seq x y) sc n env w:=by
 refine iq ⟨wp_mono g.out λk a w h=>?_⟩;cases k with
 |normal=>
  obtain⟨s,e,rfl,j,b⟩:=h;have:=o s w e;generalize F s=q at this b;obtain⟨f,c,d⟩:=q;obtain⟨b,W,m⟩:=b;have:=this W m;rw[hav_self j,Hb _ b]at this;exact this.out
 |_=>exact h
theorem qn{mod:Nat->YU}{e:Nat->B}{l:H Nat}{F:σ->JD Prop}(s:σ)(a:Bb mod e env)(h:match F s with|⟨lv,pc,d⟩=>DH e lv/\SH I M K w (C6 (kp J l pc))/\d):JQ n mod env I M K J l F (DB n e) w:=⟨s,e,rfl,a,h⟩
def JR(n:Nat)(mod:Nat->YU)(env:Nat->B)(I:ay)(M K:BS)(J:Nat->Chunk)(l:H Nat)(F:σ->JD τ)(c:Nat)(i:Int)(al:τ->Prop):Act->ay->Prop:=λa' w'=>
 ∃s e,a'=DB n e/\Bb mod e env/\e c=.int .i64 i/\match F s with|⟨lv,pc,d⟩=>DH e lv/\SH I M K w' (C6 (kp J l pc))/\al d
theorem rn{mod:Nat->YU}{e:Nat->B}{l:H Nat}{F:σ->JD τ}{c:Nat}{i:Int}{al:τ->Prop}(s:σ)(a:Bb mod e env)(b:e c=.int .i64 i)(h:match F s with|⟨lv,pc,d⟩=>DH e lv/\SH I M K w (C6 (kp J l pc))/\al d):JR n mod env I M K J l F c i al (DB n e) w:=⟨s,e,rfl,a,b,h⟩
def rgOk(n:Nat)(mod:Nat->YU)(c t t2:Nat):YU:=mod c&&mod t&&mod t2&&mz c n&&mz t n&&mz t2 n&& !Nat.beq t c&& !Nat.beq t2 c&& !Nat.beq c t2
def lvOk(c t2:Nat):H (Nat×B)->YU
 |[]=>bh
 |(i,_)::r=> !Nat.beq i c&& !Nat.beq i t2&&lvOk c t2 r
theorem lv_keep{c t2:Nat}{u v:B}{e:Nat->B}:∀{l:H (Nat×B)},lvOk c t2 l=bh->DH e l->DH (upd (upd e t2 u) c v) l
 |[],_,_=>trivial
 |(i,x)::r,h,hh=>by
  simp only[lvOk,cS,ep]at h;refine⟨?_,lv_keep h.2 hh.2⟩;simp only[upd,h.1.1,h.1.2,Z2];exact hh.1
abbrev rgC(id1 t:Nat)(T:bk)(c:Nat)(x:bt)(T2 ty:bk)(pos:String)(af:Array hX)(b:Nat)(body:Code)(id2 t2:Nat)(T3:bk)(y:bt)(T4 ty2:bk)(pos2:String)(af2:Array hX)(ty3:bk)(pos3:String)(af3:Array hX):Code:=Code.loop (Code.seq (Code.region id1 (ar [(⟨U t,.binOp .lss T (.tmp c) x T2,ty,pos,af,bd⟩:ec)]) aw) (Code.seq (Code.cond (.tmp t) .skip (.exit b)) (Code.seq body
 (Code.region id2 (ar [(⟨U t2,.binOp .add T3 (.tmp c) y T4,ty2,pos2,af2,bd⟩:ec),⟨U c,.move (.tmp t2),ty3,pos3,af3,bd⟩]) aw))))
variable{c t t2 b id1 id2:Nat}{x y:bt}{ty ty2 ty3 T T2 T3 T4:bk}{pos pos2 pos3:String}{af af2 af3:Array hX}{body:Code}
section
variable{cnt:Int}
theorem wc_rg(F:σ->JD τ)(s0:σ)(mod:Nat->YU)(l:H Nat)(h:SH I M K w J){al:Nat->τ->Prop}(W:al 0 (F s0).d)(a4:cnt<=9223372036854775807)(j:∀s (k:Nat) (i:Int) w g,i=(k:Int)->G (i<cnt)=bh->j6 (i+1)->match F s with|⟨w0,o,d⟩=>SH I M K w (C6 (kp J l o))->al k d->WC P body (Exit.then (JR n mod env I M K J l F c i (al (k+1))) sc) n (gp (J9 (YS mod g env) ((c,.int .i64 i)::w0)) (U t) (.bool bh)) w)(Zs:∀s (k:Nat) (i:Int) w g,i=(k:Int)->G (i<cnt)=aw->match F s with|⟨w0,o,d⟩=>SH I M K w (C6 (kp J l o))->al k d->sc (.exit b) (DB n (gp (J9 (YS mod g env) ((c,.int .i64 i)::w0)) (U t) (.bool aw))) w)(hl:DH env ((c,.int .i64 0)::(F s0).lv))(X:Ra J (kp J l (F s0).pc))(hx:∀s g (i:Int),ev n (J9 (YS mod g env) ((c,.int .i64 i)::(F s).lv)) x=.int .i64 cnt)(hy:∀e,ev n e y=.int .i64 1)(hm:rgOk n mod c t t2=bh)(hn:∀s,lvOk c t2 (F s).lv=bh):
    WC P (rgC id1 t T c x T2 ty pos af b body id2 t2 T3 y T4 ty2 pos2 af2 ty3 pos3 af3) sc n env w:=by
  simp only[rgOk,cS,ep]at hm;obtain⟨⟨⟨⟨⟨⟨⟨⟨mc,mt⟩,a1⟩,cn⟩,tn⟩,R⟩,a6⟩,a3⟩,a5⟩:=hm;have f:∀(e:Nat->B) (q:Nat),mz q n=bh->ev n e (.tmp q)=e q:=λe q N=>by simp only[ev,N,Z1]
  have same:∀(e:Nat->B) (q:Nat) (v:B),gp e (U q) v q=v:=λe q v=>by simp[gp,upd,Nat.beq_refl]
  have z:∀(e:Nat->B) (v:B) (r:H (Nat×B)),J9 e ((c,v)::r) c=v:=λe v r=>by simp[J9,upd,Nat.beq_refl]
  refine I3 (σ:=σ×Nat×Int) mod (λs=>(c,.int .i64 s.2.2)::(F s.1).lv) (λs w=>SH I M K w (C6<|kp J l (F s.1).pc)/\s.2.2=(s.2.1:Int)/\al s.2.1 (F s.1).d) (λs=>cnt.toNat-s.2.1) (s0,0,0) hl ⟨h.canon _ X,Z,W⟩ ?_;rintro⟨s,k,i⟩wr g⟨h,hik,W⟩;refine iq<|gP<|aC (LB (p:=i) (q:=cnt) ?_<|hx s g i)<|ax<|bB<|iq<|wI (t:=decide<|i<cnt) ?_ (λe=>?_) λe=>?_
  · rw[f _ _ cn];exact z _ _ _
  · rw[f _ _ tn];exact same _ _ _
  · have hi:j6 (i+1):=⟨by have:=of_decide_eq_true e;simp only at hik;omega,by have:=of_decide_eq_true e;omega⟩;have u:=j s k i wr g hik e hi;have ab:=hn;have S:cnt.toNat-(k+1)<cnt.toNat-k:=by have:=of_decide_eq_true e;simp only at hik;omega
    refine dn<|bB<|iq ?_;simp only at h W;rw[e];generalize F s=q at u h W;obtain⟨w0,o,d⟩:=q;refine⟨wp_mono (u h W).out λex a w' N=>?_⟩;cases ex with
    |normal=>
      obtain⟨A,e',rfl,hA,a2,m⟩:=N;have C:=ab A;refine(gP<|aC (v:=.int .i64<|i+1) (LC (p:=i) (q:=1) ?_ (hy _) hi)<|aC (v:=.int .i64<|i+1) (fI ?_)<|ax ?_).out
      · rw[f _ _ cn];exact a2
      · rw[f _ _ R];exact same _ _ _
      · have a0:Bb mod (gp (gp e' (U t2)<|.int .i64<|i+1) (U c)<|.int .i64<|i+1) env:=Bb.os mc<|Bb.os a1 hA;refine⟨(A,k+1,i+1),_,Z,a0,⟨same _ _ _,?_⟩,⟨?_,?_,?_⟩,S⟩
        · simp only;generalize F A=q at m C;obtain⟨aq,E,d'⟩:=q;exact lv_keep C m.1
        · simp only;generalize F A=q at m;obtain⟨aq,E,d'⟩:=q;exact m.2.1
        · simp only at hik⊢;omega
        · simp only;generalize F A=q at m;obtain⟨aq,E,d'⟩:=q;exact m.2.2
    |_=>exact N
  · have u:=Zs s k i wr g hik e;simp only at h W;rw[e];generalize F s=q at u h W;obtain⟨w0,o,d⟩:=q;exact YX<|u h W
variable{Zs:H α}{KK:τ->ρ}{r:ρ}
theorem kN{aq:α->τ->(τ->ρ)->ρ}(F:σ->JD τ)(s0:σ)(mod:Nat->YU)(l:H Nat)(h:SH I M K w J)(W:vq aq KK Zs (F s0).d=r)(w0:O Zs<=9223372036854775807)(f:∀s (k:Nat) (i:Int) z nx w a,i=(k:Int)->G (i<(O Zs:Int))=bh->j6 (i+1)->Zs[k]? =U z->match F s with|⟨o,g,d⟩=>SH I M K w (C6 (kp J l g))->aq z d nx=r->WC P body (Exit.then (JR n mod env I M K J l F c i (λd=>nx d=r)) sc) n (gp (J9 (YS mod a env) ((c,.int .i64 i)::o)) (U t) (.bool bh)) w)(j:∀s (i:Int) w a,match F s with|⟨o,g,d⟩=>SH I M K w (C6 (kp J l g))->KK d=r->sc (.exit b) (DB n (gp (J9 (YS mod a env) ((c,.int .i64 i)::o)) (U t) (.bool aw))) w)(hl:DH env ((c,.int .i64 0)::(F s0).lv):=by repeat (first|exact an|refine⟨rfl,?_⟩))(p:Ra J (kp J l (F s0).pc):=by repeat (first|exact an|refine⟨rfl,?_⟩))(u:∀s a (i:Int),ev n (J9 (YS mod a env) ((c,.int .i64 i)::(F s).lv)) x=.int .i64 (O Zs:Int):=by intros;rfl)(A:∀e,ev n e y=.int .i64 1:=by intros;rfl)(C:rgOk n mod c t t2=true:=by rfl)(hn:∀s,lvOk c t2 (F s).lv=true:=by intros;rfl):
    WC P (rgC id1 t T c x T2 ty pos af b body id2 t2 T3 y T4 ty2 pos2 af2 ty3 pos3 af3) sc n env w:=by
  refine wc_rg F s0 mod l h (cnt:=(O Zs:Int)) (al:=λk d=>vq aq KK (Zs.drop k) d=r) W V ?_ ?_ hl p u A C hn
  · intro s k i w a hik e hi;obtain⟨z,E,v⟩:=X2<|hik▸e;have m:=f s k i z (vq aq KK<|Zs.drop<|k+1) w a hik e hi E;generalize F s=q at m;obtain⟨o,g,d⟩:=q;intro h W;rw[v,fQ]at W;exact m h W
  · intro s k i w a hik e;have m:=j s i w a;generalize F s=q at m;obtain⟨o,g,d⟩:=q;intro h W;rw[drop_ge (hik▸e),kJ]at W;exact m h W
theorem Bh{aq:Int->α->τ->(τ->ρ)->ρ}(F:σ->JD τ)(s0:σ)(mod:Nat->YU)(l:H Nat)(h:SH I M K w J)(W:ic aq KK 0 Zs (F s0).d=r)(w0:O Zs<=9223372036854775807)(f:∀s (k:Nat) (i:Int) z nx w a,i=(k:Int)->G (i<(O Zs:Int))=bh->j6 (i+1)->Zs[k]? =U z->match F s with|⟨o,g,d⟩=>SH I M K w (C6 (kp J l g))->aq i z d nx=r->WC P body (Exit.then (JR n mod env I M K J l F c i (λd=>nx d=r)) sc) n (gp (J9 (YS mod a env) ((c,.int .i64 i)::o)) (U t) (.bool bh)) w)(j:∀s (i:Int) w a,match F s with|⟨o,g,d⟩=>SH I M K w (C6 (kp J l g))->KK d=r->sc (.exit b) (DB n (gp (J9 (YS mod a env) ((c,.int .i64 i)::o)) (U t) (.bool aw))) w)(hl:DH env ((c,.int .i64 0)::(F s0).lv):=by repeat (first|exact an|refine⟨rfl,?_⟩))(p:Ra J (kp J l (F s0).pc):=by repeat (first|exact an|refine⟨rfl,?_⟩))(u:∀s a (i:Int),ev n (J9 (YS mod a env) ((c,.int .i64 i)::(F s).lv)) x=.int .i64 (O Zs:Int):=by intros;rfl)(A:∀e,ev n e y=.int .i64 1:=by intros;rfl)(C:rgOk n mod c t t2=true:=by rfl)(hn:∀s,lvOk c t2 (F s).lv=true:=by intros;rfl):
    WC P (rgC id1 t T c x T2 ty pos af b body id2 t2 T3 y T4 ty2 pos2 af2 ty3 pos3 af3) sc n env w:=by
  refine wc_rg F s0 mod l h (cnt:=(O Zs:Int)) (al:=λk d=>ic aq KK (k:Int) (Zs.drop k) d=r) W V ?_ ?_ hl p u A C hn
  · intro s k i w a hik e hi;obtain⟨z,E,v⟩:=X2<|hik▸e;have m:=f s k i z (ic aq KK (i+1)<|Zs.drop<|k+1) w a hik e hi E;generalize F s=q at m;obtain⟨o,g,d⟩:=q;intro h W;subst hik;rw[v,Ay]at W;exact m h W
  · intro s k i w a hik e;have m:=j s i w a;generalize F s=q at m;obtain⟨o,g,d⟩:=q;intro h W;rw[drop_ge (hik▸e),Va]at W;exact m h W
theorem wO{aq:Int->τ->(τ->ρ)->ρ}(F:σ->JD τ)(s0:σ)(mod:Nat->YU)(l:H Nat)(h:SH I M K w J)(W:Ax aq KK 0 cnt.toNat (F s0).d=r)(m:cnt<=9223372036854775807)(f:∀s (i:Int) nx w a,0<=i->G (i<cnt)=bh->j6 (i+1)->match F s with|⟨o,g,d⟩=>SH I M K w (C6 (kp J l g))->aq i d nx=r->WC P body (Exit.then (JR n mod env I M K J l F c i (λd=>nx d=r)) sc) n (gp (J9 (YS mod a env) ((c,.int .i64 i)::o)) (U t) (.bool bh)) w)(p:∀s (i:Int) w a,match F s with|⟨o,g,d⟩=>SH I M K w (C6 (kp J l g))->KK d=r->sc (.exit b) (DB n (gp (J9 (YS mod a env) ((c,.int .i64 i)::o)) (U t) (.bool aw))) w)(hl:DH env ((c,.int .i64 0)::(F s0).lv):=by repeat (first|exact an|refine⟨rfl,?_⟩))(u:Ra J (kp J l (F s0).pc):=by repeat (first|exact an|refine⟨rfl,?_⟩))(z:∀s a (i:Int),ev n (J9 (YS mod a env) ((c,.int .i64 i)::(F s).lv)) x=.int .i64 cnt:=by intros;rfl)(A:∀e,ev n e y=.int .i64 1:=by intros;rfl)(v:rgOk n mod c t t2=true:=by rfl)(hn:∀s,lvOk c t2 (F s).lv=true:=by intros;rfl):
    WC P (rgC id1 t T c x T2 ty pos af b body id2 t2 T3 y T4 ty2 pos2 af2 ty3 pos3 af3) sc n env w:=by
  refine wc_rg F s0 mod l h (cnt:=cnt) (al:=λk d=>Ax aq KK (k:Int) (cnt.toNat-k) d=r) W m ?_ ?_ hl u z A v hn
  · intro s k i w a hik e hi;have j:=f s i (Ax aq KK (i+1)<|cnt.toNat-(k+1)) w a V e hi;generalize F s=q at j;obtain⟨o,g,d⟩:=q;intro h W;subst hik;rw[upto_lt (by have:=of_decide_eq_true e;omega)]at W;exact j h W
  · intro s k i w a hik e;have j:=p s i w a;generalize F s=q at j;obtain⟨o,g,d⟩:=q;intro h W;rw[upto_ge (by have:=of_decide_eq_false e;omega)]at W;exact j h W
def JG(n:Nat)(mod:Nat->YU)(env:Nat->B)(I:ay)(M K:BS)(J:Nat->Chunk)(l:H Nat)(F:σ->JD τ)(al:τ->Prop):Act->ay->Prop:=λa' w'=>
 ∃s e,a'=DB n e/\Bb mod e env/\match F s with|⟨lv,pc,d⟩=>DH e lv/\SH I M K w' (C6 (kp J l pc))/\al d
variable{mod:Nat->YU}{e:Nat->B}{l:H Nat}{F:σ->JD τ}{al:τ->Prop}
theorem gn(s:σ)(a:Bb mod e env)(h:match F s with|⟨lv,pc,d⟩=>DH e lv/\SH I M K w (C6 (kp J l pc))/\al d):JG n mod env I M K J l F al (DB n e) w:=⟨s,e,rfl,a,h⟩
theorem F5{body:Code}{N:Nat}{aq:τ->(τ->L β)->L β}{r:β}(F:σ->JD τ)(s0:σ)(mod:Nat->YU)(l:H Nat)(h:SH I M K w J)(W:again aq N (F s0).d=U r)
    (b:∀s t w i,match F s with|⟨u,o,d⟩=>SH I M K w (C6 (kp J l o))->aq d t=U r->WC P body (Exit.then (JG n mod env I M K J l F (λd=>t d=U r)) sc) n (J9 (YS mod i env) u) w)
    (hl:DH env (F s0).lv:=by repeat (first|exact an|refine⟨rfl,?_⟩)) (j:Ra J (kp J l (F s0).pc):=by repeat (first|exact an|refine⟨rfl,?_⟩)):
    WC P (Code.loop body) sc n env w:=by
  refine I3 (σ:=σ×Nat) mod (λs=>(F s.1).lv) (λs w=>SH I M K w (C6<|kp J l (F s.1).pc)/\again aq s.2 (F s.1).d=U r) (λs=>s.2) (s0,N) hl ⟨h.canon _ j,W⟩ ?_;rintro⟨s,k⟩z i⟨h,W⟩;obtain⟨m,rfl,W⟩:=again_pos W;have p:=b s (again aq m) z i;simp only at h W;generalize F s=q at p h W;obtain⟨u,o,d⟩:=q;refine⟨wp_mono (p h W).out λy a w' v=>?_⟩;cases y with
  |normal=>
    obtain⟨g,A,rfl,x,c⟩:=v;refine⟨(g,m),A,Z,x,?_,⟨?_,?_⟩,Nat.lt_succ_self m⟩
    · simp only;generalize F g=q at c;obtain⟨e,f,d'⟩:=q;exact c.1
    · simp only;generalize F g=q at c;obtain⟨e,f,d'⟩:=q;exact c.2.1
    · simp only;generalize F g=q at c;obtain⟨e,f,d'⟩:=q;exact c.2.2
  |_=>exact v
theorem ik{F:σ->JD Prop}(s:σ)(h:match F s with|⟨_,c,d⟩=>SH I M K w (C6 (kp J l c))/\d)(a:match F s with|⟨b,_,_⟩=>DH e b:=by repeat (first|exact an|refine⟨rfl,?_⟩))(f:Bb mod e env:=by repeat (first|(with_reducible exact Bb.refl _ _)|(with_reducible exact Bb.YS _ _ _)|(with_reducible refine Bb.on ?_)|((with_reducible refine Bb.hin ?_ ?_);rfl)|(with_reducible refine Bb.un ?_)|((with_reducible refine Bb.os ?_ ?_);rfl)|((with_reducible refine Bb.uc ?_ ?_);rfl))):JQ n mod env I M K J l F (DB n e) w:=by
 refine qn s f ?_;generalize F s=q at h a;obtain⟨b,c,d⟩:=q;exact⟨a,h.1,h.2⟩
theorem rend{c:Nat}{i:Int}(s:σ)(h:match F s with|⟨_,a,d⟩=>SH I M K w (C6 (kp J l a))/\al d)(b:match F s with|⟨f,_,_⟩=>DH e f:=by repeat (first|exact an|refine⟨rfl,?_⟩))(g:Bb mod e env:=by repeat (first|(with_reducible exact Bb.refl _ _)|(with_reducible exact Bb.YS _ _ _)|(with_reducible refine Bb.on ?_)|((with_reducible refine Bb.hin ?_ ?_);rfl)|(with_reducible refine Bb.un ?_)|((with_reducible refine Bb.os ?_ ?_);rfl)|((with_reducible refine Bb.uc ?_ ?_);rfl)))(j:e c=.int .i64 i:=by rfl):JR n mod env I M K J l F c i al (DB n e) w:=by
 refine rn s g j ?_;generalize F s=q at h b;obtain⟨f,a,d⟩:=q;exact⟨b,h.1,h.2⟩
theorem gend(s:σ)(h:match F s with|⟨_,a,d⟩=>SH I M K w (C6 (kp J l a))/\al d)(b:match F s with|⟨c,_,_⟩=>DH e c:=by repeat (first|exact an|refine⟨rfl,?_⟩))(f:Bb mod e env:=by repeat (first|(with_reducible exact Bb.refl _ _)|(with_reducible exact Bb.YS _ _ _)|(with_reducible refine Bb.on ?_)|((with_reducible refine Bb.hin ?_ ?_);rfl)|(with_reducible refine Bb.un ?_)|((with_reducible refine Bb.os ?_ ?_);rfl)|((with_reducible refine Bb.uc ?_ ?_);rfl))):JG n mod env I M K J l F al (DB n e) w:=by
 refine gn s f ?_;generalize F s=q at h b;obtain⟨c,a,d⟩:=q;exact⟨b,h.1,h.2⟩
end
end
theorem qe{p:Prop}(z:p:=by
 refine D ?_;refine aL ?_;first
  |exact qn () ag ⟨hl,h.cn _,W⟩
  |exact qn _ ag ⟨hl,h.cn _,W⟩
  |exact qn (_,_) ag ⟨hl,h.cn _,W⟩
  |exact qn (_,_,_) ag ⟨hl,h.cn _,W⟩
  |exact qn (_,_,_,_) ag ⟨hl,h.cn _,W⟩
  |exact qn (_,_,_,_,_) ag ⟨hl,h.cn _,W⟩
  |exact qn (_,_,_,_,_,_) ag ⟨hl,h.cn _,W⟩
  |exact qn (_,_,_,_,_,_,_) ag ⟨hl,h.cn _,W⟩
  |exact qn (_,_,_,_,_,_,_,_) ag ⟨hl,h.cn _,W⟩):p:=z
theorem re{p:Prop}(z:p:=by
 refine D ?_;refine aL ?_;first
  |exact rn () ag Z ⟨hl,h.cn _,W⟩
  |exact rn _ ag Z ⟨hl,h.cn _,W⟩
  |exact rn (_,_) ag Z ⟨hl,h.cn _,W⟩
  |exact rn (_,_,_) ag Z ⟨hl,h.cn _,W⟩
  |exact rn (_,_,_,_) ag Z ⟨hl,h.cn _,W⟩
  |exact rn (_,_,_,_,_) ag Z ⟨hl,h.cn _,W⟩
  |exact rn (_,_,_,_,_,_) ag Z ⟨hl,h.cn _,W⟩
  |exact rn (_,_,_,_,_,_,_) ag Z ⟨hl,h.cn _,W⟩
  |exact rn (_,_,_,_,_,_,_,_) ag Z ⟨hl,h.cn _,W⟩):p:=z
theorem ge{p:Prop}(z:p:=by
 refine D ?_;refine aL ?_;first
  |exact gn () ag ⟨hl,h.cn _,W⟩
  |exact gn _ ag ⟨hl,h.cn _,W⟩
  |exact gn (_,_) ag ⟨hl,h.cn _,W⟩
  |exact gn (_,_,_) ag ⟨hl,h.cn _,W⟩
  |exact gn (_,_,_,_) ag ⟨hl,h.cn _,W⟩
  |exact gn (_,_,_,_,_) ag ⟨hl,h.cn _,W⟩
  |exact gn (_,_,_,_,_,_) ag ⟨hl,h.cn _,W⟩
  |exact gn (_,_,_,_,_,_,_) ag ⟨hl,h.cn _,W⟩
  |exact gn (_,_,_,_,_,_,_,_) ag ⟨hl,h.cn _,W⟩):p:=z
open Go Go.RowKit Go.Proofs
section
variable{P:cd}{ops:Array ec}{Zs:BS}{sc:gd->Act->ay->Prop}{fuel:Nat}{listed:Array YU}{n:Nat}{env:Nat->B}{w ws I:ay}{M K:BS}{J:Nat->Chunk}{d:L Nat}{ty:bk}{pos:String}{af:Array hX}{x y:bt}{v:B}{T:bk}
theorem kP(i:Nat)(b:bF Zs ws w){q:Nat}{vs:H B}(e:(ops[i]?,ev n env x,vs[q]?)=(U ⟨d,.extract x q,ty,pos,af,bd⟩,Value.tuple (ar vs),U v))(h:Px P ops Zs ws sc fuel (listed.setIfInBounds i bh) n (gp env d v) w)(a:(ef ops&&(fo .any ops listed i&&(dy .any ops listed).contains i))=true:=by kernel_rfl):Px P ops Zs ws sc (fuel+1) listed n env w:=by
 injection e with e1 e2;injection e2 with e2 e3;exact bA i b e1 (λ_ _=>VB e2 e3) h a
theorem rE(i:Nat)(b:bF Zs ws w){k:Int}{p:B}(hi:IxOk P T v k p)(e:(ops[i]?,ev n env x,ev n env y)=(U ⟨d,.indexAddr T x y,ty,pos,af,bd⟩,v,dd .i64 k))(h:Px P ops Zs ws sc fuel (listed.setIfInBounds i bh) n (gp env d p) w)(a:(ef ops&&(fo .any ops listed i&&(dy .any ops listed).contains i))=true:=by kernel_rfl):Px P ops Zs ws sc (fuel+1) listed n env w:=by
 injection e with e1 e2;injection e2 with e2 e3;exact bA i b e1 (λ_ _=>hi _ _ _ _ _ _ _ _ _ e2 e3) h a
theorem qZ(i:Nat)(c:bF Zs ws w){a:Addr}(e:(ops[i]?,ev n env x)=(U ⟨d,.nilCheck x,ty,pos,af,bd⟩,fc (U a)))(h:Px P ops Zs ws sc fuel (listed.setIfInBounds i bh) n (gp env d (.pointer (U a))) w)(b:(ef ops&&(fo .any ops listed i&&(dy .any ops listed).contains i))=true:=by kernel_rfl):Px P ops Zs ws sc (fuel+1) listed n env w:=by
 injection e with e1 e2;exact bA i c e1 (λ_ _=>qx e2) h b
theorem mJ(i:Nat)(h:SH I M K w J)(j s:Nat){z:B}{b o:Nat}{cs:H B}(c:One P T z)(e:(ops[i]?,(J j).own',cz J j .no s,ev n env x,cs[o]?)=(U ⟨d,.load T x,ty,pos,af,bd⟩,Zs,Chunk.blk b cs,fc (U ⟨b,o,bd⟩),U v))(a:Px P ops Zs w sc fuel (listed.setIfInBounds i bh) n (gp env d v) w)(f:(ef ops&&(fo .any ops listed i&&(dy .any ops listed).contains i))=true:=by kernel_rfl):Px P ops Zs w sc (fuel+1) listed n env w:=by
 injection e with e1 e2;injection e2 with e2 e3;injection e3 with e3 e4;injection e4 with e4 e5;subst e2;exact bA i (bF.refl _ _) e1 (λ_ a=>jr (h.Wm j Z a) s e3 c e4 e5) a f
theorem zo(i:Nat)(h:SH I M K w J)(s:Nat){z:B}{b o:Nat}{cs:H B}(c:One P T z)(e:(ops[i]?,J s,ev n env x,cs[o]?)=(U ⟨d,.load T x,ty,pos,af,bd⟩,Chunk.blk b cs,fc (U ⟨b,o,bd⟩),U v))(a:Px P ops BE w sc fuel (listed.setIfInBounds i bh) n (gp env d v) w)(f:(ef ops&&(fo .any ops listed i&&(dy .any ops listed).contains i))=true:=by kernel_rfl):Px P ops BE w sc (fuel+1) listed n env w:=by
 injection e with e1 e2;injection e2 with e2 e3;injection e3 with e3 e4;exact bA i (bF.refl _ _) e1 (λ_ a=>jr (h.grow a) s e2 c e3 e4) a f
theorem Kg(i:Nat)(h:SH I M K w J)(s:Nat){zs vs:H B}{b o:Nat}{cs:H B}(c:yV P T zs)(e:(ops[i]?,J s,ev n env x,(cs.drop o).take (O zs),O vs)=(U ⟨d,.load T x,ty,pos,af,bd⟩,Chunk.blk b cs,fc (U ⟨b,o,bd⟩),vs,O zs))(a:Px P ops BE w sc fuel (listed.setIfInBounds i bh) n (gp env d (.agg (ar vs))) w)(f:(ef ops&&(fo .any ops listed i&&(dy .any ops listed).contains i))=true:=by kernel_rfl):Px P ops BE w sc (fuel+1) listed n env w:=by
 injection e with e1 e2;injection e2 with e2 e3;injection e3 with e3 e4;injection e4 with e4 e5;exact bA i (bF.refl _ _) e1 (λ_ a=>BC (h.grow a) s e2 c e3 e4 e5) a f
end
section
variable{P:cd}{w I:ay}{M K:BS}{J:Nat->Chunk}{v:B}{α:Type}{R:uO α}{E T:bk}{sz:Nat}{l:H α}{k:Int}{a:α}
theorem SH.zR(h:SH I M K w J)(i j:Nat)(d:SliceOf P T E sz)(e:(J i,R.sz)=(Chunk.rd R v l,sz))(c:vx l k=U a):
 ∃b o cs,SH I M K w (cz J j (.pt b o cs))/\R.rd w (SH.A M J) cs a/\IxOk P T v k (.pointer (U ⟨b,o,bd⟩)):=by injection e with e1 e2;exact h.ixR i j e1 d e2 (aM c).1 (aM c).2
theorem SH.zS(h:SH I M K w J)(i j:Nat)(d:SliceOf P T E sz)(e:(J i,R.sz)=(Chunk.sr R v l,sz))(c:vx l k=U a):
 ∃b o cs,SH I M K w (cz J j (.pt b o cs))/\R.rd w (SH.A M J) cs a/\IxOk P T v k (.pointer (U ⟨b,o,bd⟩)):=by injection e with e1 e2;exact h.ixS i j e1 d e2 (aM c).1 (aM c).2
theorem SH.zO(h:SH I M K w J)(i:Nat)(d:SliceOf P T E sz)(e:(J i,R.sz)=(Chunk.own R E v l,sz))(c:vx l k=U a):
 ∃b,ob v b/\IxOk P T v k (.pointer (U ⟨b,k.toNat*sz,bd⟩)):=by injection e with e1 e2;exact h.Tn i e1 d e2 (aM c).1 (aM c).2
theorem fE{i:Nat}(hi:k=(i:Int))(h:l[i]? =U a):vx l k=U a:=by subst hi;rw[show vx l (i:Int)=l[i]? by simp[vx]];exact h
end
section
variable{P:cd}{ops:Array ec}{w:ay}{Q1:Act->Prop}{rest:H ec}{n:Nat}{env:Nat->B}{d:L Nat}{ty:bk}{pos:String}{af:Array hX}{x y:bt}{T:bk}{v:B}
theorem Cn{k:Int}{p:B}(i:IxOk P T v k p)(e:(ev n env x,ev n env y)=(v,dd .i64 k))(h:WK P ops w Q1 rest n (gp env d p)):WK P ops w Q1 (⟨d,.indexAddr T x y,ty,pos,af,bd⟩::rest) n env:=by
 injection e with e1 e2;exact eG (i _ _ _ _ _ _ _ _ _ e1 e2) h
end
section
variable{P:cd}{ops:Array ec}{sc:gd->Act->ay->Prop}{n:Nat}{env:Nat->B}{w I:ay}{rest:H ec}{d:L Nat}{ty:bk}{pos:String}{af:Array hX}{T E:bk}{M K:BS}{J:Nat->Chunk}
theorem Wr{w:ay}{A:BS}:∀xs:H Int,Oe dL w A (xs.map (dd .i64)) xs
 |[]=>trivial
 |x::xs=>⟨rfl,Wr xs⟩
theorem EN{bytes:Nat}{parts:Array (Nat×bt)}{len:Nat}(xs:H Int)(h:SH I M K w J)(i:Nat)(a:lK P T E 1 bytes)(e:((parts.toList.map λp=>(p.1,ev n env p.2)),O (xs.map (dd .i64)),ly (len*1) 16777216)=((xs.map (dd .i64)).zipIdx.map (λp=>(p.2,p.1)),len,bh))
  (k:∀w' u,SH I M K w' (cz J i (.own dL E u xs))->WL P ops sc rest n (gp env d u) w'):WL P ops sc (⟨d,.buildSlice T len parts,ty,pos,af,bd⟩::rest) n env w:=by
 injection e with e1 e2;injection e2 with e2 e3;exact uP h i a Z e1 e2 (Wr xs) e3 k
theorem w_bIG{bytes:Nat}{parts:Array (Nat×bt)}{len:Nat}(xs:H Int)(h:SH I M K w J)(i:Nat)(a:lK P T E 1 bytes)(e:((parts.toList.map λp=>(p.1,ev n env p.2)),O (xs.map (dd .i64)),ly (len*1) 16777216)=((xs.map (dd .i64)).zipIdx.map (λp=>(p.2,p.1)),len,bh))
  (k:∀w' u,SH I M K w' (cz J i (.own dL E u xs))->Grow w w'->(∀b,ob u b->w.heap.size<=b)->WL P ops sc rest n (gp env d u) w'):WL P ops sc (⟨d,.buildSlice T len parts,ty,pos,af,bd⟩::rest) n env w:=by
 injection e with e1 e2;injection e2 with e2 e3;exact oI h i a Z e1 e2 (Wr xs) e3 k
end
section
variable{w I:ay}{M K:BS}{J:Nat->Chunk}{v:B}{i:Nat}{α:Type}{R:uO α}{E:bk}{l:H α}
theorem SH.oneR(h:SH I M K w J) [Bg J v i](e:J i=.rd R v l):v.oneCell'=true:=(h.dQ i e).one
theorem SH.oneS(h:SH I M K w J) [Bg J v i](e:J i=.sr R v l):v.oneCell'=true:=(h.srAt i e).one
theorem SH.oneO(h:SH I M K w J) [Bg J v i](e:J i=.own R E v l):v.oneCell'=true:=(h.bW i e).one
end
theorem ow{p:Prop}(z:p:=by repeat (first|exact eu|refine ones_cons (by first|rfl|((conv=>lhs;arg 1;whnf);first|rfl|exact h.oneR rfl|exact h.oneS rfl|exact h.oneO rfl)) ?_)):p:=z
theorem iE{p:Prop}{α:Type}{E ZD q:α->Prop}(k:∀y,E y->ZD y->q y)(z:(∀y,E y->ZD y->q y)->p:=by
 intro k;refine D ?_;obtain⟨y,e,W⟩:=aR W;exact k y e W):p:=z k
theorem ib{p a H1 c e b d:Prop}(k1:a->H1->c)(k2:e->b->d)(z:(a->H1->c)->(e->b->d)->p:=by
 intro k1 k2;refine D ?_;exact eX W Z k1 k2):p:=z k1 k2
open Go Go.RowKit Go.Proofs
@[reducible] def RT (e:td) (K:B->Prop):Prop:=match e with| .returned v=>K v|_=>False
section
variable{P:cd}{ops:Array ec}{sc:gd->Act->ay->Prop}{n:Nat}{env:Nat->B}{w I ws:ay}{rest:H ec}{d:L Nat}{ty:bk}{pos:String}{af:Array hX}{x:bt}{M K Zs:BS}{J:Nat->Chunk}{fuel:Nat}{listed:Array YU}{f:nd}{first captured:Array B}{xs:Array bt}{ts:Array bk}{args:H B}
theorem il{R:td->ay->Prop}(i:VR P f)(a:ev n env x=.func (.func f) first captured)
  (b:first.toList++xs.toList.map (ev n env)++captured.toList=args) (c:bp P f (ar args) w R)
  (h:∀e w',R e w'->RT e λv=>WL P ops sc rest n (gp env d v) w'):
  WL P ops sc (⟨d,.call {callee:=.value x,args:=xs,argTypes:=ts},ty,pos,af,bd⟩::rest) n env w:=
 OJ i a b c (λe w' g=>by
  have:=h e w' g;cases e with
  |returned v=>exact⟨v,rfl,this⟩
  |_=>exact this.elim)
section
variable{α:Type}{R:uO α}{E:bk}{l:H α}{F:B->B}
theorem ko(a:bF Zs ws w)(h:SH I M K w J)(i:Nat)(p:VR P f)(c:ev n env x=.func (.func f) first captured)
  (j:first.toList++xs.toList.map (ev n env)++captured.toList=args) (m:bp P f (ar args) w (λe w'=>Grow w w'/\∃u,e=.returned (F u)/\dz R E w' (SH.A M J) u l/\(∀b,ob u b->w.heap.size<=b)))
  (k:∀w' u,(∀b,ob u b->ws.heap.size<=b)->bF Zs ws w'->SH I M K w' (cz J i (.own R E u l))->Px P ops Zs ws sc fuel listed n (gp env d (F u)) w'):
  WL P ops (WN P ops Zs ws sc fuel listed) [⟨d,.call {callee:=.value x,args:=xs,argTypes:=ts},ty,pos,af,bd⟩] n env w:=
 nV h i p c j m (λw' u g q o=>ax (ah (a.grow g) (k w' u (mf a q) (a.grow g) o)))
end
end
theorem uB{p q:Nat->Prop}{a b:Nat}(f:∀x,p x->x<b->q x)(h:a<=b):∀x,p x->x<a->q x:=λx c hl=>f x c (ey hl h)
theorem Wf{p q r:Nat->Prop}{a b:Nat}(g:∀x,q x->x<a->r x)(f:∀x,p x->x<b->q x)(h:a<=b):∀x,p x->x<a->r x:=λx c hl=>g x (f x c (ey hl h)) hl
section
variable{w I:ay}{M K:BS}{J:Nat->Chunk}{v:B}{i j:Nat}{α:Type}{R:uO α}{l:H α}{C:Chunk}
theorem SH.oC(h:SH I M K w J) [Bg J v j](a:J j=.rd R v l)(hi:J i=C):bX R w (λb=>M b\/C.own' b) v l:=h.outRdC i j a hi
end
theorem rz{p:Prop}(z:p:=by first|exact ek.nil|exact h.oC (i:=1) Z Z):p:=z
theorem ls{p:Prop}(z:p:=by
 first
  |refine iB Z (by(conv=>lhs;whnf);first|done|fail) ?_
  |refine fin2 Z (by(conv=>lhs;whnf);first|done|fail) (by(conv=>lhs;whnf);first|done|fail) ?_
  |refine fin3 Z (by(conv=>lhs;whnf);first|done|fail) (by(conv=>lhs;whnf);first|done|fail) (by(conv=>lhs;whnf);first|done|fail) ?_
  |refine fnct Z h Z (by(conv=>lhs;whnf);first|done|fail) rfl ?_
  |refine fin0 Z ?_
  |refine Pv Z ?_
 first|rewrite [<-Option.some.inj W]|rewrite [<-W]
 subst hK0;obtain⟨o1,o2,a⟩:=h.outSi 1 (by repeat (first|exact an|refine⟨?_,an⟩));refine⟨o2,?_⟩;repeat apply Exists.intro
 first
  |exact⟨Z,o1,a⟩
  |exact⟨Z,o1,a,rz⟩
  |exact⟨Z,o1,a,rz,rz⟩
  |exact⟨Z,o1,a,rz,rz,rz⟩
  |exact⟨Z,o1,a,rz,rz,rz,rz⟩):p:=z
end Go.LX
namespace Go.Proofs
open Go.Shelf
def Tryz.lays145_ren:Go.Shelf.Ren:=⟨fun|145=>189|220=>242|219=>263|217=>288|225=>289|224=>290|267=>291|266=>304|314=>305|n=>n,fun|9=>9|4=>4|59=>253|3=>3|5=>5|46=>249|146=>376|51=>294|n=>n,fun|1=>4|n=>n⟩
theorem Tryz.lays145:Go.Proofs.Lays.n145 cv Tryz.lays145_ren:={
 mixed:=Q
 f145:=Tryz.func189.trans (ZS U Q)
 f217:=Tryz.func288.trans (ZS U Q)
 f219:=Tryz.func263.trans (ZS U Q)
 f220:=Tryz.func242.trans (ZS U Q)
 f224:=Tryz.func290.trans (ZS U Q)
 f225:=Tryz.func289.trans (ZS U Q)
 f266:=Tryz.func304.trans (ZS U Q)
 f267:=Tryz.func291.trans (ZS U Q)
 f314:=Tryz.func305.trans (ZS U Q)
 t3:=ez
 a3:=hd
 z3:=fS
 v3:=eE
 t4:=eA
 a4:=hB
 z4:=fW
 v4:=eI
 t5:=eW
 a5:=ij
 z5:=hE
 v5:=fj
 t9:=ej
 a9:=hF
 z9:=fX
 v9:=eJ
 t46:=eL
 a46:=hO
 z46:=gi
 v46:=ff
 t51:=eM
 a51:=hP
 z51:=gj
 v51:=fg
 t59:=Tryz.underlying253
 a59:=Tryz.isAgg253
 z59:=Tryz.sizeOf253
 v59:=Tryz.zeroValue253
 t146:=se
 a146:=ud
 z146:=tA
 v146:=sE
 g1:=by kernel_rfl}
open Go.RowKit Go.Lib in
theorem Tryz.strings_Cut(s sep:ByteArray)(m:Int)(w:ay)(W:s.size<4294967281)(a:w.cell? ⟨4,0,bd⟩=U (.int .i64 m)):
 bp cv 189 #[.string s,.string sep] w λe w'=>e=.returned (.tuple #[.string ⟨ar (sy s.data.toList sep.data.toList).1⟩,.string ⟨ar (sy s.data.toList sep.data.toList).2.1⟩,.bool (sy s.data.toList sep.data.toList).2.2])/\∃n,w'=w.drewN n:=Any.strings_Cut Tryz.lays145 s sep m w W a
def Tryz.lays146_ren:Go.Shelf.Ren:=⟨fun|146=>161|221=>195|268=>245|138=>246|143=>226|195=>273|197=>274|218=>275|219=>263|260=>300|217=>288|225=>289|224=>290|267=>291|266=>304|314=>305|n=>n,fun|9=>9|31=>187|3=>3|4=>4|0=>0|105=>333|21=>21|5=>5|46=>249|119=>271|139=>383|138=>382|146=>376|51=>294|n=>n,fun|1=>4|3=>6|4=>7|n=>n⟩
theorem Tryz.lays146:Go.Proofs.Lays.n146 cv Tryz.lays146_ren:={
 mixed:=Q
 f138:=Tryz.func246.trans (ZS U Q)
 f143:=Tryz.func226.trans (ZS U Q)
 f146:=Tryz.func161.trans (ZS U Q)
 f195:=Tryz.func273.trans (ZS U Q)
 f197:=Tryz.func274.trans (ZS U Q)
 f217:=Tryz.func288.trans (ZS U Q)
 f218:=Tryz.func275.trans (ZS U Q)
 f219:=Tryz.func263.trans (ZS U Q)
 f221:=Tryz.func195.trans (ZS U Q)
 f224:=Tryz.func290.trans (ZS U Q)
 f225:=Tryz.func289.trans (ZS U Q)
 f260:=Tryz.func300.trans (ZS U Q)
 f266:=Tryz.func304.trans (ZS U Q)
 f267:=Tryz.func291.trans (ZS U Q)
 f268:=Tryz.func245.trans (ZS U Q)
 f314:=Tryz.func305.trans (ZS U Q)
 t0:=fl
 a0:=iR
 z0:=im
 v0:=fx
 t3:=ez
 a3:=hd
 z3:=fS
 v3:=eE
 t4:=eA
 a4:=hB
 z4:=fW
 v4:=eI
 t5:=eW
 a5:=ij
 z5:=hE
 v5:=fj
 t9:=ej
 a9:=hF
 z9:=fX
 v9:=eJ
 t21:=kU
 a21:=pk
 z21:=oB
 v21:=lN
 t31:=nj
 a31:=rv
 z31:=qh
 v31:=oi
 t46:=eL
 a46:=hO
 z46:=gi
 v46:=ff
 t51:=eM
 a51:=hP
 z51:=gj
 v51:=fg
 t105:=xd
 a105:=CD
 z105:=B0
 v105:=yp
 t119:=sf
 a119:=ue
 z119:=tB
 t138:=xf
 a138:=CH
 z138:=B1
 v138:=yq
 t139:=xi
 a139:=CI
 z139:=B2
 v139:=yr
 t146:=se
 a146:=ud
 z146:=tA
 v146:=sE
 g1:=Q
 g3:=Q
 g4:=by kernel_rfl}
open Go.RowKit Go.Lib in
theorem Tryz.strings_Split(s sep:ByteArray)(m:Int)(w:ay)(W:s.size<4294967281)(a:w.cell? ⟨4,0,bd⟩=U (.int .i64 m))(b:1<=sep.size):
 bp cv 161 #[.string s,.string sep] w λe w'=>
  e=.returned (.slice (U ⟨w.heap.size,0,bd⟩) (eh s sep+1) (eh s sep+1))/\w'=w.alloc (.cells (ar ((kO sep 0 (eh s sep) s).map ph)) 9):=Any.strings_Split Tryz.lays146 Q s sep m w W a b
def Tryz.laysC172_ren:Go.Shelf.Ren:=⟨fun|172=>162|244=>210|245=>211|247=>252|279=>253|280=>254|281=>255|282=>256|287=>282|316=>283|171=>187|205=>284|321=>302|322=>303|243=>238|246=>269|283=>293|284=>294|285=>295|286=>296|129=>236|317=>306|318=>307|319=>308|320=>309|337=>310|338=>311|n=>n,fun|9=>9|3=>3|75=>225|76=>226|4=>4|5=>5|167=>313|37=>36|0=>0|85=>305|2=>2|168=>314|53=>296|175=>340|46=>249|210=>344|127=>331|145=>373|143=>371|21=>21|171=>361|173=>363|212=>379|51=>294|20=>20|213=>380|232=>384|233=>385|80=>228|n=>n,fun|15=>2|16=>3|17=>5|18=>8|19=>9|n=>n⟩
theorem Tryz.laysC172:Go.Proofs.LaysC.n172 cv Tryz.laysC172_ren:={
 mixed:=Q
 f129:=Tryz.func236.trans (ZS U Q)
 f171:=Tryz.func187.trans (ZS U Q)
 f172:=Tryz.func162.trans (ZS U Q)
 f205:=Tryz.func284.trans (ZS U Q)
 f243:=Tryz.func238.trans (ZS U Q)
 f244:=Tryz.func210.trans (ZS U Q)
 f245:=Tryz.func211.trans (ZS U Q)
 f246:=Tryz.func269.trans (ZS U Q)
 f247:=Tryz.func252.trans (ZS U Q)
 f279:=Tryz.func253.trans (ZS U Q)
 f280:=Tryz.func254.trans (ZS U Q)
 f281:=Tryz.func255.trans (ZS U Q)
 f282:=Tryz.func256.trans (ZS U Q)
 f283:=Tryz.func293.trans (ZS U Q)
 f284:=Tryz.func294.trans (ZS U Q)
 f285:=Tryz.func295.trans (ZS U Q)
 f286:=Tryz.func296.trans (ZS U Q)
 f287:=Tryz.func282.trans (ZS U Q)
 f316:=Tryz.func283.trans (ZS U Q)
 f317:=Tryz.func306.trans (ZS U Q)
 f318:=Tryz.func307.trans (ZS U Q)
 f319:=Tryz.func308.trans (ZS U Q)
 f320:=Tryz.func309.trans (ZS U Q)
 f321:=Tryz.func302.trans (ZS U Q)
 f322:=Tryz.func303.trans (ZS U Q)
 f337:=Tryz.func310.trans (ZS U Q)
 f338:=Tryz.func311.trans (ZS U Q)
 t0:=fl
 a0:=iR
 z0:=im
 v0:=fx
 t2:=pb
 a2:=th
 z2:=sL
 v2:=pB
 t3:=ez
 a3:=hd
 z3:=fS
 v3:=eE
 t4:=eA
 a4:=hB
 z4:=fW
 v4:=eI
 t5:=eW
 a5:=ij
 z5:=hE
 v5:=fj
 t9:=ej
 a9:=hF
 z9:=fX
 v9:=eJ
 t20:=la
 a20:=pn
 z20:=oE
 v20:=lO
 t21:=kU
 a21:=pk
 z21:=oB
 v21:=lN
 t37:=lb
 a37:=po
 z37:=oP
 v37:=lP
 t46:=eL
 a46:=hO
 z46:=gi
 v46:=ff
 t51:=eM
 a51:=hP
 z51:=gj
 v51:=fg
 t53:=kc
 a53:=oS
 z53:=np
 v53:=ld
 t75:=sh
 a75:=ur
 z75:=tD
 v75:=sR
 t76:=xj
 a76:=CN
 z76:=B3
 v76:=yv
 t85:=xl
 a85:=CP
 z85:=B4
 v85:=yy
 t127:=sk
 a127:=uv
 z127:=tE
 v127:=sT
 t143:=sX
 a143:=CQ
 z143:=B5
 v143:=yG
 t145:=sY
 a145:=CT
 z145:=B6
 v145:=yH
 t167:=xo
 a167:=CZ
 z167:=B7
 v167:=yW
 t168:=xp
 a168:=C0
 z168:=B8
 v168:=za
 t171:=nq
 a171:=rB
 z171:=qk
 v171:=oj
 t173:=nr
 a173:=rI
 z173:=qq
 v173:=ot
 t175:=xr
 a175:=C3
 z175:=B9
 v175:=zb
 t210:=xt
 a210:=C4
 z210:=Cb
 v210:=zc
 t212:=ns
 a212:=rJ
 z212:=qs
 v212:=ov
 t213:=nt
 a213:=rK
 z213:=qt
 t232:=nv
 a232:=rL
 z232:=qu
 v232:=ox
 t233:=nw
 a233:=rN
 z233:=qv
 v233:=oy
 g15:=Q
 g16:=Q
 g17:=Q
 g18:=Q
 g19:=Q
 t80:=xv
 a80:=C5
 z80:=Cd
 v80:=zd
 i0:=Q
 i2:=Q
 i3:=Q
 i4:=Q
 i5:=Q
 i9:=Q
 i20:=Q
 i21:=Q
 i37:=Q
 i46:=Q
 i51:=Q
 i53:=Q
 i75:=Q
 i76:=Q
 i80:=Q
 i85:=Q
 i127:=Q
 i143:=Q
 i145:=Q
 i167:=Q
 i168:=Q
 i171:=Q
 i173:=Q
 i175:=Q
 i210:=Q
 i212:=Q
 i232:=Q
 i233:=Q
 m15:=Q
 m16:=Q
 m17:=Q
 m18:=Q
 m19:=Q
 c0:=Q
 c2:=Q
 c3:=Q
 c4:=Q
 c5:=Q
 c9:=Q
 c20:=Q
 c21:=Q
 c37:=Q
 c46:=Q
 c51:=Q
 c53:=Q
 c75:=Q
 c76:=Q
 c80:=Q
 c85:=Q
 c127:=Q
 c143:=Q
 c145:=Q
 c167:=Q
 c168:=Q
 c171:=Q
 c173:=Q
 c175:=Q
 c210:=Q
 c212:=Q
 c213:=Q
 c232:=Q
 c233:=by kernel_rfl}
open Go.RowKit in
theorem Tryz.strconv_Atoi_ok(s:ByteArray)(a:s.size<=9223372036854775806)(v:Int)(h:eC s.data.toList=.ok v)(w:ay):
 bp cv 162 #[.string s] w λe w'=>e=.returned (.tuple #[.int .i64 v,.nilIface])/\(w'=w\/∃t,w'=lI w 5 t):=Any.strconv_Atoi_ok Tryz.laysC172 s a v h w
open Go.RowKit in
theorem Tryz.strconv_Atoi_syntax_var(s:ByteArray)(a:s.size<=281474976710656)(e:Lib.NumEnd Int)(h:eC s.data.toList=e)(f:∀v,e≠ .ok v)(d:e≠ .range)(c:bk)(p:B)(w:ay)(b:w.var? cv "strconv.ErrSyntax" =U #[.iface c p]):
 bp cv 162 #[.string s] w λe w'=>∃N,e=.returned (.tuple #[.int .i64 0,.iface 314 (.pointer (U ⟨N,0,bd⟩))])/\w.heap.size<=N/\w'.heap[N]? =U (.cells #[.string ⟨#[65,116,111,105]⟩,.string s,.iface c p] 344 (0,0))/\Below w.heap.size w w':=Any.strconv_Atoi_syntax_var Tryz.laysC172 s a (by cases e with|ok v=>exact ZL Z (f v)|range=>exact ZL Z d|_=>exact h) c p w b
open Go.RowKit in
theorem Tryz.strconv_Atoi_range_var(s:ByteArray)(a:s.size<=281474976710656)(h:eC s.data.toList=.range)(c:bk)(p:B)(w:ay)(b:w.var? cv "strconv.ErrRange" =U #[.iface c p]):
 bp cv 162 #[.string s] w λe w'=>∃N,e=.returned (.tuple #[.int .i64 (Lib.atoiSat s.data.toList),.iface 314 (.pointer (U ⟨N,0,bd⟩))])/\w.heap.size<=N/\w'.heap[N]? =U (.cells #[.string ⟨#[65,116,111,105]⟩,.string s,.iface c p] 344 (0,0))/\Below w.heap.size w w':=Any.strconv_Atoi_range_var Tryz.laysC172 s a h c p w b
def Tryz.laysM171_ren:Go.Shelf.Ren:=⟨fun|171=>187|243=>238|246=>269|283=>293|284=>294|285=>295|286=>296|129=>236|317=>306|318=>307|319=>308|320=>309|337=>310|338=>311|n=>n,fun|3=>3|9=>9|2=>2|4=>4|171=>361|0=>0|53=>296|37=>36|5=>5|173=>363|212=>379|51=>294|20=>20|213=>380|46=>249|232=>384|233=>385|n=>n,fun|17=>5|18=>8|19=>9|n=>n⟩
theorem Tryz.laysM171:Go.Proofs.LaysM.n171 cv Tryz.laysM171_ren:={
 mixed:=Q
 f129:=Tryz.func236.trans (ZS U Q)
 f171:=Tryz.func187.trans (ZS U Q)
 f243:=Tryz.func238.trans (ZS U Q)
 f246:=Tryz.func269.trans (ZS U Q)
 f283:=Tryz.func293.trans (ZS U Q)
 f284:=Tryz.func294.trans (ZS U Q)
 f285:=Tryz.func295.trans (ZS U Q)
 f286:=Tryz.func296.trans (ZS U Q)
 f317:=Tryz.func306.trans (ZS U Q)
 f318:=Tryz.func307.trans (ZS U Q)
 f319:=Tryz.func308.trans (ZS U Q)
 f320:=Tryz.func309.trans (ZS U Q)
 f337:=Tryz.func310.trans (ZS U Q)
 f338:=Tryz.func311.trans (ZS U Q)
 t0:=fl
 a0:=iR
 z0:=im
 v0:=fx
 t2:=pb
 a2:=th
 z2:=sL
 v2:=pB
 t3:=ez
 a3:=hd
 z3:=fS
 v3:=eE
 t4:=eA
 a4:=hB
 z4:=fW
 v4:=eI
 t5:=eW
 a5:=ij
 z5:=hE
 v5:=fj
 t9:=ej
 a9:=hF
 z9:=fX
 v9:=eJ
 t20:=la
 a20:=pn
 z20:=oE
 v20:=lO
 t37:=lb
 a37:=po
 z37:=oP
 v37:=lP
 t46:=eL
 a46:=hO
 z46:=gi
 v46:=ff
 t51:=eM
 a51:=hP
 z51:=gj
 v51:=fg
 t53:=kc
 a53:=oS
 z53:=np
 v53:=ld
 t171:=nq
 a171:=rB
 z171:=qk
 v171:=oj
 t173:=nr
 a173:=rI
 z173:=qq
 v173:=ot
 t212:=ns
 a212:=rJ
 z212:=qs
 v212:=ov
 t213:=nt
 a213:=rK
 z213:=qt
 t232:=nv
 a232:=rL
 z232:=qu
 v232:=ox
 t233:=nw
 a233:=rN
 z233:=qv
 v233:=oy
 g17:=Q
 g18:=Q
 g19:=Q
 i0:=Q
 i2:=Q
 i3:=Q
 i4:=Q
 i5:=Q
 i9:=Q
 i20:=Q
 i37:=Q
 i46:=Q
 i51:=Q
 i53:=Q
 i171:=Q
 i173:=Q
 i212:=Q
 i232:=Q
 i233:=Q
 m17:=Q
 m18:=Q
 m19:=by kernel_rfl}
open Go.RowKit Go.Sort Go.Lib in
theorem Tryz.strconv_Itoa(n:Int)(b: -9223372036854775808<=n)(c:n<=9223372036854775807)(w:ay)(a:pH cv w "internal/strconv.uint64pow10" .u64 Lib.pow10Tab):
 bp cv 187 #[.int .i64 n] w λe w'=>e=.returned (.string ⟨ar (Lib.itoa n)⟩)/\∃k os,w'=grow (w.drewN k) os:=Any.strconv_Itoa Tryz.laysM171 n b c w a
def Tryz.lays156_ren:Go.Shelf.Ren:=⟨fun|156=>188|165=>239|166=>240|169=>241|240=>270|241=>271|276=>297|277=>298|n=>n,fun|31=>187|9=>9|3=>3|4=>4|0=>0|20=>20|72=>301|76=>226|70=>299|37=>36|75=>225|127=>331|164=>365|5=>5|80=>228|n=>n,fun|n=>n⟩
theorem Tryz.lays156:Go.Proofs.Lays.n156 cv Tryz.lays156_ren:={
 mixed:=Q
 f156:=Tryz.func188.trans (ZS U Q)
 f165:=Tryz.func239.trans (ZS U Q)
 f166:=Tryz.func240.trans (ZS U Q)
 f169:=Tryz.func241.trans (ZS U Q)
 f240:=Tryz.func270.trans (ZS U Q)
 f241:=Tryz.func271.trans (ZS U Q)
 f276:=Tryz.func297.trans (ZS U Q)
 f277:=Tryz.func298.trans (ZS U Q)
 t0:=fl
 a0:=iR
 z0:=im
 v0:=fx
 t3:=ez
 a3:=hd
 z3:=fS
 v3:=eE
 t4:=eA
 a4:=hB
 z4:=fW
 v4:=eI
 t9:=ej
 a9:=hF
 z9:=fX
 v9:=eJ
 t20:=la
 a20:=pn
 z20:=oE
 v20:=lO
 t31:=nj
 a31:=rv
 z31:=qh
 v31:=oi
 t37:=lb
 a37:=po
 z37:=oP
 v37:=lP
 t70:=Tryz.underlying299
 a70:=Tryz.isAgg299
 z70:=Tryz.sizeOf299
 v70:=Tryz.zeroValue299
 t72:=Tryz.underlying301
 a72:=Tryz.isAgg301
 z72:=Tryz.sizeOf301
 v72:=Tryz.zeroValue301
 t75:=sh
 a75:=ur
 z75:=tD
 v75:=sR
 t76:=xj
 a76:=CN
 z76:=B3
 v76:=yv
 t127:=sk
 a127:=uv
 z127:=tE
 v127:=sT
 t164:=Tryz.underlying365
 a164:=Tryz.isAgg365
 z164:=Tryz.sizeOf365
 v164:=Tryz.zeroValue365}
theorem Tryz.Oo:Builder.Extra cv Tryz.lays156_ren:={
 sizeBuilder:=Q
 liesBuilder:=Q
 t5:=eW
 a5:=ij
 z5:=hE
 v5:=fj
 infoByte:=Q
 cellsByte:=Q
 sizeByte:=Q
 neB5:=by decide}
open Go.RowKit in
theorem Tryz.strings_Join_none(a:L Addr)(c:Nat)(sep:ByteArray)(w:ay):
 bp cv 188 #[.slice a 0 c,.string sep] w λe w'=>e=.returned (.string ⟨#[]⟩)/\w'=w:=Any.strings_Join_none Tryz.lays156 Tryz.Oo a c sep w
open Go.RowKit in
theorem Tryz.strings_Join(f o c:Nat)(xs:H ByteArray)(sep:ByteArray)(w:ay)(a:∀(j:Nat) x,xs[j]? =U x->w.cell? ⟨f,o+j,bd⟩=U (.string x))(g:f<w.heap.size)(hN:O xs<=140737488355328)(b:O xs<=c)(d:O (Lib.join (xs.map (·.data.toList)) sep.data.toList)<=140737488355328):
    bp cv 188 #[.slice (U ⟨f,o,bd⟩) (O xs) c,.string sep] w λe w'=>e=.returned (.string ⟨ar (Lib.join (xs.map (·.data.toList)) sep.data.toList)⟩)/\Below w.heap.size w w':=Any.strings_Join Tryz.lays156 Tryz.Oo f o c xs sep w a g hN b d
def Tryz.lays221_ren:Go.Shelf.Ren:=⟨fun|221=>195|268=>245|138=>246|143=>226|195=>273|197=>274|218=>275|219=>263|260=>300|217=>288|225=>289|224=>290|267=>291|266=>304|314=>305|n=>n,fun|9=>9|3=>3|31=>187|4=>4|0=>0|105=>333|21=>21|5=>5|46=>249|119=>271|139=>383|138=>382|146=>376|51=>294|n=>n,fun|1=>4|3=>6|4=>7|n=>n⟩
theorem Tryz.lays221:Go.Proofs.Lays.n221 cv Tryz.lays221_ren:={
 mixed:=Q
 f138:=Tryz.func246.trans (ZS U Q)
 f143:=Tryz.func226.trans (ZS U Q)
 f195:=Tryz.func273.trans (ZS U Q)
 f197:=Tryz.func274.trans (ZS U Q)
 f217:=Tryz.func288.trans (ZS U Q)
 f218:=Tryz.func275.trans (ZS U Q)
 f219:=Tryz.func263.trans (ZS U Q)
 f221:=Tryz.func195.trans (ZS U Q)
 f224:=Tryz.func290.trans (ZS U Q)
 f225:=Tryz.func289.trans (ZS U Q)
 f260:=Tryz.func300.trans (ZS U Q)
 f266:=Tryz.func304.trans (ZS U Q)
 f267:=Tryz.func291.trans (ZS U Q)
 f268:=Tryz.func245.trans (ZS U Q)
 f314:=Tryz.func305.trans (ZS U Q)
 t0:=fl
 a0:=iR
 z0:=im
 v0:=fx
 t3:=ez
 a3:=hd
 z3:=fS
 v3:=eE
 t4:=eA
 a4:=hB
 z4:=fW
 v4:=eI
 t5:=eW
 a5:=ij
 z5:=hE
 v5:=fj
 t9:=ej
 a9:=hF
 z9:=fX
 v9:=eJ
 t21:=kU
 a21:=pk
 z21:=oB
 v21:=lN
 t31:=nj
 a31:=rv
 z31:=qh
 v31:=oi
 t46:=eL
 a46:=hO
 z46:=gi
 v46:=ff
 t51:=eM
 a51:=hP
 z51:=gj
 v51:=fg
 t105:=xd
 a105:=CD
 z105:=B0
 v105:=yp
 t119:=sf
 a119:=ue
 z119:=tB
 t138:=xf
 a138:=CH
 z138:=B1
 v138:=yq
 t139:=xi
 a139:=CI
 z139:=B2
 v139:=yr
 t146:=se
 a146:=ud
 z146:=tA
 v146:=sE
 g1:=Q
 g3:=Q
 g4:=by kernel_rfl}
open Go.RowKit Go.Lib in
theorem Tryz.strings_genSplit(s sep:ByteArray)(a:Nat)(n:Int)(N:Nat)(m:Int)(w:ay)(W:s.size<4294967281)(f:w.cell? ⟨4,0,bd⟩=U (.int .i64 m))(g:1<=sep.size)(d:a<=sep.size)(c:n≠0)(b:n<=9223372036854775807)(hN:(N:Int)=min (if n<0 then(eh s sep:Int)+1 else n) ((s.size:Int)+1)):
 bp cv 195 #[.string s,.string sep,.int .i64 a,.int .i64 n] w λe w'=>
  e=.returned (.slice (U ⟨w.heap.size,0,bd⟩) (O (kO sep a (N-1) s)) N)/\w'=w.alloc (.cells (Lib.cellsOf (kO sep a (N-1) s) N) 9):=Any.strings_genSplit Tryz.lays221 Q s sep a n N m w W f g d c b hN
def Tryz.lays100_ren:Go.Shelf.Ren:=⟨fun|100=>131|207=>196|n=>n,fun|9=>9|4=>4|3=>3|n=>n,fun|n=>n⟩
theorem Tryz.lays100:Go.Proofs.Lays.n100 cv Tryz.lays100_ren:={
 mixed:=Q
 f100:=Tryz.func131.trans (ZS U Q)
 f207:=Tryz.func196.trans (ZS U Q)
 t3:=ez
 a3:=hd
 z3:=fS
 v3:=eE
 t4:=eA
 a4:=hB
 z4:=fW
 v4:=eI
 t9:=ej
 a9:=hF
 z9:=fX
 v9:=eJ}
open Go.RowKit Go.Lib in
theorem Tryz.strings_HasSuffix(s p:ByteArray)(w:ay)(W:s.size<=9223372036854775807):
 bp cv 131 #[.string s,.string p] w λe w'=>e=.returned (.bool (uI s.data.toList p.data.toList))/\w'=w:=Any.strings_HasSuffix Tryz.lays100 s p w W
def Tryz.laysC174_ren:Go.Shelf.Ren:=⟨fun|174=>247|247=>252|245=>211|287=>282|279=>253|280=>254|281=>255|282=>256|321=>302|322=>303|316=>283|171=>187|205=>284|243=>238|246=>269|283=>293|284=>294|285=>295|286=>296|129=>236|317=>306|318=>307|319=>308|320=>309|337=>310|338=>311|n=>n,fun|9=>9|3=>3|2=>2|75=>225|85=>305|4=>4|167=>313|5=>5|53=>296|175=>340|46=>249|168=>314|37=>36|0=>0|210=>344|21=>21|127=>331|145=>373|143=>371|171=>361|173=>363|212=>379|51=>294|20=>20|213=>380|232=>384|233=>385|80=>228|n=>n,fun|15=>2|16=>3|17=>5|18=>8|19=>9|n=>n⟩
theorem Tryz.laysC174:Go.Proofs.LaysC.n174 cv Tryz.laysC174_ren:={
 mixed:=Q
 f129:=Tryz.func236.trans (ZS U Q)
 f171:=Tryz.func187.trans (ZS U Q)
 f174:=Tryz.func247.trans (ZS U Q)
 f205:=Tryz.func284.trans (ZS U Q)
 f243:=Tryz.func238.trans (ZS U Q)
 f245:=Tryz.func211.trans (ZS U Q)
 f246:=Tryz.func269.trans (ZS U Q)
 f247:=Tryz.func252.trans (ZS U Q)
 f279:=Tryz.func253.trans (ZS U Q)
 f280:=Tryz.func254.trans (ZS U Q)
 f281:=Tryz.func255.trans (ZS U Q)
 f282:=Tryz.func256.trans (ZS U Q)
 f283:=Tryz.func293.trans (ZS U Q)
 f284:=Tryz.func294.trans (ZS U Q)
 f285:=Tryz.func295.trans (ZS U Q)
 f286:=Tryz.func296.trans (ZS U Q)
 f287:=Tryz.func282.trans (ZS U Q)
 f316:=Tryz.func283.trans (ZS U Q)
 f317:=Tryz.func306.trans (ZS U Q)
 f318:=Tryz.func307.trans (ZS U Q)
 f319:=Tryz.func308.trans (ZS U Q)
 f320:=Tryz.func309.trans (ZS U Q)
 f321:=Tryz.func302.trans (ZS U Q)
 f322:=Tryz.func303.trans (ZS U Q)
 f337:=Tryz.func310.trans (ZS U Q)
 f338:=Tryz.func311.trans (ZS U Q)
 t0:=fl
 a0:=iR
 z0:=im
 v0:=fx
 t2:=pb
 a2:=th
 z2:=sL
 v2:=pB
 t3:=ez
 a3:=hd
 z3:=fS
 v3:=eE
 t4:=eA
 a4:=hB
 z4:=fW
 v4:=eI
 t5:=eW
 a5:=ij
 z5:=hE
 v5:=fj
 t9:=ej
 a9:=hF
 z9:=fX
 v9:=eJ
 t20:=la
 a20:=pn
 z20:=oE
 v20:=lO
 t21:=kU
 a21:=pk
 z21:=oB
 v21:=lN
 t37:=lb
 a37:=po
 z37:=oP
 v37:=lP
 t46:=eL
 a46:=hO
 z46:=gi
 v46:=ff
 t51:=eM
 a51:=hP
 z51:=gj
 v51:=fg
 t53:=kc
 a53:=oS
 z53:=np
 v53:=ld
 t75:=sh
 a75:=ur
 z75:=tD
 v75:=sR
 t85:=xl
 a85:=CP
 z85:=B4
 v85:=yy
 t127:=sk
 a127:=uv
 z127:=tE
 v127:=sT
 t143:=sX
 a143:=CQ
 z143:=B5
 v143:=yG
 t145:=sY
 a145:=CT
 z145:=B6
 v145:=yH
 t167:=xo
 a167:=CZ
 z167:=B7
 v167:=yW
 t168:=xp
 a168:=C0
 z168:=B8
 v168:=za
 t171:=nq
 a171:=rB
 z171:=qk
 v171:=oj
 t173:=nr
 a173:=rI
 z173:=qq
 v173:=ot
 t175:=xr
 a175:=C3
 z175:=B9
 v175:=zb
 t210:=xt
 a210:=C4
 z210:=Cb
 v210:=zc
 t212:=ns
 a212:=rJ
 z212:=qs
 v212:=ov
 t213:=nt
 a213:=rK
 z213:=qt
 t232:=nv
 a232:=rL
 z232:=qu
 v232:=ox
 t233:=nw
 a233:=rN
 z233:=qv
 v233:=oy
 g15:=Q
 g16:=Q
 g17:=Q
 g18:=Q
 g19:=Q
 t80:=xv
 a80:=C5
 z80:=Cd
 v80:=zd
 i0:=Q
 i2:=Q
 i3:=Q
 i4:=Q
 i5:=Q
 i9:=Q
 i20:=Q
 i21:=Q
 i37:=Q
 i46:=Q
 i51:=Q
 i53:=Q
 i75:=Q
 i80:=Q
 i85:=Q
 i127:=Q
 i143:=Q
 i145:=Q
 i167:=Q
 i168:=Q
 i171:=Q
 i173:=Q
 i175:=Q
 i210:=Q
 i212:=Q
 i232:=Q
 i233:=Q
 m15:=Q
 m16:=Q
 m17:=Q
 m18:=Q
 m19:=Q
 c0:=Q
 c2:=Q
 c3:=Q
 c4:=Q
 c5:=Q
 c9:=Q
 c20:=Q
 c21:=Q
 c37:=Q
 c46:=Q
 c51:=Q
 c53:=Q
 c75:=Q
 c80:=Q
 c85:=Q
 c127:=Q
 c143:=Q
 c145:=Q
 c167:=Q
 c168:=Q
 c171:=Q
 c173:=Q
 c175:=Q
 c210:=Q
 c212:=Q
 c213:=Q
 c232:=Q
 c233:=by kernel_rfl}
open Go.RowKit in
theorem Tryz.strconv_ParseInt_10_at64_ok(s:ByteArray)(a:s.size<=9223372036854775806)(v:Int)(h:kl 64 s.data.toList=.ok v)(w:ay):
 bp cv 247 #[.string s,.int .i64 10,.int .i64 64] w λe w'=>e=.returned (.tuple #[.int .i64 v,.nilIface])/\(w'=w\/∃t,w'=lI w 5 t):=Any.strconv_ParseInt_10_at64_ok Tryz.laysC174 s a v h w
open Go.RowKit in
theorem Tryz.strconv_ParseInt_10_at64_syntax_var(s:ByteArray)(a:s.size<=281474976710656)(e:Lib.NumEnd Int)(h:kl 64 s.data.toList=e)(f:∀v,e≠ .ok v)(d:e≠ .range)(c:bk)(p:B)(w:ay)(b:w.var? cv "strconv.ErrSyntax" =U #[.iface c p]):
 bp cv 247 #[.string s,.int .i64 10,.int .i64 64] w λe w'=>∃N,e=.returned (.tuple #[.int .i64 (0),.iface 314 (.pointer (U ⟨N,0,bd⟩))])/\w.heap.size<=N/\w'.heap[N]? =U (.cells #[.string ⟨#[80,97,114,115,101,73,110,116]⟩,.string s,.iface c p] 344 (0,0))/\Below w.heap.size w w':=Any.strconv_ParseInt_10_at64_syntax_var Tryz.laysC174 s a (by cases e with|ok v=>exact ZL Z (f v)|range=>exact ZL Z d|_=>exact h) c p w b
open Go.RowKit in
theorem Tryz.strconv_ParseInt_10_at64_range_var(s:ByteArray)(a:s.size<=281474976710656)(h:kl 64 s.data.toList=.range)(c:bk)(p:B)(w:ay)(b:w.var? cv "strconv.ErrRange" =U #[.iface c p]):
 bp cv 247 #[.string s,.int .i64 10,.int .i64 64] w λe w'=>∃N,e=.returned (.tuple #[.int .i64 (Lib.intSat 64 s.data.toList),.iface 314 (.pointer (U ⟨N,0,bd⟩))])/\w.heap.size<=N/\w'.heap[N]? =U (.cells #[.string ⟨#[80,97,114,115,101,73,110,116]⟩,.string s,.iface c p] 344 (0,0))/\Below w.heap.size w w':=Any.strconv_ParseInt_10_at64_range_var Tryz.laysC174 s a h c p w b
def Tryz.laysM173_ren:Go.Shelf.Ren:=⟨fun|173=>248|246=>269|283=>293|284=>294|285=>295|286=>296|129=>236|317=>306|318=>307|319=>308|320=>309|337=>310|338=>311|n=>n,fun|2=>2|3=>3|9=>9|4=>4|171=>361|0=>0|53=>296|37=>36|5=>5|173=>363|212=>379|51=>294|20=>20|213=>380|46=>249|232=>384|233=>385|n=>n,fun|17=>5|18=>8|19=>9|n=>n⟩
theorem Tryz.laysM173:Go.Proofs.LaysM.n173 cv Tryz.laysM173_ren:={
 mixed:=Q
 f129:=Tryz.func236.trans (ZS U Q)
 f173:=Tryz.func248.trans (ZS U Q)
 f246:=Tryz.func269.trans (ZS U Q)
 f283:=Tryz.func293.trans (ZS U Q)
 f284:=Tryz.func294.trans (ZS U Q)
 f285:=Tryz.func295.trans (ZS U Q)
 f286:=Tryz.func296.trans (ZS U Q)
 f317:=Tryz.func306.trans (ZS U Q)
 f318:=Tryz.func307.trans (ZS U Q)
 f319:=Tryz.func308.trans (ZS U Q)
 f320:=Tryz.func309.trans (ZS U Q)
 f337:=Tryz.func310.trans (ZS U Q)
 f338:=Tryz.func311.trans (ZS U Q)
 t0:=fl
 a0:=iR
 z0:=im
 v0:=fx
 t2:=pb
 a2:=th
 z2:=sL
 v2:=pB
 t3:=ez
 a3:=hd
 z3:=fS
 v3:=eE
 t4:=eA
 a4:=hB
 z4:=fW
 v4:=eI
 t5:=eW
 a5:=ij
 z5:=hE
 v5:=fj
 t9:=ej
 a9:=hF
 z9:=fX
 v9:=eJ
 t20:=la
 a20:=pn
 z20:=oE
 v20:=lO
 t37:=lb
 a37:=po
 z37:=oP
 v37:=lP
 t46:=eL
 a46:=hO
 z46:=gi
 v46:=ff
 t51:=eM
 a51:=hP
 z51:=gj
 v51:=fg
 t53:=kc
 a53:=oS
 z53:=np
 v53:=ld
 t171:=nq
 a171:=rB
 z171:=qk
 v171:=oj
 t173:=nr
 a173:=rI
 z173:=qq
 v173:=ot
 t212:=ns
 a212:=rJ
 z212:=qs
 v212:=ov
 t213:=nt
 a213:=rK
 z213:=qt
 t232:=nv
 a232:=rL
 z232:=qu
 v232:=ox
 t233:=nw
 a233:=rN
 z233:=qv
 v233:=oy
 g17:=Q
 g18:=Q
 g19:=Q
 i0:=Q
 i2:=Q
 i3:=Q
 i4:=Q
 i5:=Q
 i9:=Q
 i20:=Q
 i37:=Q
 i46:=Q
 i51:=Q
 i53:=Q
 i171:=Q
 i173:=Q
 i212:=Q
 i232:=Q
 i233:=Q
 m17:=Q
 m18:=Q
 m19:=by kernel_rfl}
open Go.RowKit Go.Sort Go.Lib in
theorem Tryz.strconv_FormatInt_10(n:Int)(b: -9223372036854775808<=n)(c:n<=9223372036854775807)(w:ay)(a:pH cv w "internal/strconv.uint64pow10" .u64 Lib.pow10Tab):
 bp cv 248 #[.int .i64 n,.int .i64 10] w λe w'=>e=.returned (.string ⟨ar (Lib.itoa n)⟩)/\∃k os,w'=grow (w.drewN k) os:=Any.strconv_FormatInt_10 Tryz.laysM173 n b c w a
def Tryz.lays157_ren:Go.Shelf.Ren:=⟨fun|157=>171|229=>213|199=>214|261=>258|311=>285|312=>286|n=>n,fun|9=>9|31=>187|3=>3|5=>5|4=>4|119=>271|0=>0|40=>273|152=>317|21=>21|154=>319|51=>294|141=>321|196=>349|193=>346|198=>352|49=>350|194=>347|201=>355|226=>374|46=>249|227=>375|n=>n,fun|0=>0|6=>1|n=>n⟩
theorem Tryz.lays157:Go.Proofs.Lays.n157 cv Tryz.lays157_ren:={
 mixed:=Q
 f157:=Tryz.func171.trans (ZS U Q)
 f199:=Tryz.func214.trans (ZS U Q)
 f229:=Tryz.func213.trans (ZS U Q)
 f261:=Tryz.func258.trans (ZS U Q)
 f311:=Tryz.func285.trans (ZS U Q)
 f312:=Tryz.func286.trans (ZS U Q)
 t0:=fl
 a0:=iR
 z0:=im
 v0:=fx
 t3:=ez
 a3:=hd
 z3:=fS
 v3:=eE
 t4:=eA
 a4:=hB
 z4:=fW
 v4:=eI
 t5:=eW
 a5:=ij
 z5:=hE
 v5:=fj
 t9:=ej
 a9:=hF
 z9:=fX
 v9:=eJ
 t21:=kU
 a21:=pk
 z21:=oB
 v21:=lN
 t31:=nj
 a31:=rv
 z31:=qh
 v31:=oi
 t40:=Tryz.underlying273
 a40:=Tryz.isAgg273
 z40:=Tryz.sizeOf273
 v40:=Tryz.zeroValue273
 t46:=eL
 a46:=hO
 z46:=gi
 v46:=ff
 t49:=Tryz.underlying350
 a49:=Tryz.isAgg350
 z49:=Tryz.sizeOf350
 v49:=Tryz.zeroValue350
 t51:=eM
 a51:=hP
 z51:=gj
 v51:=fg
 t119:=sf
 a119:=ue
 z119:=tB
 t141:=Tryz.underlying321
 a141:=Tryz.isAgg321
 z141:=Tryz.sizeOf321
 v141:=Tryz.zeroValue321
 t152:=Tryz.underlying317
 a152:=Tryz.isAgg317
 z152:=Tryz.sizeOf317
 v152:=Tryz.zeroValue317
 t154:=Tryz.underlying319
 a154:=Tryz.isAgg319
 z154:=Tryz.sizeOf319
 v154:=Tryz.zeroValue319
 t193:=Tryz.underlying346
 a193:=Tryz.isAgg346
 z193:=Tryz.sizeOf346
 v193:=Tryz.zeroValue346
 t194:=Tryz.underlying347
 a194:=Tryz.isAgg347
 z194:=Tryz.sizeOf347
 v194:=Tryz.zeroValue347
 t196:=Tryz.underlying349
 a196:=Tryz.isAgg349
 z196:=Tryz.sizeOf349
 v196:=Tryz.zeroValue349
 t198:=Tryz.underlying352
 a198:=Tryz.isAgg352
 z198:=Tryz.sizeOf352
 v198:=Tryz.zeroValue352
 t201:=Tryz.underlying355
 a201:=Tryz.isAgg355
 z201:=Tryz.sizeOf355
 v201:=Tryz.zeroValue355
 t226:=Tryz.underlying374
 a226:=Tryz.isAgg374
 z226:=Tryz.sizeOf374
 v226:=Tryz.zeroValue374
 t227:=Tryz.underlying375
 a227:=Tryz.isAgg375
 z227:=Tryz.sizeOf375
 v227:=Tryz.zeroValue375
 g0:=Q
 g6:=by kernel_rfl}
open Go.RowKit Go.Lib in
theorem Tryz.strings_Fields(s:ByteArray)(w:ay)(W:s.size<4294967281)(a:∀(j:Nat) b,s.data.toList[j]? =U b->b.toNat<128)(c:pH cv w "strings.asciiSpace" .u8 zw):
 bp cv 171 #[.string s] w λe w'=>
  e=.returned (.slice (U ⟨w.heap.size,0,bd⟩) (O (gx s.data.toList)) (O (gx s.data.toList)))/\w'=w.alloc (.cells ((gx s.data.toList).map λl=>ph ⟨ar l⟩).toArray 9):=Any.strings_Fields Tryz.lays157 Q Q s w W a c
def Tryz.sortCo_ren:Go.Shelf.Ren:=⟨fun|6=>125|15=>185|14=>184|28=>235|29=>236|20=>227|21=>228|22=>229|23=>230|24=>231|25=>232|26=>233|27=>234|46=>264|47=>265|48=>266|49=>267|50=>268|57=>292|n=>n,fun|22=>35|24=>75|25=>184|3=>3|39=>249|0=>0|53=>294|55=>296|4=>4|46=>288|45=>287|50=>274|5=>5|9=>9|66=>325|70=>329|76=>358|77=>359|n=>n,fun|n=>n⟩
theorem Tryz.sortCo:Go.Proofs.SlLaysF0.n6 cv Tryz.sortCo_ren:={
 mixed:=by kernel_rfl,
 f6:=⟨Tryz.f125.name,by decide,Tryz.func125.trans (ZS U Q)⟩,
 f14:=⟨Tryz.f184.name,by decide,Tryz.func184.trans (ZS U Q)⟩,
 f15:=Tryz.func185.trans (ZS U Q),
 f20:=⟨Tryz.f227.name,by decide,Tryz.func227.trans (ZS U Q)⟩,
 f21:=⟨Tryz.f228.name,by decide,Tryz.func228.trans (ZS U Q)⟩,
 f22:=⟨Tryz.f229.name,by decide,Tryz.func229.trans (ZS U Q)⟩,
 f23:=⟨Tryz.f230.name,by decide,Tryz.func230.trans (ZS U Q)⟩,
 f24:=⟨Tryz.f231.name,by decide,Tryz.func231.trans (ZS U Q)⟩,
 f25:=⟨Tryz.f232.name,by decide,Tryz.func232.trans (ZS U Q)⟩,
 f26:=⟨Tryz.f233.name,by decide,Tryz.func233.trans (ZS U Q)⟩,
 f27:=⟨Tryz.f234.name,by decide,Tryz.func234.trans (ZS U Q)⟩,
 f28:=Tryz.func235.trans (ZS U Q),
 f29:=Tryz.func236.trans (ZS U Q),
 f46:=⟨Tryz.f264.name,by decide,Tryz.func264.trans (ZS U Q)⟩,
 f47:=Tryz.func265.trans (ZS U Q),
 f48:=Tryz.func266.trans (ZS U Q),
 f49:=⟨Tryz.f267.name,by decide,Tryz.func267.trans (ZS U Q)⟩,
 f50:=⟨Tryz.f268.name,by decide,Tryz.func268.trans (ZS U Q)⟩,
 f57:=⟨Tryz.f292.name,by decide,Tryz.func292.trans (ZS U Q)⟩,
 t0:=fl,
 a0:=iR,
 z0:=im,
 v0:=fx,
 t3:=ez,
 a3:=hd,
 z3:=fS,
 v3:=eE,
 t4:=eA,
 a4:=hB,
 z4:=fW,
 v4:=eI,
 t5:=eW,
 a5:=ij,
 z5:=hE,
 v5:=fj,
 t9:=ej,
 a9:=hF,
 z9:=fX,
 v9:=eJ,
 t22:=Tryz.underlying35,
 a22:=Tryz.isAgg35,
 z22:=Tryz.sizeOf35,
 v22:=Tryz.zeroValue35,
 t25:=Tryz.underlying184,
 a25:=Tryz.isAgg184,
 z25:=Tryz.sizeOf184,
 v25:=Tryz.zeroValue184,
 t39:=eL,
 a39:=hO,
 z39:=gi,
 v39:=ff,
 t45:=Tryz.underlying287,
 a45:=Tryz.isAgg287,
 z45:=Tryz.sizeOf287,
 v45:=Tryz.zeroValue287,
 t46:=Tryz.underlying288,
 a46:=Tryz.isAgg288,
 z46:=Tryz.sizeOf288,
 v46:=Tryz.zeroValue288,
 t50:=Tryz.underlying274,
 a50:=Tryz.isAgg274,
 z50:=Tryz.sizeOf274,
 v50:=Tryz.zeroValue274,
 t53:=eM,
 a53:=hP,
 z53:=gj,
 v53:=fg,
 t55:=kc,
 a55:=oS,
 z55:=np,
 v55:=ld,
 t66:=Tryz.underlying325,
 a66:=Tryz.isAgg325,
 z66:=Tryz.sizeOf325,
 v66:=Tryz.zeroValue325,
 t70:=Tryz.underlying329,
 a70:=Tryz.isAgg329,
 z70:=Tryz.sizeOf329,
 v70:=Tryz.zeroValue329,
 t76:=Tryz.underlying358,
 a76:=Tryz.isAgg358,
 z76:=Tryz.sizeOf358,
 v76:=Tryz.zeroValue358,
 t77:=Tryz.underlying359,
 a77:=Tryz.isAgg359,
 z77:=Tryz.sizeOf359,
 v77:=Tryz.zeroValue359}
end Go.Proofs