/-
  What the law WorldDoes needs of our own library and of the walks, no more.
-/
import Derived.Shelf.Strings.Builder1
import Derived.Laws.IdiomRangeMap
import Derived.Lib.FieldsLaws
import Derived.KernelRfl
import Derived.Shelf.Strings.OnBuilder
import Derived.Shelf.LaysM
import Derived.Shelf.Strconv.Itoa3
import Derived.Shelf.Strconv.Itoa4
import Derived.Shelf.LaysC
import Derived.Shelf.Strconv.AtoiAll
import Derived.Shelf.Strconv.ErrVarAll
import Derived.Shelf.Strconv.ParseIntPublic10
import Derived.Shelf.Strconv.ErrVarParseInt
import Derived.Shelf.Strings.Cut
import Derived.Shelf.Strings.Prefix
import Derived.Shelf.Strings.Split
import Derived.Shelf.Strings.Fields
import Derived.Shelf.Strings.BuilderX
import Derived.Test.YteijalgmijkphaaGreatDoorWorldDoesTb
set_option linter.unusedSimpArgs false
set_option linter.unusedVariables false
set_option maxRecDepth 10000
set_option maxHeartbeats 4000000
open Array renaming filter->Cp,filter_eq_self->vi,getD_eq_getD_getElem?->da,getElem?_eq_getElem->jx,toList_filter->mu
open Bool renaming and_eq_true->cS,false_eq_true->cL,not_eq_true'->ef,false->aw,true->bd
open Decidable renaming decide->G
open Go renaming Calls->bp,Edge->hR,Ending->sC,Exit->fY,FuncId->mT,Oper->ec,Operand->br,Program->cc,TypeId->bk,Value->Q,World->ay,bodyPost->ks,execOp->bm,getObj->kx,leftOf->ns,madeCells->wv,run_program->ga,undef->gx,underlying->cD
open Go.Instr renaming findKey->ij,findNow->tI,keyThatStays->jR,mapUpdate->mm,next->vR,sameNow->tM
open Go.Lib renaming TabIs->px,asciiSpaceTab->zj,atoiAll->fq,bytesWorld->lA,countB->ei,cut->sf,fields->gw,hasSuffix->ue,parseIntB->kj,splitB->kC
open Go.Proofs.Tryz renaming isAgg0->iS,isAgg187->rb,isAgg2->sT,isAgg20->pf,isAgg21->pe,isAgg225->tS,isAgg226->CF,isAgg228->CV,isAgg249->hF,isAgg271->tR,isAgg294->hH,isAgg296->ox,isAgg3->gH,isAgg305->CG,isAgg313->CM,isAgg314->CN,isAgg331->tU,isAgg333->CA,isAgg340->CT,isAgg344->CU,isAgg36->ph,isAgg361->rh,isAgg363->ri,isAgg371->CH,isAgg373->CI,isAgg376->tP,isAgg379->rj,isAgg380->rk,isAgg382->CC,isAgg383->CD,isAgg384->rl,isAgg385->rm,isAgg4->gR,isAgg5->hY,isAgg9->hB,prog->cw,sizeOf0->hZ,sizeOf187->pH,sizeOf2->sn,sizeOf20->ot,sizeOf21->oq,sizeOf225->tp,sizeOf226->BW,sizeOf228->B6,sizeOf249->gh,sizeOf271->tm,sizeOf294->gi,sizeOf296->nc,sizeOf3->fL,sizeOf305->BY,sizeOf313->B2,sizeOf314->B3,sizeOf331->tq,sizeOf333->By,sizeOf340->B4,sizeOf344->B5,sizeOf36->ov,sizeOf361->pL,sizeOf363->pN,sizeOf371->B0,sizeOf373->B1,sizeOf376->tl,sizeOf379->pP,sizeOf380->pS,sizeOf382->BD,sizeOf383->BT,sizeOf384->pZ,sizeOf385->qj,sizeOf4->fN,sizeOf5->gS,sizeOf9->fR,underlying0->fk,underlying187->nb,underlying2->oT,underlying20->lb,underlying21->la,underlying225->rL,underlying226->xb,underlying228->xl,underlying249->eI,underlying271->rK,underlying294->eJ,underlying296->ka,underlying3->et,underlying305->xc,underlying313->xd,underlying314->xf,underlying331->rN,underlying333->wx,underlying340->xi,underlying344->xj,underlying36->ld,underlying361->nd,underlying363->nf,underlying371->sv,underlying373->sx,underlying376->rI,underlying379->nh,underlying380->nj,underlying382->wA,underlying383->xa,underlying384->np,underlying385->nq,underlying4->ew,underlying5->eL,underlying9->ej,zeroValue0->fv,zeroValue187->nQ,zeroValue2->ps,zeroValue20->lO,zeroValue21->lE,zeroValue225->so,zeroValue226->yi,zeroValue228->yy,zeroValue249->fa,zeroValue294->fb,zeroValue296->lh,zeroValue3->ez,zeroValue305->yk,zeroValue313->yp,zeroValue314->yq,zeroValue331->sq,zeroValue333->yf,zeroValue340->yr,zeroValue344->yv,zeroValue36->lP,zeroValue361->oa,zeroValue363->oc,zeroValue371->yl,zeroValue373->yo,zeroValue376->sl,zeroValue379->od,zeroValue382->yg,zeroValue383->yh,zeroValue384->oe,zeroValue385->oi,zeroValue4->eA,zeroValue5->ff,zeroValue9->eC
open Go.Question renaming forced->sk
open Go.Region renaming free->fm,noSelect->eg,ready->dy
open Go.Result renaming andThen_ok->bW
open Go.Sem renaming run->ly,run_bind->cC,run_pure->cR
open Go.Value renaming bool->cM,int->dd,pointer->eW,string->pb
open List renaming all_eq_true->pd,any_cons->uG,append_assoc->cy,eq_nil_of_length_eq_zero->cE,ext_getElem?->cP,filter_eq_self->rB,getElem?_append->jn,getElem?_append_left->nw,getElem?_append_right->jt,getElem?_drop->ct,getElem?_eq_getElem->bl,getElem?_eq_none->bG,getElem?_map->en,getElem?_set->fy,getElem?_set_ne->ep,getElem?_set_self->kO,getElem?_take->ca,getElem?_zipWith->py,getElem?_zip_eq_some->tw,getElem_set_ne->rv,getElem_set_self->pD,getElem_zip->zp,length->O,length_append->bn,length_drop->cQ,length_map->dr,length_replicate->mj,length_set->cr,length_take->cd,length_zip->ft,map_append->cY,map_cons->cF,map_set->kU,mem_cons->bs,mem_cons_self->fo,nodup_cons->AG,not_mem_nil->dp,size_toArray->ye,take_left->lj,toArray->ar,zip_eq_zipWith->qu
open List.Perm renaming refl->sB
open Nat renaming add_mul->cf,beq->hP,beq_eq->yc,ble->lr,ble_eq->tx,blt->mv,eq_or_lt_of_le->yd,le_of_ble_eq_true->gC,le_of_succ_le->zr,le_refl->cj,lt_of_lt_of_le->er,lt_or_ge->cH,mul_le_mul_right->bj,not_succ_le_self->vS,zero_le->gj
open Option renaming map_some->dk,none->bh,some->U
open Option.some renaming inj->dq,injEq->eV
open Prod.mk renaming injEq->hX
namespace Go.LX
open Go.RowKit Go.Proofs
section
variable{P:cc}{ops:Array ec}{aq:fY->Act->ay->Prop}{n:Nat}{env:Nat->Q}{w w' I:ay}{M K:BS}{J:Nat->Chunk}{rest:H ec}
 {d:B Nat} {op:Op} {ty:bk} {pos:String} {af:Array hR} {v:Q} {g:B (Nat×Yi)} {T:bk} {ρ:br->Q} {x y:br} {i fuel:Nat} {listed:Array Yi}
theorem SH.pceAt{S:Pce}(h:SH I M K w J)(i:Nat)(hi:J i=.gT S):S.P w (SH.A M J):=by
 have:=h.ok i;rw[hi]at this;exact this
theorem SH.Oc{S S':Pce}(h:SH I M K w J)(i:Nat)(hi:J i=.gT S)(d:S'.P w' (SH.A M J))(c:bF S.own w w')(hn:∀b,S'.own b->b<w.heap.size->S.own b):SH I M K w' (df J i (.gT S')):=by
  refine h.step i c (λb a _=>by rw[hi];exact a) (λb a hl=>by rw[hi];exact hn b a hl) ?_;refine S'.go d (bF.refl BE w') (λ_ h=>h.elim) (λ_ h=>h.elim) λb a _=>?_;rcases a with a|a|a
  · exact .inl<|.inl a
  · exact .inl<|.inr<|nV a
  · exact .inr a
end
open Go.RowKit Go.Proofs
structure W9(α β:Type)where
 sz:Nat
 enc:α->Q->List Q
 sub:α->List β
 put:α->List β->α
 len:∀x u,(enc x u).length=sz
 one:∀x u,u.oneCell'=bd->∀c∈enc x u,c.oneCell'=bd
 pos:0<sz
 Zn:∀x s u,enc (put x s) u=enc x u
 Zo:∀x s,sub (put x s)=s
def W9.raw{α β:Type}(N:W9 α β):uQ (α×Q) where
 sz:=N.sz
 rd _ _ cs p:=cs=N.enc p.1 p.2/\p.2.oneCell'=bd
 len:=by rintro w A cs x ⟨rfl,_⟩;exact N.len _ _
 one:=by rintro w A cs x ⟨rfl,h⟩;exact N.one _ _ h
 pos:=N.pos
 go:=λh _ _ _=>h
def hn:Nat->Prop:=λ_=>False
def D0(k:Nat):Nat->Prop:=λi=>i=k
def KG(ho:Nat->Prop)(us:H Q):BS:=λb=>∃i u,us[i]? =U u/\¬ho i/\ob u b
def FamP{β:Type}(R:uQ β)(E:bk)(ho:Nat->Prop)(us:H Q)(ss:H (H β))(w:ay)(A:BS):Prop:=
 O us=O ss/\
 (∀i u s,us[i]? =U u->ss[i]? =U s->¬ho i->dC R E w (λb=>A b\/KG ho us b) u s)/\
 (∀i j u v,i≠j->¬ho i->¬ho j->us[i]? =U u->us[j]? =U v->∀b,ob u b->¬ob v b)
theorem FamP.at{β:Type}{R:uQ β}{E:bk}{ho:Nat->Prop}{us:H Q}{ss:H (H β)}{w:ay}{A:BS}(h:FamP R E ho us ss w A){i:Nat}{u:Q}(a:us[i]? =U u):∃s,ss[i]? =U s:=by
  have:i<O us:=by
    rcases cH i (O us) with h|h
    · exact h
    · rw[bG h]at a;cases a
  exact⟨ss[i]'(h.1▸this),bl _⟩
def bU{β:Type}(R:uQ β)(E:bk)(ho:Nat->Prop)(us:H Q)(ss:H (H β)):Pce where
  own:=KG ho us
  P w A:=FamP R E ho us ss w A
  lt:=by
    rintro w A b h⟨i,u,h1,h2,h3⟩;obtain⟨s,W⟩:=h.at h1;exact(h.2.1 i u s h1 W h2).lt b h3
  go:=by
    rintro w w' A A' K⟨h1,h2,h3⟩hk hK hKo hA;refine⟨h1,λi u s hu W hi=>(h2 i u s hu W hi).go hk (λb hb hl=>.inl<|hK b hb hl) (λb hb ho=>hKo b hb ⟨i,u,hu,hi,ho⟩) λb hb hl=>?_,h3⟩;rcases hb with hb|hb
    · exact .inl<|hA b hb hl
    · exact .inl<|.inr hb
section
variable{α β:Type}{N:W9 α β}{R:uQ β}{E Es T:bk}{I w w':ay}{M K A:BS}{J:Nat->Chunk}{v u u':Q}{us us':H Q}{ry L':H α}{ss ss':H (H β)}{s:H β}{x y:α}{k:Nat}{ho ho':Nat->Prop}
theorem Pt(J:Nat->Chunk)(i:Nat)(a c:Chunk):df (df J i a) i c=df J i c:=by
  funext j;by_cases e:j=i
  · subst e;rw[dJ,dJ]
  · rw[iI e,iI e,iI e]
theorem SH.famAt(h:SH I M K w J)(j:Nat)(a:J j=.gT (bU R E ho us ss)):FamP R E ho us ss w (SH.A M J):=h.pceAt j a
theorem SH.iy(h:SH I M K w J)(j:Nat)(a:J j=.gT (bU R E ho us (ry.map N.sub))):O us=O ry:=by
 have:=(h.famAt j a).1;rw[dr]at this;exact this
theorem dE(h:O us=O ry):O (ry.zip us)=O ry:=by rw[ft];omega
theorem fH(b:ry[k]? =U x)(a:us[k]? =U u):(ry.zip us)[k]? =U (x,u):=by
 rw[tw];exact⟨b,a⟩
theorem Pv(a:us[k]? =U u):(ry.zip us).set k (y,u)=(ry.set k y).zip us:=by
  apply cP;intro i;rw[fy];by_cases e:k=i
  · subst e;rw[Z2 rfl];by_cases hl:k<O ry
    · rw[fH (x:=y) (u:=u) (by rw[kO hl]) a];have:k<O us:=by
        rcases cH k (O us) with h|h
        · exact h
        · rw[bG h]at a;cases a
      rw[Z2 (by rw[ft];omega)]
    · rw[Z3 (by rw[ft];omega),bG (by rw[ft,cr];omega)]
  · rw[Z3 e];simp only[qu,py,ep e]
theorem Zp(a:ry[k]? =U x):(ry.zip us).set k (x,u)=ry.zip (us.set k u):=by
  apply cP;intro i;rw[fy];by_cases e:k=i
  · subst e;rw[Z2 rfl];by_cases hl:k<O us
    · rw[fH (x:=x) (u:=u) a (by rw[kO hl])];have:k<O ry:=by
        rcases cH k (O ry) with h|h
        · exact h
        · rw[bG h]at a;cases a
      rw[Z2 (by rw[ft];omega)]
    · rw[Z3 (by rw[ft];omega),bG (by rw[ft,cr];omega)]
  · rw[Z3 e];simp only[qu,py,ep e]
theorem Jl(a:ry[k]? =U y):ry.set k y=ry:=by
  apply cP;intro i;rw[fy];by_cases e:k=i
  · subst e;by_cases hl:k<O ry
    · rw[Z2 rfl,Z2 hl,a]
    · rw[bG V]at a;cases a
  · rw[Z3 e]
theorem qg{z:α}(a:ry[k]? =U x):(ry.set k z)[k]? =U z:=by
  rw[kO];rcases cH k (O ry) with h|h
  · exact h
  · rw[bG h]at a;cases a
theorem St(a:us[k]? =U u):(us.set k u')[k]? =U u':=qg a
theorem own_re{l b:H (α×Q)}(h:dC N.raw E w A v l)(hl:O b=O l)(c:∀(i:Nat) (p a:α×Q),l[i]? =U p->b[i]? =U a->N.enc a.1 a.2=N.enc p.1 p.2/\a.2=p.2):dC N.raw E w A v b:=by
 obtain⟨xs,g,k⟩:=h;refine⟨xs,by rw[hl];exact g,λi hi=>?_⟩;obtain⟨d,f⟩:=k i<|hl▸hi;obtain⟨e,j⟩:=c i _ _ (bl<|hl▸hi)<|bl hi;exact⟨d.trans e.symm,by rw[j];exact f⟩
theorem SH.rawRe(h:SH I M K w J)(i:Nat)(hi:J i=.own N.raw E v (ry.zip us))(f:ry[k]? =U x)(l:∀u,N.enc y u=N.enc x u):SH I M K w (df J i (.own N.raw E v ((ry.set k y).zip us))):=by
  refine h.step i (bF.refl BE w) (λ_ h=>h.elim) (λb d _=>by rw[hi];exact d) ?_;have ho:=h.ok i;rw[hi]at ho;refine Chunk.sub (ab:=kr J) (c:=.own N.raw E v ((ry.set k y).zip us)) ?_ λb d _=>?_
  · refine own_re ho (by rw[ft,ft,cr]) λi p n J a=>?_;rw[tw]at J a;rw[fy]at a;have j:=dq<|J.2.symm.trans a.2;by_cases e:k=i
    · subst e;have hl:k<O ry:=by
        rcases cH k (O ry) with h|h
        · exact h
        · rw[bG h]at f;cases f
      rw[Z2 rfl,Z2 hl]at a;have g:=dq a.1;have m:=dq<|f.symm.trans J.1;rw[<-j,<-g,<-m];exact⟨l _,Z⟩
    · rw[Z3 e]at a;have g:=dq<|J.1.symm.trans a.1;rw[<-j,<-g];exact⟨Z,Z⟩
  · rcases d with d|d
    · exact nV d
    · exact⟨i,by rw[hi];exact d⟩
theorem SH.famRe(h:SH I M K w J)(j:Nat)(l:J j=.gT (bU R E ho us ss))(hl:O us'=O ss')(c:∀i,¬ho i->us'[i]? =us[i]? /\ss'[i]? =ss[i]?):SH I M K w (df J j (.gT (bU R E ho us' ss'))):=by
 have k:=h.famAt j l;have a:∀b,KG ho us' b->KG ho us b:=λb⟨i,u,o,m,p⟩=>⟨i,u,(c i m).1▸o,m,p⟩;refine h.Oc j l ?_ (bF.refl _ _) λb f _=>a b f;refine⟨hl,λi u s e W hi=>?_,λi j u v g hi d e n=>k.2.2 i j u v g hi d ((c i hi).1▸e) ((c j d).1▸n)⟩;refine(k.2.1 i u s ((c i hi).1▸e) ((c i hi).2▸W) hi).go (bF.refl BE w) (λ_ h=>h.elim) (λ_ h=>h.elim) λb f _=>.inl<|f.imp id<|a b
theorem SH.famL(h:SH I M K w J)(j:Nat)(y:α)(a:J j=.gT (bU R E (D0 k) us (ry.map N.sub))):SH I M K w (df J j (.gT (bU R E (D0 k) us ((ry.set k y).map N.sub)))):=by
  refine h.famRe j a ?_ λi hi=>⟨Z,?_⟩
  · rw[dr,cr];exact h.iy j a
  · rw[kU,ep (λe=>hi e.symm)]
theorem SH.famOpen(h:SH I M K w J)(j m:Nat)(A:J j=.gT (bU R E ho us ss))(C:J m=.no)(l:j≠m)(d:us[k]? =U u)(W:ss[k]? =U s)(n:¬ho k)(ho':Nat->Prop)(g:∀i,ho' i↔ho i\/i=k):
    SH I M K w (df (df J j (.gT (bU R E ho' us ss))) m (.own R E u s)):=by
  have o:=h.famAt j A;have c:∀b,KG ho' us b->KG ho us b:=λb⟨i,u,p,f,z⟩=>⟨i,u,p,λh=>f ((g i).2<|.inl h),z⟩;have y:(Chunk.two (.gT<|bU R E ho' us ss)<|.own R E u s).holds w M (SH.av J j<|Chunk.two (.gT<|bU R E ho' us ss)<|.own R E u s):=by
    refine⟨⟨o.1,λi v t q Ys hi=>?_,λi j u v x hi r d q=>o.2.2 i j u v x (λh=>hi ((g i).2<|.inl h)) (λh=>r ((g j).2<|.inl h)) d q⟩,?_,?_⟩
    · refine(o.2.1 i v t q Ys λh=>hi ((g i).2<|.inl h)).go (bF.refl BE w) (λ_ h=>h.elim) (λ_ h=>h.elim) λb a _=>.inl ?_;rcases a with(a|a|a)|a
      · exact .inl<|.inl a
      · exact .inl<|.inr<|nV a
      · rcases a with a|a
        · exact .inr<|c b a
        · exact .inr ⟨k,u,d,n,a⟩
      · exact .inr<|c b a
    · refine(o.2.1 k u s d W n).go (bF.refl BE w) (λ_ h=>h.elim) (λ_ h=>h.elim) λb a _=>.inl ?_;rcases a with a|a|a
      · exact .inl<|.inl a
      · exact .inl<|.inr<|nV a
      · rcases a with a|a
        · exact .inr<|c b a
        · exact .inr ⟨k,u,d,n,a⟩
    · rintro b⟨i,v,p,f,z⟩a;exact o.2.2 i k v u (λe=>f ((g i).2<|.inr e)) (λh=>f ((g i).2<|.inl h)) n p d b z a
  have p:=h.step j (bF.refl BE w) (λ_ h=>h.elim) (λb a _=>by
    rw[A];rcases a with a|a
    · exact c b a
    · exact⟨k,u,d,n,a⟩) y
  have f:=p.unpair j m l (dJ _ _ _) (by rw[iI (Ne.symm l)];exact C);rw[Pt]at f;exact f
theorem SH.Zq(h:SH I M K w J)(j m:Nat)(N:J j=.gT (bU R E ho us ss))(ab:J m=.own R E u s)(ry:j≠m)(r:us[k]? =U u)(hk:ho k)(ho':Nat->Prop)(X:∀i,ho i↔ho' i\/i=k)(P:¬ho' k):
    SH I M K w (df (df J m .no) j (.gT (bU R E ho' us (ss.set k s)))):=by
  have o:=h.pair j m ry;have a:∀i,¬ho' i->i=k\/¬ho i:=λi hi=>by
    by_cases e:i=k
    · exact .inl e
    · exact .inr λh=>((X i).1 h).elim hi e
  have n:∀b,KG ho' us b->KG ho us b\/ob u b:=λb⟨i,v,o,x,w0⟩=>by
    rcases a i x with rfl|h4
    · rw[r]at o;cases o;exact .inr w0
    · exact .inl ⟨i,v,o,h4,w0⟩
  have T:∀b,KG ho us b\/ob u b->KG ho' us b:=λb d=>by
    rcases d with⟨i,v,o,x,w0⟩|d
    · exact⟨i,v,o,λh=>x ((X i).2<|.inl h),w0⟩
    · exact⟨k,u,r,P,d⟩
  have ok:=o.ok j;have aq:df (df J m .no) j (.two (J j)<|J m)=df (df J m .no) j (.two (.gT<|bU R E ho us ss)<|.own R E u s):=by rw[N,ab]
  rw[dJ,N,ab]at ok;have x:=o.step (c:=.gT (bU R E ho' us (ss.set k s))) j (bF.refl BE w) (λ_ h=>h.elim) (λb d _=>by
    rw[dJ,N,ab];exact n b d) ?_
  · rw[Pt]at x;exact x
  · rw[aq];have hA:∀b,(M b\/SH.av (df (df J m .no) j<|.two (.gT<|bU R E ho us ss)<|.own R E u s) j (.gT<|bU R E ho' us<|ss.set k s) b)\/KG ho' us b->(M b\/kr (df (df J m .no) j<|.two (.gT<|bU R E ho us ss)<|.own R E u s) b):=by
      have z:∀b,KG ho' us b->kr (df (df J m .no) j (.two (.gT (bU R E ho us ss)) (.own R E u s))) b:=λb d=>⟨j,by rw[dJ];exact n b d⟩;rintro b((d|d|d)|d)
      · exact .inl d
      · exact .inr<|nV d
      · exact .inr<|z b d
      · exact .inr<|z b d
    refine⟨by rw[cr];exact ok.1.1,λi v t l F hi=>?_,λi p v v' y hi A l g b d q=>?_⟩
    · by_cases e:i=k
      · subst e;rw[r]at l;cases l;have S:i<O ss:=by
          obtain⟨s',C⟩:=ok.1.at r;rcases cH i (O ss) with h|h
          · exact h
          · rw[bG h]at C;cases C
        rw[kO S]at F;cases F;refine dC.go ok.2.1 (bF.refl BE w) (λ_ h=>h.elim) (λ_ h=>h.elim) λb d _=>.inl<|hA b d
      · rw[ep (λh=>e h.symm)]at F;have f:¬ho i:=(a i hi).resolve_left e;refine(ok.1.2.1 i v t l F f).go (bF.refl BE w) (λ_ h=>h.elim) (λ_ h=>h.elim) λb d _=>.inl<|.inl<|hA b d
    · by_cases e:i=k
      · have al:p≠k:=λh=>y<|e.trans h.symm;have f:¬ho p:=(a p A).resolve_left al;subst e;rw[r]at l;cases l;exact ok.2.2 b ⟨p,v',g,f,q⟩ d
      · have f:¬ho i:=(a i hi).resolve_left e;by_cases al:p=k
        · subst al;rw[r]at g;cases g;exact ok.2.2 b ⟨i,v,l,f,d⟩ q
        · have Ys:¬ho p:=(a p A).resolve_left al;exact ok.1.2.2 i p v v' y f Ys l g b d q
end
open Go.RowKit Go.Proofs
section
variable{α β:Type}{N:W9 α β}{R:uQ β}{E Es T:bk}{I w w':ay}{M K A:BS}{J:Nat->Chunk}{v u u':Q}{us us' yD:H Q}{ry L':H α}{ss ss' ss2:H (H β)}{s:H β}{x y:α}{k:Nat}{ho ho':Nat->Prop}
theorem OE{a:Type}{l:H a}{z:a}(h:l[k]? =U z):k<O l:=by
  rcases cH k (O l) with h1|h1
  · exact h1
  · rw[bG h1]at h;cases h
theorem SH.dnOpen(h:SH I M K w J)(j m:Nat)(d:J j=.gT (bU R Es hn us (ry.map N.sub)))(e:J m=.no)(a:j≠m)(c:ry[k]? =U x):
  ∃u,us[k]? =U u/\SH I M K w (df (df J j (.gT (bU R Es (D0 k) us (ry.map N.sub)))) m (.own R Es u (N.sub x))):=by
 have hl:=h.iy j d;have b:=OE c;exact⟨us[k]'(hl▸b),bl _,h.famOpen j m d e a (bl _) (by rw[en,c];rfl) (λh=>h) _ (λi=>⟨.inr,λh=>h.elim (λh=>h.elim) id⟩)⟩
theorem SH.sO(h:SH I M K w J)(i j m:Nat)(y:α)(hi:J i=.own N.raw E v (ry.zip us))(l:J j=.gT (bU R Es (D0 k) us (ry.map N.sub)))(g:J m=.own R Es u s)(b:i≠j)(c:i≠m)(a:j≠m)(n:ry[k]? =U x)(o:us[k]? =U u)(d:y=N.put x s):
  SH I M K w (df (df (df J m .no) j (.gT (bU R Es hn us ((ry.set k y).map N.sub)))) i (.own N.raw E v ((ry.set k y).zip us))):=by
 have p:=h.Zq j m l g a o Z hn (λi=>⟨.inr,λh=>h.elim (λh=>h.elim) id⟩) λh=>h;have f:=p.rawRe (N:=N) (x:=x) (y:=y) (k:=k) (E:=E) (v:=v) i (by rw[iI b,iI c];exact hi) n (λu=>by rw[d];exact N.Zn _ _ _);have e:(ry.map N.sub).set k s=(ry.set k y).map N.sub:=by rw[kU,d,N.Zo]
 rw[e]at f;exact f
theorem SH.gG(h:SH I M K w J)(j m:Nat)(d:J j=.gT (bU R Es (D0 k) us (ry.map N.sub)))(c:J m=.own R Es u s)(a:j≠m)(f:ry[k]? =U x)(g:us[k]? =U u)(W:N.sub x=s):
  SH I M K w (df (df J m .no) j (.gT (bU R Es hn us (ry.map N.sub)))):=by
 have b:=h.Zq j m d c a g Z hn (λi=>⟨.inr,λh=>h.elim (λh=>h.elim) id⟩) λh=>h;have e:(ry.map N.sub).set k s=ry.map N.sub:=Jl (by rw[en,f,<-W];rfl);rw[e]at b;exact b
theorem SH.famNew(h:SH I M K w J)(m:Nat)(g:J m=.own R Es u s):SH I M K w (df J m (.gT (bU R Es hn [u] [s]))):=by
  have ho:=h.ok m;rw[g]at ho;have a:∀b,KG hn [u] b->ob u b:=by
    rintro b⟨i,v,k,_,l⟩;cases i with
    |zero=>cases k;exact l
    |succ i=>cases k
  refine h.step m (bF.refl BE w) (λ_ h=>h.elim) (λb c _=>by rw[g];exact a b c) ⟨Z,λi v t d e _=>?_,λi j v t f _ _ d e=>?_⟩
  · cases i with
    |succ i=>cases d
    |zero=>
      cases d;cases e;refine dC.go ho (bF.refl BE w) (λ_ h=>h.elim) (λ_ h=>h.elim) λb c _=>?_;rcases c with(c|c|c)|c
      · exact .inl<|.inl c
      · exact .inl<|.inr<|nV c
      · exact .inr<|a b c
      · exact .inr<|a b c
  · cases i with
    |zero=>cases j with
      |zero=>exact ZD Z f
      |succ j=>cases e
    |succ i=>cases d
theorem SH.famNil(h:SH I M K w J)(j:Nat):SH I M K w (df J j (.gT (bU R Es hn [] []))):=
  h.learn j (bF.refl BE w) (by rintro b ⟨i,u,c,_⟩;cases c) (by
    refine⟨Z,?_,?_⟩
    · intro i v t a;cases a
    · intro i j v t _ _ _ a;cases a)
theorem SH.xQ(h:SH I M K w J)(j m:Nat)(A:J j=.gT (bU R Es hn us ss))(y:J m=.gT (bU R Es hn yD ss2))(s:j≠m):SH I M K w (df (df J m .no) j (.gT (bU R Es hn (us++yD) (ss++ss2)))):=by
  have f:=h.pair j m s;have ok:=f.ok j;rw[A,y]at f;rw[dJ,A,y]at ok;have l:∀b,KG hn (us++yD) b->KG hn us b\/KG hn yD b:=by
    rintro b⟨i,v,f,_,n⟩;rw[jn]at f;split at f
    · exact .inl ⟨i,v,f,λh=>h,n⟩
    · exact .inr ⟨_,v,f,λh=>h,n⟩
  have x:∀b,KG hn us b\/KG hn yD b->KG hn (us++yD) b:=by
    rintro b(⟨i,v,f,_,n⟩|⟨i,v,f,_,n⟩)
    · exact⟨i,v,by rw[nw (OE f)];exact f,λh=>h,n⟩
    · exact⟨O us+i,v,by rw[jt V,Nat.add_sub_cancel_left];exact f,λh=>h,n⟩
  have Ys:=f.step (c:=.gT (bU R Es hn (us++yD) (ss++ss2))) j (bF.refl BE w) (λ_ h=>h.elim) (λb a _=>by rw[dJ];exact l b a) ?_
  · rw[Pt]at Ys;exact Ys
  · have z:∀b,(M b\/SH.av (df (df J m .no) j<|.two (.gT<|bU R Es hn us ss)<|.gT<|bU R Es hn yD ss2) j (.gT<|bU R Es hn (us++yD)<|ss++ss2) b)\/KG hn (us++yD) b->(M b\/kr (df (df J m .no) j<|.two (.gT<|bU R Es hn us ss)<|.gT<|bU R Es hn yD ss2) b):=by
      have o:∀b,KG hn (us++yD) b->kr (df (df J m .no) j (.two (.gT (bU R Es hn us ss)) (.gT (bU R Es hn yD ss2)))) b:=λb a=>⟨j,by rw[dJ];exact l b a⟩;rintro b((a|a|a)|a)
      · exact .inl a
      · exact .inr<|nV a
      · exact .inr<|o b a
      · exact .inr<|o b a
    have C:=ok.1.1;have E:=ok.2.1.1;refine⟨by simp only[bn];omega,λi v t e p _=>?_,λi u v q r _ _ e d b a k=>?_⟩
    · rw[jn]at e p;by_cases hl:i<O us
      · rw[Z2 hl]at e;rw[Z2 V]at p;exact(ok.1.2.1 i v t e p λh=>h).go (bF.refl BE w) (λ_ h=>h.elim) (λ_ h=>h.elim) λb a _=>.inl<|.inl<|z b a
      · rw[Z3 hl]at e;rw[Z3 V,<-C]at p;exact(ok.2.1.2.1 _ v t e p λh=>h).go (bF.refl BE w) (λ_ h=>h.elim) (λ_ h=>h.elim) λb a _=>.inl<|.inl<|z b a
    · rw[jn]at e d;by_cases hl:i<O us
      · rw[Z2 hl]at e;by_cases g:u<O us
        · rw[Z2 g]at d;exact ok.1.2.2 i u v q r (λh=>h) (λh=>h) e d b a k
        · rw[Z3 g]at d;exact ok.2.2 b ⟨_,v,e,λh=>h,a⟩ ⟨_,q,d,λh=>h,k⟩
      · rw[Z3 hl]at e;by_cases g:u<O us
        · rw[Z2 g]at d;exact ok.2.2 b ⟨_,q,d,λh=>h,k⟩ ⟨_,v,e,λh=>h,a⟩
        · rw[Z3 g]at d;exact ok.2.1.2.2 _ _ v q V (λh=>h) (λh=>h) e d b a k
theorem SH.famTake(h:SH I M K w J)(j n:Nat)(k:J j=.gT (bU R Es hn us (ry.map N.sub))):SH I M K w (df J j (.gT (bU R Es hn (us.take n) ((ry.take n).map N.sub)))):=by
  have g:=h.famAt j k;have D0:∀(i:Nat) (u:Q),(us.take n)[i]? =U u->us[i]? =U u/\i<n:=λi u a=>by
    rw[ca]at a;split at a
    · exact⟨a,by assumption⟩
    · cases a
  have c:∀b,KG hn (us.take n) b->KG hn us b:=λb⟨i,u,o,m,p⟩=>⟨i,u,(D0 i u o).1,m,p⟩;refine h.Oc j k ?_ (bF.refl _ _) λb f _=>c b f;have hl:=g.1;rw[dr]at hl;refine⟨by rw[cd,dr,cd];omega,λi u s a W hi=>?_,λi j u v e hi d a l=>g.2.2 i j u v e hi d (D0 i u a).1 (D0 j v l).1⟩;rw[List.map_take,ca,Z2 (D0 i u a).2]at W;refine(g.2.1 i u s (D0 i u a).1 W hi).go (bF.refl BE w) (λ_ h=>h.elim) (λ_ h=>h.elim) λb f _=>.inl<|f.imp id<|c b
theorem SM(n:Nat):(ry.zip us).take n=(ry.take n).zip (us.take n):=by
 apply cP;intro i;simp only[qu,ca,py];split<;>rfl
theorem xR{a:H α}(h:O us=O ry):(ry.zip us)++(a.zip yD)=(ry++a).zip (us++yD):=(List.zip_append h.symm).symm
theorem nY{P:cc}{ρ:br->Q}{d:B Nat}{ty:bk}{pos:String}{af:Array hR}{g:B (Nat×Yi)}{a:br}{sz:Nat}{Ys A:BS}{w1:ay}(c:SliceOf P T E sz)(e:ρ a=v)(b:dN N.raw w1 Ys A v (ry.zip us))(hl:O us=O ry):
  (bm ρ ⟨d,.call {callee:=.builtin .len,args:= #[a],argTypes:= #[T]},ty,pos,af,g⟩).run P w=.ok (.value (.int .i64 (O ry))) w:=by
 have h:=sV (P:=P) (w:=w) (d:=d) (ty:=ty) (pos:=pos) (af:=af) (g:=g) c e b;rw[dE hl]at h;exact h
theorem SH.yH{R':uQ α}(h:SH I M K w J)(i j:Nat)(hi:J i=.own N.raw E v (ry.zip us))(l:J j=.gT (bU R Es hn us (ry.map N.sub)))(p:i≠j)(n:R'.sz=N.sz)(w0:∀w A x u,bY R w A u (N.sub x)->R'.rd w A (N.enc x u) x):SH I M K w (df (df J j .no) i (.rd R' v ry)):=by
  have hl:=h.iy j l;have m:=h.pair i j p;have k:=m.apart i;have Ys:=m.apM i;have ok:=m.ok i;rw[dJ]at k Ys;rw[dJ,hi,l]at ok;have s:=m.step (c:=.rd R' v ry) i (bF.refl BE w) (λ_ h=>h.elim) (λb d _=>d.elim) ?_
  · rw[Pt]at s;exact s
  · have hno:∀b,(J i).own' b\/(J j).own' b->¬(M b\/SH.av (df (df J j .no) i<|.two (J i)<|J j) i (.rd R' v ry) b):=by
      intro b d f;rcases f with f|⟨q,g,f⟩|f
      · exact Ys b d f
      · exact k q (λe=>g e.symm) b d f
      · exact f
    have t:∀b,(M b\/SH.av (df (df J j .no) i<|.two (J i)<|J j) i (.rd R' v ry) b)->M b\/kr (df (df J j .no) i<|.two (.own N.raw E v<|ry.zip us)<|.gT<|bU R Es hn us<|ry.map N.sub) b:=by
      rw[hi,l];rintro b(d|d|d)
      · exact .inl d
      · exact .inr<|nV d
      · exact d.elim
    have hr:bY N.raw w (λb=>M b\/SH.av (df (df J j .no) i<|.two (J i)<|J j) i (.rd R' v ry) b) v (ry.zip us):=
      dC.rd ok.1 (λb d=>hno b (.inl (by rw[hi];exact d))) (λb d _=>.inl (t b d))
    obtain⟨a,cap,r,z,e3,aq,al⟩:=hr;rw[dE hl]at r z;refine⟨a,cap,r,z,e3,aq,λq g=>?_⟩;obtain⟨b,o,cells,F,ab,S,X,C,y⟩:=al q (by rw[dE hl];exact g);refine⟨b,o,cells,F,ab,S,X,C,?_⟩;rw[n];have P:(ry.zip us)[q]'(by rw[dE hl];exact g)=(ry[q],us[q]'V):=by simp
    rw[P]at y;obtain⟨q5,_⟩:=y;have T:((cells.toList.drop<|o+q*N.sz).take N.sz)=N.enc ry[q] (us[q]'V):=q5;rw[T];refine w0 _ _ _ _ (dC.rd (ok.2.1.2.1 q _ _ (bl V) (by rw[en,bl g];rfl) (λh=>h)) (λb d=>hno b (.inr (by rw[l];exact⟨q,_,bl V,λh=>h,d⟩))) (λb d _=>.inl (.inl (t b d))))
theorem SH.moveC(h:SH I M K w J)(j i:Nat){c:Chunk}(r:J j=c)(hi:J i=.no)(t:j≠i):SH I M K w (df (df J j .no) i c):=by
  subst r;have f:∀x b,(df (df J j .no) i (J j) x).own' b->∃y,(J y).own' b/\(x=i->y=j)/\(x≠i->y=x/\x≠j):=by
    intro x b a;by_cases e:x=i
    · subst e;rw[dJ]at a;exact⟨j,a,λ_=>rfl,λh=>ZD Z h⟩
    · rw[iI e]at a;by_cases d:x=j
      · subst d;rw[dJ]at a;exact a.elim
      · rw[iI d]at a;exact⟨x,a,λh=>ZD h e,λ_=>⟨Z,d⟩⟩
  have g:∀b,kr (df (df J j .no) i<|J j) b->kr J b:=λb⟨x,m⟩=>let ⟨y,k,_⟩:=f x b m;⟨y,k⟩;refine⟨h.keep,h.ltM,λx b a=>let ⟨y,k,_⟩:=f x b a;h.apM y b k,λx=>?_,λx y l b m k=>?_,λx b a=>let ⟨y,k,_⟩:=f x b a;h.old y b k⟩
  · by_cases e:x=i
    · subst e;rw[dJ];exact Chunk.sub (h.ok j) λb a _=>g b a
    · rw[iI e];by_cases d:x=j
      · subst d;rw[dJ];trivial
      · rw[iI d];exact Chunk.sub (h.ok x) (λb a _=>g b a)
  · obtain⟨p,s,u,o⟩:=f x b m;obtain⟨q,k1,k2,n⟩:=f y b k;have:p≠q:=by
      by_cases e:x=i
      · have d:y≠i:=λh=>l<|e.trans h.symm;rw[u e,(n d).1];exact λh=>(n d).2 h.symm
      · by_cases d:y=i
        · rw[k2 d,(o e).1];exact(o e).2
        · rw[(o e).1,(n d).1];exact l
    exact h.apart p q this b s k1
def cZ(β:Type):W9 (H β) β where
 sz:=1
 enc _ u:=[u]
 sub x:=x
 put _ s:=s
 len _ _:=rfl
 one:=by intro x u h c hc;simp at hc;subst hc;exact h
 pos:=by decide
 Zn _ _ _:=rfl
 Zo _ _:=rfl
theorem EI{R:uQ β}:∀w A (x:H β) u,bY R w A u ((cZ β).sub x)->(uu R).rd w A ((cZ β).enc x u) x:=λ_ _ _ u h=>⟨u,rfl,h⟩
end
open Go.RowKit Go.Proofs
section
variable{P:cc}{w:ay}{ρ:br->Q}{d:B Nat}{ty:bk}{pos:String}{af:Array hR}{g:B (Nat×Yi)}{T:bk}{x y:br}
theorem r_indexS{s:uH}{k:Int}{b:UInt8}(i:P.underlying T=U .string)(f:ρ x=bJ s)(e:ρ y=.int .i64 k)(c:0<=k)(a:s[k.toNat]? =U b):
  (bm ρ ⟨d,.index T x y,ty,pos,af,g⟩).run P w=.ok (.value (.int .u8 (b.toNat:Int))) w:=by
 simp only[bm,Instr.index,f,e,cD,asIntOf,bJ];have l:((⟨ar s⟩:ByteArray)[k.toNat]? :B UInt8)=U b:=by
  have hl:k.toNat<O s:=OE a;rw[bl hl]at a;have m:k.toNat<(⟨ar s⟩:ByteArray).size:=by simpa[ByteArray.size]using hl
  have j:=getElem?_pos (⟨ar s⟩:ByteArray) k.toNat m;rw[j];rw[<-dq a];rfl
 simp[i,c,l]
theorem SH.xS{α β:Type}{N:W9 α β}{R:uQ β}{E:bk}{I:ay}{M K:BS}{J:Nat->Chunk}{u:Q}{s:H β}(h:SH I M K w J)(m:Nat)(x:α)(a:J m=.own R E u s)(W:N.sub x=s):SH I M K w (df J m (.gT (bU R E hn [u] (List.map N.sub [x])))):=by
 subst W;exact h.famNew m a
theorem us_at{α:Type}{us:H Q}{ry:H α}{k:Nat}{z:α}(h:O us=O ry)(a:ry[k]? =U z):∃u,us[k]? =U u:=by
 have:=OE a;exact⟨us[k]'(h▸this),bl _⟩
end
open Go.RowKit Go.Proofs
section
variable{α:Type}{R:uQ α}{E:bk}{I w w':ay}{M K:BS}{J:Nat->Chunk}{C C':Chunk}{v:Q}{l:H α}
theorem ru:∀b,kr (df hno 1 C) b->C.own' b:=by
  rintro b⟨j,a⟩;by_cases e:j=1
  · subst e;rw[dJ]at a;exact a
  · rw[iI e]at a;exact a.elim
theorem jq{i:Nat}(hn:∀b,kr J b->C.own' b):∀b,kr (df J i (.rd R v l)) b->C.own' b:=by
  rintro b⟨j,a⟩;by_cases e:j=i
  · subst e;rw[dJ]at a;exact a.elim
  · rw[iI e]at a;exact hn b ⟨j,a⟩
theorem SH.kK(h:SH w M K w J)(i:Nat)(ho:bY R w (λb=>M b\/C.own' b) v l)(hn:∀b,kr J b->C.own' b):SH w M K w (df J i (.rd R v l)):=
 h.az i (ho.sub (λb a _=>a.imp id (hn b)) (λb a _=>a.imp id (hn b)))
theorem SH.lendS(h:SH I M K w J)(i:Nat)(hi:J i=C)(a:C.Zk):C.holds w (λb=>M b\/rest J i b) C.own'/\(∀b,C.own' b->¬(M b\/rest J i b))/\(∀b,(M b\/rest J i b)->b<w.heap.size):=by
 subst hi;exact h.lendC i a
theorem SH.vX(h:SH I M K w J)(i j:Nat)(d:J j=.rd R v l)(hi:J i=C):bY R w (λb=>(M b\/rest J i b)\/C.own' b) v l:=by
  have c:∀b,(M b\/rest J i b)\/C.own' b->SH.A M J b:=by
    rintro b((a|a)|a)
    · exact .inl a
    · exact .inr<|nV a
    · exact .inr ⟨i,by rw[hi];exact a⟩
  exact(h.dU j d).sub (λb a _=>c b a) λb a _=>c b a
theorem SH.back(h:SH I M K w J)(i:Nat)(hi:J i=C)(c:C'.Zk)(a:C'.holds w' (λb=>M b\/rest J i b) C'.own')(d:bF C.own' w w')(hn:∀b,C'.own' b->b<w.heap.size->C.own' b):SH I M K w' (df J i C'):=by
 subst hi;exact h.givenC i c a d hn
theorem gV{i:Nat}(h:bY R w (λb=>(M b\/rest J i b)\/C.own' b) v l):bY R w (SH.A M (df J i C)) v l:=by
  have a:∀b,SH.A M (df J i C) b->(M b\/rest J i b)\/C.own' b:=by
    rintro b(c|⟨j,d⟩)
    · exact .inl<|.inl c
    · by_cases e:j=i
      · subst e;rw[dJ]at d;exact .inr d
      · rw[iI e]at d;exact .inl (.inr ⟨j,e,d⟩)
  exact h.sub (λb c _=>a b c) λb c _=>a b c
theorem SH.outRdC(h:SH I M K w J)(i j:Nat)(d:J j=.rd R v l)(hi:J i=C):bY R w (λb=>M b\/C.own' b) v l:=by
  have c:∀b,M b\/C.own' b->SH.A M J b:=by
    rintro b(a|a)
    · exact .inl a
    · exact .inr ⟨i,by rw[hi];exact a⟩
  exact(h.dU j d).sub (λb a _=>c b a) λb a _=>c b a
theorem SH.outS(h:SH I M K w J)(i:Nat)(hi:J i=C)(a:C.Zk):C.holds w M C.own'/\bF K I w/\(∀b,C.own' b->b<I.heap.size->K b):=h.outC i hi a
end
section
variable{P:cc}{ops:Array ec}{aq:fY->Act->ay->Prop}{n:Nat}{env:Nat->Q}{w:ay}
theorem At.hold{w w':ay}{ry:BS}{b o:Nat}{cs:H Q}(h:At w b o cs)(a:bF ry w w')(hn:¬ry b):At w' b o cs:=by
 obtain⟨cells,E,d,c,e⟩:=h;exact⟨cells,E,d,a.blk c hn,e⟩
theorem fin4{fn:Func}{R:sC->ay->Prop}{t u a c:Tmp}{v1 v2 v3 v4:Q}(k:fn.results= #[.tmp t,.tmp u,.tmp a,.tmp c])(j:ev n env (.tmp t)=v1)(g:ev n env (.tmp u)=v2)(l:ev n env (.tmp a)=v3)(i:ev n env (.tmp c)=v4)(h:R (.returned (.tuple #[v1,v2,v3,v4])) w):ks P fn R .ret (C6 n env) w:=by
 refine⟨Z,_,?_,h⟩;have b:=congrFun (jG n env)<|.tmp t;have e:=congrFun (jG n env)<|.tmp u;have d:=congrFun (jG n env)<|.tmp a;have f:=congrFun (jG n env)<|.tmp c;rw[j]at b;rw[g]at e;rw[l]at d;rw[i]at f;simp only[Act.eval]at b e d f;rw[da]at b e d f;unfold results;rw[k];simp[b,e,d,f]
end
structure zv where
 op:Int
 a:Int
 b:Int
 c:Int
 args:List Int
deriving DecidableEq
def qE:uQ zv where
 sz:=5
 rd w A cs x:=∃vargs,cs=[.int .i64 x.op,.int .i64 x.a,.int .i64 x.b,.int .i64 x.c,vargs]/\bY dR w A vargs x.args
 len:=by rintro w A cs x ⟨vargs,rfl,h0⟩;rfl
 one:=by rintro w A cs x ⟨vargs,rfl,h0⟩ u hu;simp only[bs,dp,or_false]at hu;rcases hu with rfl|rfl|rfl|rfl|rfl<;>first|rfl|exact h0.one
 pos:=by decide
 go:=by rintro w A cs x w2 A2 K ⟨vargs,rfl,h0⟩ hk hK hA;exact⟨_,Z,h0.go hk hK hA⟩
theorem wR{w:ay}{A:BS}{cs:H Q}{x:zv}(h:qE.rd w A cs x):∃d,cs=[.int .i64 x.op,.int .i64 x.a,.int .i64 x.b,.int .i64 x.c,d]/\bY dR w A d x.args:=h
structure bN where
 params:Int
 regs:Int
 C:List zv
deriving DecidableEq
def iA:uQ bN where
 sz:=3
 rd w A cs x:=∃vcode,cs=[.int .i64 x.params,.int .i64 x.regs,vcode]/\bY qE w A vcode x.C
 len:=by rintro w A cs x ⟨vcode,rfl,h0⟩;rfl
 one:=by rintro w A cs x ⟨vcode,rfl,h0⟩ u hu;simp only[bs,dp,or_false]at hu;rcases hu with rfl|rfl|rfl<;>first|rfl|exact h0.one
 pos:=by decide
 go:=by rintro w A cs x w2 A2 K ⟨vcode,rfl,h0⟩ hk hK hA;exact⟨_,Z,h0.go hk hK hA⟩
theorem kN{w:ay}{A:BS}{cs:H Q}{x:bN}(h:iA.rd w A cs x):∃a,cs=[.int .i64 x.params,.int .i64 x.regs,a]/\bY qE w A a x.C:=h
structure Frame where
 F:Int
 at_:Int
 regs:List td
 y:Int
deriving DecidableEq
def jB:uQ Frame where
 sz:=4
 rd w A cs x:=∃vregs,cs=[.int .i64 x.F,.int .i64 x.at_,vregs,.int .i64 x.y]/\bY bH w A vregs x.regs
 len:=by rintro w A cs x ⟨vregs,rfl,h0⟩;rfl
 one:=by rintro w A cs x ⟨vregs,rfl,h0⟩ u hu;simp only[bs,dp,or_false]at hu;rcases hu with rfl|rfl|rfl|rfl<;>first|rfl|exact h0.one
 pos:=by decide
 go:=by rintro w A cs x w2 A2 K ⟨vregs,rfl,h0⟩ hk hK hA;exact⟨_,Z,h0.go hk hK hA⟩
theorem wM{w:ay}{A:BS}{cs:H Q}{x:Frame}(h:jB.rd w A cs x):∃a,cs=[.int .i64 x.F,.int .i64 x.at_,a,.int .i64 x.y]/\bY bH w A a x.regs:=h
structure State where
 i:List Frame
 j:List (List td)
 o:Int
 bC:Int
deriving DecidableEq
def Px:W9 bN zv where
 sz:=3
 enc x u:=[.int .i64 x.params,.int .i64 x.regs,u]
 sub x:=x.C
 put x s:={x with C:=s}
 len _ _:=rfl
 one:=by intro x u h c hc;simp only[bs,dp,or_false]at hc;rcases hc with rfl|rfl|rfl<;>first|rfl|exact h
 pos:=by decide
 Zn _ _ _:=rfl
 Zo _ _:=rfl
theorem nProc_br:∀w A (x:bN) u,bY qE w A u (Px.sub x)->iA.rd w A (Px.enc x u) x:=λ_ _ _ u h=>⟨u,rfl,h⟩
def aS:W9 Frame td where
 sz:=4
 enc x u:=[.int .i64 x.F,.int .i64 x.at_,u,.int .i64 x.y]
 sub x:=x.regs
 put x s:={x with regs:=s}
 len _ _:=rfl
 one:=by intro x u h c hc;simp only[bs,dp,or_false]at hc;rcases hc with rfl|rfl|rfl|rfl<;>first|rfl|exact h
 pos:=by decide
 Zn _ _ _:=rfl
 Zo _ _:=rfl
theorem yE:∀w A (x:Frame) u,bY bH w A u (aS.sub x)->jB.rd w A (aS.enc x u) x:=λ_ _ _ u h=>⟨u,rfl,h⟩
open Go.RowKit Go.Proofs
section
variable{P:cc}{ops:Array ec}{aq:fY->Act->ay->Prop}{n:Nat}{env:Nat->Q}{w w' I:ay}{M K:BS}{J:Nat->Chunk}{rest:H ec}
 {d:B Nat} {op:Op} {ty:bk} {pos:String} {af:Array hR} {v:Q} {g:B (Nat×Yi)} {T:bk} {ρ:br->Q} {x y:br}
theorem Iv{fn:Func}{R:sC->ay->Prop}{a:Tmp}{T:bk}{zs vs:H Q}{b:Nat}(j:fn.results= #[.cell a T])(e:ev n env (.tmp a)=.pointer (U ⟨b,0,bh⟩))
  (f:SH I M K w J) (i:Nat) (hi:J i=.blk b vs) (g:zg P T zs) (hl:O vs=O zs) (h:R (.returned (.agg (ar vs))) w):ks P fn R .ret (C6 n env) w:=by
 refine⟨Z,_,?_,h⟩;have c:=congrFun (jG n env)<|.tmp a;rw[e]at c;simp only[Act.eval]at c;rw[da]at c;have d:=F5 (P:=P) f hi g hl Z;unfold results;rw[j];simp[c,asAddr,d]
end
theorem cutS_free{c:UInt8}{s:uH}(h:c∉s)(hl:O s<4294967281):cutS s [c]=U (s,[],aw):=by
  unfold cutS;rw[gJ hl];rcases idx1 c s with⟨h1,h2⟩|⟨x,r,h1,h2,h3⟩
  · unfold sf;rw[h1,Z3 tz]
  · exact ZD (by rw[h1];simp) h
theorem cutS_hit{c:UInt8}{x r:uH}(h:c∉x)(hl:O (x++c::r)<4294967281):cutS (x++c::r) [c]=U (x,r,bd):=by
  unfold cutS;rw[gJ hl];rcases idx1 c (x++c::r)with⟨h1,h2⟩|⟨y,q,h1,h2,h3⟩
  · exact ZD C3 h2
  · have e:x=y/\r=q:=by
      have k1:=Ig (r:=r) h;have k2:=Ig (r:=q) h2;rw[<-h1,k1]at k2;injection k2 with k2 k3;subst k2;refine⟨Z,?_⟩;have:=List.append_cancel_left h1;injection this
    obtain⟨rfl,rfl⟩:=e;unfold sf;rw[h3,Z2 V];simp only[Int.toNat_natCast];rw[lj,show O x+O [c]=O (x++[c]) by simp,show x++c::r=(x++[c])++r by simp,List.drop_left]
def addC(c:UInt8):H uH->H uH
 |[]=>[]
 |[x]=>[x]
 |x::y::r=>(x++[c])::addC c (y::r)
theorem addC_cons(c:UInt8)(x:uH){l:H uH}(h:l≠[]):addC c (x::l)=(x++[c])::addC c l:=by
 cases l with
 |nil=>exact ZD Z h
 |cons y r=>rfl
theorem splitK_A(c:UInt8):∀(k:Nat) (s:uH),Lib.count s [c]=k->Lib.splitK [c] 1 k s=addC c (mH c s):=by
  intro k;induction k with
  |zero=>
    intro s W;rcases idx1 c s with⟨h1,h2⟩|⟨x,r,h1,h2,h3⟩
    · rw[Tq h2];rfl
    · rw[Lib.count_hit C3 h3]at W;omega
  |succ k ih=>
    intro s W;rcases idx1 c s with⟨h1,h2⟩|⟨x,r,h1,h2,h3⟩
    · rw[Lib.count_miss h1]at W;omega
    · have a:¬(Lib.index s [c]== -1)=true:=by rw[h3];simp
      rw[Lib.count_hit C3 h3]at W;have b:s.drop (O x+O [c])=r:=by rw[h1];simp
      rw[Lib.splitK,Z3 a,h3];simp only[Int.toNat_natCast];rw[b]at W⊢;rw[ih r V,h1,Ig h2,addC_cons c x (Ie c r)];congr 1;rw[show O x+1=O (x++[c]) by simp,show x++c::r=(x++[c])++r by simp,lj]
theorem MO{s:uH}(c:UInt8)(h:O s<4294967281):Ji s [c]=U (addC c (mH c s)):=by
 unfold Ji;rw[gJ ⟨h,cj _⟩];exact ZS U<|splitK_A c _ s Z
theorem hasSuf_app{c:UInt8}(x:uH)(h:O (x++[c])<=281474976710656):Q7 (x++[c]) [c]=U true:=by
 unfold Q7;rw[gJ h];simp[ue]
theorem hasSuf_free{c:UInt8}{x:uH}(a:c∉x)(h:O x<=281474976710656):Q7 x [c]=U false:=by
 unfold Q7;rw[gJ h];have:¬[c]<:+x:=λW=>a<|W.subset C3;cases hq:[c].isSuffixOf x with
 |false=>simp[ue,hq]
 |true=>exact ZD (List.isSuffixOf_iff_suffix.1 hq) this
theorem splitC_cons{c:UInt8}{s x y:uH}{l:H uH}(h:mH c s=x::y::l):∃r,s=x++c::r/\mH c r=y::l/\c∉x:=by
 have b:=(Ct c s x (by rw[h];exact fo)).2;have a:=Cs c s;rw[h,Ih]at a;refine⟨DZ c<|y::l,a.symm,?_,b⟩;rw[<-a,Ig b]at h;injection h
theorem N4{c:UInt8}{s x:uH}(h:mH c s=[x]):s=x/\c∉x:=by
 have b:=(Ct c s x (by rw[h];exact fo)).2;have a:=Cs c s;rw[h,K7]at a;exact⟨a.symm,b⟩
open Go.RowKit Go.Proofs
def RngP{α:Type}(f:α->Q)(m r:Nat)(last:B (Int×α))(left:H (Int×α))(w:ay):Prop:=
 m≠r/\∃es a b,w.heap[m]? =U (.map es a)/\Lv es a/\w.heap[r]? =U (.mapIter (U m) a b a)/\
  (ns es b).toList.map (λe=>(e.key,e.val))=left.map (λp=>(dd .i64 p.1,f p.2))/\
  ∀p,last=U p->∃e∈es.toList,b.back?=U e.born/\e.key=.int .i64 p.1/\e.val=f p.2
def UP{α:Type}(f:α->Q)(m r:Nat)(last:B (Int×α))(left:H (Int×α)):Pce where
  own x:=x=m\/x=r
  P w _:=RngP f m r last left w
  lt:=by
    rintro w A x⟨_,es,clock,seen,h1,_,h2,_⟩(rfl|rfl)
    · exact jh h1
    · exact jh h2
  go:=by
    rintro w w' A A' K⟨h0,es,clock,seen,h1,h2,h3,h4⟩hk hK hKo hA;exact⟨h0,es,clock,seen,hk.blk h1 λh=>hKo m h<|.inl Z,h2,hk.blk h3 λh=>hKo r h<|.inr Z,h4⟩
section
variable{P:cc}{ops:Array ec}{aq:fY->Act->ay->Prop}{n:Nat}{env:Nat->Q}{w w' I:ay}{M K:BS}{J:Nat->Chunk}{rest:H ec}
 {d:B Nat} {op:Op} {ty:bk} {pos:String} {af:Array hR} {v:Q} {g:B (Nat×Yi)} {T:bk} {ρ:br->Q} {x y:br} {α:Type} {f:α->Q}
theorem w_range{z:Q}{m:Nat}{je:H (Int×Q)}(l:H (Int×α))(h:SH I M K w J)(i:Nat)(hi:J i=.mp m je)(v:DM P T z)(s:ev n env x=.map (U m))(u:je=l.map λp=>(p.1,f p.2))
    (k:∀w' r,SH I M K w' (df J i (.gT (UP f m r bh l)))->WL P ops aq rest n (gy env d (.pointer (U ⟨r,0,bh⟩))) w'):WL P ops aq (⟨d,.range T x,ty,pos,af,bh⟩::rest) n env w:=by
  obtain⟨t,E,y,A,Ys⟩:=v.desc;obtain⟨es,a,q,j,e⟩:=h.mpAt i hi;have c:(bm (ev n env) ⟨d,.range T x,ty,pos,af,bh⟩).run P w=.ok (.value<|.pointer<|some ⟨w.heap.size,0,bh⟩) (w.alloc<|.mapIter (U m) a #[] a):=by
    simp only[bm,s];simp[run_range_map w T t E m es a y q]
  refine aC c<|k _ _ ?_;have o:=jh q;refine h.step i (N:=BE) (Grow.alloc _ _) (λ_ h=>h.elim) (λb g hl=>?_) ?_
  · rw[hi];rcases g with rfl|rfl
    · rfl
    · exact ZD hl<|Nat.lt_irrefl _
  · refine⟨Nat.ne_of_lt o,es,a,#[],by rw[(Grow.alloc _ _).blk q],e,heap_alloc_new _ _,?_,λp h=>by cases h⟩;have:ns es #[]=es:=by unfold ns;exact vi.2 (λx _=>by simp)
    rw[this,j,u,List.map_map];rfl
theorem Hz{r:Nat}{a:B Nat}{s c:Nat}{d:Array Nat}(o:Obj)(b:w.heap[r]? =U (.mapIter a s d c)):(setObj r o).run P w=.ok () (yG w r o):=by
 simp only[setObj,ly,b];rfl
theorem run_next_any(ty:bk){m r a:Nat}{es:Array MapEntry}{b:Array Nat}(y:w.heap[m]? =U (.map es a))(s:w.heap[r]? =U (.mapIter (U m) a b a))(f:∀e∈es.toList,e.born<a):
    ((ns es b).size=0/\(vR (.pointer (U ⟨r,0,bh⟩)) aw ty).run P w=.ok (.tuple #[.bool aw]) w)\/
    ∃e∈(ns es b).toList,∃w1:ay,(w1=w\/w1=w.drew)/\(vR (.pointer (U ⟨r,0,bh⟩)) aw ty).run P w=.ok (.tuple #[.bool bd,e.key,e.val]) (yG w1 r (.mapIter (U m) a (b.push e.born) a)):=by
  have o:(kx r).run P w=.ok (.mapIter (U m) a b a) w:=by simp[kx,ly,s]
  have p:(kx m).run P w=.ok (.map es a) w:=by simp[kx,ly,y]
  simp only[vR,cC,o,p,bW,next_test_false b es a a f (cj _),cL,if_false];unfold ns;have c:∀x∈(Cp (λe=> !b.contains e.born) es).toList,x.born<a:=λx d=>f x (by simp at d⊢;exact d.1);generalize Cp (λe=> !b.contains e.born) es=ry at c⊢;have u:ry.filter (λx=>decide<|x.born<a)=ry:=vi.2 (λx d=>by simpa using c x (by simpa using d));have z:ry.filter (λx=>decide<|x.born≥a)= #[]:=by
    rw[Array.filter_eq_empty_iff];intro x d;have:=c x (by simpa using d);simp;omega
  simp only[u,z,Array.append_empty];by_cases t:ry.size=0
  · left;have:ry= #[]:=Array.eq_empty_of_size_eq_zero t;subst this;refine⟨Z,?_⟩;simp[choose,ly,sk]
  · right;have k:ry.isEmpty=false:=by simp[Array.isEmpty,t]
    simp only[k,cL,if_false,Array.empty_append,Array.size_map];have l:∃(j:Nat) (w1:ay),j<ry.size/\(w1=w\/w1=w.drew)/\(choose<|Question.mapNext ry.size).run P w=.ok j w1:=by
      by_cases q:ry.size<=1
      · exact⟨0,w,by omega,.inl Z,by simp[choose,ly,sk,q]⟩
      · exact⟨_,w.drew,Nat.mod_lt _ V,.inr Z,by
          simp only[choose,ly,sk,decide_eq_true_eq,q,if_false,Question.cut];rfl⟩
    obtain⟨j,w1,v,i,g⟩:=l;refine⟨ry[j],by simp,w1,i,?_⟩;have n:w1.heap[r]? =U (.mapIter (U m) a b a):=by rcases i with rfl|rfl<;>exact s
    simp only[g,Array.getElem?_map,jx v,dk,cC,Hz _ n,bW];rfl
theorem leftOf_push(es:Array MapEntry)(a:Array Nat)(b:Nat):(ns es (a.push b)).toList=(ns es a).toList.filter (λx=>x.born !=b):=by
 unfold ns;rw[mu,mu,List.filter_filter];apply List.filter_congr;intro x _;have:(a.push b).contains x.born=(a.contains x.born||(x.born==b)):=by
  rw[Bool.eq_iff_iff];simp[Array.contains_iff_mem]
 rw[this];cases a.contains x.born<;>cases hq:(x.born==b)<;>simp[bne,hq]
section
variable{m r:Nat}{last:B (Int×α)}{left:H (Int×α)}
theorem w_next(h:SH I M K w J)(i:Nat)(hi:J i=.gT (UP f m r last left))(k:ev n env x=.pointer (U ⟨r,0,bh⟩))(X:left=[]->WL P ops aq rest n (gy env d (.tuple #[.bool aw])) w)(k1:∀p g w',left.Perm (p::g)->SH I M K w' (df J i (.gT (UP f m r (U p) g)))->WL P ops aq rest n (gy env d (.tuple #[.bool bd,.int .i64 p.1,f p.2])) w'):
    WL P ops aq (⟨d,.next x aw,ty,pos,af,bh⟩::rest) n env w:=by
  have ab:=h.ok i;rw[hi]at ab;obtain⟨q,es,a,c,F,z,ry,y,h5⟩:=ab;rcases run_next_any (P:=P) ty F ry z.1 with⟨g1,g2⟩|⟨e,he,w1,hw1,g2⟩
  · have hl:left=[]:=by
      have:(ns es c).toList=[]:=cE (by simpa using g1);rw[this]at y;cases left with
      |nil=>rfl
      |cons p l=>cases y
    refine aC (v:=.tuple #[.bool aw]) (w':=w) ?_<|X hl;simp only[bm,k];simp[g2]
  · obtain⟨A,Ys,o⟩:=List.append_of_mem he;rw[o,cY,cF]at y;obtain⟨w0,l2,rfl,R,S⟩:=List.map_eq_append_iff.1 y.symm;obtain⟨p,N,rfl,u,T⟩:=List.map_eq_cons_iff.1 S;simp only[hX]at u;have t:=jh ry;have j:Grow w w1:=by
      rcases hw1 with rfl|rfl
      · exact bF.refl _ _
      · exact⟨Z,Z,Z,cj _,λ_ _ _=>rfl⟩
    have hk:bF (λx=>x=m\/x=r) w (yG w1 r<|.mapIter (U m) a (c.push e.born) a):=bF.step (j.weaken λ_ h _=>h.elim) (bF.yG _ _ _) λx k _=>.inr k;have C:(yG w1 r<|.mapIter (U m) a (c.push e.born) a).heap[m]? =U (.map es a):=by
      rw[(bF.yG w1 r _).block m q (er (jh F) j.size),j.blk F]
    refine aC (v:=.tuple #[.bool bd,.int .i64 p.1,f p.2]) (w':=yG w1 r<|.mapIter (U m) a (c.push e.born) a) ?_<|k1 p (w0++N) _ (List.perm_middle) ?_
    · rw[u.1,u.2];simp only[bm,k];simp[g2]
    · refine h.Oc (S':=UP f m r (U p)<|w0++N) i hi ?_ hk λb hb _=>hb;refine⟨q,es,a,c.push e.born,C,z,wV<|er t j.size,?_,λp' al=>?_⟩
      · rw[leftOf_push,o];have s:((ns es c).toList.map (·.born)).Nodup:=by
          unfold ns;rw[mu];exact(z.2.sublist ((List.filter_sublist (l:=es.toList)).map _))
        rw[o,cY,cF,List.nodup_append]at s;obtain⟨n1,n2,n3⟩:=s;rw[List.filter_append,List.filter_cons_of_neg C3,rB.2 (λx k=>?_),rB.2 (λx k=>?_),cY,cY,<-R,<-T]
        · have:=(AG.1 n2).1;simp only[bne_iff_ne,ne_eq,decide_not,ef,beq_eq_false_iff_ne];intro E;exact this (by rw[<-E];exact List.mem_map.2 ⟨x,k,Z⟩)
        · simp only[bne_iff_ne,ne_eq,decide_not,ef,beq_eq_false_iff_ne];intro E;exact n3 x.born (List.mem_map.2 ⟨x,k,Z⟩) e.born C3 E
      · cases al;refine⟨e,?_,by simp,u.1.symm,u.2.symm⟩;have:e∈(ns es c).toList:=he;unfold ns at this;rw[mu]at this;exact(List.mem_filter.1 this).1
theorem r_entry{p:Int×α}(h:SH I M K w J)(i:Nat)(hi:J i=.gT (UP f m r (U p) left))(s:ρ x=.pointer (U ⟨r,0,bh⟩)):
    (bm ρ ⟨d,.entry x,ty,pos,af,g⟩).run P w=.ok (.value (.tuple #[.int .i64 p.1,f p.2])) w:=by
  have k:=h.ok i;rw[hi]at k;obtain⟨v,es,a,b,u,y,z,A,q⟩:=k;obtain⟨e,n,W,l,o⟩:=q p Z;have c:(kx r).run P w=.ok (.mapIter (U m) a b a) w:=by simp[kx,ly,z]
  have j:(kx m).run P w=.ok (.map es a) w:=by simp[kx,ly,u]
  have t:es.find? (·.born==e.born)=U e:=by rw[<-Array.find?_toList];exact find_born e es.toList y.2 n
  simp only[bm,s];have:(Instr.entry<|.pointer<|some ⟨r,0,bh⟩).run P w=.ok (.tuple #[.int .i64 p.1,f p.2]) w:=by
    simp only[Instr.entry,cC,c,j,bW,W,bne_self_eq_false,cL,if_false,t];rw[l,o];rfl
  simp[this]
theorem SH.rngForget(h:SH I M K w J)(i:Nat)(hi:J i=.gT (UP f m r last left)):SH I M K w (df J i (.gT (UP f m r bh left))):=by
 have e:=h.ok i;rw[hi]at e;obtain⟨d,es,a,c,j,l,n,g,o⟩:=e;exact h.Oc (S':=UP f m r bh left) i hi ⟨d,es,a,c,j,l,n,g,λp h=>by cases h⟩ (bF.refl _ _) λb k _=>k
end
end
def It{α σ:Type}(step:α->σ->B σ):H α->σ->B σ
 |[],s=>U s
 |a::l,s=>(step a s).bind (It step l)
def EJ{α σ:Type}(step:α->σ->B σ)(ry:H α)(s fin:σ):Prop:=∀p,p.Perm ry->It step p s=U fin
open Classical in
noncomputable def Od{α σ:Type}(step:α->σ->B σ)(ry:H α)(s:σ):B σ:=if h:∃fin,EJ step ry s fin then U h.choose else bh
section
variable{α σ:Type}{step:α->σ->B σ}{ry:H α}{s fin:σ}
theorem o_fold(h:Od step ry s=U fin):EJ step ry s fin:=by
  unfold Od at h;split at h
  · rename_i a;cases h;exact a.choose_spec
  · cases h
theorem foldAny_eq(h:EJ step ry s fin):Od step ry s=U fin:=by
 have a:∃fin,EJ step ry s fin:=⟨fin,h⟩;unfold Od;rw[dif_pos a];have b:=a.choose_spec ry<|sB _;rw[h ry (sB _)]at b;exact b.symm
theorem EJ.nil(h:EJ step [] s fin):s=fin:=by
 have:=h []<|sB _;exact dq this
theorem EJ.cons{ry L':H α}{p:α}(h:EJ step ry s fin)(J:ry.Perm (p::L')):∃a,step p s=U a/\EJ step L' a fin:=by
 have d:=h (p::L') J.symm;obtain⟨a,b,e⟩:=aO d;refine⟨a,b,λq c=>?_⟩;have:=h (p::q) ((c.cons p).trans J.symm);unfold It at this;rw[b]at this;exact this
end
open Go.RowKit Go.Proofs
section
variable{I w w':ay}{M K:BS}{J:Nat->Chunk}{C:Chunk}
theorem SH.J9{b:Nat}{cs:H Q}(h:SH w M K w J)(i:Nat)(ho:∃E,w.heap[b]? =U (.cells (ar cs) E (0,0)))(a:¬C.own' b)(hn:∀b,kr J b->C.own' b):SH w M K w (df J i (.pt b 0 cs)):=by
 obtain⟨E,c⟩:=ho;exact h.pt i (λh=>a<|hn b h) ⟨_,E,_,c,by simp⟩
theorem Cc{i b o:Nat}{cs:H Q}(hn:∀b,kr J b->C.own' b):∀x,kr (df J i (.pt b o cs)) x->C.own' x:=by
  rintro x⟨j,a⟩;by_cases e:j=i
  · subst e;rw[dJ]at a;exact a.elim
  · rw[iI e]at a;exact hn x ⟨j,a⟩
theorem SH.loseC3{c e f:Chunk}(h:SH I M K w J)(i j k:Nat)(g:i≠j)(hik:i≠k)(d:j≠k)(hi:J i=c)(m:J j=e)(l:J k=f)(n:bF (λb=>c.own' b\/e.own' b\/f.own' b) w w'):
    SH I M K w' (df (df (df (df (df J j .no) i (.two (J i) (J j))) k .no) i (.two ((df (df J j .no) i (.two (J i) (J j))) i) ((df (df J j .no) i (.two (J i) (J j))) k))) i .no):=by
  have o:=h.pair i j g;have p:=o.pair i k hik;refine p.Ww i (dJ _ _ _) ?_;rw[dJ,iI (λe=>hik e.symm),iI (λe=>d e.symm),hi,m,l];refine n.weaken λb a _=>?_;rcases a with a|a|a
  · exact .inl<|.inl a
  · exact .inl<|.inr a
  · exact .inr a
end
section
variable{α:Type}{R:uQ α}{E:bk}{I w w':ay}{M K A:BS}{J:Nat->Chunk}{C:Chunk}{v:Q}{l:H α}
theorem dC.srcB{Ys:BS}(h:dC R E w A v l)(r:∀b,ob v b->¬Ys b):dN R w Ys A v l:=by
  have t:=h.src;obtain⟨xs,s,x⟩:=h;rcases s.2 with⟨rfl,hn⟩|⟨g,cap,cur,rfl,e1,e2,e3,e4,e5,e6⟩
  · have:l=[]:=cE hn;subst this;exact dN.nil
  · obtain⟨a,c,d,m,n,f,p⟩:=t;refine⟨a,c,d,m,n,f,λi hi=>?_⟩;obtain⟨b,o,cells,F,j,e,u,k,q⟩:=p i hi;refine⟨b,o,cells,F,j,e,?_,k,q⟩;subst e;simp only[Value.slice.injEq,eV,Addr.mk.injEq]at d;exact r b (by simp[ob,d.1.1])
theorem Oe{i:Nat}(hn:∀b,kr J b->C.own' b):∀b,kr (df J i (.sr R v l)) b->C.own' b:=by
  rintro b⟨j,a⟩;by_cases e:j=i
  · subst e;rw[dJ]at a;exact a.elim
  · rw[iI e]at a;exact hn b ⟨j,a⟩
theorem SH.argSrC(h:SH w M K w J)(i:Nat)(ho:dN R w C.own' (λb=>M b\/C.own' b) v l)(hn:∀b,kr J b->C.own' b):SH w M K w (df J i (.sr R v l)):=
 h.know i (λ_ h=>h) (ho.sub (λb a _=>hn b a) (λb a _=>a.imp id (hn b)))
theorem av_all{i:Nat}(hi:J i=C):∀b,(M b\/rest J i b)\/C.own' b->SH.A M J b:=by
  rintro b((a|a)|a)
  · exact .inl a
  · exact .inr<|nV a
  · exact .inr ⟨i,by rw[hi];exact a⟩
theorem SH.ownSr(h:SH I M K w J)(i j:Nat)(c:i≠j)(d:J j=.own R E v l)(hi:J i=C):dN R w C.own' (λb=>(M b\/rest J i b)\/C.own' b) v l:=
 ((h.bZ j d).srcB (Ys:=C.own') (λb a e=>h.apart i j c b (by rw[hi];exact e) (by rw[d];exact a))).sub (λ_ h _=>h) (λb a _=>av_all hi b a)
theorem SH.srSr(h:SH I M K w J)(i j:Nat)(c:J j=.sr R v l)(hi:J i=C):dN R w C.own' (λb=>(M b\/rest J i b)\/C.own' b) v l:=
 (h.srAt j c).sub (λb a _=>⟨i,by rw[hi];exact a⟩) (λb a _=>av_all hi b a)
end
def Zr(s:uH):B (H uH):=iE (O s<4294967281/\(s.all λb=>G (b.toNat<128))=bd/\O (gw s)<=4294967281) (U (gw s))
theorem fields_w{P:cc}{f:mT}{E:bk}{g q:Nat}{I:ay}{M:BS}(a:∀(s:ByteArray) (w:ay),s.size<4294967281->(∀(j:Nat) b,s.data.toList[j]? =U b->b.toNat<128)->px P w "strings.asciiSpace" .u8 zj->
    bp P f #[.string s] w λe w'=>e=.returned (.slice (U ⟨w.heap.size,0,bh⟩) (O (gw s.data.toList)) (O (gw s.data.toList)))/\w'=w.alloc (.cells ((gw s.data.toList).map λl=>pb ⟨ar l⟩).toArray E))
    (m:P.globalNamed "strings.asciiSpace" =U q) (n:∀b,M b->b<I.heap.size) (d:qf P g I) {s:uH} {r:H uH} (W:Zr s=U r):bp P f #[bJ s] I (λe w'=>Grow I w'/\∃u,e=.returned u/\bY KD w' M u r):=by
  obtain⟨⟨i,k,p⟩,W⟩:=dh W;cases W;refine(a ⟨ar s⟩ I (by rw[pq];exact i) (λj b c=>?_) (d.asc q m)).mono ?_
  · have:=pd.1 k b<|List.mem_of_getElem? (by simpa using c);simpa using this
  · rintro e w'⟨rfl,rfl⟩;refine⟨Grow.alloc _ _,_,Z,?_⟩;have:=TX (E:=E) (l:=(gw s).map λl=>(⟨ar l⟩:ByteArray)) (cap:=O (gw s)) (cells:=((gw s).map λl=>pb ⟨ar l⟩).toArray) I n (by rw[dr];exact cj _) (by unfold maxLen;omega) (λj o=>by simp);rw[dr,List.map_map]at this;have e:(List.map (((λx=>x.data.toList):ByteArray->uH)∘λl=>⟨ar l⟩)<|gw s)=gw s:=by simp[Function.comp_def]
    simpa[Function.comp_def]using this
open Go.RowKit Go.Proofs Go.ChangeShapes
def Wx(b o:Nat)(r:Nat×Nat×Nat):Yi:=hP r.1 b&&(lr r.2.1 o&&mv o (r.2.1+r.2.2))
def Ft(b o:Nat):H (Nat×Nat×Nat)->H (Nat×Nat×Nat)
 |[]=>[(b,o,1)]
 |(c,s,l)::r=>bif hP c b&&hP (o+1) s then(b,o,l+1)::r else(b,o,1)::(c,s,l)::r
def Ts:H MemPlace->B (H (Nat×Nat×Nat))
 |[]=>U []
 | .cell b o::r=>Option.bind (Ts r) λa=>bif a.any (Wx b o)then bh else U (Ft b o a)
 |_::_=>bh
theorem addRun_old{b o c q:Nat}{a:H (Nat×Nat×Nat)}(h:a.any (Wx c q)=bd):(Ft b o a).any (Wx c q)=true:=by
  cases a with
  |nil=>cases h
  |cons r a=>
    obtain⟨d,s,l⟩:=r;have e:Ft b o ((d,s,l)::a)=bif hP d b&&hP (o+1) s then(b,o,l+1)::a else(b,o,1)::(d,s,l)::a:=rfl;rw[e];cases hc:(hP d b&&hP (o+1) s)with
    |false=>rw[Z1,uG,h,Bool.or_true]
    |true=>
      rw[ZW];simp only[cS,yc]at hc;obtain⟨rfl,rfl⟩:=hc;rw[uG]at h⊢;rcases Bool.or_eq_true_iff.1 h with h|h
      · unfold Wx at h⊢;simp only[cS,yc,tx,Nat.blt_eq]at h;have:(hP d c&&(lr o q&&mv q (o+(l+1))))=true:=by
          simp only[cS,yc,tx,Nat.blt_eq];omega
        rw[this,Bool.true_or]
      · rw[h,Bool.or_true]
theorem addRun_new{b o:Nat}{a:H (Nat×Nat×Nat)}:(Ft b o a).any (Wx b o)=true:=by
 cases a with
 |nil=>simp[Ft,Wx]
 |cons r a=>
  obtain⟨d,s,l⟩:=r;have e:Ft b o ((d,s,l)::a)=bif hP d b&&hP (o+1) s then(b,o,l+1)::a else(b,o,1)::(d,s,l)::a:=rfl;rw[e];cases (hP d b&&hP (o+1) s)with
  |false=>simp[Wx]
  |true=>simp[Wx]
theorem Zt:∀{f:H MemPlace} {d:H (Nat×Nat×Nat)},Ts f=U d->f.Nodup/\∀b o,MemPlace.cell b o∈f->d.any (Wx b o)=bd
  |[],d,h=>⟨List.nodup_nil,λ_ _ a=>by cases a⟩
  | .cell b o::r,d,h=>by
    unfold Ts at h;obtain⟨q,j,h⟩:=Option.bind_eq_some_iff.1 h;obtain⟨i,g⟩:=Zt j;cases hc:q.any (Wx b o)with
    |true=>rw[hc]at h;cases h
    |false=>
      rw[hc,Z1]at h;cases h;refine⟨AG.2 ⟨λa=>(by rw[g b o a]at hc;cases hc),i⟩,λc p a=>?_⟩;rcases bs.1 a with e|a
      · cases e;exact addRun_new
      · exact addRun_old<|g c p a
  | .map _::_,d,h=>by cases h
theorem HC{P:cc}{w:ay}{l:H (String×DataW Unit)}(fuel:Nat)(h:(DataW.laidRun P w fuel (l.map (·.1))).map (·.1)=U l)
    (a:(DataW.laidRun P w fuel (l.map (·.1))).map (λx=>(Ts x.2).isSome&&laidRowsB P w x.2)=U bd):laidMet P l w:=by
  cases hx:DataW.laidRun P w fuel (l.map (·.1))with
  |none=>simp[hx]at h
  |some x=>
    obtain⟨d,c⟩:=x;simp only[hx,dk,eV]at h a;subst h;simp only[cS]at a;obtain⟨e,b⟩:=Option.isSome_iff_exists.1 a.1;exact laidMet_of_run fuel hx (decide_eq_true (Zt b).1) a.2
structure ik where
 at_:Int
 ok:Bool
deriving DecidableEq
open Go.RowKit Go.Proofs
section
variable{α β:Type}{N:W9 α β}{R:uQ β}{E Es T:bk}{I w w':ay}{M K A:BS}{J:Nat->Chunk}{v u u':Q}{us us':H Q}{ry L':H α}{ss ss':H (H β)}{s:H β}{x y:α}{k:Nat}{ho ho':Nat->Prop}{C:Chunk}
theorem Hv{b:Type}(P:Nat->b->Prop):∀(n:Nat),(∀i,i<n->∃u,P i u)->∃us:H b,O us=n/\∀i u,us[i]? =U u->P i u
  |0,_=>⟨[],rfl,λi u h=>by cases h⟩
  |n+1,h=>by
    obtain⟨us,c,e⟩:=Hv P n λi hi=>h i V;obtain⟨u,d⟩:=h n V;refine⟨us++[u],by simp[c],λi z a=>?_⟩;rw[jn]at a;split at a
    · exact e i z a
    · rename_i hl;have:i-O us=0:=by
        rcases Nat.eq_zero_or_pos (i-O us)with h0|h0
        · exact h0
        · rw[bG (by simp;omega)]at a;cases a
      rw[this]at a;cases a;obtain rfl:i=n:=by omega
      exact d
def D1(k:Nat):Nat->Prop:=λi=>k<=i
def Q8{β:Type}(R:uQ β)(k:Nat)(us:H Q)(ss:H (H β)):Pce where
 own:=BE
 P w A:=∀i u s,k<=i->us[i]? =U u->ss[i]? =U s->bY R w A u s
 lt:=λ_ h=>h.elim
 go:=λh hk hK hKo hA i u s hi hu W=>bY.go (h i u s hi hu W) hk hK (λb hb hl=>(hA b hb hl).elim id (λh=>h.elim))
theorem SH.famHo(h:SH I M K w J)(j:Nat)(ho':Nat->Prop)(a:J j=.gT (bU R E ho us ss))(d:∀i,ho i↔ho' i):SH I M K w (df J j (.gT (bU R E ho' us ss))):=by
 have e:ho=ho':=funext λi=>propext<|d i;subst e;exact h.Oc (S':=bU R E ho us ss) j a (h.famAt j a) (bF.refl _ _) λb c _=>c
theorem SH.thaw{R':uQ α}(h:SH I M K w J)(i j q:Nat)(hi:J i=.own R' E v ry)(Ys:i≠j)(al:i≠q)(z:j≠q)(k:R'.sz=N.sz)(op:∀w A cs x,R'.rd w A cs x->∃u,cs=N.enc x u/\bY R w A u (N.sub x)):
    ∃us,O us=O ry/\SH I M K w (df (df (df J i (.own N.raw E v (ry.zip us))) j (.gT (bU R Es (D1 0) us (ry.map N.sub)))) q (.gT (Q8 R 0 us (ry.map N.sub)))):=by
  have ho:=h.bZ i hi;have aq:=ho;obtain⟨xs,P,F⟩:=ho;obtain⟨us,hl,l⟩:=Hv (λi u=>∃hi:i<O ry,(xs.drop (i*R'.sz)).take R'.sz=N.enc ry[i] u/\bY R w (λb=>SH.A M J b\/ob v b) u (N.sub ry[i])) (O ry) (λi hi=>by
    obtain⟨u,n,m⟩:=op _ _ _ _<|F i hi;exact⟨u,hi,n,m⟩)
  refine⟨us,hl,?_⟩;have ab:SH I M K w (df J i<|.own N.raw E v<|ry.zip us):=by
    refine h.step i (bF.refl BE w) (λ_ h=>h.elim) (λb d _=>by rw[hi];exact d) ⟨xs,?_,?_⟩
    · rw[dE hl];show w.ownsRow 0 E N.sz v (O ry) xs;rw[<-k];exact P
    · intro q t;have w0:q<O ry:=by rw[dE hl]at t;exact t
      have o:q<O us:=by omega
      obtain⟨_,n,m⟩:=l q us[q]<|bl o;refine⟨?_,?_⟩
      · show(xs.drop<|q*N.sz).take N.sz=N.enc ((ry.zip us)[q]).1 ((ry.zip us)[q]).2;rw[zp,<-k];exact n
      · rw[zp];exact m.one
  have a:∀b,¬KG (D1 0) us b:=λb⟨i,u,_,hn,_⟩=>hn<|gj i;have S:SH I M K w (df (df J i<|.own N.raw E v<|ry.zip us) j<|.gT<|bU R Es (D1 0) us<|ry.map N.sub):=
    ab.know j (c:=.gT (bU R Es (D1 0) us (ry.map N.sub))) (λb d=>a b d) ⟨by rw[dr];exact hl,λi u s _ _ hn=>ZD (gj i) hn,λi j u v _ hn=>ZD (gj i) hn⟩
  refine S.know q (c:=.gT<|Q8 R 0 us<|ry.map N.sub) (λb d=>d) ?_;intro p u s _ C W;obtain⟨r,n,m⟩:=l p u C;rw[en,bl r]at W;cases W;have f:∀b,(M b\/kr (df (df J i<|.own N.raw E v<|ry.zip us) j<|.gT<|bU R Es (D1 0) us<|ry.map N.sub) b)->SH.A M J b\/ob v b:=by
    rintro b(d|⟨c,g⟩)
    · exact .inl<|.inl d
    · by_cases e:c=j
      · subst e;rw[dJ]at g;exact ZD g (a b)
      · rw[iI e]at g;by_cases y:c=i
        · subst y;rw[dJ]at g;exact .inr g
        · rw[iI y]at g;exact .inl (.inr ⟨c,g⟩)
  exact m.sub (λb d _=>f b d) λb d _=>f b d
theorem SH.rdpAt(h:SH I M K w J)(q:Nat)(c:J q=.gT (Q8 R k us (ry.map N.sub)))(hl:O us=O ry)(b:ry[k]? =U x):∃u,us[k]? =U u/\bY R w (SH.A M J) u (N.sub x):=by
 obtain⟨u,a⟩:=us_at hl b;exact⟨u,a,h.pceAt q c k u _ (cj _) a (by rw[en,b];rfl)⟩
theorem SH.rdpStep(h:SH I M K w J)(q:Nat)(d:J q=.gT (Q8 R k us ss)):SH I M K w (df J q (.gT (Q8 R (k+1) (us.set k u) (ss.set k s)))):=by
 have e:=h.pceAt q d;refine h.Oc (S':=Q8 R (k+1) (us.set k u)<|ss.set k s) q d ?_ (bF.refl _ _) λb f _=>f;intro i z t hi a c;rw[ep V]at a c;exact e i z t V a c
theorem SH.pendPut(h:SH I M K w J)(j q m:Nat)(y:α)(f:J j=.gT (bU R Es (D1 k) us (ry.map N.sub)))(n:J q=.gT (Q8 R k us (ry.map N.sub)))(p:J m=.own R Es u s)(c:j≠q)(a:j≠m)(b:q≠m)(l:ry[k]? =U x)(d:us[k]? =U u')(g:N.sub y=s):
    SH I M K w (df (df (df (df (df J q (.gT (Q8 R (k+1) (us.set k u) ((ry.map N.sub).set k s)))) j (.gT (bU R Es (D1 k) (us.set k u) ((ry.map N.sub).set k s)))) m .no) j (.gT (bU R Es (D1 (k+1)) (us.set k u) (((ry.map N.sub).set k s).set k s)))) j (.gT (bU R Es (D1 (k+1)) (us.set k u) ((ry.set k y).map N.sub)))):=by
  have v:=h.rdpStep (u:=u) (s:=s) q n;have hl:=h.iy j f;have o:=v.famRe (us':=us.set k u) (ss':=(ry.map N.sub).set k s) j (by rw[iI c];exact f) (by simp[hl]) (λi hi=>by
    have:k≠i:=λe=>hi (by subst e;exact cj _);rw[ep this,ep this];exact⟨Z,Z⟩)
  have r:=OE l;have z:=o.Zq j m (k:=k) (u:=u) (s:=s) (dJ _ _ _) (by rw[iI (λe=>a e.symm),iI (λe=>b e.symm)];exact p) a (St d) (cj k) (D1 (k+1)) (λi=>⟨λhi=>by
    rcases yd (show k<=i from hi)with e|e
    · exact .inr e.symm
    · exact .inl e,λhi=>hi.elim (λhi=>zr hi) (λe=>by subst e;exact cj _)⟩) (λhi=>ZD hi (vS k))
  have e:((ry.map N.sub).set k s).set k s=(ry.set k y).map N.sub:=by rw[List.set_set,kU,g]
  have t:=z.famRe (us':=us.set k u) (ss':=(ry.set k y).map N.sub) j (dJ _ _ _) (by simp[hl]) (λi hi=>⟨Z,by rw[e]⟩);exact t
theorem SH.famAll(h:SH I M K w J)(j:Nat)(e:J j=.gT (bU R Es (D1 k) us (ry.map N.sub)))(p:O ry<=k):SH I M K w (df J j (.gT (bU R Es hn us (ry.map N.sub)))):=by
  have hl:=h.iy j e;have l:=h.famAt j e;have a:∀i (z:Q),us[i]? =U z->¬D1 k i:=λi z c hi=>by
    have:=OE c;have:k<=i:=hi;omega
  refine h.Oc (S':=bU R Es hn us<|ry.map N.sub) j e ⟨l.1,λi z t c o _=>?_,λi j z v f _ _ c n=>l.2.2 i j z v f (a i z c) (a j v n) c n⟩ (bF.refl _ _) λb⟨i,z,d,_,m⟩_=>⟨i,z,d,a i z d,m⟩;refine(l.2.1 i z t c o<|a i z c).go (bF.refl BE w) (λ_ h=>h.elim) (λ_ h=>h.elim) λb g _=>?_;rcases g with g|⟨i,z,d,_,m⟩
  · exact .inl<|.inl g
  · exact .inl<|.inr ⟨i,z,d,a i z d,m⟩
def hmv(a:H Int):Nat->Prop:=λi=>(i:Int)∈a
theorem SH.famMv0(h:SH I M K w J)(j:Nat)(a:J j=.gT (bU R Es hn us ss)):SH I M K w (df J j (.gT (bU R Es (hmv []) us ss))):=
 h.famHo j (hmv []) a (λi=>⟨λh=>h.elim,λh=>by cases h⟩)
theorem SH.mvOpen{b:H Int}{kk:Int}(h:SH I M K w J)(j m:Nat)(d:J j=.gT (bU R Es (hmv b) us (ry.map N.sub)))(k:J m=.no)(c:j≠m)(l:0<=kk)(f:ry[kk.toNat]? =U x)(a:kk∉b):
    ∃u,us[kk.toNat]? =U u/\SH I M K w (df (df J j (.gT (bU R Es (hmv (b++[kk])) us (ry.map N.sub)))) m (.own R Es u (N.sub x))):=by
  have hl:=h.iy j d;obtain⟨u,g⟩:=us_at hl f;have e:((kk.toNat:Nat):Int)=kk:=Int.toNat_of_nonneg l;refine⟨u,g,h.famOpen j m d k c g (by rw[en,f];rfl) (λh=>a (by rw[<-e];exact h)) (hmv (b++[kk])) (λi=>?_)⟩;unfold hmv;rw[List.mem_append,List.mem_singleton];constructor
  · rintro(h|h)
    · exact .inl h
    · exact .inr V
  · rintro(h|h)
    · exact .inl h
    · exact .inr (by rw[h];exact e)
theorem SH.gotC(h:SH I M K w J)(i:Nat)(e:Grow w w')(d:C.Zk)(c:C.holds w' (SH.A M J) C.own')(hn:∀b,C.own' b->w.heap.size<=b):SH I M K w' (df J i C):=
  h.learn i e hn (Chunk.re d c (λb a _=>by
    rcases a with a|a|a
    · exact .inl<|.inl a
    · exact .inl<|.inr a
    · exact .inr a))
theorem Zu(ho:∀b,C.own' b->b<I.heap.size->BE b):∀b,C.own' b->I.heap.size<=b:=λb a=>Nat.le_of_not_lt (λhl=>ho b a hl)
theorem nLst_op{R:uQ β}:∀(w:ay) (A:BS) cs (x:H β),(uu R).rd w A cs x->∃u,cs=(cZ β).enc x u/\bY R w A u ((cZ β).sub x):=λ_ _ _ _ h=>h
end
theorem GW:∀(w:ay) (A:BS) cs (x:Frame),jB.rd w A cs x->∃u,cs=aS.enc x u/\bY bH w A u (aS.sub x):=λ_ _ _ _ h=>h
def V4{α:Type}(k:Int)(v:α):H (Int×α)->H (Int×α)
 |[]=>[(k,v)]
 |p::r=>if k=p.1 then(p.1,v)::r else p::V4 k v r
theorem Vl{α:Type}{f:α->Q}{k:Int}{v:α}:∀(l:H (Int×α)),I2 (l.map λp=>(p.1,f p.2)) k (f v)=(V4 k v l).map λp=>(p.1,f p.2)
  |[]=>rfl
  |p::r=>by
    show(if k=p.1 then(p.1,f v)::_ else(p.1,f p.2)::I2 _ k (f v))=_;unfold V4;split
    · rfl
    · rw[Vl r];rfl
theorem N7.keep{w w':ay}{K:BS}{b:Nat}{je:H (Int×Q)}(h:N7 w b je)(a:bF K w w')(hn:¬K b):N7 w' b je:=by
 obtain⟨es,c,d,e,f⟩:=h;exact⟨es,c,a.blk d hn,e,f⟩
section
variable{P:cc}{w:ay}{ρ:br->Q}{d:B Nat}{ty:bk}{pos:String}{af:Array hR}{g:B (Nat×Yi)}{T:bk}
theorem r_lk1M{α:Type}{f:α->Q}{zz:α}{z:Q}{x y:br}{b:Nat}{k:Int}(l:H (Int×α))(i:N7 w b (l.map λp=>(p.1,f p.2)))(a:DM P T z)(j:ρ x=.map (U b))(e:ρ y=.int .i64 k)(c:z=f zz):
  (bm ρ ⟨d,.lookup T x y aw,ty,pos,af,g⟩).run P w=.ok (.value (f ((lk k l).getD zz))) w:=by
 have:=r_lookup (d:=d) (ty:=ty) (pos:=pos) (af:=af) (g:=g) a j e i;rw[c,HL]at this;exact this
end
open Go.RowKit Go.Proofs Go.MapKept
def Ui(w:ay)(b:Nat)(je:H (Yi×Q)):Prop:=
 ∃es a,w.heap[b]? =U (.map es a)/\es.toList.map (λe=>(e.key,e.val))=je.map (λp=>(cM p.1,p.2))/\Lv es a
def agetB(z:Q)(je:H (Yi×Q))(k:Yi):Value:=match je with|[]=>z|p::r=>if k=p.1 then p.2 else agetB z r k
def Jx(je:H (Yi×Q))(k:Yi)(v:Q):H (Yi×Q):=match je with|[]=>[(k,v)]|p::r=>if k=p.1 then(p.1,v)::r else p::Jx r k v
def Tt(je:H (Yi×Q))(k:Yi)(i:Nat):B (Nat×Q):=match je with|[]=>bh|p::r=>if k=p.1 then U (i,p.2)else Tt r k (i+1)
theorem Wy{je:H (Yi×Q)}{k:Yi}:∀{es:H MapEntry} {i:Nat},es.map (λe=>(e.key,e.val))=je.map (λp=>(cM p.1,p.2))->
    tI .bool (.bool k) es i=U (Tt je k i):=by
  induction je with
  |nil=>intro es i h;cases es with|nil=>rfl|cons e r=>simp at h
  |cons p r ih=>
    intro es i h;cases es with
    |nil=>simp at h
    |cons e s=>
      simp only[cF,List.cons.injEq,hX]at h;obtain⟨⟨b,c⟩,d⟩:=h;unfold tI Tt;by_cases a:k=p.1
      · simp[tM,b,c,a]
      · have:(k==p.1)=false:=by simpa using a
        simp[tM,b,this,a,ih d]
theorem OX{z:Q}{k:Yi}:∀{je:H (Yi×Q)} {i:Nat},agetB z je k=match Tt je k i with|some (_,v)=>v|none=>z
  |[],i=>rfl
  |p::r,i=>by
    unfold agetB Tt;by_cases a:k=p.1
    · simp[a]
    · simp only[a,if_false];exact OX
theorem Iy{k:Yi}{v:Q}:∀{je:H (Yi×Q)} {i:Nat},Tt je k i=bh->Jx je k v=je++[(k,v)]
  |[],i,_=>rfl
  |p::r,i,h=>by
    unfold Tt at h;unfold Jx;by_cases a:k=p.1
    · simp[a]at h
    · simp only[a,if_false]at h⊢;rw[Iy h];rfl
theorem IN{k:Yi}{v u:Q}:∀{je:H (Yi×Q)} {i j:Nat},Tt je k i=U (j,u)->i<=j/\∃p,je[j-i]? =U p/\p.1=k/\Jx je k v=je.set (j-i) (k,v)
  |[],i,j,h=>by cases h
  |p::r,i,j,h=>by
    unfold Tt at h;unfold Jx;by_cases a:k=p.1
    · simp only[a,if_true,eV,hX]at h;obtain⟨rfl,_⟩:=h;refine⟨cj _,p,by simp,a.symm,?_⟩;simp[a]
    · simp only[a,if_false]at h⊢;obtain⟨e,q,c,d,b⟩:=IN (v:=v) h;refine⟨by omega,q,?_,d,?_⟩
      · rw[show j-i=(j-(i+1))+1 by omega];simpa using c
      · rw[show j-i=(j-(i+1))+1 by omega,b];simp
structure Lq(P:cc)(T:bk)(z:Q):Prop where
  desc:∃K E,P.underlying T=U (.map K E)/\P.underlying K=U .bool/\(P.info? E).map (·.zero)=U (U z)
def mpB(b:Nat)(je:H (Yi×Q)):Pce where
 own:=λx=>x=b
 P w _:=Ui w b je
 lt:=by rintro w A x ⟨es,c,h,_⟩ rfl;exact jh h
 go:=by rintro w w' A A' K ⟨es,c,h1,h2,h3⟩ hk _ hKo _;exact⟨es,c,hk.blk h1 λh=>hKo b h Z,h2,h3⟩
section
variable{P:cc}{ops:Array ec}{aq:fY->Act->ay->Prop}{n:Nat}{env:Nat->Q}{w w' I:ay}{M K:BS}{J:Nat->Chunk}{rest:H ec}
 {d:B Nat} {op:Op} {ty:bk} {pos:String} {af:Array hR} {v:Q} {g:B (Nat×Yi)} {T:bk} {ρ:br->Q}
section
variable{k:Yi}
theorem ckBool{e:Yi}{K:bk}(a:P.underlying K=U .bool):(Instr.checkKey e 10000 K (.bool k)).run P w=.ok () w:=
 run_checkKey a (by trivial) e 9999
variable{z:Q}{x y:br}{b:Nat}{je:H (Yi×Q)}
theorem r_lookupB(t:Lq P T z)(n:ρ x=.map (U b))(m:ρ y=.bool k)(c:Ui w b je):
  (bm ρ ⟨d,.lookup T x y aw,ty,pos,af,g⟩).run P w=.ok (.value (agetB z je k)) w:=by
 obtain⟨K,E,u,j,f⟩:=t.desc;obtain⟨es,a,c,q,l⟩:=c;obtain⟨i,hi,v⟩:∃i,P.info? E=U i/\i.zero=U z:=by
  cases hi:P.info? E with
  |none=>simp[hi]at f
  |some i=>simp[hi]at f;exact⟨i,Z,f⟩
 have s:=Wy (k:=k) (i:=0) q;have o:(kx b).run P w=.ok (.map es a) w:=by simp[kx,ly,c]
 rw[OX (z:=z) (k:=k) (je:=je) (i:=0)];simp only[bm,Instr.lookup,cD,n,m];have r:=λe=>ckBool (P:=P) (w:=w) (e:=e) (K:=K) (k:=k) j;simp only[cC,ga,bW,u,cR,o,r,ij,cD,j,s];cases ha:Tt je k 0 with
 |none=>simp[zeroValue,typeInfo,hi,v]
 |some p=>simp
theorem wl_insertB{x y u:br}(X:Lq P T z)(ry:ev n env x=.map (U b))(w0:ev n env y=.bool k)(N:ev n env u=v)(c:Ui w b je)(h:∀w',bF (λx=>x=b) w w'->Ui w' b (Jx je k v)->WL P ops aq rest n (gy env d gx) w'):
    WL P ops aq (⟨d,.insert T x y u,ty,pos,af,bh⟩::rest) n env w:=by
  obtain⟨K,E,R,al,h3⟩:=X.desc;obtain⟨es,a,c,o,g⟩:=c;have A:=Wy (k:=k) (i:=0) o;have M:(kx b).run P w=.ok (.map es a) w:=by simp[kx,ly,c]
  have s:=jh c;have ab:=λe=>ckBool (P:=P) (w:=w) (e:=e) (K:=K) (k:=k) al;have f:O es.toList=O je:=by have:=ZS O o;simpa using this
  cases ha:Tt je k 0 with
  |none=>
    refine BX (w':=yG w b<|.map (es.push {key:=.bool k,val:=v,born:=a})<|a+1) ?_<|h _ (bF.yG _ _ _) ⟨_,_,wV s,?_,g.push _ _⟩
    · rw[ha]at A;simp only[bm,mm,cD,ry,w0,N];simp only[cC,ga,bW,R,cR,M,ab,ij,cD,al,A,run_setObj_map _ c];rfl
    · rw[Iy ha];simp[o]
  |some p=>
    obtain⟨j,u0⟩:=p;obtain⟨_,q,t,Ys,C0⟩:=IN (v:=v) ha;simp only[Nat.sub_zero]at t C0;have C:j<es.size:=by
      have m:j<O je:=by
        rcases cH j (O je) with m|m
        · exact m
        · rw[bG m]at t;cases t
      simpa[<-f]using m
    have r:es[j].key=.bool k:=by
      have S:=ZS (λl=>l[j]?) o;simp[t,C]at S;rw[S.1,Ys]
    refine BX (w':=yG w b<|.map (es.modify j λe=>{e with key:=.bool k,val:=v}) a) ?_<|h _ (bF.yG _ _ _) ⟨_,_,wV s,?_,g.modify _ _ _⟩
    · rw[ha]at A;have F:(jR (.bool k)<|.bool k).run P w=.ok (.bool k) w:=by simp[jR,Instr.sameBits]
      simp only[bm,mm,cD,ry,w0,N];simp only[cC,ga,bW,R,cR,M,ab,ij,cD,al,A,jx C,dk,Option.getD_some,r,F,run_setObj_map _ c];rfl
    · rw[C0,kU,<-o];apply cP;intro i;simp only[en,Array.getElem?_toList,Array.getElem?_modify,fy,dr,Array.length_toList];by_cases hi:j=i
      · subst hi;simp[C]
      · simp[hi]
theorem w_makeMapB(h:SH I M K w J)(i:Nat)(k:∀w' b,SH I M K w' (df J i (.gT (mpB b [])))->WL P ops aq rest n (gy env d (.map (U b))) w'):WL P ops aq (⟨d,.makeMap T bh,ty,pos,af,bh⟩::rest) n env w:=
 aC Sx (k _ _ (h.learn i (Grow.alloc _ _) (λb a=>Nat.le_of_eq a.symm) ⟨#[],0,Pm _ _,rfl,by simp[Lv]⟩))
theorem PC{x y u:br}{je nD:H (Yi×Q)}(h:SH I M K w J)(i:Nat)(hi:J i=.gT (mpB b je))(g:Lq P T z)(m:ev n env x=.map (U b))(j:ev n env y=.bool k)(f:ev n env u=v)(e:Jx je k v=nD)(kk:∀w',SH I M K w' (df J i (.gT (mpB b nD)))->WL P ops aq rest n (gy env d gx) w'):WL P ops aq (⟨d,.insert T x y u,ty,pos,af,bh⟩::rest) n env w:=
 wl_insertB g m j f (h.pceAt i hi) λw' c a=>kk w' (h.Oc (S':=mpB b nD) i hi (e▸a) c (λ_ l _=>l))
theorem r_lkB{f a c e:Int}(h:SH I M K w J)(i:Nat)(hi:J i=.gT (mpB b [(bd,.agg #[.int .i64 f,.int .i64 a]),(aw,.agg #[.int .i64 c,.int .i64 e])]))(j:Lq P T z)(m:ρ x=.map (U b))(l:ρ y=.bool k):
  (bm ρ ⟨d,.lookup T x y aw,ty,pos,af,g⟩).run P w=.ok (.value (.agg #[.int .i64 (bif k then f else c),.int .i64 (bif k then a else e)])) w:=by
 have:=r_lookupB (d:=d) (ty:=ty) (pos:=pos) (af:=af) (g:=g) j m l<|h.pceAt i hi;rw[this];cases k<;>rfl
theorem made_drop(zs:H Q)(m q:Nat)(b:q<m):((wv (ar zs) (m*O zs)).toList.drop (q*O zs)).take (O zs)=zs:=by
  apply cP;intro i;rw[ca];split
  · rename_i hi;rw[ct];have a:q*O zs+i<m*O zs:=by
      have:=bj (O zs) (show q+1<=m from b);rw[Nat.succ_mul]at this;omega
    have c:(q*O zs+i)%zs.length=i:=by rw[Nat.mul_comm,Nat.mul_add_mod];exact Nat.mod_eq_of_lt hi
    simp[wv,a,c,hi]
  · rename_i hi;rw[bG V]
theorem Bw{α:Type}{R:uQ α}{E:bk}{bytes sz:Nat}{k:Int}{zs:H Q}{a:α}(h:SH I M K w J)(i:Nat)(t:lT P T E sz bytes)(hz:zg P E zs)(W:R.sz=sz)(r:0<bytes)(S:ev n env x=.int .i64 k)(ab:ev n env y=.int .i64 k)(ry:0<=k/\k*bytes<=140737488355328)(hl:O zs=sz)(Ys:∀w A,R.rd w A zs a)(kk:∀w' u,SH I M K w' (df J i (.own R E u (List.replicate k.toNat a)))->Grow w w'->(∀b,ob u b->w.heap.size<=b)->WL P ops aq rest n (gy env d u) w'):
    WL P ops aq (⟨d,.makeSlice T x y,ty,pos,af,bh⟩::rest) n env w:=by
  obtain⟨w0,h1⟩:=ry;obtain⟨m,rfl⟩:=Int.eq_ofNat_of_zero_le w0;obtain⟨j,z',hi,F,o,s,X⟩:=t.info;have f:=hz.info;rw[hi]at f;simp only[dk,eV,hX]at f;have N:m<=m*bytes:=Nat.le_mul_of_pos_right _ r;have a0:m*bytes<=140737488355328:=by
    have:((m*bytes:Nat):Int)<=140737488355328:=by rw[Int.natCast_mul];exact h1
    omega
  obtain⟨w',al,ho,C⟩:=run_make_full (P:=P) w 0 T E j _ sz t.desc hi f.1 o .i64 .i64 m (by rw[s,Nat.mul_comm];omega) (by unfold maxLen;omega) (gj _);have l:Grow w w':=(EG (v:=.slice bh 0 0) C).weaken λ_ h _=>h.elim;have g:(bm (ev n env) ⟨d,.makeSlice T x y,ty,pos,af,bh⟩).run P w=.ok (.value<|.slice (U ⟨w.heap.size,0,bh⟩) m m) w':=by
    simp only[bm,cC,cR,bW,S,ab,al]
  have c:∀b,ob (.slice (U ⟨w.heap.size,0,bh⟩) m m) b->w.heap.size<=b:=λb r=>by
    have:b=w.heap.size:=r;omega
  refine aC g<|kk w' _ (h.wU i l ⟨(wv (ar zs)<|m*sz).toList,?_,?_⟩ c) l c
  · rw[W];rw[mj];exact ho
  · intro q z;simp only[mj]at z;have p:q<m:=z;have e:((wv (ar zs)<|m*sz).toList.drop<|q*R.sz).take R.sz=zs:=by rw[W,<-hl];exact made_drop zs m q p
    rw[e];simp only[List.getElem_replicate];exact Ys _ _
end
end
open Go.RowKit Go.Proofs
section
variable{α β:Type}{N:W9 α β}{R:uQ β}{E Es T:bk}{I w w':ay}{M K A:BS}{J:Nat->Chunk}{u u':Q}{us:H Q}{ry:H α}{s:H β}{x:α}{k:Nat}
theorem Py{a:Type}{l:H a}{z:a}{i:Int}(hi:i=(k:Int))(h:l[i.toNat]? =U z):l[k]? =U z:=by subst hi;simpa using h
theorem at_pd{a:Type}{l:H a}{z:a}{i:Int}(hi:i=(k:Int))(h:l[k]? =U z):l[i.toNat]? =U z:=by subst hi;simpa using h
theorem L5{i:Int}(hi:i=(k:Int)):i.toNat=k:=by subst hi;simp
theorem SH.pendPut0(h:SH I M K w J)(j q m:Nat)(n:J j=.gT (bU R Es (D1 k) us (ry.map N.sub)))(o:J q=.gT (Q8 R k us (ry.map N.sub)))(l:J m=.own R Es u s)(d:j≠q)(a:j≠m)(c:q≠m)(f:ry[k]? =U x)(b:us[k]? =U u')(i:N.sub x=s):
  SH I M K w (df (df (df (df (df J q (.gT (Q8 R (k+1) (us.set k u) (ry.map N.sub)))) j (.gT (bU R Es (D1 k) (us.set k u) (ry.map N.sub)))) m .no) j (.gT (bU R Es (D1 (k+1)) (us.set k u) (ry.map N.sub)))) j (.gT (bU R Es (D1 (k+1)) (us.set k u) (ry.map N.sub)))):=by
 have g:=h.pendPut (y:=x) j q m n o l d a c f b i;have e:(ry.map N.sub).set k s=ry.map N.sub:=by rw[<-i,<-kU,Jl f]
 rw[e,e,Jl f]at g;exact g
end
theorem F6{α:Type}{b:Nat}{a r:H α}(h:C4 b a=U r):a=r:=by
 unfold C4 at h;obtain⟨_,h⟩:=dh h;exact dq h
theorem Tu{α β:Type}{N:W9 α β}{w:ay}{Ys A:BS}{v:Q}{ry:H α}{us:H Q}(h:dN N.raw w Ys A v (ry.zip us))(hl:O us=O ry):O ry<=9223372036854775807:=by
 have:=h.aZ;rwa[dE hl]at this
theorem r_mul{P:cc}{w:ay}{ρ:br->Q}{d:B Nat}{ty:bk}{pos:String}{af:Array hR}{g:B (Nat×Yi)}{x y:br}{T T2:bk}{p q:Int}(b:ρ x=.int .i64 p)(a:ρ y=.int .i64 q)(h: -9223372036854775808<=p*q/\p*q<=9223372036854775807):
  (bm ρ ⟨d,.binOp .mul T x y T2,ty,pos,af,g⟩).run P w=.ok (.value (.int .i64 (p*q))) w:=by
 simp[bm,b,a,eqGuard,binOp,Op.intArith,W3 h.1 h.2]
open Go.RowKit Go.Proofs
section
variable{cs vs:H Q}{o:Nat}
theorem Vm(h:o+O vs<=O cs)(j:Nat):(QW cs o vs)[j]? =if j<o then cs[j]? else if j<o+O vs then vs[j-o]? else cs[j]? :=by
  unfold QW;have b:O (cs.take o)=o:=by rw[cd];omega
  by_cases a:j<o
  · rw[Z2 a,cy,nw V,ca,Z2 a]
  · rw[Z3 a];by_cases c:j<o+O vs
    · rw[Z2 c,cy,jt V,b,nw V]
    · rw[Z3 c,jt (by rw[bn,b];omega),bn,b,ct];congr 1;omega
theorem HK(h:o+O vs<=O cs):O (QW cs o vs)=O cs:=by
 unfold QW;simp only[bn,cd,cQ];omega
theorem spl_take{o n:Nat}(h:o+O vs<=n)(hn:n<=O cs):(QW cs o vs).take n=QW (cs.take n) o vs:=by
  apply cP;intro j;have hl:O (cs.take n)=n:=by rw[cd];omega
  rw[ca,Vm V,Vm V,ca];by_cases a:j<n
  · rw[Z2 a,Z2 a]
  · rw[Z3 a,Z3 V,Z3 V,Z3 a]
theorem spl_self(h:o+O vs<=O cs):((QW cs o vs).drop o).take (O vs)=vs:=by
  apply cP;intro j;rw[ca,ct,Vm h];by_cases a:j<O vs
  · rw[Z2 a,Z3 V,Z2 V];congr 1;omega
  · rw[Z3 a,bG V]
theorem P2{o p s:Nat}(h:o+O vs<=O cs)(J:p+s<=o\/o+O vs<=p):((QW cs o vs).drop p).take s=(cs.drop p).take s:=by
  apply cP;intro j;rw[ca,ct,Vm h,ca,ct];by_cases a:j<s
  · rw[Z2 a,Z2 a];by_cases b:p+j<o
    · rw[Z2 b]
    · rw[Z3 b,Z3 V]
  · rw[Z3 a,Z3 a]
end
section
variable{P:cc}{ops:Array ec}{aq:fY->Act->ay->Prop}{n:Nat}{env:Nat->Q}{w w' I:ay}{M K:BS}{J:Nat->Chunk}{rest:H ec}
 {d:B Nat} {op:Op} {ty:bk} {pos:String} {af:Array hR} {v:Q} {g:B (Nat×Yi)} {T:bk} {ρ:br->Q} {x y:br}
theorem tO{α:Type}{R:uQ α}{E:bk}{sz:Nat}{l:H α}{k:Int}{a a':α}{b:Nat}{zs vs:H Q}{u:Q}(h:SH I M K w J)(i:Nat)(hi:J i=.own R E u l)(w0:ob u b)(W:R.sz=sz)(hk:l[k.toNat]? =U a)(S:zg P T zs)(c:ev n env x=.pointer (U ⟨b,k.toNat*sz,bh⟩))
    (hy:ev n env y=.agg (ar vs)) (hl:O vs=O zs) (s:O zs=sz) (C0:R.rd w (SH.A M J) vs a')
    (kk:∀w',SH I M K w' (df J i (.own R E u (l.set k.toNat a')))->bF (ob u) w w'->WL P ops aq rest n (gy env d gx) w'):
    WL P ops aq (⟨d,.store T x y,ty,pos,af,bh⟩::rest) n env w:=by
  subst W;have z:k.toNat<O l:=OE hk;generalize k.toNat=k at*;have f:∀b,ob u b->SH.A M J b:=λb w0=>.inr ⟨i,by rw[hi];exact w0⟩;obtain⟨xs,t,X⟩:=h.bZ i hi;rcases t.2 with⟨rfl,hn⟩|⟨g',cap,cur,rfl,e1,e2,e3,e4,e5,e6⟩
  · omega
  have al:b=g':=w0;subst al;have C:(k+1)*R.sz<=O l*R.sz:=bj _ z;have a1:O l*R.sz<=cap*R.sz:=bj _ e3;rw[cf]at C;have v:O vs=R.sz:=hl.trans s;have N:O cur.toList=cap*R.sz:=by simpa using e5
  have a0:O xs=O l*R.sz:=t.1;have q:k*R.sz+O vs<=O cur.toList:=by omega
  have o:k*R.sz+O vs<=O xs:=by omega
  have m:=bF.yG w b<|.cells (ar (QW cur.toList (k*R.sz) vs)) E (0,0);have Ys:=Za (P:=P) (w:=w) (ρ:=ev n env) (d:=d) (ty:=ty) (pos:=pos) (af:=af) (g:=bh) (cs:=cur.toList) (E:=E) S c (by simpa using e2) hy hl q<|R.one C0;refine BX Ys (kk _ (h.step i m (λx c _=>by rw[hi];exact c) (λx c _=>by rw[hi];exact c) ⟨QW xs (k*R.sz) vs,⟨?_,.inr ⟨b,cap,ar (QW cur.toList (k*R.sz) vs),?_,e1,?_,?_,e4,?_,?_⟩⟩,?_⟩) (m.weaken (λx c _=>c)))
  · rw[HK o,cr];exact t.1
  · rw[cr]
  · rw[wV (jh e2)]
  · rw[cr];exact e3
  · rw[ye,HK q];exact N
  · rw[cr];show(QW cur.toList (k*R.sz) vs).take (O l*R.sz)=QW xs (k*R.sz) vs;rw[spl_take V V,e6]
  · intro p F;have ry:p<O l:=by rwa[cr]at F
    have r:=λcs a(h:R.rd w (SH.A M J) cs a)=>R.go (A':=λx=>(M x\/(SH.av J i (.own R E (.slice (U ⟨b,0,bh⟩) (O l) cap) (l.set k a'))) x)\/ob (.slice (U ⟨b,0,bh⟩) (O l) cap) x) h m (λx c _=>f x c) (λx c _=>by
      rcases c with(c|c|c)|c
      · exact .inl c
      · exact .inr<|nV c
      · exact f x c
      · exact f x c)
    have hq:=λj(ab:j<O l)=>R.go (A':=SH.A M J) (X j ab) (bF.refl BE w) (λ_ h=>h.elim) λx c _=>.inl c;by_cases hik:p=k
    · subst hik;rw[pD];have e:=spl_self o;rw[v]at e;rw[e];exact r _ _ C0
    · rw[rv (Ne.symm hik),P2 o]
      · exact r _ _<|hq p ry
      · rcases cH k p with h5|h5
        · right;have:(k+1)*R.sz<=p*R.sz:=bj _ h5;rw[cf]at this;omega
        · left;have:(p+1)*R.sz<=k*R.sz:=bj _ V;rw[cf]at this;omega
end
section
variable{α β:Type}{N:W9 α β}{R:uQ β}{E Es T:bk}{I w w':ay}{M K A:BS}{J:Nat->Chunk}{us:H Q}{ry:H α}{x:α}{k:Nat}
theorem SH.pV(h:SH I M K w J)(j m:Nat)(s:H β)(c:J j=.gT (bU R Es hn us (ry.map N.sub)))(b:J m=.no)(a:j≠m)(d:ry[k]? =U x)(W:N.sub x=s):
 ∃u,us[k]? =U u/\SH I M K w (df (df J j (.gT (bU R Es (D0 k) us (ry.map N.sub)))) m (.own R Es u s)):=by subst W;exact h.dnOpen j m c b a d
theorem SH.mvOpenL{b:H Int}{kk:Int}(h:SH I M K w J)(j m:Nat)(s:H β)(e:J j=.gT (bU R Es (hmv b) us (ry.map N.sub)))(d:J m=.no)(c:j≠m)(f:0<=kk)(g:ry[kk.toNat]? =U x)(a:kk∉b)(W:N.sub x=s):
 ∃u,us[kk.toNat]? =U u/\SH I M K w (df (df J j (.gT (bU R Es (hmv (b++[kk])) us (ry.map N.sub)))) m (.own R Es u s)):=by subst W;exact h.mvOpen j m e d c f g a
theorem SH.rdpAtL(h:SH I M K w J)(q:Nat)(s:H β)(a:J q=.gT (Q8 R k us (ry.map N.sub)))(hl:O us=O ry)(b:ry[k]? =U x)(W:N.sub x=s):∃u,us[k]? =U u/\bY R w (SH.A M J) u s:=by subst W;exact h.rdpAt q a hl b
end
open Go.RowKit Go.Proofs
def Chunk.flat:Chunk->Prop
 | .no=>True
 | .own R _ _ _=>∀w A A' cs x,R.rd w A cs x->R.rd w A' cs x
 | .two a b=>a.flat/\b.flat
 | .gT S=>∀w A A',S.P w A->S.P w A'
 |_=>False
theorem dC.flat{α:Type}{R:uQ α}{E:bk}{w:ay}{A A':BS}{v:Q}{l:H α}(c:∀w A A' cs x,R.rd w A cs x->R.rd w A' cs x)(h:dC R E w A v l):dC R E w A' v l:=by
 obtain⟨xs,a,b⟩:=h;exact⟨xs,a,λi hi=>c _ _ _ _ _<|b i hi⟩
theorem Chunk.flatten{c:Chunk}{w:ay}{M ab f e:BS}(d:c.flat)(h:c.holds w M ab):c.holds w f e:=by
 induction c with
 |no=>trivial
 |own R E v l=>exact dC.flat d h
 |two a b ha hb=>exact⟨ha d.1 h.1,hb d.2 h.2.1,h.2.2⟩
 |gT S=>exact d _ _ _ h
 |_=>exact d.elim
theorem Fa{β:Type}{R:uQ β}{E:bk}{ho:Nat->Prop}{us:H Q}{ss:H (H β)}(e:∀w A A' cs x,R.rd w A cs x->R.rd w A' cs x):∀w A A',(bU R E ho us ss).P w A->(bU R E ho us ss).P w A':=by
 rintro w A A'⟨b,d,a⟩;exact⟨b,λi u s c W hi=>dC.flat e<|d i u s c W hi,a⟩
theorem dN.toBE{α:Type}{R:uQ α}{w:ay}{Ys A:BS}{v:Q}{l:H α}(h:dN R w Ys A v l):dN R w BE BE v l:=
 dN.go h (bF.refl BE w) (λ_ h=>h.elim) (λ_ h=>h.elim) (λ_ h=>h.elim) (λ_ h=>h.elim)
section
variable{α β:Type}{N:W9 α β}{R:uQ β}{E Es T:bk}{I w w':ay}{M K A:BS}{J:Nat->Chunk}{v u u':Q}{us us':H Q}{ry L':H α}
theorem SH.Ka{R':uQ α}(h:SH I M K w J)(i j:Nat)(hi:J i=.own N.raw E v (ry.zip us))(c:J j=.gT (bU R Es hn us (ry.map N.sub)))(b:i≠j)(a:R'.sz=N.sz)(d:∀w A x u,bY R w A u (N.sub x)->R'.rd w A (N.enc x u) x):dN R' w BE BE v ry:=
 dN.toBE ((h.yH i j hi c b a d).dU i (dJ _ _ _))
theorem SH.gotCF{C:Chunk}{ab:BS}(h:SH I M K w J)(i:Nat)(d:Grow w w')(c:C.Zk)(a:C.flat)(e:C.holds w' BE ab)(hn:∀b,C.own' b->w.heap.size<=b):SH I M K w' (df J i C):=
 h.gotC i d c (Chunk.flatten a e) hn
end
section
variable{P:cc}{aq:fY->Act->ay->Prop}{n:Nat}{env:Nat->Q}{w w' I:ay}{M K:BS}{J:Nat->Chunk}
theorem Zv{fn:Func}{R:sC->ay->Prop}{t u j a:Tmp}{T:bk}{v2 v3 v4:Q}{zs vs:H Q}{b:Nat}(o:fn.results= #[.cell a T,.tmp t,.tmp u,.tmp j])(k:ev n env (.tmp a)=.pointer (U ⟨b,0,bh⟩))(l:ev n env (.tmp t)=v2)(q:ev n env (.tmp u)=v3)(r:ev n env (.tmp j)=v4)
  (p:SH I M K w J) (i:Nat) (hi:J i=.blk b vs) (m:zg P T zs) (hl:O vs=O zs) (h:R (.returned (.tuple #[.agg (ar vs),v2,v3,v4])) w):ks P fn R .ret (C6 n env) w:=by
 refine⟨Z,_,?_,h⟩;have d:=congrFun (jG n env)<|.tmp t;have f:=congrFun (jG n env)<|.tmp u;have e:=congrFun (jG n env)<|.tmp j;have c:=congrFun (jG n env)<|.tmp a;rw[l]at d;rw[q]at f;rw[r]at e;rw[k]at c;simp only[Act.eval]at d f c e;rw[da]at d f c e;have g:=F5 (P:=P) p hi m hl Z;unfold results;rw[o];simp[d,f,c,e,asAddr,g]
end
section
variable{P:cc}{w:ay}{ρ:br->Q}{d:B Tmp}{x y:br}{ty:bk}{pos:String}
theorem r_eqnil0{T T2 E:bk}{sz:Nat}{af:Array hR}{e:_}(a:SliceOf P T E sz)(c:ρ x=.slice bh 0 0)(b:ρ y=.slice bh 0 0):(bm ρ ⟨d,.binOp .eql T x y T2,ty,pos,af,e⟩).run P w=.ok (.value (.bool bd)) w:=by
 rw[Dr (R:=dR) (l:=[]) (w1:=w) (Ys:=BE) (A:=BE) a c dN.nil b];rfl
end
section
variable{α β:Type}{R:uQ α}{E:bk}{I w:ay}{M K:BS}{J:Nat->Chunk}{v:Q}{l:H α}{C:Chunk}
theorem SH.ownSrB(h:SH I M K w J)(i j:Nat)(c:i≠j)(d:J j=.own R E v l)(hi:J i=C):bY R w (λb=>BE b\/C.own' b) v l:=
 (h.ownSr i j c d hi).sub (λb a _=>a.elim (λe=>e.elim) id) (λb a _=>a.elim (λe=>e.elim) .inr)
theorem ap_BE{C:Chunk}:∀b,C.own' b->¬BE b:=λ_ _ h=>h
end
structure Xa where
 said:Bool
 n:Int
 I:Bool
structure rF where
 l:List Int
 bad:Bool
open Go.RowKit Go.Proofs
theorem spl_mid{xs vs:H Q}{p s off:Nat}(h:off+O vs<=s)(J:p+s<=O xs):((QW xs (p+off) vs).drop p).take s=QW ((xs.drop p).take s) off vs:=by
  apply cP;intro j;have hl:O ((xs.drop p).take s)=s:=by rw[cd,cQ];omega
  rw[Vm V,ca];by_cases a:j<s
  · rw[Z2 a,ct,Vm V,ca,Z2 a,ct];by_cases b:j<off
    · rw[Z2 b,Z2 V]
    · rw[Z3 b,Z3 V];by_cases c:j<off+O vs
      · rw[Z2 c,Z2 V,show p+j-(p+off)=j-off by omega]
      · rw[Z3 c,Z3 V]
  · rw[Z3 a,Z3 V,Z3 V,ca,Z3 a]
section
variable{P:cc}{ops:Array ec}{aq:fY->Act->ay->Prop}{n:Nat}{env:Nat->Q}{w w' I:ay}{M K:BS}{J:Nat->Chunk}{rest:H ec}
 {d:B Nat} {op:Op} {ty:bk} {pos:String} {af:Array hR} {v:Q} {g:B (Nat×Yi)} {T:bk} {ρ:br->Q} {x y:br}
theorem w_stOP{α:Type}{R:uQ α}{E:bk}{sz:Nat}{l:H α}{k:Int}{a a':α}{b off:Nat}{zs vs:H Q}{u:Q}(h:SH I M K w J)(i:Nat)(hi:J i=.own R E u l)(ry:ob u b)(W:R.sz=sz)(C:l[k.toNat]? =U a)(hT:zg P T zs)(c:ev n env x=.pointer (U ⟨b,k.toNat*sz+off,bh⟩))
    (hy:ev n env y=.agg (ar vs)) (hl:O vs=O zs) (p:lr (off+O vs) sz=bd) (t:∀u∈vs,u.oneCell'=bd) (C0:∀cs,R.rd w (SH.A M J) cs a->R.rd w (SH.A M J) (QW cs off vs) a')
    (kk:∀w',SH I M K w' (df J i (.own R E u (l.set k.toNat a')))->bF (ob u) w w'->WL P ops aq rest n (gy env d gx) w'):
    WL P ops aq (⟨d,.store T x y,ty,pos,af,bh⟩::rest) n env w:=by
  subst W;rw[tx]at p;have m:k.toNat<O l:=OE C;have z:l[k.toNat]=a:=by rw[bl m]at C;exact dq C
  generalize k.toNat=k at*;have e:∀b,ob u b->SH.A M J b:=λb ry=>.inr ⟨i,by rw[hi];exact ry⟩;obtain⟨xs,v,q3⟩:=h.bZ i hi;rcases v.2 with⟨rfl,hn⟩|⟨g',cap,cur,rfl,e1,e2,e3,e4,e5,e6⟩
  · omega
  have w0:b=g':=ry;subst w0;have F:(k+1)*R.sz<=O l*R.sz:=bj _ m;have a1:O l*R.sz<=cap*R.sz:=bj _ e3;rw[cf]at F;have ab:O cur.toList=cap*R.sz:=by simpa using e5
  have a0:O xs=O l*R.sz:=v.1;have q:k*R.sz+off+O vs<=O cur.toList:=by omega
  have s:k*R.sz+off+O vs<=O xs:=by omega
  have f:=bF.yG w b<|.cells (ar (QW cur.toList (k*R.sz+off) vs)) E (0,0);have Ys:=Za (P:=P) (w:=w) (ρ:=ev n env) (d:=d) (ty:=ty) (pos:=pos) (af:=af) (g:=bh) (cs:=cur.toList) (E:=E) hT c (by simpa using e2) hy hl q t;refine BX Ys (kk _ (h.step i f (λx c _=>by rw[hi];exact c) (λx c _=>by rw[hi];exact c) ⟨QW xs (k*R.sz+off) vs,⟨?_,.inr ⟨b,cap,ar (QW cur.toList (k*R.sz+off) vs),?_,e1,?_,?_,e4,?_,?_⟩⟩,?_⟩) (f.weaken (λx c _=>c)))
  · rw[HK s,cr];exact v.1
  · rw[cr]
  · rw[wV (jh e2)]
  · rw[cr];exact e3
  · rw[ye,HK q];exact ab
  · rw[cr];show(QW cur.toList (k*R.sz+off) vs).take (O l*R.sz)=QW xs (k*R.sz+off) vs;rw[spl_take V V,e6]
  · intro o al;have N:o<O l:=by rwa[cr]at al
    have r:=λcs a(h:R.rd w (SH.A M J) cs a)=>R.go (A':=λx=>(M x\/(SH.av J i (.own R E (.slice (U ⟨b,0,bh⟩) (O l) cap) (l.set k a'))) x)\/ob (.slice (U ⟨b,0,bh⟩) (O l) cap) x) h f (λx c _=>e x c) (λx c _=>by
      rcases c with(c|c|c)|c
      · exact .inl c
      · exact .inr<|nV c
      · exact e x c
      · exact e x c)
    have S:=λj(X:j<O l)=>R.go (A':=SH.A M J) (q3 j X) (bF.refl BE w) (λ_ h=>h.elim) λx c _=>.inl c;by_cases hik:o=k
    · subst hik;rw[pD];rw[spl_mid p V];exact r _ _<|C0 _<|z▸S o m
    · rw[rv (Ne.symm hik),P2 s]
      · exact r _ _<|S o N
      · rcases cH k o with h5|h5
        · right;have:(k+1)*R.sz<=o*R.sz:=bj _ h5;rw[cf]at this;omega
        · left;have:(o+1)*R.sz<=k*R.sz:=bj _ V;rw[cf]at this;omega
end
open Go.RowKit Go.Proofs
def Tr:W9 zv Int where
 sz:=5
 enc x u:=[.int .i64 x.op,.int .i64 x.a,.int .i64 x.b,.int .i64 x.c,u]
 sub x:=x.args
 put x s:={x with args:=s}
 len _ _:=rfl
 one:=by intro x u h c hc;simp only[bs,dp,or_false]at hc;rcases hc with rfl|rfl|rfl|rfl|rfl<;>first|rfl|exact h
 pos:=by decide
 Zn _ _ _:=rfl
 Zo _ _:=rfl
theorem nIns_br:∀w A (x:zv) u,bY dR w A u (Tr.sub x)->qE.rd w A (Tr.enc x u) x:=λ_ _ _ u h=>⟨u,rfl,h⟩
theorem nIns_op:∀(w:ay) (A:BS) cs (x:zv),qE.rd w A cs x->∃u,cs=Tr.enc x u/\bY dR w A u (Tr.sub x):=λ_ _ _ _ h=>h
theorem nProc_op:∀(w:ay) (A:BS) cs (x:bN),iA.rd w A cs x->∃u,cs=Px.enc x u/\bY qE w A u (Px.sub x):=λ_ _ _ _ h=>h
theorem cells_two{cs:H Q}{k:Nat}{u v:Q}(h:(cs.drop k).take 2=[u,v]):(cs.drop k).take 1=[u]/\(cs.drop (k+1)).take 1=[v]:=by
  constructor
  · have:=ZS (List.take 1) h;rw[List.take_take]at this;exact this
  · have:=ZS (List.drop 1) h;rw[List.drop_take,List.drop_drop]at this;exact this
section
variable{α β:Type}{N:W9 α β}{R:uQ β}{E Es T:bk}{I w w':ay}{M K A:BS}{J:Nat->Chunk}{v u u':Q}{us us':H Q}{ry L':H α}{ss ss':H (H β)}{s:H β}{x y:α}{k:Nat}
theorem SH.pendSet(h:SH I M K w J)(j q:Nat)(b:J j=.gT (bU R Es (D1 k) us (ry.map N.sub)))(g:J q=.gT (Q8 R k us (ry.map N.sub)))(a:j≠q)(d:ry[k]? =U x):
  SH I M K w (df (df J q (.gT (Q8 R (k+1) (us.set k u) (ry.map N.sub)))) j (.gT (bU R Es (D1 k) (us.set k u) (ry.map N.sub)))):=by
 have f:=h.rdpStep (u:=u) (s:=N.sub x) q g;have hl:=h.iy j b;have c:=f.famRe (us':=us.set k u) (ss':=(ry.map N.sub).set k (N.sub x)) j (by rw[iI a];exact b) (by simp[hl]) (λi hi=>by
  have:k≠i:=λe=>hi (by subst e;exact cj _);rw[ep this,ep this];exact⟨Z,Z⟩)
 have e:(ry.map N.sub).set k (N.sub x)=ry.map N.sub:=by rw[<-kU,Jl d]
 rw[e]at c;exact c
theorem SH.pendDel(h:SH I M K w J)(j m:Nat)(d:J j=.gT (bU R Es (D1 k) us (ry.map N.sub)))(c:J m=.own R Es u s)(a:j≠m)(g:ry[k]? =U x)(f:us[k]? =U u)(W:N.sub x=s):
    SH I M K w (df (df J m .no) j (.gT (bU R Es (D1 (k+1)) us (ry.map N.sub)))):=by
  have b:=h.Zq j m (k:=k) (u:=u) (s:=s) d c a f (cj k) (D1 (k+1)) (λi=>⟨λhi=>by
    rcases yd (show k<=i from hi)with e|e
    · exact .inr e.symm
    · exact .inl e,λhi=>hi.elim (λhi=>zr hi) (λe=>by subst e;exact cj _)⟩) (λhi=>ZD hi (vS k))
  have e:(ry.map N.sub).set k s=ry.map N.sub:=by rw[<-W,<-kU,Jl g]
  rw[e]at b;exact b
theorem SH.dnOwn{R':uQ α}(h:SH I M K w J)(i j:Nat)(hi:J i=.own N.raw E v (ry.zip us))(f:J j=.gT (bU R Es hn us (ry.map N.sub)))(n:i≠j)(g:R'.sz=N.sz)(z:∀w A x u,bY R w A u (N.sub x)->R'.rd w A (N.enc x u) x):SH I M K w (df (df J j .no) i (.own R' E v ry)):=by
  have hl:=h.iy j f;have m:=h.pair i j n;have k:=m.apart i;have y:=m.apM i;have ok:=m.ok i;rw[dJ]at k y;rw[dJ,hi,f]at ok;have s:=m.step (c:=.own R' E v ry) i (bF.refl BE w) (λ_ h=>h.elim) (λb a _=>by rw[dJ,hi];exact .inl a) ?_
  · rw[Pt]at s;exact s
  · have hno:∀b,(J j).own' b->¬((M b\/SH.av (df (df J j .no) i<|.two (J i)<|J j) i (.own R' E v ry) b)\/ob v b):=by
      intro b a d;rcases d with(d|⟨q,l,d⟩|d)|d
      · exact y b (.inr a) d
      · exact k q (λe=>l e.symm) b (.inr a) d
      · exact ok.2.2 b d (by rw[<-f];exact a)
      · exact ok.2.2 b d (by rw[<-f];exact a)
    have F:∀b,((M b\/SH.av (df (df J j .no) i<|.two (J i)<|J j) i (.own R' E v ry) b)\/ob v b)->M b\/kr (df (df J j .no) i<|.two (.own N.raw E v<|ry.zip us)<|.gT<|bU R Es hn us<|ry.map N.sub) b:=by
      rw[hi,f];have p:∀b,ob v b->kr (df (df J j .no) i (.two (.own N.raw E v (ry.zip us)) (.gT (bU R Es hn us (ry.map N.sub))))) b:=λb a=>⟨i,by rw[dJ];exact .inl a⟩;rintro b((a|a|a)|a)
      · exact .inl a
      · exact .inr<|nV a
      · exact .inr<|p b a
      · exact .inr<|p b a
    obtain⟨xs,r,w0⟩:=ok.1;refine⟨xs,?_,λq l=>?_⟩
    · rw[dE hl]at r;show w.ownsRow 0 E R'.sz v (O ry) xs;rw[g];exact r
    · have o:q<O (ry.zip us):=by rw[dE hl];exact l
      have t:=w0 q o;have Ys:(ry.zip us)[q]=(ry[q],us[q]'V):=by simp
      rw[Ys]at t;obtain⟨al,_⟩:=t;have C:((xs.drop<|q*N.sz).take N.sz)=N.enc ry[q] (us[q]'V):=al;show R'.rd w _ ((xs.drop<|q*R'.sz).take R'.sz) ry[q];rw[g,C];exact z _ _ _ _ (dC.rd (ok.2.1.2.1 q _ _ (bl V) (by rw[en,bl l];rfl) (λh=>h)) (λb a=>hno b (by rw[f];exact⟨q,_,bl V,λh=>h,a⟩)) (λb a _=>.inl (.inl (F b a))))
end
structure dx where
 D:List Co
 B:List UInt8
 z:List UInt8
 up:Bool
def iM:uQ dx where
 sz:=4
 rd w A cs x:=∃vcos,∃Jj,∃Jk,cs=[vcos,Jj,Jk,.bool x.up]/\bY Jg w A vcos x.D/\bY gL w A Jj x.B/\bY gL w A Jk x.z
 len:=by rintro w A cs x ⟨vcos,Jj,Jk,rfl,h0,h1,h2⟩;rfl
 one:=by rintro w A cs x ⟨vcos,Jj,Jk,rfl,h0,h1,h2⟩ u hu;simp only[bs,dp,or_false]at hu;rcases hu with rfl|rfl|rfl|rfl<;>first|rfl|exact h0.one|exact h1.one|exact h2.one
 pos:=by decide
 go:=by rintro w A cs x w2 A2 K ⟨vcos,Jj,Jk,rfl,h0,h1,h2⟩ hk hK hA;exact⟨_,_,_,Z,h0.go hk hK hA,h1.go hk hK hA,h2.go hk hK hA⟩
theorem eZ{w:ay}{A:BS}{cs:H Q}{x:dx}(h:iM.rd w A cs x):∃a,∃b,∃c,cs=[a,b,c,.bool x.up]/\bY Jg w A a x.D/\bY gL w A b x.B/\bY gL w A c x.z:=h
structure aJ where
 r:List bN
 m:List dx
 u:List dW
def rWorld:uQ aJ where
 sz:=3
 rd w A cs x:=∃vprog,∃Og,∃vmail,cs=[vprog,Og,vmail]/\bY iA w A vprog x.r/\bY iM w A Og x.m/\bY fw w A vmail x.u
 len:=by rintro w A cs x ⟨vprog,Og,vmail,rfl,h0,h1,h2⟩;rfl
 one:=by rintro w A cs x ⟨vprog,Og,vmail,rfl,h0,h1,h2⟩ u hu;simp only[bs,dp,or_false]at hu;rcases hu with rfl|rfl|rfl<;>first|rfl|exact h0.one|exact h1.one|exact h2.one
 pos:=by decide
 go:=by rintro w A cs x w2 A2 K ⟨vprog,Og,vmail,rfl,h0,h1,h2⟩ hk hK hA;exact⟨_,_,_,Z,h0.go hk hK hA,h1.go hk hK hA,h2.go hk hK hA⟩
theorem Hj{w:ay}{A:BS}{cs:H Q}{x:aJ}(h:rWorld.rd w A cs x):∃a,∃c,∃b,cs=[a,c,b]/\bY iA w A a x.r/\bY iM w A c x.m/\bY fw w A b x.u:=h
structure mR where
 h:Int
 q:Int
 s:Int
 n:Int
def rHap:uQ mR where
 sz:=4
 rd w A cs x:=cs=[.int .i64 x.h,.int .i64 x.q,.int .i64 x.s,.int .i64 x.n]
 len:=by rintro w A cs x rfl;rfl
 one:=by rintro w A cs x rfl u hu;simp only[bs,dp,or_false]at hu;rcases hu with rfl|rfl|rfl|rfl<;>first|rfl
 pos:=by decide
 go:=λh _ _ _=>h
open Go Go.RowKit Go.Proofs
section
variable{P:cc}{ops:Array ec}{aq:fY->Act->ay->Prop}{rest:H ec}{n:Nat}{env:Nat->Q}{w I:ay}{M K:BS}{J:Nat->Chunk}{d:B Nat}{ty:bk}{pos:String}{af:Array hR}{x y:br}{T:bk}{v:Q}
theorem mI{i:Int}(a:ev n env x=.int .i64 i)(h:WL P ops aq rest n (gy env d (.int .i64 i)) w):WL P ops aq (⟨d,.move x,ty,pos,af,bh⟩::rest) n env w:=aC (fG a) h
theorem mB{i:Yi}(a:ev n env x=.bool i)(h:WL P ops aq rest n (gy env d (.bool i)) w):WL P ops aq (⟨d,.move x,ty,pos,af,bh⟩::rest) n env w:=aC (fG a) h
section
variable{i:B Addr}
theorem mP(a:ev n env x=.pointer i)(h:WL P ops aq rest n (gy env d (.pointer i)) w):WL P ops aq (⟨d,.move x,ty,pos,af,bh⟩::rest) n env w:=aC (fG a) h
theorem mV(v:Q)(a:ev n env x=v)(h:WL P ops aq rest n (gy env d v) w):WL P ops aq (⟨d,.move x,ty,pos,af,bh⟩::rest) n env w:=aC (fG a) h
theorem aI{i:Int}(a:ev n env x=.int .i64 i)(h:WL P ops aq rest n (gy env d (.int .i64 i)) w):WL P ops aq (⟨d,.assign x,ty,pos,af,bh⟩::rest) n env w:=aC (lL a) h
theorem aB{i:Yi}(a:ev n env x=.bool i)(h:WL P ops aq rest n (gy env d (.bool i)) w):WL P ops aq (⟨d,.assign x,ty,pos,af,bh⟩::rest) n env w:=aC (lL a) h
theorem aP(a:ev n env x=.pointer i)(h:WL P ops aq rest n (gy env d (.pointer i)) w):WL P ops aq (⟨d,.assign x,ty,pos,af,bh⟩::rest) n env w:=aC (lL a) h
theorem aV(v:Q)(a:ev n env x=v)(h:WL P ops aq rest n (gy env d v) w):WL P ops aq (⟨d,.assign x,ty,pos,af,bh⟩::rest) n env w:=aC (lL a) h
variable{b o:Nat}{cs:H Q}
theorem lB{z:Q}(h:SH I M K w J)(i:Nat)(a:One P T z)(e:(J i,ev n env x,cs[o]?)=(Chunk.blk b cs,eW (U ⟨b,o,bh⟩),U v))(k:WL P ops aq rest n (gy env d v) w):WL P ops aq (⟨d,.load T x,ty,pos,af,bh⟩::rest) n env w:=by
 injection e with e1 e2;injection e2 with e2 e3;exact aC (jA h i e1 a e2 e3) k
theorem HB{zs vs:H Q}(h:SH I M K w J)(i:Nat)(a:zg P T zs)(e:(J i,ev n env x,(cs.drop o).take (O zs),O vs)=(Chunk.blk b cs,eW (U ⟨b,o,bh⟩),vs,O zs))(k:WL P ops aq rest n (gy env d (.agg (ar vs))) w):WL P ops aq (⟨d,.load T x,ty,pos,af,bh⟩::rest) n env w:=by
 injection e with e1 e2;injection e2 with e2 e3;injection e3 with e3 e4;exact aC (vE h i e1 a e2 e3 e4) k
theorem jX{b o k off:Nat}(c:fF P T k off)(a:ev n env x=.pointer (U ⟨b,o,bh⟩))(h:WL P ops aq rest n (gy env d (.pointer (U ⟨b,o+off,bh⟩))) w):WL P ops aq (⟨d,.fieldAddr T x k,ty,pos,af,bh⟩::rest) n env w:=aC (dI c a) h
theorem w_stA{zs:H Q}{b:Nat}(h:SH I M K w J)(i:Nat)(vs:H Q)(c:zg P T zs)(e:(J i,ev n env x,ev n env y,O vs,O cs)=(Chunk.blk b cs,eW (U ⟨b,0,bh⟩),Value.agg (ar vs),O zs,O vs))(a:∀v∈vs,v.oneCell'=bd)(k:∀w',SH I M K w' (df J i (.blk b vs))->WL P ops aq rest n (gy env d gx) w'):WL P ops aq (⟨d,.store T x y,ty,pos,af,bh⟩::rest) n env w:=by
 injection e with e1 e2;injection e2 with e2 e3;injection e3 with e3 e4;injection e4 with e4 e5;refine w_stN h i vs e1 c e2 e3 e4 ?_ (by rw[tx];omega) a k;unfold QW;simp[e5]
variable{f:mT}{first captured:Array Q}{xs:Array br}{args:H Q}
theorem bg{ts:Array bk}(h:SH I M K w J)(a:V3 P f)(c:ev n env x=.func (.func f) first captured)(i:first.toList++xs.toList.map (ev n env)++captured.toList=args)(b:bp P f (ar args) w (λe w'=>Grow w w'/\e=.returned v))(k:∀w',SH I M K w' J->WL P ops aq rest n (gy env d v) w'):
  WL P ops aq (⟨d,.call {callee:=.value x,args:=xs,argTypes:=ts},ty,pos,af,bh⟩::rest) n env w:=
 OC a c i b (by rintro _ w' ⟨g,rfl⟩;exact⟨_,Z,k w' (h.grow g)⟩)
variable{α:Type}{R:uQ α}{l:H α}{F:Q->Q}
theorem Vn{ts:Array bk}(h:SH I M K w J)(i:Nat)(j:V3 P f)(b:ev n env x=.func (.func f) first captured)(c:first.toList++xs.toList.map (ev n env)++captured.toList=args)(a:bp P f (ar args) w (λe w'=>Grow w w'/\∃u,e=.returned (F u)/\bY R w' (SH.A M J) u l))(k:∀w' u,SH I M K w' (df J i (.rd R u l))->WL P ops aq rest n (gy env d (F u)) w'):
  WL P ops aq (⟨d,.call {callee:=.value x,args:=xs,argTypes:=ts},ty,pos,af,bh⟩::rest) n env w:=
 OC j b c a (by rintro _ w' ⟨g,u,rfl,g2⟩;exact⟨_,Z,k w' u (h.wL i g g2)⟩)
theorem jb{E:bk}{ts:Array bk}(h:SH I M K w J)(i:Nat)(o:V3 P f)(c:ev n env x=.func (.func f) first captured)(j:first.toList++xs.toList.map (ev n env)++captured.toList=args)(a:bp P f (ar args) w (λe w'=>Grow w w'/\∃u,e=.returned (F u)/\dC R E w' (SH.A M J) u l/\(∀b,ob u b->w.heap.size<=b)))(k:∀w' u,SH I M K w' (df J i (.own R E u l))->WL P ops aq rest n (gy env d (F u)) w'):
  WL P ops aq (⟨d,.call {callee:=.value x,args:=xs,argTypes:=ts},ty,pos,af,bh⟩::rest) n env w:=
 OC o c j a (by rintro _ w' ⟨g,u,rfl,g2,m⟩;exact⟨_,Z,k w' u (h.wU i g g2 m)⟩)
end
end
section
variable{w w' I:ay}{M K:BS}{J:Nat->Chunk}{C:Chunk}
theorem SH.outSi(h:SH I M K w J)(i:Nat)(a:(J i).Zk):(J i).holds w M (J i).own'/\bF K I w/\(∀b,(J i).own' b->b<I.heap.size->K b):=h.outS i Z a
theorem SH.iq(h:SH I M K w J)(i:Nat)(a:(J i).Zk):(J i).holds w (λb=>M b\/rest J i b) (J i).own'/\(∀b,(J i).own' b->¬(M b\/rest J i b))/\(∀b,(M b\/rest J i b)->b<w.heap.size):=h.lendS i Z a
theorem SH.jO(h:SH I M K w J)(i:Nat)(a:C.holds w' (λb=>M b\/rest J i b) C.own')(c:C.Zk)(d:bF (J i).own' w w')(hn:∀b,C.own' b->b<w.heap.size->(J i).own' b):SH I M K w' (df J i C):=h.back i Z c a d hn
end
section
variable{σ ρ α:Type}{b:Int->σ->(σ->ρ)->ρ}{bx:Int->α->σ->(σ->ρ)->ρ}{be:α->σ->(σ->ρ)->ρ}{K:σ->ρ}{s:σ}{r:ρ}{i c:Int}{k:Nat}{ry:H α}
theorem upNext(hik:i=(k:Int))(e:G (i<c)=bd)(W:zE b K i (c.toNat-k) s=r):∃a,zE b K (i+1) (c.toNat-(k+1))=a/\b i s a=r:=by
 rw[upto_lt (by have:=of_decide_eq_true e;omega)]at W;exact⟨_,Z,W⟩
theorem upEnd(hik:i=(k:Int))(e:G (i<c)=aw)(W:zE b K i (c.toNat-k) s=r):K s=r:=by
 rw[upto_ge (by have:=of_decide_eq_false e;omega)]at W;exact W
theorem upRng(hik:i=(k:Int))(e:G (i<c)=bd)(a:c<=9223372036854775807):ky (i+1):=by
 have:=of_decide_eq_true e;exact ky.mk V V
theorem eaNext(hik:i=(k:Int))(e:G (i<(O ry:Int))=bd)(W:vh be K (ry.drop k) s=r):∃x a,ry[k]? =U x/\vh be K (ry.drop (k+1))=a/\be x s a=r:=by
 obtain⟨x,b,c⟩:=To<|hik▸e;rw[c,gq]at W;exact⟨x,_,b,Z,W⟩
theorem eaEnd(hik:i=(k:Int))(e:G (i<(O ry:Int))=aw)(W:vh be K (ry.drop k) s=r):K s=r:=by
 rw[T8 (hik▸e),lM]at W;exact W
theorem eaLt(hik:i=(k:Int))(e:G (i<(O ry:Int))=bd):O ry-(k+1)<O ry-k:=by
 have:=of_decide_eq_true e;omega
end
abbrev cW(b:Nat)(a v1 v2:Q)(l:H dx):Chunk:=.two (.blk b [a,v1,v2]) (.own iM 40 v1 l)
abbrev kT(M:BS)(w:ay):Prop:=∀b,M b->b<w.heap.size
open Go Go.RowKit Go.Proofs
section
variable{P:cc}{ops:Array ec}{aq:fY->Act->ay->Prop}{rest:H ec}{n:Nat}{env:Nat->Q}{w I:ay}{M K:BS}{J:Nat->Chunk}{d:B Nat}{ty:bk}{pos:String}{af:Array hR}{x y:br}{T T2:bk}{v:Q}
theorem jF{k:Int}{p:Q}(i:T1 P T v k p)(e:(ev n env x,ev n env y)=(v,dd .i64 k))(h:WL P ops aq rest n (gy env d p) w):WL P ops aq (⟨d,.indexAddr T x y,ty,pos,af,bh⟩::rest) n env w:=by
 injection e with e1 e2;exact aC (i _ _ _ _ _ _ _ _ _ e1 e2) h
section
variable{p q:Int}{k:IntKind}
theorem Cu(e:(ev n env x,ev n env y)=(dd k p,dd k q))(h:WL P ops aq rest n (gy env d (.bool (G (p=q)))) w):WL P ops aq (⟨d,.binOp .eql T x y T2,ty,pos,af,bh⟩::rest) n env w:=by
 injection e with e1 e2;exact aC (qD e1 e2) h
theorem Zw(e:(ev n env x,ev n env y)=(dd k p,dd k q))(h:WL P ops aq rest n (gy env d (.bool (G (p≠q)))) w):WL P ops aq (⟨d,.binOp .neq T x y T2,ty,pos,af,bh⟩::rest) n env w:=by
 injection e with e1 e2;exact aC (NZ e1 e2) h
theorem qlss(e:(ev n env x,ev n env y)=(dd .i64 p,dd .i64 q))(h:WL P ops aq rest n (gy env d (.bool (G (p<q)))) w):WL P ops aq (⟨d,.binOp .lss T x y T2,ty,pos,af,bh⟩::rest) n env w:=by
 injection e with e1 e2;exact aC (Ls e1 e2) h
theorem qadd(e:(ev n env x,ev n env y)=(dd .i64 p,dd .i64 q))(a:ky (p+q))(h:WL P ops aq rest n (gy env d (.int .i64 (p+q))) w):WL P ops aq (⟨d,.binOp .add T x y T2,ty,pos,af,bh⟩::rest) n env w:=by
 injection e with e1 e2;exact aC (Lt e1 e2 a) h
theorem LB{i:Nat}{vs:H Q}(e:(ev n env x,vs[i]?)=(Value.tuple (ar vs),U v))(h:WL P ops aq rest n (gy env d v) w):WL P ops aq (⟨d,.extract x i,ty,pos,af,bh⟩::rest) n env w:=by
 injection e with e1 e2;exact aC (ON e1 e2) h
variable{α:Type}{R:uQ α}{E:bk}{sz:Nat}{l:H α}
theorem uR(h:SH I M K w J)(i:Nat)(a:SliceOf P T E sz)(e:(J i,ev n env x)=(Chunk.sr R v l,v))(k:WL P ops aq rest n (gy env d (.int .i64 (O l))) w):WL P ops aq (⟨d,.call {callee:=.builtin .len,args:= #[x],argTypes:= #[T]},ty,pos,af,bh⟩::rest) n env w:=by
 injection e with e1 e2;exact aC (sV a e2<|h.gz i e1) k
theorem Tv(h:SH I M K w J)(i:Nat)(a:SliceOf P T E sz)(e:(J i,ev n env x)=(Chunk.rd R v l,v))(k:WL P ops aq rest n (gy env d (.int .i64 (O l))) w):WL P ops aq (⟨d,.call {callee:=.builtin .len,args:= #[x],argTypes:= #[T]},ty,pos,af,bh⟩::rest) n env w:=by
 injection e with e1 e2;exact aC (sV a e2<|h.jL i e1) k
variable{b want:Yi}
theorem Fb{j dj b' o:Nat}{z:Q}{cs:H Q}(h:SH I M K w J)(i:Nat)(a:One P T z)(e:((ops[j]?).bind (·.dst),ev n env (.tmp dj),J i,ev n env x,cs[o]?)=(U dj,cM b,Chunk.blk b' cs,gv (b==want) (.pointer (U ⟨b',o,bh⟩)),U v))(k:WL P ops aq rest n (gy env d (gv (b==want) v)) w):WL P ops aq (⟨d,.load T x,ty,pos,af,U (j,want)⟩::rest) n env w:=by
  injection e with e1 e2;injection e2 with e2 e3;injection e3 with e3 e4;injection e4 with e4 e5;exact cK e1 e2 (λq=>jA h i e3 a (e4.trans<|iR q) e5) k
theorem Fe{j dj b' o f off:Nat}(a:fF P T f off)(e:((ops[j]?).bind (·.dst),ev n env (.tmp dj),ev n env x)=(U dj,cM b,eW (U ⟨b',o,bh⟩)))(k:WL P ops aq rest n (gy env d (gv (b==want) (.pointer (U ⟨b',o+off,bh⟩)))) w):WL P ops aq (⟨d,.fieldAddr T x f,ty,pos,af,U (j,want)⟩::rest) n env w:=by
  injection e with e1 e2;injection e2 with e2 e3;exact cK e1 e2 (λq=>dI a e3) k
end
end
theorem vm{P:cc}{f:mT}{fn:Func}{c:Code}{args:H Q}{R:sC->ay->Prop}{n:Nat}{w:ay}(a:P.funcs[f]? =U fn)(hn:fn.ntmps=n)(e:(fn.body,lr (O args) n)=(U c,bd))
  (h:WC P c (ks P fn R) n (HD args) w):bp P f (ar args) w R:=by
 injection e with e1 e2;exact calls_start a e1 hn (gC e2) h
open Go Go.RowKit Go.Proofs
def fillF(a:H (Nat×Nat))(cs:H Q):H (Nat×Q)->B (H Q)
 |[]=>U cs
 |(i,v)::r=>match a[i]? with
  |some (off,1)=>if off<O cs then fillF a (cs.set off v) r else bh
  |_=>bh
theorem fillF_ok{a:H (Nat×Nat)}:∀{pv:H (Nat×Q)} {cs out:H Q},(∀v∈pv.map (·.2),v.oneCell'=bd)->fillF a cs pv=U out->V2 a cs pv out
  |[],cs,out,_,h=>dq h
  |(i,v)::r,cs,out,ho,h=>by
    unfold fillF at h;split at h
    · rename_i off e;split at h
      · rename_i hl;refine⟨off,1,[v],e,cz<|ho v C3,Z,by omega,?_⟩;rw[show QW cs off [v]=cs.set off v by unfold QW;rw[List.set_eq_take_append_cons_drop,Z2 hl];simp];exact fillF_ok (λx b=>ho x<|List.mem_cons_of_mem _ b) h
      · cases h
    · cases h
section
variable{P:cc}{ops:Array ec}{aq:fY->Act->ay->Prop}{rest:H ec}{n:Nat}{env:Nat->Q}{w I:ay}{M K:BS}{J:Nat->Chunk}{d:B Nat}{op:Op}{ty:bk}{pos:String}{af:Array hR}{x y c:br}{T T2:bk}{v:Q}{j dj:Nat}{b b0 r:Yi}{i:Int}
theorem iQ{zs out:H Q}{a:H (Nat×Nat)}{parts:Array (Nat×br)}{pv:H (Nat×Q)}(b:Struct P T zs a)(e:(parts.toList.map λp=>(p.1,ev n env p.2),fillF a zs pv)=(pv,U out))(ho:∀v∈pv.map (·.2),v.oneCell'=bd)
    (h:WL P ops aq rest n (gy env d (.agg (ar out))) w):WL P ops aq (⟨d,.build T parts,ty,pos,af,bh⟩::rest) n env w:=by
  injection e with e1 e2;exact aC (lH b e1<|fillF_ok ho e2) h
theorem Y2(a:b0=bd)(e:(ev n env c,ev n env x)=(cM b0,cM r))(h:WL P ops aq rest n (gy env d (.bool r)) w):WL P ops aq (⟨d,.pick c x y,ty,pos,af,bh⟩::rest) n env w:=by
 injection e with e1 e2;exact aC (gP (b:=bd) (by rw[e1,a]) e2) h
theorem SO(a:b0=aw)(e:(ev n env c,ev n env y)=(cM b0,cM r))(h:WL P ops aq rest n (gy env d (.bool r)) w):WL P ops aq (⟨d,.pick c x y,ty,pos,af,bh⟩::rest) n env w:=by
 injection e with e1 e2;exact aC (gP (b:=aw) (by rw[e1,a]) e2) h
theorem zt(a:b0=aw)(e:((ops[j]?).bind (·.dst),ev n env (.tmp dj),aw==b)=(U dj,cM b0,aw))(h:WL P ops aq rest n (gy env d gx) w):WL P ops aq (⟨d,op,ty,pos,af,U (j,b)⟩::rest) n env w:=by
  injection e with e1 e2;injection e2 with e2 e3;exact ji e1 (by rw[e2,a]) e3 h
theorem ofT(a:b0=bd)(e:((ops[j]?).bind (·.dst),ev n env (.tmp dj),bd==b)=(U dj,cM b0,aw))(h:WL P ops aq rest n (gy env d gx) w):WL P ops aq (⟨d,op,ty,pos,af,U (j,b)⟩::rest) n env w:=by
  injection e with e1 e2;injection e2 with e2 e3;exact ji e1 (by rw[e2,a]) e3 h
theorem oN(a:b0=b)(e:((ops[j]?).bind (·.dst),ev n env (.tmp dj))=(U dj,cM b0))(h:WL P ops aq (⟨d,op,ty,pos,af,bh⟩::rest) n env w):WL P ops aq (⟨d,op,ty,pos,af,U (j,b)⟩::rest) n env w:=by
  injection e with e1 e2;exact NY e1 (by rw[e2,a]) h
theorem g0I{want:Yi}(e:((ops[j]?).bind (·.dst),ev n env (.tmp dj),ev n env x)=(U dj,cM b,dd .i64 i))(h:WL P ops aq rest n (gy env d (gv (b==want) (.int .i64 i))) w):WL P ops aq (⟨d,.move x,ty,pos,af,U (j,want)⟩::rest) n env w:=by
  injection e with e1 e2;injection e2 with e2 e3;exact cK e1 e2 (λ_=>fG e3) h
theorem g0B'{want:Yi}(e:((ops[j]?).bind (·.dst),ev n env (.tmp dj),ev n env x)=(U dj,cM b,cM r))(h:WL P ops aq rest n (gy env d (gv (b==want) (.bool r))) w):WL P ops aq (⟨d,.move x,ty,pos,af,U (j,want)⟩::rest) n env w:=by
  injection e with e1 e2;injection e2 with e2 e3;exact cK e1 e2 (λ_=>fG e3) h
theorem Pr{zs vs:H Q}{a o k:Nat}{cs:H Q}(h:SH I M K w J)(i:Nat)(b:zg P T zs)(e:(J i,ev n env x,(cs.drop k).take (O zs),O vs,lr (k+O zs) (O cs))=(Chunk.pt a o cs,eW (U ⟨a,o+k,bh⟩),vs,O zs,bd))(q:WL P ops aq rest n (gy env d (.agg (ar vs))) w):WL P ops aq (⟨d,.load T x,ty,pos,af,bh⟩::rest) n env w:=by
 injection e with e1 e2;injection e2 with e2 e3;injection e3 with e3 e4;injection e4 with e4 e5;exact aC (Ti h i e1 b e2 e3 e4<|gC e5) q
theorem mo{ry:BS}{ws:ay}{u:Q}(c:bF ry ws w)(g:∀b,ob u b->w.heap.size<=b):∀b,ob u b->ws.heap.size<=b:=λb a=>Nat.le_trans c.size (g b a)
end
section
variable{P:cc}{ops:Array ec}{aq:fY->Act->ay->Prop}{n:Nat}{env:Nat->Q}{w ws:ay}{d:B Nat}{op:Op}{ty:bk}{pos:String}{af:Array hR}{fuel:Nat}{listed:Array Yi}{v:Q}{ry:BS}
theorem aY(i:Nat)(c:bF ry ws w)(hi:ops[i]? =U ⟨d,op,ty,pos,af,bh⟩)(e:∀b,bF ry ws b->(bm (ev n env) ⟨d,op,ty,pos,af,bh⟩).run P b=.ok (.value v) b)(h:Po P ops ry ws aq fuel (listed.setIfInBounds i bd) n (gy env d v) w)(a:(eg ops&&(fm .any ops listed i&&(dy .any ops listed).contains i))=true:=by kernel_rfl):Po P ops ry ws aq (fuel+1) listed n env w:=by
 simp only[cS]at a;exact gK i c hi bA a.1 a.2.1 a.2.2 e h
end
section
variable{P:cc}{ops:Array ec}{w:ay}{Q1:Act->Prop}{rest:H ec}{n:Nat}{env:Nat->Q}{d:B Nat}{ty:bk}{pos:String}{af:Array hR}{x:br}
theorem kI{i:Int}(a:ev n env x=.int .i64 i)(h:WK P ops w Q1 rest n (gy env d (.int .i64 i))):WK P ops w Q1 (⟨d,.move x,ty,pos,af,bh⟩::rest) n env:=eQ (fG a) h
theorem kB{i:Yi}(a:ev n env x=.bool i)(h:WK P ops w Q1 rest n (gy env d (.bool i))):WK P ops w Q1 (⟨d,.move x,ty,pos,af,bh⟩::rest) n env:=eQ (fG a) h
end
abbrev F7(w:ay)(M:BS)(C:Chunk):Prop:=Chunk.holds w M (Chunk.own' C) C
abbrev ApC(C:Chunk)(M:BS):Prop:=∀b,Chunk.own' C b->¬M b
abbrev Gu(C':Chunk)(w:ay)(C:Chunk):Prop:=∀b,Chunk.own' C' b->b<w.heap.size->Chunk.own' C b
abbrev Jm(M:BS)(C:Chunk):BS:=λb=>M b\/Chunk.own' C b
open Go Go.RowKit Go.Proofs
section
variable{P:cc}{ops:Array ec}{aq:fY->Act->ay->Prop}{n:Nat}{env:Nat->Q}{w ws:ay}{d:B Nat}{ty:bk}{pos:String}{af:Array hR}{fuel:Nat}{listed:Array Yi}{v:Q}{ry:BS}{T:bk}{x:br}
theorem bM(i:Nat)(a:bF ry ws w){k off b o:Nat}(c:fF P T k off)(e:(ops[i]?,ev n env x)=(U ⟨d,.fieldAddr T x k,ty,pos,af,bh⟩,eW (U ⟨b,o,bh⟩)))(h:Po P ops ry ws aq fuel (listed.setIfInBounds i bd) n (gy env d (.pointer (U ⟨b,o+off,bh⟩))) w)(f:(eg ops&&(fm .any ops listed i&&(dy .any ops listed).contains i))=true:=by kernel_rfl):Po P ops ry ws aq (fuel+1) listed n env w:=by
 injection e with e1 e2;exact aY i a e1 (λ_ _=>dI c e2) h f
theorem dz(i:Nat)(a:bF ry ws w)(v:Q)(e:(ops[i]?,ev n env x)=(U ⟨d,.move x,ty,pos,af,bh⟩,v))(h:Po P ops ry ws aq fuel (listed.setIfInBounds i bd) n (gy env d v) w)(b:(eg ops&&(fm .any ops listed i&&(dy .any ops listed).contains i))=true:=by kernel_rfl):Po P ops ry ws aq (fuel+1) listed n env w:=by
 injection e with e1 e2;exact aY i a e1 (λ_ _=>fG e2) h b
theorem kG(i:Nat)(a:bF ry ws w)(v:Q)(e:(ops[i]?,ev n env x)=(U ⟨d,.assign x,ty,pos,af,bh⟩,v))(h:Po P ops ry ws aq fuel (listed.setIfInBounds i bd) n (gy env d v) w)(b:(eg ops&&(fm .any ops listed i&&(dy .any ops listed).contains i))=true:=by kernel_rfl):Po P ops ry ws aq (fuel+1) listed n env w:=by
 injection e with e1 e2;exact aY i a e1 (λ_ _=>lL e2) h b
end
section
variable{P:cc}{ops:Array ec}{aq:fY->Act->ay->Prop}{rest:H ec}{n:Nat}{env:Nat->Q}{w I:ay}{M K:BS}{J:Nat->Chunk}{d:B Nat}{ty:bk}{pos:String}{af:Array hR}{x y:br}{T:bk}
theorem aT{zs vs:H Q}{b:Nat}{cs:H Q}(h:SH I M K w J)(i:Nat)(c:zg P T zs)(e:(J i,ev n env x,ev n env y,O vs,O cs)=(Chunk.blk b cs,eW (U ⟨b,0,bh⟩),Value.agg (ar vs),O zs,O vs))(a:∀v∈vs,v.oneCell'=bd)
 (k:∀w',SH I M K w' (df J i (.blk b vs))->WL P ops aq rest n (gy env d gx) w'):WL P ops aq (⟨d,.store T x y,ty,pos,af,bh⟩::rest) n env w:=w_stA h i vs c e a k
theorem SH.pr(h:SH I M K w J)(i j:Nat)(a:i≠j:=by decide):SH I M K w (df (df J j .no) i (.two (J i) (J j))):=h.pair i j a
theorem SH.un{a c:Chunk}(h:SH I M K w J)(i j:Nat)(hi:J i=.two a c)(d:J j=.no)(b:i≠j:=by decide):SH I M K w (df (df J i a) j c):=h.unpair i j b hi d
end
open Go Go.RowKit Go.Proofs
theorem kR{ry:BS}{w:ay}:bF ry w w:=bF.refl ry w
theorem bO{vs:H Q}(e:vs.all Value.oneCell'=bd):∀v∈vs,v.oneCell'=true:=λv h=>pd.1 e v h
section
variable{P:cc}{ops:Array ec}{aq:fY->Act->ay->Prop}{n:Nat}{env:Nat->Q}{w:ay}{fuel:Nat}{listed:Array Yi}{ry:BS}
theorem bT(h:∀ws,bF ry ws w->Po P ops ry ws aq fuel listed n env w):Po P ops ry w aq fuel listed n env w:=h w (bF.refl _ _)
end
section
variable{P:cc}{ops:Array ec}{aq:fY->Act->ay->Prop}{rest:H ec}{n:Nat}{env:Nat->Q}{w I:ay}{M K:BS}{J:Nat->Chunk}{d:B Nat}{ty:bk}{pos:String}{af:Array hR}{x:br}{v:Q}
section
variable{f:mT}{first captured:Array Q}{xs:Array br}{args:H Q}
theorem mq{ts:Array bk}(h:SH I M K w J)(a:V3 P f)(c:ev n env x=.func (.func f) first captured)(i:first.toList++xs.toList.map (ev n env)++captured.toList=args)(b:bp P f (ar args) w (λe w'=>Grow w w'/\e=.returned v))(k:∀w',Grow w w'->SH I M K w' J->WL P ops aq rest n (gy env d v) w'):
  WL P ops aq (⟨d,.call {callee:=.value x,args:=xs,argTypes:=ts},ty,pos,af,bh⟩::rest) n env w:=
 OC a c i b (by rintro _ w' ⟨g,rfl⟩;exact⟨_,Z,k w' g (h.grow g)⟩)
variable{α:Type}{R:uQ α}{l:H α}{F:Q->Q}
theorem Bi{ts:Array bk}(h:SH I M K w J)(i:Nat)(j:V3 P f)(b:ev n env x=.func (.func f) first captured)(c:first.toList++xs.toList.map (ev n env)++captured.toList=args)(a:bp P f (ar args) w (λe w'=>Grow w w'/\∃u,e=.returned (F u)/\bY R w' (SH.A M J) u l))(k:∀w' u,Grow w w'->SH I M K w' (df J i (.rd R u l))->WL P ops aq rest n (gy env d (F u)) w'):
  WL P ops aq (⟨d,.call {callee:=.value x,args:=xs,argTypes:=ts},ty,pos,af,bh⟩::rest) n env w:=
 OC j b c a (by rintro _ w' ⟨g,u,rfl,g2⟩;exact⟨_,Z,k w' u g (h.wL i g g2)⟩)
theorem nZ{E:bk}{ts:Array bk}(h:SH I M K w J)(i:Nat)(o:V3 P f)(j:ev n env x=.func (.func f) first captured)(m:first.toList++xs.toList.map (ev n env)++captured.toList=args)(c:bp P f (ar args) w (λe w'=>Grow w w'/\∃u,e=.returned (F u)/\dC R E w' (SH.A M J) u l/\(∀b,ob u b->w.heap.size<=b)))(k:∀w' u,Grow w w'->(∀b,ob u b->w.heap.size<=b)->SH I M K w' (df J i (.own R E u l))->WL P ops aq rest n (gy env d (F u)) w'):
  WL P ops aq (⟨d,.call {callee:=.value x,args:=xs,argTypes:=ts},ty,pos,af,bh⟩::rest) n env w:=
 OC o j m c (by rintro _ w' ⟨g,u,rfl,g2,a⟩;exact⟨_,Z,k w' u g a (h.wU i g g2 a)⟩)
end
end
open Go Go.RowKit Go.Proofs
abbrev pT(b:Nat):Value:=.pointer (U ⟨b,0,bh⟩)
abbrev nS:Value:=.slice bh 0 0
def fchk(P:cc)(f:mT):Yi:=match P.funcs[f]? with
 |some fn=> !(fn.name== "runtime.NumGoroutine")&& !fn.body.isNone
 |none=>aw
theorem hp{P:cc}{f:mT}(h:fchk P f=true:=by kernel_rfl):V3 P f:=by
  unfold fchk at h;split at h
  · rename_i fn e;simp only[cS,ef]at h;exact⟨fn,e,h.1,h.2⟩
  · cases h
section
variable{P:cc}{ops:Array ec}{aq:fY->Act->ay->Prop}{n:Nat}{env:Nat->Q}{w ws:ay}{d:B Nat}{op:Op}{ty:bk}{pos:String}{af:Array hR}{fuel:Nat}{listed:Array Yi}{ry:BS}
theorem aR(i:Nat)(hi:ops[i]? =U ⟨d,op,ty,pos,af,bh⟩)(h:WL P ops (WX P ops ry ws aq fuel (listed.setIfInBounds i bd)) [⟨d,op,ty,pos,af,bh⟩] n env w)(a:dy .any ops listed=[i]:=by kernel_rfl):Po P ops ry ws aq (fuel+1) listed n env w:=Dt i a hi bA h
theorem dM(h:aq .normal (C6 n env) w)(a:dy .any ops listed=[]:=by kernel_rfl):Po P ops ry ws aq fuel listed n env w:=whk_done a h
end
open Go Go.RowKit Go.Proofs
class Xb (J:Nat->Chunk) (b:Nat) (i:outParam Nat):Prop where
 t:True
instance {J:Nat->Chunk} {b i:Nat} {vs:List Q}:Xb (df J i (.blk b vs)) b i:=⟨trivial⟩
instance (priority:=500) {J:Nat->Chunk} {b i j:Nat} {c:Chunk} [Xb J b i]:Xb (df J j c) b i:=⟨trivial⟩
instance {b i:Nat} {vs:List Q} {l:List (Nat×Chunk)}:Xb (C0 ((i,.blk b vs)::l)) b i:=⟨trivial⟩
instance (priority:=500) {b i:Nat} {p:Nat×Chunk} {l:List (Nat×Chunk)} [Xb (C0 l) b i]:Xb (C0 (p::l)) b i:=⟨trivial⟩
class LC (J:Nat->Chunk) (b:Nat) (i:outParam Nat):Prop where
 t:True
instance {J:Nat->Chunk} {b o i:Nat} {vs:List Q}:LC (df J i (.pt b o vs)) b i:=⟨trivial⟩
instance (priority:=500) {J:Nat->Chunk} {b i j:Nat} {c:Chunk} [LC J b i]:LC (df J j c) b i:=⟨trivial⟩
instance {b o i:Nat} {vs:List Q} {l:List (Nat×Chunk)}:LC (C0 ((i,.pt b o vs)::l)) b i:=⟨trivial⟩
instance (priority:=500) {b i:Nat} {p:Nat×Chunk} {l:List (Nat×Chunk)} [LC (C0 l) b i]:LC (C0 (p::l)) b i:=⟨trivial⟩
class Bj (J:Nat->Chunk) (v:Q) (i:outParam Nat):Prop where
 t:True
section
variable{α:Type}{R:uQ α}{E:bk}{J:Nat->Chunk}{v:Q}{i:Nat}{ry:H α}{l:H (Nat×Chunk)}
instance:Bj (df J i (.sr R v ry)) v i:=⟨trivial⟩
instance:Bj (df J i (.rd R v ry)) v i:=⟨trivial⟩
instance:Bj (df J i (.own R E v ry)) v i:=⟨trivial⟩
instance (priority:=500) {j:Nat} {c:Chunk} [Bj J v i]:Bj (df J j c) v i:=⟨trivial⟩
instance:Bj (C0 ((i,.sr R v ry)::l)) v i:=⟨trivial⟩
instance:Bj (C0 ((i,.rd R v ry)::l)) v i:=⟨trivial⟩
instance:Bj (C0 ((i,.own R E v ry)::l)) v i:=⟨trivial⟩
instance (priority:=500) {p:Nat×Chunk} [Bj (C0 l) v i]:Bj (C0 (p::l)) v i:=⟨trivial⟩
end
section
variable{P:cc}{ops:Array ec}{aq:fY->Act->ay->Prop}{rest:H ec}{n:Nat}{env:Nat->Q}{w I:ay}{M K:BS}{J:Nat->Chunk}{d:B Nat}{op:Op}{ty:bk}{pos:String}{af:Array hR}{x y:br}{T T2:bk}{v z:Q}{b o k off i:Nat}{cs zs vs:H Q}
theorem fadi(a:ev n env x=.pointer (U ⟨b,o,bh⟩)) [hT:fF P T k off](h:WL P ops aq rest n (gy env d (.pointer (U ⟨b,o+off,bh⟩))) w):WL P ops aq (⟨d,.fieldAddr T x k,ty,pos,af,bh⟩::rest) n env w:=aC (dI hT a) h
theorem lBi(h:SH I M K w J)(a:ev n env x=.pointer (U ⟨b,o,bh⟩)) [hT:One P T z] [Xb J b i](e:(J i,cs[o]?)=(Chunk.blk b cs,U v))(k:WL P ops aq rest n (gy env d v) w):WL P ops aq (⟨d,.load T x,ty,pos,af,bh⟩::rest) n env w:=by
 injection e with e1 e2;exact aC (jA h i e1 hT a e2) k
theorem lBNi(h:SH I M K w J)(a:ev n env x=.pointer (U ⟨b,o,bh⟩)) [hT:zg P T zs] [Xb J b i](e:(J i,(cs.drop o).take (O zs),O vs)=(Chunk.blk b cs,vs,O zs))(k:WL P ops aq rest n (gy env d (.agg (ar vs))) w):WL P ops aq (⟨d,.load T x,ty,pos,af,bh⟩::rest) n env w:=by
 injection e with e1 e2;injection e2 with e2 e3;exact aC (vE h i e1 hT a e2 e3) k
theorem lPi{a:Nat}(h:SH I M K w J)(c:ev n env x=.pointer (U ⟨b,a,bh⟩)) [hT:One P T z] [LC J b i](e:(J i,a,cs[k]?)=(Chunk.pt b o cs,o+k,U v))(q:WL P ops aq rest n (gy env d v) w):WL P ops aq (⟨d,.load T x,ty,pos,af,bh⟩::rest) n env w:=by
 injection e with e1 e2;injection e2 with e2 e3;exact aC (ug h i e1 hT (e2▸c) e3) q
theorem lP0i{a:Nat}(h:SH I M K w J)(c:ev n env x=.pointer (U ⟨b,a,bh⟩)) [hT:One P T z] [LC J b i](e:(J i,cs[0]?)=(Chunk.pt b a cs,U v))(q:WL P ops aq rest n (gy env d v) w):WL P ops aq (⟨d,.load T x,ty,pos,af,bh⟩::rest) n env w:=by
 injection e with e1 e2;exact aC (ug (k:=0) h i e1 hT c e2) q
theorem lPN0i{a:Nat}(h:SH I M K w J)(c:ev n env x=.pointer (U ⟨b,a,bh⟩)) [hT:zg P T zs] [LC J b i](e:(J i,cs.take (O zs),O vs,lr (O zs) (O cs))=(Chunk.pt b a cs,vs,O zs,bd))(q:WL P ops aq rest n (gy env d (.agg (ar vs))) w):WL P ops aq (⟨d,.load T x,ty,pos,af,bh⟩::rest) n env w:=by
 injection e with e1 e2;injection e2 with e2 e3;injection e3 with e3 e4;exact aC (Ti (k:=0) h i e1 hT c (by rw[List.drop_zero];exact e2) e3 (by rw[Nat.zero_add];exact gC e4)) q
structure WLn(P:cc)(ops:Array ec)(aq:fY->Act->ay->Prop)(T:bk)(v:Q)(rest:List ec)(n:Nat)(env:Nat->Q)(d:Option Nat)(w:ay):Prop where
 out:∃m:Nat,(∃a c E sz,v=.slice a m c/\SliceOf P T E sz)/\WL P ops aq rest n (gy env d (.int .i64 m)) w
theorem lenK(f:ev n env x=v)(k:WLn P ops aq T v rest n env d w):WL P ops aq (⟨d,.call {callee:=.builtin .len,args:= #[x],argTypes:= #[T]},ty,pos,af,bh⟩::rest) n env w:=by
 obtain⟨m,⟨a,c,E,sz,b,e⟩,k⟩:=k;exact aC (ng e<|f.trans b) k
theorem g0Fi{j dj b' off k:Nat}{b want:Yi}{o:Nat}(e:((ops[j]?).bind (·.dst),ev n env (.tmp dj),ev n env x)=(U dj,cM b,eW (U ⟨b',o,bh⟩))) [hT:fF P T k off]
    (q:WL P ops aq rest n (gy env d (gv (b==want) (.pointer (U ⟨b',o+off,bh⟩)))) w):WL P ops aq (⟨d,.fieldAddr T x k,ty,pos,af,U (j,want)⟩::rest) n env w:=Fe hT e q
theorem g0Bi{j dj b':Nat}{b want:Yi}(h:SH I M K w J)(e:((ops[j]?).bind (·.dst),ev n env (.tmp dj),ev n env x)=(U dj,cM b,gv (b==want) (.pointer (U ⟨b',o,bh⟩)))) [hT:One P T z] [Xb J b' i](a:(J i,cs[o]?)=(Chunk.blk b' cs,U v))
    (q:WL P ops aq rest n (gy env d (gv (b==want) v)) w):WL P ops aq (⟨d,.load T x,ty,pos,af,U (j,want)⟩::rest) n env w:=by
  injection e with e1 e3;injection e3 with e3 e4;injection a with e5 e6;exact Fb h i hT (by rw[e1,e3,e4,e5,e6]) q
section
variable{α:Type}{R:uQ α}{E E2:bk}{sz:Nat}{l:H α}
theorem lnS(h:SH I M K w J) [hT:SliceOf P T E sz] [Bj J v i](e:J i=.sr R v l)(k:WL P ops aq rest n (gy env d (.int .i64 (O l))) w):WLn P ops aq T v rest n env d w:=by
 obtain⟨a,c,e,_⟩:=h.gz i e;exact⟨_,⟨a,c,E,sz,e,hT⟩,k⟩
theorem lnR(h:SH I M K w J) [hT:SliceOf P T E sz] [Bj J v i](e:J i=.rd R v l)(k:WL P ops aq rest n (gy env d (.int .i64 (O l))) w):WLn P ops aq T v rest n env d w:=by
 obtain⟨a,c,e,_⟩:=h.jL i e;exact⟨_,⟨a,c,E,sz,e,hT⟩,k⟩
theorem lnO(h:SH I M K w J) [hT:SliceOf P T E sz] [Bj J v i](e:J i=.own R E2 v l)(k:WL P ops aq rest n (gy env d (.int .i64 (O l))) w):WLn P ops aq T v rest n env d w:=by
 obtain⟨a,c,e,_⟩:=h.dm i e;exact⟨_,⟨a,c,E,sz,e,hT⟩,k⟩
end
end
section
variable{α:Type}{R:uQ α}{E E2:bk}{sz:Nat}{l:H α}{P:cc}{ops:Array ec}{aq:fY->Act->ay->Prop}{rest:H ec}{n:Nat}{env:Nat->Q}{w I:ay}{M K:BS}{J:Nat->Chunk}{d:B Nat}{ty:bk}{pos:String}{af:Array hR}{x:br}{T:bk}{v:Q}{i j dj:Nat}{b want:Yi}
theorem g0LS(h:SH I M K w J)(e:((ops[j]?).bind (·.dst),ev n env (.tmp dj),ev n env x)=(U dj,cM b,gv (b==want) v)) [hT:SliceOf P T E sz] [Bj J v i](a:J i=.sr R v l)
    (q:WL P ops aq rest n (gy env d (gv (b==want) (.int .i64 (O l)))) w):WL P ops aq (⟨d,.call {callee:=.builtin .len,args:= #[x],argTypes:= #[T]},ty,pos,af,U (j,want)⟩::rest) n env w:=by
  injection e with e1 e3;injection e3 with e3 e4;exact cK e1 e3 (λq=>sV hT (e4.trans<|iR q)<|h.gz i a) q
theorem g0LR(h:SH I M K w J)(e:((ops[j]?).bind (·.dst),ev n env (.tmp dj),ev n env x)=(U dj,cM b,gv (b==want) v)) [hT:SliceOf P T E sz] [Bj J v i](a:J i=.rd R v l)
    (q:WL P ops aq rest n (gy env d (gv (b==want) (.int .i64 (O l)))) w):WL P ops aq (⟨d,.call {callee:=.builtin .len,args:= #[x],argTypes:= #[T]},ty,pos,af,U (j,want)⟩::rest) n env w:=by
  injection e with e1 e3;injection e3 with e3 e4;exact cK e1 e3 (λq=>sV hT (e4.trans<|iR q)<|h.jL i a) q
end
section
variable{P:cc}{ops:Array ec}{Q1:Act->Prop}{rest:H ec}{n:Nat}{env:Nat->Q}{w I:ay}{M K:BS}{J:Nat->Chunk}{d:B Nat}{op:Op}{ty:bk}{pos:String}{af:Array hR}{x y c:br}{T T2:bk}{v z:Q}{b o k off i j dj:Nat}{cs zs vs:H Q}{b0 bb want:Yi}
theorem kV(a:ev n env x=v)(h:WK P ops w Q1 rest n (gy env d v)):WK P ops w Q1 (⟨d,.move x,ty,pos,af,bh⟩::rest) n env:=eQ (fG a) h
theorem kA(a:ev n env x=v)(h:WK P ops w Q1 rest n (gy env d v)):WK P ops w Q1 (⟨d,.assign x,ty,pos,af,bh⟩::rest) n env:=eQ (lL a) h
theorem kFi(a:ev n env x=.pointer (U ⟨b,o,bh⟩)) [hT:fF P T k off](h:WK P ops w Q1 rest n (gy env d (.pointer (U ⟨b,o+off,bh⟩)))):WK P ops w Q1 (⟨d,.fieldAddr T x k,ty,pos,af,bh⟩::rest) n env:=eQ (dI hT a) h
theorem kBi(h:SH I M K w J)(a:ev n env x=.pointer (U ⟨b,o,bh⟩)) [hT:One P T z] [Xb J b i](e:(J i,cs[o]?)=(Chunk.blk b cs,U v))(q:WK P ops w Q1 rest n (gy env d v)):WK P ops w Q1 (⟨d,.load T x,ty,pos,af,bh⟩::rest) n env:=by
 injection e with e1 e2;exact eQ (jA h i e1 hT a e2) q
theorem kPi{a:Nat}(h:SH I M K w J)(c:ev n env x=.pointer (U ⟨b,a,bh⟩)) [hT:One P T z] [LC J b i](e:(J i,a,cs[k]?)=(Chunk.pt b o cs,o+k,U v))(q:WK P ops w Q1 rest n (gy env d v)):WK P ops w Q1 (⟨d,.load T x,ty,pos,af,bh⟩::rest) n env:=by
 injection e with e1 e2;injection e2 with e2 e3;exact eQ (ug h i e1 hT (e2▸c) e3) q
theorem kP0i{a:Nat}(h:SH I M K w J)(c:ev n env x=.pointer (U ⟨b,a,bh⟩)) [hT:One P T z] [LC J b i](e:(J i,cs[0]?)=(Chunk.pt b a cs,U v))(q:WK P ops w Q1 rest n (gy env d v)):WK P ops w Q1 (⟨d,.load T x,ty,pos,af,bh⟩::rest) n env:=by
 injection e with e1 e2;exact eQ (ug (k:=0) h i e1 hT c e2) q
theorem kOn(a:b0=bb)(e:((ops[j]?).bind (·.dst),ev n env (.tmp dj))=(U dj,cM b0))(h:WK P ops w Q1 (⟨d,op,ty,pos,af,bh⟩::rest) n env):WK P ops w Q1 (⟨d,op,ty,pos,af,U (j,bb)⟩::rest) n env:=by
  injection e with e1 e2;exact wk_on e1 (by rw[e2,a]) h
theorem kOffF(a:b0=aw)(e:((ops[j]?).bind (·.dst),ev n env (.tmp dj),aw==bb)=(U dj,cM b0,aw))(h:WK P ops w Q1 rest n (gy env d gx)):WK P ops w Q1 (⟨d,op,ty,pos,af,U (j,bb)⟩::rest) n env:=by
  injection e with e1 e2;injection e2 with e2 e3;exact J7 e1 (by rw[e2,a]) e3 h
theorem kOffT(a:b0=bd)(e:((ops[j]?).bind (·.dst),ev n env (.tmp dj),bd==bb)=(U dj,cM b0,aw))(h:WK P ops w Q1 rest n (gy env d gx)):WK P ops w Q1 (⟨d,op,ty,pos,af,U (j,bb)⟩::rest) n env:=by
  injection e with e1 e2;injection e2 with e2 e3;exact J7 e1 (by rw[e2,a]) e3 h
theorem kpT(a:b0=bd)(e:(ev n env c,ev n env x)=(cM b0,v))(h:WK P ops w Q1 rest n (gy env d v)):WK P ops w Q1 (⟨d,.pick c x y,ty,pos,af,bh⟩::rest) n env:=by
 injection e with e1 e2;exact eQ (gP (b:=bd) (by rw[e1,a]) e2) h
theorem kpF(a:b0=aw)(e:(ev n env c,ev n env y)=(cM b0,v))(h:WK P ops w Q1 rest n (gy env d v)):WK P ops w Q1 (⟨d,.pick c x y,ty,pos,af,bh⟩::rest) n env:=by
 injection e with e1 e2;exact eQ (gP (b:=aw) (by rw[e1,a]) e2) h
end
structure Beh(q:Prop):Prop where
 g:q
theorem D{p q:Prop}(k:q)(z:Beh q->p:=by
 intro k;repeat first
  |refine ax ?_
  |(show WL _ _ _ (⟨_,.move _,_,_,_,none⟩::_) _ _ _;refine mV _ (by(conv=>lhs;whnf);first|done|fail) ?_)
  |(show WL _ _ _ (⟨_,.assign _,_,_,_,none⟩::_) _ _ _;refine aV _ (by(conv=>lhs;whnf);first|done|fail) ?_)
  |(show WL _ _ _ (⟨_,.fieldAddr _ _ _,_,_,_,none⟩::_) _ _ _;refine fadi Z ?_)
  |(show WL _ _ _ (⟨_,.load _ _,_,_,_,none⟩::_) _ _ _;first|refine lBi h rfl rfl ?_|refine lBNi h rfl rfl ?_|refine lP0i h rfl rfl ?_|refine lPN0i h rfl rfl ?_|refine lPi h rfl rfl ?_|refine lPNi h rfl rfl ?_)
  |(show WL _ _ _ (⟨_,.binOp _ _ _ _ _,_,_,_,none⟩::_) _ _ _;first
   |(show WL _ _ _ (⟨_,.binOp .eql _ _ _ _,_,_,_,none⟩::_) _ _ _;refine Cu Z ?_)
   |(show WL _ _ _ (⟨_,.binOp .neq _ _ _ _,_,_,_,none⟩::_) _ _ _;refine Zw Z ?_)
   |(show WL _ _ _ (⟨_,.binOp .lss _ _ _ _,_,_,_,none⟩::_) _ _ _;refine qlss Z ?_)
   |(show WL _ _ _ (⟨_,.binOp .gtr _ _ _ _,_,_,_,none⟩::_) _ _ _;refine aC (BZ Z Z) ?_)
   |(show WL _ _ _ (⟨_,.binOp .leq _ _ _ _,_,_,_,none⟩::_) _ _ _;refine aC (Hb Z Z) ?_)
   |(show WL _ _ _ (⟨_,.binOp .geq _ _ _ _,_,_,_,none⟩::_) _ _ _;refine aC (HY Z Z) ?_)
   |(show WL _ _ _ (⟨_,.binOp .add _ _ _ _,_,_,_,none⟩::_) _ _ _;first|refine qadd rfl (by assumption) ?_|refine aC (J8 rfl rfl (by assumption)) ?_)
   |(show WL _ _ _ (⟨_,.binOp .sub _ _ _ _,_,_,_,none⟩::_) _ _ _;refine aC (Lu Z Z (by assumption)) ?_))
  |(show WL _ _ _ (⟨_,.call _,_,_,_,none⟩::_) _ _ _;refine lenK (by(conv=>lhs;whnf);first|done|fail) ?_;first|refine lnS h rfl ?_|refine lnR h rfl ?_|refine lnO h rfl ?_)
  |(show WL _ _ _ (⟨_,.extract _ _,_,_,_,none⟩::_) _ _ _;refine LB Z ?_)
  |(show WL _ _ _ (⟨_,.pick _ _ _,_,_,_,none⟩::_) _ _ _;first|refine aC (Lx rfl rfl Kt) ?_|refine aC (nW rfl rfl Kt) ?_|refine Y2 (by assumption) rfl ?_|refine SO (by assumption) rfl ?_)
  |(show WL _ _ _ (⟨_,.unOp .not _ _,_,_,_,none⟩::_) _ _ _;refine aC (rD Z) ?_)
  |(show WL _ _ _ (⟨_,.nilCheck _,_,_,_,none⟩::_) _ _ _;refine aC (qz Z) ?_)
  |(show WL _ _ _ (⟨_,_,_,_,_,some _⟩::_) _ _ _;first
   |refine oN (by assumption) Z ?_|refine zt (by assumption) Z ?_|refine ofT (by assumption) Z ?_
   |refine NY Z (by(conv=>lhs;whnf);first|done|fail) ?_|refine ji (b':=false) rfl (by(conv=>lhs;whnf);first|done|fail) rfl ?_|refine ji (b':=true) rfl (by(conv=>lhs;whnf);first|done|fail) rfl ?_
   |(show WL _ _ _ (⟨_,.fieldAddr _ _ _,_,_,_,_⟩::_) _ _ _;refine g0Fi Z ?_)
   |(show WL _ _ _ (⟨_,.load _ _,_,_,_,_⟩::_) _ _ _;refine g0Bi h Z Z ?_)
   |(show WL _ _ _ (⟨_,.move _,_,_,_,_⟩::_) _ _ _;first|refine g0I rfl ?_|refine g0B' rfl ?_)
   |(show WL _ _ _ (⟨_,.call _,_,_,_,_⟩::_) _ _ _;first|refine g0LS h rfl rfl ?_|refine g0LR h rfl rfl ?_)
   |(show WL _ _ _ (⟨_,.unOp .not _ _,_,_,_,_⟩::_) _ _ _;refine cK Z Z (λq=>rD (iR q)) ?_)
   |(show WL _ _ _ (⟨_,.pick _ _ _,_,_,_,_⟩::_) _ _ _;first|refine cK rfl rfl (λq=>Lx (iR q) (gvn q) Kt) ?_|refine cK rfl rfl (λq=>nW (iR q) (gvn q) Kt) ?_)
   |(show WL _ _ _ (⟨_,.binOp .eql _ _ _ _,_,_,_,_⟩::_) _ _ _;first|refine cK rfl rfl (λq=>qD (iR q) rfl) ?_|refine cK rfl rfl (λq=>qD (iR q) (iR q)) ?_)
   |(show WL _ _ _ (⟨_,.binOp .neq _ _ _ _,_,_,_,_⟩::_) _ _ _;first|refine cK rfl rfl (λq=>NZ (iR q) rfl) ?_|refine cK rfl rfl (λq=>NZ (iR q) (iR q)) ?_)
   |(show WL _ _ _ (⟨_,.binOp .lss _ _ _ _,_,_,_,_⟩::_) _ _ _;first|refine cK rfl rfl (λq=>Ls (iR q) rfl) ?_|refine cK rfl rfl (λq=>Ls (iR q) (iR q)) ?_)
   |(show WL _ _ _ (⟨_,.binOp .gtr _ _ _ _,_,_,_,_⟩::_) _ _ _;first|refine cK rfl rfl (λq=>BZ (iR q) rfl) ?_|refine cK rfl rfl (λq=>BZ (iR q) (iR q)) ?_)
   |(show WL _ _ _ (⟨_,.binOp .geq _ _ _ _,_,_,_,_⟩::_) _ _ _;first|refine cK rfl rfl (λq=>HY (iR q) rfl) ?_|refine cK rfl rfl (λq=>HY (iR q) (iR q)) ?_))
  |(show WK _ _ _ _ _ _ _;first
   |(show WK _ _ _ _ (⟨_,_,_,_,_,none⟩::_) _ _;first
    |(show WK _ _ _ _ (⟨_,.move _,_,_,_,_⟩::_) _ _;refine kV (by(conv=>lhs;whnf);first|done|fail) ?_)
    |(show WK _ _ _ _ (⟨_,.assign _,_,_,_,_⟩::_) _ _;refine kA (by(conv=>lhs;whnf);first|done|fail) ?_)
    |(show WK _ _ _ _ (⟨_,.fieldAddr _ _ _,_,_,_,_⟩::_) _ _;refine kFi Z ?_)
    |(show WK _ _ _ _ (⟨_,.load _ _,_,_,_,_⟩::_) _ _;first|refine kBi h rfl rfl ?_|refine kP0i h rfl rfl ?_|refine kPi h rfl rfl ?_)
    |(show WK _ _ _ _ (⟨_,.nilCheck _,_,_,_,_⟩::_) _ _;refine eQ (qz Z) ?_)
    |(show WK _ _ _ _ (⟨_,.unOp .not _ _,_,_,_,_⟩::_) _ _;refine eQ (rD Z) ?_)
    |(show WK _ _ _ _ (⟨_,.binOp .eql _ _ _ _,_,_,_,_⟩::_) _ _;refine eQ (qD Z Z) ?_)
    |(show WK _ _ _ _ (⟨_,.binOp .neq _ _ _ _,_,_,_,_⟩::_) _ _;refine eQ (NZ Z Z) ?_)
    |(show WK _ _ _ _ (⟨_,.binOp .lss _ _ _ _,_,_,_,_⟩::_) _ _;refine eQ (Ls Z Z) ?_)
    |(show WK _ _ _ _ (⟨_,.binOp .gtr _ _ _ _,_,_,_,_⟩::_) _ _;refine eQ (BZ Z Z) ?_)
    |(show WK _ _ _ _ (⟨_,.binOp .leq _ _ _ _,_,_,_,_⟩::_) _ _;refine eQ (Hb Z Z) ?_)
    |(show WK _ _ _ _ (⟨_,.binOp .geq _ _ _ _,_,_,_,_⟩::_) _ _;refine eQ (HY Z Z) ?_)
    |(show WK _ _ _ _ (⟨_,.binOp .add _ _ _ _,_,_,_,_⟩::_) _ _;refine eQ (Lt Z Z (by assumption)) ?_)
    |(show WK _ _ _ _ (⟨_,.binOp .sub _ _ _ _,_,_,_,_⟩::_) _ _;refine eQ (Lu Z Z (by assumption)) ?_)
    |(show WK _ _ _ _ (⟨_,.pick _ _ _,_,_,_,_⟩::_) _ _;first|refine kpT (by assumption) rfl ?_|refine kpF (by assumption) rfl ?_))
   |refine kOn (by assumption) Z ?_|refine kOffF (by assumption) Z ?_|refine kOffT (by assumption) Z ?_
   |refine wk_end ?_)
  |refine gU ?_|refine gm ?_|refine di ?_|refine wc_ret ?_|refine iP ?_|refine Y7 ?_
  |refine bz ?_|refine fQ ?_|refine jo ?_|refine fV ?_|refine Vh ?_|refine jM ?_
 exact k.g):p:=z ⟨k⟩
open Go Go.RowKit Go.Proofs
section
variable{w I:ay}{M K:BS}{J:Nat->Chunk}{v:Q}{i:Nat}{α:Type}{R:uQ α}{E:bk}{l:H α}
theorem SH.oO(h:SH I M BE w J) [Bj J v i](e:J i=.own R E v l):dC R E w M v l/\∀b,ob v b->I.heap.size<=b:=h.kM i e
theorem SH.oR(h:SH I M BE w J) [Bj J v i](e:J i=.rd R v l):bY R w M v l:=h.kQ i e
end
section
variable{P:cc}{n:Nat}{env:Nat->Q}{w I:ay}{M K:BS}{J:Nat->Chunk}
theorem fnct{fn:Func}{R:sC->ay->Prop}{u a:Tmp}{T:bk}{v2:Q}{zs vs:H Q}{b i:Nat}(f:fn.results= #[.cell a T,.tmp u])(d:SH I M K w J)(c:ev n env (.tmp a)=.pointer (U ⟨b,0,bh⟩))(g:ev n env (.tmp u)=v2)
  [hT:zg P T zs] [Xb J b i] (e:(J i,O vs)=(Chunk.blk b vs,O zs)) (h:R (.returned (.tuple #[.agg (ar vs),v2])) w):ks P fn R .ret (C6 n env) w:=by
 injection e with e1 e2;exact fZ f c g d i e1 hT e2 h
end
theorem lf{p:Prop}(z:p:=by
 refine D ?_;first
  |refine gp Z (by(conv=>lhs;whnf);first|done|fail) ?_
  |refine fin2 Z (by(conv=>lhs;whnf);first|done|fail) (by(conv=>lhs;whnf);first|done|fail) ?_
  |refine fin3 Z (by(conv=>lhs;whnf);first|done|fail) (by(conv=>lhs;whnf);first|done|fail) (by(conv=>lhs;whnf);first|done|fail) ?_
  |refine fnct Z h Z (by(conv=>lhs;whnf);first|done|fail) rfl ?_
  |refine fin4 Z (by(conv=>lhs;whnf);first|done|fail) (by(conv=>lhs;whnf);first|done|fail) (by(conv=>lhs;whnf);first|done|fail) (by(conv=>lhs;whnf);first|done|fail) ?_
 first|rewrite [<-Option.some.inj W]|rewrite [<-W]
 first
  |exact Ye h
  |exact⟨h.grown,_,Z,dC.nil,lZ⟩
  |exact⟨h.grown,_,Z,h.oO Z⟩
  |exact⟨h.grown,_,_,Z,dN.nil,dN.nil⟩
  |exact⟨h.grown,_,_,Z,h.oR Z,h.oR Z⟩):p:=z
theorem sg{p q:Prop}(k:q)(z:Beh q->p:=by
 intro k;refine D ?_;obtain⟨_,W⟩:=dh W;first|refine qadd rfl (by assumption) ?_|refine aC (Lu rfl rfl (by assumption)) ?_|refine aC (J8 rfl rfl (by assumption)) ?_
 exact k.g W):p:=z ⟨k⟩
theorem lY{p q:Prop}(k:q)(z:Beh q->p:=by
 intro k;refine D ?_;first
  |(refine ek W Z (λ_ W=>lf) ?_;intro _ W;exact k.g W)
  |(refine ek W Z ?_ (λ_ W=>lf);intro _ W;exact k.g W)):p:=z ⟨k⟩
theorem sp1{p q:Prop}(k:q)(z:Beh q->p:=by
 intro k;refine D ?_;first
  |(refine ek W Z (λ_ W=>lf) ?_;intro c W;exact k.g c W)
  |(refine ek W Z ?_ (λ_ W=>lf);intro c W;exact k.g c W)):p:=z ⟨k⟩
section
variable{σ:Type}{n:Nat}{mod:Nat->Yi}{HD e:Nat->Q}{live:σ->H (Nat×Q)}{hp:σ->ay->Prop}{w:ay}{μ:σ->Nat}{s0:σ}
theorem ln(s:σ)(c:Dd e (live s))(d:hp s w)(a:μ s<μ s0)(b:Bg mod e HD):JL n mod HD live hp μ s0 (C6 n e) w:=⟨s,e,rfl,b,c,d,a⟩
end
theorem ag{p:Prop}(z:p:=by repeat (first|(with_reducible exact Bg.refl _ _)|(with_reducible exact Bg.Y1 _ _ _)|(with_reducible refine Bg.on ?_)|((with_reducible refine Bg.hin ?_ ?_);rfl)|(with_reducible refine Bg.un ?_)|((with_reducible refine Bg.os ?_ ?_);rfl)|((with_reducible refine Bg.uc ?_ ?_);rfl))):p:=z
theorem hl{p:Prop}(z:p:=by repeat (first|exact an|refine⟨rfl,?_⟩)):p:=z
theorem le{p:Prop}(z:p:=by
 refine D ?_;refine aM ?_;try subst hnx
 first
  |exact ln (_,_) hl ⟨h.cn _,by omega,W⟩ (by first|exact eaLt hik (by assumption)|exact upLt hik (by assumption)|(dsimp only;omega)) ag
  |exact ln (_,_,_) hl ⟨h.cn _,by omega,W⟩ (by first|exact eaLt hik (by assumption)|exact upLt hik (by assumption)|(dsimp only;omega)) ag
  |exact ln (_,_,_,_) hl ⟨h.cn _,by omega,W⟩ (by first|exact eaLt hik (by assumption)|exact upLt hik (by assumption)|(dsimp only;omega)) ag
  |exact ln (_,_,_,_,_) hl ⟨h.cn _,by omega,W⟩ (by first|exact eaLt hik (by assumption)|exact upLt hik (by assumption)|(dsimp only;omega)) ag
  |exact ln (_,_,_,_,_,_) hl ⟨h.cn _,by omega,W⟩ (by first|exact eaLt hik (by assumption)|exact upLt hik (by assumption)|(dsimp only;omega)) ag
  |exact ln (_,_,_,_,_,_,_) hl ⟨h.cn _,by omega,W⟩ (by first|exact eaLt hik (by assumption)|exact upLt hik (by assumption)|(dsimp only;omega)) ag):p:=z
open Go Go.RowKit Go.Proofs
structure JD(δ:Type)where
 lv:List (Nat×Q)
 pc:List (Nat×Chunk)
 d:δ
theorem wY{n:Nat}(h:n<=9223372036854775807):(n:Int)<=9223372036854775807:=by omega
def kp(J:Nat->Chunk):H Nat->H (Nat×Chunk)->H (Nat×Chunk)
 |[],r=>r
 |i::l,r=>(i,J i)::kp J l r
instance (priority:=600) {J:Nat->Chunk} {b:Nat} {i:Nat} {l:List Nat} {r:List (Nat×Chunk)} [Xb (C0 r) b i]:Xb (C0 (kp J l r)) b i:=⟨trivial⟩
instance (priority:=500) {J:Nat->Chunk} {b:Nat} {i:Nat} {l:List Nat} {r:List (Nat×Chunk)} [Xb J b i]:Xb (C0 (kp J l r)) b i:=⟨trivial⟩
instance (priority:=600) {J:Nat->Chunk} {b:Nat} {i:Nat} {l:List Nat} {r:List (Nat×Chunk)} [LC (C0 r) b i]:LC (C0 (kp J l r)) b i:=⟨trivial⟩
instance (priority:=500) {J:Nat->Chunk} {b:Nat} {i:Nat} {l:List Nat} {r:List (Nat×Chunk)} [LC J b i]:LC (C0 (kp J l r)) b i:=⟨trivial⟩
instance (priority:=600) {J:Nat->Chunk} {v:Q} {i:Nat} {l:List Nat} {r:List (Nat×Chunk)} [Bj (C0 r) v i]:Bj (C0 (kp J l r)) v i:=⟨trivial⟩
instance (priority:=500) {J:Nat->Chunk} {v:Q} {i:Nat} {l:List Nat} {r:List (Nat×Chunk)} [Bj J v i]:Bj (C0 (kp J l r)) v i:=⟨trivial⟩
section
variable{P:cc}{aq:fY->Act->ay->Prop}{n:Nat}{env:Nat->Q}{w I:ay}{M K:BS}{J:Nat->Chunk}{σ τ ρ α β:Type}
def JQ(n:Nat)(mod:Nat->Yi)(env:Nat->Q)(I:ay)(M K:BS)(J:Nat->Chunk)(l:H Nat)(F:σ->JD Prop):Act->ay->Prop:=λa' w'=>
 ∃s e,a'=C6 n e/\Bg mod e env/\match F s with|⟨lv,pc,d⟩=>Dd e lv/\SH I M K w' (C0 (kp J l pc))/\d
theorem dS{x y:Code}(h:SH I M K w J)(mod:Nat->Yi)(l:H Nat)(F:σ->JD Prop)
  (k:∀s w g,match F s with|⟨c,f,d⟩=>SH I M K w (C0 (kp J l f))->d->WC P y aq n (J6 (Y1 mod g env) c) w)
  (i:WC P x (Exit.then (JQ n mod env I M K J l F) aq) n env w):WC P (Code.seq x y) aq n env w:=by
 refine gU ⟨wp_mono i.out λj a w h=>?_⟩;cases j with
 |normal=>
  obtain⟨s,e,rfl,o,b⟩:=h;have:=k s w e;generalize F s=q at this b;obtain⟨c,f,d⟩:=q;obtain⟨b,W,m⟩:=b;have:=this W m;rw[hav_self o,GP _ b]at this;exact this.out
 |_=>exact h
theorem qn{mod:Nat->Yi}{e:Nat->Q}{l:H Nat}{F:σ->JD Prop}(s:σ)(a:Bg mod e env)(h:match F s with|⟨lv,pc,d⟩=>Dd e lv/\SH I M K w (C0 (kp J l pc))/\d):JQ n mod env I M K J l F (C6 n e) w:=⟨s,e,rfl,a,h⟩
def JR(n:Nat)(mod:Nat->Yi)(env:Nat->Q)(I:ay)(M K:BS)(J:Nat->Chunk)(l:H Nat)(F:σ->JD τ)(c:Nat)(i:Int)(al:τ->Prop):Act->ay->Prop:=λa' w'=>
 ∃s e,a'=C6 n e/\Bg mod e env/\e c=.int .i64 i/\match F s with|⟨lv,pc,d⟩=>Dd e lv/\SH I M K w' (C0 (kp J l pc))/\al d
theorem rn{mod:Nat->Yi}{e:Nat->Q}{l:H Nat}{F:σ->JD τ}{c:Nat}{i:Int}{al:τ->Prop}(s:σ)(b:Bg mod e env)(a:e c=.int .i64 i)(h:match F s with|⟨lv,pc,d⟩=>Dd e lv/\SH I M K w (C0 (kp J l pc))/\al d):JR n mod env I M K J l F c i al (C6 n e) w:=⟨s,e,rfl,b,a,h⟩
def rgOk(n:Nat)(mod:Nat->Yi)(c t t2:Nat):Yi:=mod c&&mod t&&mod t2&&mv c n&&mv t n&&mv t2 n&& !Nat.beq t c&& !Nat.beq t2 c&& !Nat.beq c t2
def lvOk(c t2:Nat):H (Nat×Q)->Yi
 |[]=>bd
 |(i,_)::r=> !Nat.beq i c&& !Nat.beq i t2&&lvOk c t2 r
theorem lv_keep{c t2:Nat}{u v:Q}{e:Nat->Q}:∀{l:H (Nat×Q)},lvOk c t2 l=bd->Dd e l->Dd (upd (upd e t2 u) c v) l
 |[],_,_=>trivial
 |(i,x)::r,h,hh=>by
  simp only[lvOk,cS,ef]at h;refine⟨?_,lv_keep h.2 hh.2⟩;simp only[upd,h.1.1,h.1.2,Z1];exact hh.1
abbrev rgC(id1 t:Nat)(T:bk)(c:Nat)(x:br)(T2 ty:bk)(pos:String)(af:Array hR)(b:Nat)(body:Code)(id2 t2:Nat)(T3:bk)(y:br)(T4 ty2:bk)(pos2:String)(af2:Array hR)(ty3:bk)(pos3:String)(af3:Array hR):Code:=Code.loop (Code.seq (Code.region id1 (ar [(⟨U t,.binOp .lss T (.tmp c) x T2,ty,pos,af,bh⟩:ec)]) aw) (Code.seq (Code.cond (.tmp t) .skip (.exit b)) (Code.seq body
 (Code.region id2 (ar [(⟨U t2,.binOp .add T3 (.tmp c) y T4,ty2,pos2,af2,bh⟩:ec),⟨U c,.move (.tmp t2),ty3,pos3,af3,bh⟩]) aw))))
variable{c t t2 b id1 id2:Nat}{x y:br}{ty ty2 ty3 T T2 T3 T4:bk}{pos pos2 pos3:String}{af af2 af3:Array hR}{body:Code}
section
variable{cnt:Int}
theorem wc_rg(F:σ->JD τ)(s0:σ)(mod:Nat->Yi)(l:H Nat)(h:SH I M K w J){al:Nat->τ->Prop}(W:al 0 (F s0).d)(a5:cnt<=9223372036854775807)(j:∀s (k:Nat) (i:Int) w g,i=(k:Int)->G (i<cnt)=bd->ky (i+1)->match F s with|⟨Ys,A,d⟩=>SH I M K w (C0 (kp J l A))->al k d->WC P body (Exit.then (JR n mod env I M K J l F c i (al (k+1))) aq) n (gy (J6 (Y1 mod g env) ((c,.int .i64 i)::Ys)) (U t) (.bool bd)) w)(o:∀s (k:Nat) (i:Int) w g,i=(k:Int)->G (i<cnt)=aw->match F s with|⟨Ys,A,d⟩=>SH I M K w (C0 (kp J l A))->al k d->aq (.exit b) (C6 n (gy (J6 (Y1 mod g env) ((c,.int .i64 i)::Ys)) (U t) (.bool aw))) w)(hl:Dd env ((c,.int .i64 0)::(F s0).lv))(a0:QZ J (kp J l (F s0).pc))(hx:∀s g (i:Int),ev n (J6 (Y1 mod g env) ((c,.int .i64 i)::(F s).lv)) x=.int .i64 cnt)(hy:∀e,ev n e y=.int .i64 1)(hm:rgOk n mod c t t2=bd)(hn:∀s,lvOk c t2 (F s).lv=bd):
    WC P (rgC id1 t T c x T2 ty pos af b body id2 t2 T3 y T4 ty2 pos2 af2 ty3 pos3 af3) aq n env w:=by
  simp only[rgOk,cS,ef]at hm;obtain⟨⟨⟨⟨⟨⟨⟨⟨mc,mt⟩,R⟩,cn⟩,tn⟩,a2⟩,a6⟩,a4⟩,a3⟩:=hm;have f:∀(e:Nat->Q) (q:Nat),mv q n=bd->ev n e (.tmp q)=e q:=λe q N=>by simp only[ev,N,ZW]
  have same:∀(e:Nat->Q) (q:Nat) (v:Q),gy e (U q) v q=v:=λe q v=>by simp[gy,upd,Nat.beq_refl]
  have u:∀(e:Nat->Q) (v:Q) (r:H (Nat×Q)),J6 e ((c,v)::r) c=v:=λe v r=>by simp[J6,upd,Nat.beq_refl]
  refine Iw (σ:=σ×Nat×Int) mod (λs=>(c,.int .i64 s.2.2)::(F s.1).lv) (λs w=>SH I M K w (C0<|kp J l (F s.1).pc)/\s.2.2=(s.2.1:Int)/\al s.2.1 (F s.1).d) (λs=>cnt.toNat-s.2.1) (s0,0,0) hl ⟨h.canon _ a0,Z,W⟩ ?_;rintro⟨s,k,i⟩wr g⟨h,hik,W⟩;refine gU<|gm<|aC (Ls (p:=i) (q:=cnt) ?_<|hx s g i)<|ax<|bz<|gU<|wT (t:=decide<|i<cnt) ?_ (λe=>?_) λe=>?_
  · rw[f _ _ cn];exact u _ _ _
  · rw[f _ _ tn];exact same _ _ _
  · have hi:ky (i+1):=⟨by have:=of_decide_eq_true e;simp only at hik;omega,by have:=of_decide_eq_true e;omega⟩;have w0:=j s k i wr g hik e hi;have a1:=hn;have X:cnt.toNat-(k+1)<cnt.toNat-k:=by have:=of_decide_eq_true e;simp only at hik;omega
    refine di<|bz<|gU ?_;simp only at h W;rw[e];generalize F s=q at w0 h W;obtain⟨Ys,A,d⟩:=q;refine⟨wp_mono (w0 h W).out λex a w' N=>?_⟩;cases ex with
    |normal=>
      obtain⟨E,e',rfl,hA,ab,m⟩:=N;have C:=a1 E;refine(gm<|aC (v:=.int .i64<|i+1) (Lt (p:=i) (q:=1) ?_ (hy _) hi)<|aC (v:=.int .i64<|i+1) (fG ?_)<|ax ?_).out
      · rw[f _ _ cn];exact ab
      · rw[f _ _ a2];exact same _ _ _
      · have S:Bg mod (gy (gy e' (U t2)<|.int .i64<|i+1) (U c)<|.int .i64<|i+1) env:=Bg.os mc<|Bg.os R hA;refine⟨(E,k+1,i+1),_,Z,S,⟨same _ _ _,?_⟩,⟨?_,?_,?_⟩,X⟩
        · simp only;generalize F E=q at m C;obtain⟨z,ry,d'⟩:=q;exact lv_keep C m.1
        · simp only;generalize F E=q at m;obtain⟨z,ry,d'⟩:=q;exact m.2.1
        · simp only at hik⊢;omega
        · simp only;generalize F E=q at m;obtain⟨z,ry,d'⟩:=q;exact m.2.2
    |_=>exact N
  · have w0:=o s k i wr g hik e;simp only at h W;rw[e];generalize F s=q at w0 h W;obtain⟨Ys,A,d⟩:=q;exact Y7<|w0 h W
variable{ry:H α}{KK:τ->ρ}{r:ρ}
theorem kW{Ys:α->τ->(τ->ρ)->ρ}(F:σ->JD τ)(s0:σ)(mod:Nat->Yi)(l:H Nat)(h:SH I M K w J)(W:vh Ys KK ry (F s0).d=r)(w0:O ry<=9223372036854775807)(f:∀s (k:Nat) (i:Int) z nx w a,i=(k:Int)->G (i<(O ry:Int))=bd->ky (i+1)->ry[k]? =U z->match F s with|⟨g,m,d⟩=>SH I M K w (C0 (kp J l m))->Ys z d nx=r->WC P body (Exit.then (JR n mod env I M K J l F c i (λd=>nx d=r)) aq) n (gy (J6 (Y1 mod a env) ((c,.int .i64 i)::g)) (U t) (.bool bd)) w)(j:∀s (i:Int) w a,match F s with|⟨g,m,d⟩=>SH I M K w (C0 (kp J l m))->KK d=r->aq (.exit b) (C6 n (gy (J6 (Y1 mod a env) ((c,.int .i64 i)::g)) (U t) (.bool aw))) w)(hl:Dd env ((c,.int .i64 0)::(F s0).lv):=by repeat (first|exact an|refine⟨rfl,?_⟩))(p:QZ J (kp J l (F s0).pc):=by repeat (first|exact an|refine⟨rfl,?_⟩))(A:∀s a (i:Int),ev n (J6 (Y1 mod a env) ((c,.int .i64 i)::(F s).lv)) x=.int .i64 (O ry:Int):=by intros;rfl)(v:∀e,ev n e y=.int .i64 1:=by intros;rfl)(u:rgOk n mod c t t2=true:=by rfl)(hn:∀s,lvOk c t2 (F s).lv=true:=by intros;rfl):
    WC P (rgC id1 t T c x T2 ty pos af b body id2 t2 T3 y T4 ty2 pos2 af2 ty3 pos3 af3) aq n env w:=by
  refine wc_rg F s0 mod l h (cnt:=(O ry:Int)) (al:=λk d=>vh Ys KK (ry.drop k) d=r) W V ?_ ?_ hl p A v u hn
  · intro s k i w a hik e hi;obtain⟨z,C,E⟩:=To<|hik▸e;have o:=f s k i z (vh Ys KK<|ry.drop<|k+1) w a hik e hi C;generalize F s=q at o;obtain⟨g,m,d⟩:=q;intro h W;rw[E,gq]at W;exact o h W
  · intro s k i w a hik e;have o:=j s i w a;generalize F s=q at o;obtain⟨g,m,d⟩:=q;intro h W;rw[T8 (hik▸e),lM]at W;exact o h W
theorem yI{Ys:Int->α->τ->(τ->ρ)->ρ}(F:σ->JD τ)(s0:σ)(mod:Nat->Yi)(l:H Nat)(h:SH I M K w J)(W:ib Ys KK 0 ry (F s0).d=r)(w0:O ry<=9223372036854775807)(f:∀s (k:Nat) (i:Int) z nx w a,i=(k:Int)->G (i<(O ry:Int))=bd->ky (i+1)->ry[k]? =U z->match F s with|⟨g,m,d⟩=>SH I M K w (C0 (kp J l m))->Ys i z d nx=r->WC P body (Exit.then (JR n mod env I M K J l F c i (λd=>nx d=r)) aq) n (gy (J6 (Y1 mod a env) ((c,.int .i64 i)::g)) (U t) (.bool bd)) w)(j:∀s (i:Int) w a,match F s with|⟨g,m,d⟩=>SH I M K w (C0 (kp J l m))->KK d=r->aq (.exit b) (C6 n (gy (J6 (Y1 mod a env) ((c,.int .i64 i)::g)) (U t) (.bool aw))) w)(hl:Dd env ((c,.int .i64 0)::(F s0).lv):=by repeat (first|exact an|refine⟨rfl,?_⟩))(p:QZ J (kp J l (F s0).pc):=by repeat (first|exact an|refine⟨rfl,?_⟩))(A:∀s a (i:Int),ev n (J6 (Y1 mod a env) ((c,.int .i64 i)::(F s).lv)) x=.int .i64 (O ry:Int):=by intros;rfl)(v:∀e,ev n e y=.int .i64 1:=by intros;rfl)(u:rgOk n mod c t t2=true:=by rfl)(hn:∀s,lvOk c t2 (F s).lv=true:=by intros;rfl):
    WC P (rgC id1 t T c x T2 ty pos af b body id2 t2 T3 y T4 ty2 pos2 af2 ty3 pos3 af3) aq n env w:=by
  refine wc_rg F s0 mod l h (cnt:=(O ry:Int)) (al:=λk d=>ib Ys KK (k:Int) (ry.drop k) d=r) W V ?_ ?_ hl p A v u hn
  · intro s k i w a hik e hi;obtain⟨z,C,E⟩:=To<|hik▸e;have o:=f s k i z (ib Ys KK (i+1)<|ry.drop<|k+1) w a hik e hi C;generalize F s=q at o;obtain⟨g,m,d⟩:=q;intro h W;subst hik;rw[E,AP]at W;exact o h W
  · intro s k i w a hik e;have o:=j s i w a;generalize F s=q at o;obtain⟨g,m,d⟩:=q;intro h W;rw[T8 (hik▸e),Vi]at W;exact o h W
theorem wZ{Ys:Int->τ->(τ->ρ)->ρ}(F:σ->JD τ)(s0:σ)(mod:Nat->Yi)(l:H Nat)(h:SH I M K w J)(W:zE Ys KK 0 cnt.toNat (F s0).d=r)(p:cnt<=9223372036854775807)(f:∀s (i:Int) nx w a,0<=i->G (i<cnt)=bd->ky (i+1)->match F s with|⟨m,j,d⟩=>SH I M K w (C0 (kp J l j))->Ys i d nx=r->WC P body (Exit.then (JR n mod env I M K J l F c i (λd=>nx d=r)) aq) n (gy (J6 (Y1 mod a env) ((c,.int .i64 i)::m)) (U t) (.bool bd)) w)(g:∀s (i:Int) w a,match F s with|⟨m,j,d⟩=>SH I M K w (C0 (kp J l j))->KK d=r->aq (.exit b) (C6 n (gy (J6 (Y1 mod a env) ((c,.int .i64 i)::m)) (U t) (.bool aw))) w)(hl:Dd env ((c,.int .i64 0)::(F s0).lv):=by repeat (first|exact an|refine⟨rfl,?_⟩))(u:QZ J (kp J l (F s0).pc):=by repeat (first|exact an|refine⟨rfl,?_⟩))(z:∀s a (i:Int),ev n (J6 (Y1 mod a env) ((c,.int .i64 i)::(F s).lv)) x=.int .i64 cnt:=by intros;rfl)(v:∀e,ev n e y=.int .i64 1:=by intros;rfl)(A:rgOk n mod c t t2=true:=by rfl)(hn:∀s,lvOk c t2 (F s).lv=true:=by intros;rfl):
    WC P (rgC id1 t T c x T2 ty pos af b body id2 t2 T3 y T4 ty2 pos2 af2 ty3 pos3 af3) aq n env w:=by
  refine wc_rg F s0 mod l h (cnt:=cnt) (al:=λk d=>zE Ys KK (k:Int) (cnt.toNat-k) d=r) W p ?_ ?_ hl u z v A hn
  · intro s k i w a hik e hi;have o:=f s i (zE Ys KK (i+1)<|cnt.toNat-(k+1)) w a V e hi;generalize F s=q at o;obtain⟨m,j,d⟩:=q;intro h W;subst hik;rw[upto_lt (by have:=of_decide_eq_true e;omega)]at W;exact o h W
  · intro s k i w a hik e;have o:=g s i w a;generalize F s=q at o;obtain⟨m,j,d⟩:=q;intro h W;rw[upto_ge (by have:=of_decide_eq_false e;omega)]at W;exact o h W
def JG(n:Nat)(mod:Nat->Yi)(env:Nat->Q)(I:ay)(M K:BS)(J:Nat->Chunk)(l:H Nat)(F:σ->JD τ)(al:τ->Prop):Act->ay->Prop:=λa' w'=>
 ∃s e,a'=C6 n e/\Bg mod e env/\match F s with|⟨lv,pc,d⟩=>Dd e lv/\SH I M K w' (C0 (kp J l pc))/\al d
variable{mod:Nat->Yi}{e:Nat->Q}{l:H Nat}{F:σ->JD τ}{al:τ->Prop}
theorem gn(s:σ)(a:Bg mod e env)(h:match F s with|⟨lv,pc,d⟩=>Dd e lv/\SH I M K w (C0 (kp J l pc))/\al d):JG n mod env I M K J l F al (C6 n e) w:=⟨s,e,rfl,a,h⟩
theorem F8{body:Code}{N:Nat}{Ys:τ->(τ->B β)->B β}{r:β}(F:σ->JD τ)(s0:σ)(mod:Nat->Yi)(l:H Nat)(h:SH I M K w J)(W:zy Ys N (F s0).d=U r)
    (b:∀s u w i,match F s with|⟨t,o,d⟩=>SH I M K w (C0 (kp J l o))->Ys d u=U r->WC P body (Exit.then (JG n mod env I M K J l F (λd=>u d=U r)) aq) n (J6 (Y1 mod i env) t) w)
    (hl:Dd env (F s0).lv:=by repeat (first|exact an|refine⟨rfl,?_⟩)) (j:QZ J (kp J l (F s0).pc):=by repeat (first|exact an|refine⟨rfl,?_⟩)):
    WC P (Code.loop body) aq n env w:=by
  refine Iw (σ:=σ×Nat) mod (λs=>(F s.1).lv) (λs w=>SH I M K w (C0<|kp J l (F s.1).pc)/\zy Ys s.2 (F s.1).d=U r) (λs=>s.2) (s0,N) hl ⟨h.canon _ j,W⟩ ?_;rintro⟨s,k⟩A i⟨h,W⟩;obtain⟨m,rfl,W⟩:=again_pos W;have v:=b s (zy Ys m) A i;simp only at h W;generalize F s=q at v h W;obtain⟨t,o,d⟩:=q;refine⟨wp_mono (v h W).out λx a w' p=>?_⟩;cases x with
  |normal=>
    obtain⟨g,y,rfl,z,c⟩:=p;refine⟨(g,m),y,Z,z,?_,⟨?_,?_⟩,Nat.lt_succ_self m⟩
    · simp only;generalize F g=q at c;obtain⟨e,f,d'⟩:=q;exact c.1
    · simp only;generalize F g=q at c;obtain⟨e,f,d'⟩:=q;exact c.2.1
    · simp only;generalize F g=q at c;obtain⟨e,f,d'⟩:=q;exact c.2.2
  |_=>exact p
theorem iB{F:σ->JD Prop}(s:σ)(h:match F s with|⟨_,a,d⟩=>SH I M K w (C0 (kp J l a))/\d)(c:match F s with|⟨b,_,_⟩=>Dd e b:=by repeat (first|exact an|refine⟨rfl,?_⟩))(f:Bg mod e env:=by repeat (first|(with_reducible exact Bg.refl _ _)|(with_reducible exact Bg.Y1 _ _ _)|(with_reducible refine Bg.on ?_)|((with_reducible refine Bg.hin ?_ ?_);rfl)|(with_reducible refine Bg.un ?_)|((with_reducible refine Bg.os ?_ ?_);rfl)|((with_reducible refine Bg.uc ?_ ?_);rfl))):JQ n mod env I M K J l F (C6 n e) w:=by
 refine qn s f ?_;generalize F s=q at h c;obtain⟨b,a,d⟩:=q;exact⟨c,h.1,h.2⟩
theorem rend{c:Nat}{i:Int}(s:σ)(h:match F s with|⟨_,f,d⟩=>SH I M K w (C0 (kp J l f))/\al d)(b:match F s with|⟨a,_,_⟩=>Dd e a:=by repeat (first|exact an|refine⟨rfl,?_⟩))(j:Bg mod e env:=by repeat (first|(with_reducible exact Bg.refl _ _)|(with_reducible exact Bg.Y1 _ _ _)|(with_reducible refine Bg.on ?_)|((with_reducible refine Bg.hin ?_ ?_);rfl)|(with_reducible refine Bg.un ?_)|((with_reducible refine Bg.os ?_ ?_);rfl)|((with_reducible refine Bg.uc ?_ ?_);rfl)))(g:e c=.int .i64 i:=by rfl):JR n mod env I M K J l F c i al (C6 n e) w:=by
 refine rn s j g ?_;generalize F s=q at h b;obtain⟨a,f,d⟩:=q;exact⟨b,h.1,h.2⟩
theorem gend(s:σ)(h:match F s with|⟨_,c,d⟩=>SH I M K w (C0 (kp J l c))/\al d)(b:match F s with|⟨a,_,_⟩=>Dd e a:=by repeat (first|exact an|refine⟨rfl,?_⟩))(f:Bg mod e env:=by repeat (first|(with_reducible exact Bg.refl _ _)|(with_reducible exact Bg.Y1 _ _ _)|(with_reducible refine Bg.on ?_)|((with_reducible refine Bg.hin ?_ ?_);rfl)|(with_reducible refine Bg.un ?_)|((with_reducible refine Bg.os ?_ ?_);rfl)|((with_reducible refine Bg.uc ?_ ?_);rfl))):JG n mod env I M K J l F al (C6 n e) w:=by
 refine gn s f ?_;generalize F s=q at h b;obtain⟨a,c,d⟩:=q;exact⟨b,h.1,h.2⟩
end
end
theorem qe{p:Prop}(z:p:=by
 refine D ?_;refine aM ?_;first
  |exact qn () ag ⟨hl,h.cn _,W⟩
  |exact qn _ ag ⟨hl,h.cn _,W⟩
  |exact qn (_,_) ag ⟨hl,h.cn _,W⟩
  |exact qn (_,_,_) ag ⟨hl,h.cn _,W⟩
  |exact qn (_,_,_,_) ag ⟨hl,h.cn _,W⟩
  |exact qn (_,_,_,_,_) ag ⟨hl,h.cn _,W⟩
  |exact qn (_,_,_,_,_,_) ag ⟨hl,h.cn _,W⟩
  |exact qn (_,_,_,_,_,_,_) ag ⟨hl,h.cn _,W⟩
  |exact qn (_,_,_,_,_,_,_,_) ag ⟨hl,h.cn _,W⟩):p:=z
theorem re{p:Prop}(z:p:=by
 refine D ?_;refine aM ?_;first
  |exact rn () ag Z ⟨hl,h.cn _,W⟩
  |exact rn _ ag Z ⟨hl,h.cn _,W⟩
  |exact rn (_,_) ag Z ⟨hl,h.cn _,W⟩
  |exact rn (_,_,_) ag Z ⟨hl,h.cn _,W⟩
  |exact rn (_,_,_,_) ag Z ⟨hl,h.cn _,W⟩
  |exact rn (_,_,_,_,_) ag Z ⟨hl,h.cn _,W⟩
  |exact rn (_,_,_,_,_,_) ag Z ⟨hl,h.cn _,W⟩
  |exact rn (_,_,_,_,_,_,_) ag Z ⟨hl,h.cn _,W⟩
  |exact rn (_,_,_,_,_,_,_,_) ag Z ⟨hl,h.cn _,W⟩):p:=z
theorem ge{p:Prop}(z:p:=by
 refine D ?_;refine aM ?_;first
  |exact gn () ag ⟨hl,h.cn _,W⟩
  |exact gn _ ag ⟨hl,h.cn _,W⟩
  |exact gn (_,_) ag ⟨hl,h.cn _,W⟩
  |exact gn (_,_,_) ag ⟨hl,h.cn _,W⟩
  |exact gn (_,_,_,_) ag ⟨hl,h.cn _,W⟩
  |exact gn (_,_,_,_,_) ag ⟨hl,h.cn _,W⟩
  |exact gn (_,_,_,_,_,_) ag ⟨hl,h.cn _,W⟩
  |exact gn (_,_,_,_,_,_,_) ag ⟨hl,h.cn _,W⟩
  |exact gn (_,_,_,_,_,_,_,_) ag ⟨hl,h.cn _,W⟩):p:=z
open Go Go.RowKit Go.Proofs
section
variable{P:cc}{ops:Array ec}{ry:BS}{aq:fY->Act->ay->Prop}{fuel:Nat}{listed:Array Yi}{n:Nat}{env:Nat->Q}{w ws I:ay}{M K:BS}{J:Nat->Chunk}{d:B Nat}{ty:bk}{pos:String}{af:Array hR}{x y:br}{v:Q}{T:bk}
theorem kS(i:Nat)(a:bF ry ws w){q:Nat}{vs:H Q}(e:(ops[i]?,ev n env x,vs[q]?)=(U ⟨d,.extract x q,ty,pos,af,bh⟩,Value.tuple (ar vs),U v))(h:Po P ops ry ws aq fuel (listed.setIfInBounds i bd) n (gy env d v) w)(b:(eg ops&&(fm .any ops listed i&&(dy .any ops listed).contains i))=true:=by kernel_rfl):Po P ops ry ws aq (fuel+1) listed n env w:=by
 injection e with e1 e2;injection e2 with e2 e3;exact aY i a e1 (λ_ _=>ON e2 e3) h b
theorem rG(i:Nat)(a:bF ry ws w){k:Int}{p:Q}(hi:T1 P T v k p)(e:(ops[i]?,ev n env x,ev n env y)=(U ⟨d,.indexAddr T x y,ty,pos,af,bh⟩,v,dd .i64 k))(h:Po P ops ry ws aq fuel (listed.setIfInBounds i bd) n (gy env d p) w)(b:(eg ops&&(fm .any ops listed i&&(dy .any ops listed).contains i))=true:=by kernel_rfl):Po P ops ry ws aq (fuel+1) listed n env w:=by
 injection e with e1 e2;injection e2 with e2 e3;exact aY i a e1 (λ_ _=>hi _ _ _ _ _ _ _ _ _ e2 e3) h b
theorem rf(i:Nat)(b:bF ry ws w){a:Addr}(e:(ops[i]?,ev n env x)=(U ⟨d,.nilCheck x,ty,pos,af,bh⟩,eW (U a)))(h:Po P ops ry ws aq fuel (listed.setIfInBounds i bd) n (gy env d (.pointer (U a))) w)(c:(eg ops&&(fm .any ops listed i&&(dy .any ops listed).contains i))=true:=by kernel_rfl):Po P ops ry ws aq (fuel+1) listed n env w:=by
 injection e with e1 e2;exact aY i b e1 (λ_ _=>qz e2) h c
theorem mU(i:Nat)(h:SH I M K w J)(j s:Nat){z:Q}{b o:Nat}{cs:H Q}(c:One P T z)(e:(ops[i]?,(J j).own',df J j .no s,ev n env x,cs[o]?)=(U ⟨d,.load T x,ty,pos,af,bh⟩,ry,Chunk.blk b cs,eW (U ⟨b,o,bh⟩),U v))(a:Po P ops ry w aq fuel (listed.setIfInBounds i bd) n (gy env d v) w)(f:(eg ops&&(fm .any ops listed i&&(dy .any ops listed).contains i))=true:=by kernel_rfl):Po P ops ry w aq (fuel+1) listed n env w:=by
 injection e with e1 e2;injection e2 with e2 e3;injection e3 with e3 e4;injection e4 with e4 e5;subst e2;exact aY i (bF.refl _ _) e1 (λ_ a=>jA (h.Ww j Z a) s e3 c e4 e5) a f
theorem zu(i:Nat)(h:SH I M K w J)(s:Nat){z:Q}{b o:Nat}{cs:H Q}(c:One P T z)(e:(ops[i]?,J s,ev n env x,cs[o]?)=(U ⟨d,.load T x,ty,pos,af,bh⟩,Chunk.blk b cs,eW (U ⟨b,o,bh⟩),U v))(a:Po P ops BE w aq fuel (listed.setIfInBounds i bd) n (gy env d v) w)(f:(eg ops&&(fm .any ops listed i&&(dy .any ops listed).contains i))=true:=by kernel_rfl):Po P ops BE w aq (fuel+1) listed n env w:=by
 injection e with e1 e2;injection e2 with e2 e3;injection e3 with e3 e4;exact aY i (bF.refl _ _) e1 (λ_ a=>jA (h.grow a) s e2 c e3 e4) a f
theorem Kb(i:Nat)(h:SH I M K w J)(s:Nat){zs vs:H Q}{b o:Nat}{cs:H Q}(c:zg P T zs)(e:(ops[i]?,J s,ev n env x,(cs.drop o).take (O zs),O vs)=(U ⟨d,.load T x,ty,pos,af,bh⟩,Chunk.blk b cs,eW (U ⟨b,o,bh⟩),vs,O zs))(a:Po P ops BE w aq fuel (listed.setIfInBounds i bd) n (gy env d (.agg (ar vs))) w)(f:(eg ops&&(fm .any ops listed i&&(dy .any ops listed).contains i))=true:=by kernel_rfl):Po P ops BE w aq (fuel+1) listed n env w:=by
 injection e with e1 e2;injection e2 with e2 e3;injection e3 with e3 e4;injection e4 with e4 e5;exact aY i (bF.refl _ _) e1 (λ_ a=>vE (h.grow a) s e2 c e3 e4 e5) a f
end
section
variable{P:cc}{w I:ay}{M K:BS}{J:Nat->Chunk}{v:Q}{α:Type}{R:uQ α}{E T:bk}{sz:Nat}{l:H α}{k:Int}{a:α}
theorem SH.zR(h:SH I M K w J)(i j:Nat)(d:SliceOf P T E sz)(e:(J i,R.sz)=(Chunk.rd R v l,sz))(c:vj l k=U a):
 ∃b o cs,SH I M K w (df J j (.pt b o cs))/\R.rd w (SH.A M J) cs a/\T1 P T v k (.pointer (U ⟨b,o,bh⟩)):=by injection e with e1 e2;exact h.ixR i j e1 d e2 (aN c).1 (aN c).2
theorem SH.zS(h:SH I M K w J)(i j:Nat)(d:SliceOf P T E sz)(e:(J i,R.sz)=(Chunk.sr R v l,sz))(c:vj l k=U a):
 ∃b o cs,SH I M K w (df J j (.pt b o cs))/\R.rd w (SH.A M J) cs a/\T1 P T v k (.pointer (U ⟨b,o,bh⟩)):=by injection e with e1 e2;exact h.ixS i j e1 d e2 (aN c).1 (aN c).2
theorem SH.zO(h:SH I M K w J)(i:Nat)(d:SliceOf P T E sz)(e:(J i,R.sz)=(Chunk.own R E v l,sz))(c:vj l k=U a):
 ∃b,ob v b/\T1 P T v k (.pointer (U ⟨b,k.toNat*sz,bh⟩)):=by injection e with e1 e2;exact h.Td i e1 d e2 (aN c).1 (aN c).2
theorem fe{i:Nat}(hi:k=(i:Int))(h:l[i]? =U a):vj l k=U a:=by subst hi;rw[show vj l (i:Int)=l[i]? by simp[vj]];exact h
end
section
variable{P:cc}{ops:Array ec}{w:ay}{Q1:Act->Prop}{rest:H ec}{n:Nat}{env:Nat->Q}{d:B Nat}{ty:bk}{pos:String}{af:Array hR}{x y:br}{T:bk}{v:Q}
theorem Cv{k:Int}{p:Q}(i:T1 P T v k p)(e:(ev n env x,ev n env y)=(v,dd .i64 k))(h:WK P ops w Q1 rest n (gy env d p)):WK P ops w Q1 (⟨d,.indexAddr T x y,ty,pos,af,bh⟩::rest) n env:=by
 injection e with e1 e2;exact eQ (i _ _ _ _ _ _ _ _ _ e1 e2) h
end
section
variable{P:cc}{ops:Array ec}{aq:fY->Act->ay->Prop}{n:Nat}{env:Nat->Q}{w I:ay}{rest:H ec}{d:B Nat}{ty:bk}{pos:String}{af:Array hR}{T E:bk}{M K:BS}{J:Nat->Chunk}
theorem VI{w:ay}{A:BS}:∀xs:H Int,N9 dR w A (xs.map (dd .i64)) xs
 |[]=>trivial
 |x::xs=>⟨rfl,VI xs⟩
theorem FP{bytes:Nat}{parts:Array (Nat×br)}{len:Nat}(xs:H Int)(h:SH I M K w J)(i:Nat)(a:lT P T E 1 bytes)(e:((parts.toList.map λp=>(p.1,ev n env p.2)),O (xs.map (dd .i64)),lr (len*1) 16777216)=((xs.map (dd .i64)).zipIdx.map (λp=>(p.2,p.1)),len,bd))
  (k:∀w' u,SH I M K w' (df J i (.own dR E u xs))->WL P ops aq rest n (gy env d u) w'):WL P ops aq (⟨d,.buildSlice T len parts,ty,pos,af,bh⟩::rest) n env w:=by
 injection e with e1 e2;injection e2 with e2 e3;exact uy h i a Z e1 e2 (VI xs) e3 k
theorem w_bIG{bytes:Nat}{parts:Array (Nat×br)}{len:Nat}(xs:H Int)(h:SH I M K w J)(i:Nat)(a:lT P T E 1 bytes)(e:((parts.toList.map λp=>(p.1,ev n env p.2)),O (xs.map (dd .i64)),lr (len*1) 16777216)=((xs.map (dd .i64)).zipIdx.map (λp=>(p.2,p.1)),len,bd))
  (k:∀w' u,SH I M K w' (df J i (.own dR E u xs))->Grow w w'->(∀b,ob u b->w.heap.size<=b)->WL P ops aq rest n (gy env d u) w'):WL P ops aq (⟨d,.buildSlice T len parts,ty,pos,af,bh⟩::rest) n env w:=by
 injection e with e1 e2;injection e2 with e2 e3;exact oM h i a Z e1 e2 (VI xs) e3 k
end
section
variable{w I:ay}{M K:BS}{J:Nat->Chunk}{v:Q}{i:Nat}{α:Type}{R:uQ α}{E:bk}{l:H α}
theorem SH.oneR(h:SH I M K w J) [Bj J v i](e:J i=.rd R v l):v.oneCell'=true:=(h.dU i e).one
theorem SH.oneS(h:SH I M K w J) [Bj J v i](e:J i=.sr R v l):v.oneCell'=true:=(h.srAt i e).one
theorem SH.oneO(h:SH I M K w J) [Bj J v i](e:J i=.own R E v l):v.oneCell'=true:=(h.bZ i e).one
end
theorem ow{p:Prop}(z:p:=by repeat (first|exact dV|refine ones_cons (by first|rfl|((conv=>lhs;arg 1;whnf);first|rfl|exact h.oneR rfl|exact h.oneS rfl|exact h.oneO rfl)) ?_)):p:=z
theorem iF{p:Prop}{α:Type}{E Zs q:α->Prop}(k:∀y,E y->Zs y->q y)(z:(∀y,E y->Zs y->q y)->p:=by
 intro k;refine D ?_;obtain⟨y,e,W⟩:=aO W;exact k y e W):p:=z k
theorem iw{p b H1 c a d e:Prop}(k1:b->H1->c)(k2:a->d->e)(z:(b->H1->c)->(a->d->e)->p:=by
 intro k1 k2;refine D ?_;exact ek W Z k1 k2):p:=z k1 k2
open Go Go.RowKit Go.Proofs
@[reducible] def RT (e:sC) (K:Q->Prop):Prop:=match e with| .returned v=>K v|_=>False
section
variable{P:cc}{ops:Array ec}{aq:fY->Act->ay->Prop}{n:Nat}{env:Nat->Q}{w I ws:ay}{rest:H ec}{d:B Nat}{ty:bk}{pos:String}{af:Array hR}{x:br}{M K ry:BS}{J:Nat->Chunk}{fuel:Nat}{listed:Array Yi}{f:mT}{first captured:Array Q}{xs:Array br}{ts:Array bk}{args:H Q}
theorem ic{R:sC->ay->Prop}(g:V3 P f)(b:ev n env x=.func (.func f) first captured)
  (c:first.toList++xs.toList.map (ev n env)++captured.toList=args) (a:bp P f (ar args) w R)
  (h:∀e w',R e w'->RT e λv=>WL P ops aq rest n (gy env d v) w'):
  WL P ops aq (⟨d,.call {callee:=.value x,args:=xs,argTypes:=ts},ty,pos,af,bh⟩::rest) n env w:=
 OC g b c a (λe w' i=>by
  have:=h e w' i;cases e with
  |returned v=>exact⟨v,rfl,this⟩
  |_=>exact this.elim)
section
variable{α:Type}{R:uQ α}{E:bk}{l:H α}{F:Q->Q}
theorem ku(a:bF ry ws w)(h:SH I M K w J)(i:Nat)(p:V3 P f)(m:ev n env x=.func (.func f) first captured)
  (o:first.toList++xs.toList.map (ev n env)++captured.toList=args) (j:bp P f (ar args) w (λe w'=>Grow w w'/\∃u,e=.returned (F u)/\dC R E w' (SH.A M J) u l/\(∀b,ob u b->w.heap.size<=b)))
  (k:∀w' u,(∀b,ob u b->ws.heap.size<=b)->bF ry ws w'->SH I M K w' (df J i (.own R E u l))->Po P ops ry ws aq fuel listed n (gy env d (F u)) w'):
  WL P ops (WX P ops ry ws aq fuel listed) [⟨d,.call {callee:=.value x,args:=xs,argTypes:=ts},ty,pos,af,bh⟩] n env w:=
 nZ h i p m o j (λw' u g q c=>ax (ah (a.grow g) (k w' u (mo a q) (a.grow g) c)))
end
end
theorem uB{p q:Nat->Prop}{a b:Nat}(f:∀x,p x->x<b->q x)(h:a<=b):∀x,p x->x<a->q x:=λx c hl=>f x c (er hl h)
theorem ob_sub2{p q r:Nat->Prop}{a b:Nat}(g:∀x,q x->x<a->r x)(f:∀x,p x->x<b->q x)(h:a<=b):∀x,p x->x<a->r x:=λx c hl=>g x (f x c (er hl h)) hl
section
variable{w I:ay}{M K:BS}{J:Nat->Chunk}{v:Q}{i j:Nat}{α:Type}{R:uQ α}{l:H α}{C:Chunk}
theorem SH.oC(h:SH I M K w J) [Bj J v j](a:J j=.rd R v l)(hi:J i=C):bY R w (λb=>M b\/C.own' b) v l:=h.outRdC i j a hi
end
theorem rz{p:Prop}(z:p:=by first|exact dN.nil|exact h.oC (i:=1) Z Z):p:=z
theorem ls{p:Prop}(z:p:=by
 first
  |refine gp Z (by(conv=>lhs;whnf);first|done|fail) ?_
  |refine fin2 Z (by(conv=>lhs;whnf);first|done|fail) (by(conv=>lhs;whnf);first|done|fail) ?_
  |refine fin3 Z (by(conv=>lhs;whnf);first|done|fail) (by(conv=>lhs;whnf);first|done|fail) (by(conv=>lhs;whnf);first|done|fail) ?_
  |refine fnct Z h Z (by(conv=>lhs;whnf);first|done|fail) rfl ?_
  |refine fin0 Z ?_
  |refine Pn Z ?_
 first|rewrite [<-Option.some.inj W]|rewrite [<-W]
 subst hK0;obtain⟨o1,o2,a⟩:=h.outSi 1 (by repeat (first|exact an|refine⟨?_,an⟩));refine⟨o2,?_⟩;repeat apply Exists.intro
 first
  |exact⟨Z,o1,a⟩
  |exact⟨Z,o1,a,rz⟩
  |exact⟨Z,o1,a,rz,rz⟩
  |exact⟨Z,o1,a,rz,rz,rz⟩
  |exact⟨Z,o1,a,rz,rz,rz,rz⟩):p:=z
end Go.LX
namespace Go.Proofs
open Go.Shelf
def Tryz.lays145_ren:Go.Shelf.Ren:=⟨fun|145=>189|220=>242|219=>263|217=>288|225=>289|224=>290|267=>291|266=>304|314=>305|n=>n,fun|9=>9|4=>4|59=>253|3=>3|5=>5|46=>249|146=>376|51=>294|n=>n,fun|1=>4|n=>n⟩
theorem Tryz.lays145:Go.Proofs.Lays.n145 cw Tryz.lays145_ren:={
 mixed:=L
 f145:=Tryz.func189.trans (ZS U L)
 f217:=Tryz.func288.trans (ZS U L)
 f219:=Tryz.func263.trans (ZS U L)
 f220:=Tryz.func242.trans (ZS U L)
 f224:=Tryz.func290.trans (ZS U L)
 f225:=Tryz.func289.trans (ZS U L)
 f266:=Tryz.func304.trans (ZS U L)
 f267:=Tryz.func291.trans (ZS U L)
 f314:=Tryz.func305.trans (ZS U L)
 t3:=et
 a3:=gH
 z3:=fL
 v3:=ez
 t4:=ew
 a4:=gR
 z4:=fN
 v4:=eA
 t5:=eL
 a5:=hY
 z5:=gS
 v5:=ff
 t9:=ej
 a9:=hB
 z9:=fR
 v9:=eC
 t46:=eI
 a46:=hF
 z46:=gh
 v46:=fa
 t51:=eJ
 a51:=hH
 z51:=gi
 v51:=fb
 t59:=Tryz.underlying253
 a59:=Tryz.isAgg253
 z59:=Tryz.sizeOf253
 v59:=Tryz.zeroValue253
 t146:=rI
 a146:=tP
 z146:=tl
 v146:=sl
 g1:=by kernel_rfl}
open Go.RowKit Go.Lib in
theorem Tryz.strings_Cut(s sep:ByteArray)(m:Int)(w:ay)(W:s.size<4294967281)(a:w.cell? ⟨4,0,bh⟩=U (.int .i64 m)):
 bp cw 189 #[.string s,.string sep] w λe w'=>e=.returned (.tuple #[.string ⟨ar (sf s.data.toList sep.data.toList).1⟩,.string ⟨ar (sf s.data.toList sep.data.toList).2.1⟩,.bool (sf s.data.toList sep.data.toList).2.2])/\∃n,w'=w.drewN n:=Any.strings_Cut Tryz.lays145 s sep m w W a
def Tryz.lays146_ren:Go.Shelf.Ren:=⟨fun|146=>161|221=>195|268=>245|138=>246|143=>226|195=>273|197=>274|218=>275|219=>263|260=>300|217=>288|225=>289|224=>290|267=>291|266=>304|314=>305|n=>n,fun|9=>9|31=>187|3=>3|4=>4|0=>0|105=>333|21=>21|5=>5|46=>249|119=>271|139=>383|138=>382|146=>376|51=>294|n=>n,fun|1=>4|3=>6|4=>7|n=>n⟩
theorem Tryz.lays146:Go.Proofs.Lays.n146 cw Tryz.lays146_ren:={
 mixed:=L
 f138:=Tryz.func246.trans (ZS U L)
 f143:=Tryz.func226.trans (ZS U L)
 f146:=Tryz.func161.trans (ZS U L)
 f195:=Tryz.func273.trans (ZS U L)
 f197:=Tryz.func274.trans (ZS U L)
 f217:=Tryz.func288.trans (ZS U L)
 f218:=Tryz.func275.trans (ZS U L)
 f219:=Tryz.func263.trans (ZS U L)
 f221:=Tryz.func195.trans (ZS U L)
 f224:=Tryz.func290.trans (ZS U L)
 f225:=Tryz.func289.trans (ZS U L)
 f260:=Tryz.func300.trans (ZS U L)
 f266:=Tryz.func304.trans (ZS U L)
 f267:=Tryz.func291.trans (ZS U L)
 f268:=Tryz.func245.trans (ZS U L)
 f314:=Tryz.func305.trans (ZS U L)
 t0:=fk
 a0:=iS
 z0:=hZ
 v0:=fv
 t3:=et
 a3:=gH
 z3:=fL
 v3:=ez
 t4:=ew
 a4:=gR
 z4:=fN
 v4:=eA
 t5:=eL
 a5:=hY
 z5:=gS
 v5:=ff
 t9:=ej
 a9:=hB
 z9:=fR
 v9:=eC
 t21:=la
 a21:=pe
 z21:=oq
 v21:=lE
 t31:=nb
 a31:=rb
 z31:=pH
 v31:=nQ
 t46:=eI
 a46:=hF
 z46:=gh
 v46:=fa
 t51:=eJ
 a51:=hH
 z51:=gi
 v51:=fb
 t105:=wx
 a105:=CA
 z105:=By
 v105:=yf
 t119:=rK
 a119:=tR
 z119:=tm
 t138:=wA
 a138:=CC
 z138:=BD
 v138:=yg
 t139:=xa
 a139:=CD
 z139:=BT
 v139:=yh
 t146:=rI
 a146:=tP
 z146:=tl
 v146:=sl
 g1:=L
 g3:=L
 g4:=by kernel_rfl}
open Go.RowKit Go.Lib in
theorem Tryz.strings_Split(s sep:ByteArray)(m:Int)(w:ay)(W:s.size<4294967281)(a:w.cell? ⟨4,0,bh⟩=U (.int .i64 m))(b:1<=sep.size):
 bp cw 161 #[.string s,.string sep] w λe w'=>
  e=.returned (.slice (U ⟨w.heap.size,0,bh⟩) (ei s sep+1) (ei s sep+1))/\w'=w.alloc (.cells (ar ((kC sep 0 (ei s sep) s).map pb)) 9):=Any.strings_Split Tryz.lays146 L s sep m w W a b
def Tryz.laysC172_ren:Go.Shelf.Ren:=⟨fun|172=>162|244=>210|245=>211|247=>252|279=>253|280=>254|281=>255|282=>256|287=>282|316=>283|171=>187|205=>284|321=>302|322=>303|243=>238|246=>269|283=>293|284=>294|285=>295|286=>296|129=>236|317=>306|318=>307|319=>308|320=>309|337=>310|338=>311|n=>n,fun|9=>9|3=>3|75=>225|76=>226|4=>4|5=>5|167=>313|37=>36|0=>0|85=>305|2=>2|168=>314|53=>296|175=>340|46=>249|210=>344|127=>331|145=>373|143=>371|21=>21|171=>361|173=>363|212=>379|51=>294|20=>20|213=>380|232=>384|233=>385|80=>228|n=>n,fun|15=>2|16=>3|17=>5|18=>8|19=>9|n=>n⟩
theorem Tryz.laysC172:Go.Proofs.LaysC.n172 cw Tryz.laysC172_ren:={
 mixed:=L
 f129:=Tryz.func236.trans (ZS U L)
 f171:=Tryz.func187.trans (ZS U L)
 f172:=Tryz.func162.trans (ZS U L)
 f205:=Tryz.func284.trans (ZS U L)
 f243:=Tryz.func238.trans (ZS U L)
 f244:=Tryz.func210.trans (ZS U L)
 f245:=Tryz.func211.trans (ZS U L)
 f246:=Tryz.func269.trans (ZS U L)
 f247:=Tryz.func252.trans (ZS U L)
 f279:=Tryz.func253.trans (ZS U L)
 f280:=Tryz.func254.trans (ZS U L)
 f281:=Tryz.func255.trans (ZS U L)
 f282:=Tryz.func256.trans (ZS U L)
 f283:=Tryz.func293.trans (ZS U L)
 f284:=Tryz.func294.trans (ZS U L)
 f285:=Tryz.func295.trans (ZS U L)
 f286:=Tryz.func296.trans (ZS U L)
 f287:=Tryz.func282.trans (ZS U L)
 f316:=Tryz.func283.trans (ZS U L)
 f317:=Tryz.func306.trans (ZS U L)
 f318:=Tryz.func307.trans (ZS U L)
 f319:=Tryz.func308.trans (ZS U L)
 f320:=Tryz.func309.trans (ZS U L)
 f321:=Tryz.func302.trans (ZS U L)
 f322:=Tryz.func303.trans (ZS U L)
 f337:=Tryz.func310.trans (ZS U L)
 f338:=Tryz.func311.trans (ZS U L)
 t0:=fk
 a0:=iS
 z0:=hZ
 v0:=fv
 t2:=oT
 a2:=sT
 z2:=sn
 v2:=ps
 t3:=et
 a3:=gH
 z3:=fL
 v3:=ez
 t4:=ew
 a4:=gR
 z4:=fN
 v4:=eA
 t5:=eL
 a5:=hY
 z5:=gS
 v5:=ff
 t9:=ej
 a9:=hB
 z9:=fR
 v9:=eC
 t20:=lb
 a20:=pf
 z20:=ot
 v20:=lO
 t21:=la
 a21:=pe
 z21:=oq
 v21:=lE
 t37:=ld
 a37:=ph
 z37:=ov
 v37:=lP
 t46:=eI
 a46:=hF
 z46:=gh
 v46:=fa
 t51:=eJ
 a51:=hH
 z51:=gi
 v51:=fb
 t53:=ka
 a53:=ox
 z53:=nc
 v53:=lh
 t75:=rL
 a75:=tS
 z75:=tp
 v75:=so
 t76:=xb
 a76:=CF
 z76:=BW
 v76:=yi
 t85:=xc
 a85:=CG
 z85:=BY
 v85:=yk
 t127:=rN
 a127:=tU
 z127:=tq
 v127:=sq
 t143:=sv
 a143:=CH
 z143:=B0
 v143:=yl
 t145:=sx
 a145:=CI
 z145:=B1
 v145:=yo
 t167:=xd
 a167:=CM
 z167:=B2
 v167:=yp
 t168:=xf
 a168:=CN
 z168:=B3
 v168:=yq
 t171:=nd
 a171:=rh
 z171:=pL
 v171:=oa
 t173:=nf
 a173:=ri
 z173:=pN
 v173:=oc
 t175:=xi
 a175:=CT
 z175:=B4
 v175:=yr
 t210:=xj
 a210:=CU
 z210:=B5
 v210:=yv
 t212:=nh
 a212:=rj
 z212:=pP
 v212:=od
 t213:=nj
 a213:=rk
 z213:=pS
 t232:=np
 a232:=rl
 z232:=pZ
 v232:=oe
 t233:=nq
 a233:=rm
 z233:=qj
 v233:=oi
 g15:=L
 g16:=L
 g17:=L
 g18:=L
 g19:=L
 t80:=xl
 a80:=CV
 z80:=B6
 v80:=yy
 i0:=L
 i2:=L
 i3:=L
 i4:=L
 i5:=L
 i9:=L
 i20:=L
 i21:=L
 i37:=L
 i46:=L
 i51:=L
 i53:=L
 i75:=L
 i76:=L
 i80:=L
 i85:=L
 i127:=L
 i143:=L
 i145:=L
 i167:=L
 i168:=L
 i171:=L
 i173:=L
 i175:=L
 i210:=L
 i212:=L
 i232:=L
 i233:=L
 m15:=L
 m16:=L
 m17:=L
 m18:=L
 m19:=L
 c0:=L
 c2:=L
 c3:=L
 c4:=L
 c5:=L
 c9:=L
 c20:=L
 c21:=L
 c37:=L
 c46:=L
 c51:=L
 c53:=L
 c75:=L
 c76:=L
 c80:=L
 c85:=L
 c127:=L
 c143:=L
 c145:=L
 c167:=L
 c168:=L
 c171:=L
 c173:=L
 c175:=L
 c210:=L
 c212:=L
 c213:=L
 c232:=L
 c233:=by kernel_rfl}
open Go.RowKit in
theorem Tryz.strconv_Atoi_ok(s:ByteArray)(a:s.size<=9223372036854775806)(v:Int)(h:fq s.data.toList=.ok v)(w:ay):
 bp cw 162 #[.string s] w λe w'=>e=.returned (.tuple #[.int .i64 v,.nilIface])/\(w'=w\/∃t,w'=lA w 5 t):=Any.strconv_Atoi_ok Tryz.laysC172 s a v h w
open Go.RowKit in
theorem Tryz.strconv_Atoi_syntax_var(s:ByteArray)(b:s.size<=281474976710656)(e:Lib.NumEnd Int)(h:fq s.data.toList=e)(d:∀v,e≠ .ok v)(f:e≠ .range)(c:bk)(p:Q)(w:ay)(a:w.var? cw "strconv.ErrSyntax" =U #[.iface c p]):
 bp cw 162 #[.string s] w λe w'=>∃N,e=.returned (.tuple #[.int .i64 0,.iface 314 (.pointer (U ⟨N,0,bh⟩))])/\w.heap.size<=N/\w'.heap[N]? =U (.cells #[.string ⟨#[65,116,111,105]⟩,.string s,.iface c p] 344 (0,0))/\Below w.heap.size w w':=Any.strconv_Atoi_syntax_var Tryz.laysC172 s b (by cases e with|ok v=>exact ZD Z (d v)|range=>exact ZD Z f|_=>exact h) c p w a
open Go.RowKit in
theorem Tryz.strconv_Atoi_range_var(s:ByteArray)(b:s.size<=281474976710656)(h:fq s.data.toList=.range)(c:bk)(p:Q)(w:ay)(a:w.var? cw "strconv.ErrRange" =U #[.iface c p]):
 bp cw 162 #[.string s] w λe w'=>∃N,e=.returned (.tuple #[.int .i64 (Lib.atoiSat s.data.toList),.iface 314 (.pointer (U ⟨N,0,bh⟩))])/\w.heap.size<=N/\w'.heap[N]? =U (.cells #[.string ⟨#[65,116,111,105]⟩,.string s,.iface c p] 344 (0,0))/\Below w.heap.size w w':=Any.strconv_Atoi_range_var Tryz.laysC172 s b h c p w a
def Tryz.laysM171_ren:Go.Shelf.Ren:=⟨fun|171=>187|243=>238|246=>269|283=>293|284=>294|285=>295|286=>296|129=>236|317=>306|318=>307|319=>308|320=>309|337=>310|338=>311|n=>n,fun|3=>3|9=>9|2=>2|4=>4|171=>361|0=>0|53=>296|37=>36|5=>5|173=>363|212=>379|51=>294|20=>20|213=>380|46=>249|232=>384|233=>385|n=>n,fun|17=>5|18=>8|19=>9|n=>n⟩
theorem Tryz.laysM171:Go.Proofs.LaysM.n171 cw Tryz.laysM171_ren:={
 mixed:=L
 f129:=Tryz.func236.trans (ZS U L)
 f171:=Tryz.func187.trans (ZS U L)
 f243:=Tryz.func238.trans (ZS U L)
 f246:=Tryz.func269.trans (ZS U L)
 f283:=Tryz.func293.trans (ZS U L)
 f284:=Tryz.func294.trans (ZS U L)
 f285:=Tryz.func295.trans (ZS U L)
 f286:=Tryz.func296.trans (ZS U L)
 f317:=Tryz.func306.trans (ZS U L)
 f318:=Tryz.func307.trans (ZS U L)
 f319:=Tryz.func308.trans (ZS U L)
 f320:=Tryz.func309.trans (ZS U L)
 f337:=Tryz.func310.trans (ZS U L)
 f338:=Tryz.func311.trans (ZS U L)
 t0:=fk
 a0:=iS
 z0:=hZ
 v0:=fv
 t2:=oT
 a2:=sT
 z2:=sn
 v2:=ps
 t3:=et
 a3:=gH
 z3:=fL
 v3:=ez
 t4:=ew
 a4:=gR
 z4:=fN
 v4:=eA
 t5:=eL
 a5:=hY
 z5:=gS
 v5:=ff
 t9:=ej
 a9:=hB
 z9:=fR
 v9:=eC
 t20:=lb
 a20:=pf
 z20:=ot
 v20:=lO
 t37:=ld
 a37:=ph
 z37:=ov
 v37:=lP
 t46:=eI
 a46:=hF
 z46:=gh
 v46:=fa
 t51:=eJ
 a51:=hH
 z51:=gi
 v51:=fb
 t53:=ka
 a53:=ox
 z53:=nc
 v53:=lh
 t171:=nd
 a171:=rh
 z171:=pL
 v171:=oa
 t173:=nf
 a173:=ri
 z173:=pN
 v173:=oc
 t212:=nh
 a212:=rj
 z212:=pP
 v212:=od
 t213:=nj
 a213:=rk
 z213:=pS
 t232:=np
 a232:=rl
 z232:=pZ
 v232:=oe
 t233:=nq
 a233:=rm
 z233:=qj
 v233:=oi
 g17:=L
 g18:=L
 g19:=L
 i0:=L
 i2:=L
 i3:=L
 i4:=L
 i5:=L
 i9:=L
 i20:=L
 i37:=L
 i46:=L
 i51:=L
 i53:=L
 i171:=L
 i173:=L
 i212:=L
 i232:=L
 i233:=L
 m17:=L
 m18:=L
 m19:=by kernel_rfl}
open Go.RowKit Go.Sort Go.Lib in
theorem Tryz.strconv_Itoa(n:Int)(c: -9223372036854775808<=n)(b:n<=9223372036854775807)(w:ay)(a:px cw w "internal/strconv.uint64pow10" .u64 Lib.pow10Tab):
 bp cw 187 #[.int .i64 n] w λe w'=>e=.returned (.string ⟨ar (Lib.itoa n)⟩)/\∃k os,w'=grow (w.drewN k) os:=Any.strconv_Itoa Tryz.laysM171 n c b w a
def Tryz.lays156_ren:Go.Shelf.Ren:=⟨fun|156=>188|165=>239|166=>240|169=>241|240=>270|241=>271|276=>297|277=>298|n=>n,fun|31=>187|9=>9|3=>3|4=>4|0=>0|20=>20|72=>301|76=>226|70=>299|37=>36|75=>225|127=>331|164=>365|5=>5|80=>228|n=>n,fun|n=>n⟩
theorem Tryz.lays156:Go.Proofs.Lays.n156 cw Tryz.lays156_ren:={
 mixed:=L
 f156:=Tryz.func188.trans (ZS U L)
 f165:=Tryz.func239.trans (ZS U L)
 f166:=Tryz.func240.trans (ZS U L)
 f169:=Tryz.func241.trans (ZS U L)
 f240:=Tryz.func270.trans (ZS U L)
 f241:=Tryz.func271.trans (ZS U L)
 f276:=Tryz.func297.trans (ZS U L)
 f277:=Tryz.func298.trans (ZS U L)
 t0:=fk
 a0:=iS
 z0:=hZ
 v0:=fv
 t3:=et
 a3:=gH
 z3:=fL
 v3:=ez
 t4:=ew
 a4:=gR
 z4:=fN
 v4:=eA
 t9:=ej
 a9:=hB
 z9:=fR
 v9:=eC
 t20:=lb
 a20:=pf
 z20:=ot
 v20:=lO
 t31:=nb
 a31:=rb
 z31:=pH
 v31:=nQ
 t37:=ld
 a37:=ph
 z37:=ov
 v37:=lP
 t70:=Tryz.underlying299
 a70:=Tryz.isAgg299
 z70:=Tryz.sizeOf299
 v70:=Tryz.zeroValue299
 t72:=Tryz.underlying301
 a72:=Tryz.isAgg301
 z72:=Tryz.sizeOf301
 v72:=Tryz.zeroValue301
 t75:=rL
 a75:=tS
 z75:=tp
 v75:=so
 t76:=xb
 a76:=CF
 z76:=BW
 v76:=yi
 t127:=rN
 a127:=tU
 z127:=tq
 v127:=sq
 t164:=Tryz.underlying365
 a164:=Tryz.isAgg365
 z164:=Tryz.sizeOf365
 v164:=Tryz.zeroValue365}
theorem Tryz.Oh:Builder.Extra cw Tryz.lays156_ren:={
 sizeBuilder:=L
 liesBuilder:=L
 t5:=eL
 a5:=hY
 z5:=gS
 v5:=ff
 infoByte:=L
 cellsByte:=L
 sizeByte:=L
 neB5:=by decide}
open Go.RowKit in
theorem Tryz.strings_Join_none(a:B Addr)(c:Nat)(sep:ByteArray)(w:ay):
 bp cw 188 #[.slice a 0 c,.string sep] w λe w'=>e=.returned (.string ⟨#[]⟩)/\w'=w:=Any.strings_Join_none Tryz.lays156 Tryz.Oh a c sep w
open Go.RowKit in
theorem Tryz.strings_Join(f o c:Nat)(xs:H ByteArray)(sep:ByteArray)(w:ay)(a:∀(j:Nat) x,xs[j]? =U x->w.cell? ⟨f,o+j,bh⟩=U (.string x))(g:f<w.heap.size)(hN:O xs<=140737488355328)(d:O xs<=c)(b:O (Lib.join (xs.map (·.data.toList)) sep.data.toList)<=140737488355328):
    bp cw 188 #[.slice (U ⟨f,o,bh⟩) (O xs) c,.string sep] w λe w'=>e=.returned (.string ⟨ar (Lib.join (xs.map (·.data.toList)) sep.data.toList)⟩)/\Below w.heap.size w w':=Any.strings_Join Tryz.lays156 Tryz.Oh f o c xs sep w a g hN d b
def Tryz.lays221_ren:Go.Shelf.Ren:=⟨fun|221=>195|268=>245|138=>246|143=>226|195=>273|197=>274|218=>275|219=>263|260=>300|217=>288|225=>289|224=>290|267=>291|266=>304|314=>305|n=>n,fun|9=>9|3=>3|31=>187|4=>4|0=>0|105=>333|21=>21|5=>5|46=>249|119=>271|139=>383|138=>382|146=>376|51=>294|n=>n,fun|1=>4|3=>6|4=>7|n=>n⟩
theorem Tryz.lays221:Go.Proofs.Lays.n221 cw Tryz.lays221_ren:={
 mixed:=L
 f138:=Tryz.func246.trans (ZS U L)
 f143:=Tryz.func226.trans (ZS U L)
 f195:=Tryz.func273.trans (ZS U L)
 f197:=Tryz.func274.trans (ZS U L)
 f217:=Tryz.func288.trans (ZS U L)
 f218:=Tryz.func275.trans (ZS U L)
 f219:=Tryz.func263.trans (ZS U L)
 f221:=Tryz.func195.trans (ZS U L)
 f224:=Tryz.func290.trans (ZS U L)
 f225:=Tryz.func289.trans (ZS U L)
 f260:=Tryz.func300.trans (ZS U L)
 f266:=Tryz.func304.trans (ZS U L)
 f267:=Tryz.func291.trans (ZS U L)
 f268:=Tryz.func245.trans (ZS U L)
 f314:=Tryz.func305.trans (ZS U L)
 t0:=fk
 a0:=iS
 z0:=hZ
 v0:=fv
 t3:=et
 a3:=gH
 z3:=fL
 v3:=ez
 t4:=ew
 a4:=gR
 z4:=fN
 v4:=eA
 t5:=eL
 a5:=hY
 z5:=gS
 v5:=ff
 t9:=ej
 a9:=hB
 z9:=fR
 v9:=eC
 t21:=la
 a21:=pe
 z21:=oq
 v21:=lE
 t31:=nb
 a31:=rb
 z31:=pH
 v31:=nQ
 t46:=eI
 a46:=hF
 z46:=gh
 v46:=fa
 t51:=eJ
 a51:=hH
 z51:=gi
 v51:=fb
 t105:=wx
 a105:=CA
 z105:=By
 v105:=yf
 t119:=rK
 a119:=tR
 z119:=tm
 t138:=wA
 a138:=CC
 z138:=BD
 v138:=yg
 t139:=xa
 a139:=CD
 z139:=BT
 v139:=yh
 t146:=rI
 a146:=tP
 z146:=tl
 v146:=sl
 g1:=L
 g3:=L
 g4:=by kernel_rfl}
open Go.RowKit Go.Lib in
theorem Tryz.strings_genSplit(s sep:ByteArray)(a:Nat)(n:Int)(N:Nat)(m:Int)(w:ay)(W:s.size<4294967281)(f:w.cell? ⟨4,0,bh⟩=U (.int .i64 m))(g:1<=sep.size)(c:a<=sep.size)(d:n≠0)(b:n<=9223372036854775807)(hN:(N:Int)=min (if n<0 then(ei s sep:Int)+1 else n) ((s.size:Int)+1)):
 bp cw 195 #[.string s,.string sep,.int .i64 a,.int .i64 n] w λe w'=>
  e=.returned (.slice (U ⟨w.heap.size,0,bh⟩) (O (kC sep a (N-1) s)) N)/\w'=w.alloc (.cells (Lib.cellsOf (kC sep a (N-1) s) N) 9):=Any.strings_genSplit Tryz.lays221 L s sep a n N m w W f g c d b hN
def Tryz.lays100_ren:Go.Shelf.Ren:=⟨fun|100=>131|207=>196|n=>n,fun|9=>9|4=>4|3=>3|n=>n,fun|n=>n⟩
theorem Tryz.lays100:Go.Proofs.Lays.n100 cw Tryz.lays100_ren:={
 mixed:=L
 f100:=Tryz.func131.trans (ZS U L)
 f207:=Tryz.func196.trans (ZS U L)
 t3:=et
 a3:=gH
 z3:=fL
 v3:=ez
 t4:=ew
 a4:=gR
 z4:=fN
 v4:=eA
 t9:=ej
 a9:=hB
 z9:=fR
 v9:=eC}
open Go.RowKit Go.Lib in
theorem Tryz.strings_HasSuffix(s p:ByteArray)(w:ay)(W:s.size<=9223372036854775807):
 bp cw 131 #[.string s,.string p] w λe w'=>e=.returned (.bool (ue s.data.toList p.data.toList))/\w'=w:=Any.strings_HasSuffix Tryz.lays100 s p w W
def Tryz.laysC174_ren:Go.Shelf.Ren:=⟨fun|174=>247|247=>252|245=>211|287=>282|279=>253|280=>254|281=>255|282=>256|321=>302|322=>303|316=>283|171=>187|205=>284|243=>238|246=>269|283=>293|284=>294|285=>295|286=>296|129=>236|317=>306|318=>307|319=>308|320=>309|337=>310|338=>311|n=>n,fun|9=>9|3=>3|2=>2|75=>225|85=>305|4=>4|167=>313|5=>5|53=>296|175=>340|46=>249|168=>314|37=>36|0=>0|210=>344|21=>21|127=>331|145=>373|143=>371|171=>361|173=>363|212=>379|51=>294|20=>20|213=>380|232=>384|233=>385|80=>228|n=>n,fun|15=>2|16=>3|17=>5|18=>8|19=>9|n=>n⟩
theorem Tryz.laysC174:Go.Proofs.LaysC.n174 cw Tryz.laysC174_ren:={
 mixed:=L
 f129:=Tryz.func236.trans (ZS U L)
 f171:=Tryz.func187.trans (ZS U L)
 f174:=Tryz.func247.trans (ZS U L)
 f205:=Tryz.func284.trans (ZS U L)
 f243:=Tryz.func238.trans (ZS U L)
 f245:=Tryz.func211.trans (ZS U L)
 f246:=Tryz.func269.trans (ZS U L)
 f247:=Tryz.func252.trans (ZS U L)
 f279:=Tryz.func253.trans (ZS U L)
 f280:=Tryz.func254.trans (ZS U L)
 f281:=Tryz.func255.trans (ZS U L)
 f282:=Tryz.func256.trans (ZS U L)
 f283:=Tryz.func293.trans (ZS U L)
 f284:=Tryz.func294.trans (ZS U L)
 f285:=Tryz.func295.trans (ZS U L)
 f286:=Tryz.func296.trans (ZS U L)
 f287:=Tryz.func282.trans (ZS U L)
 f316:=Tryz.func283.trans (ZS U L)
 f317:=Tryz.func306.trans (ZS U L)
 f318:=Tryz.func307.trans (ZS U L)
 f319:=Tryz.func308.trans (ZS U L)
 f320:=Tryz.func309.trans (ZS U L)
 f321:=Tryz.func302.trans (ZS U L)
 f322:=Tryz.func303.trans (ZS U L)
 f337:=Tryz.func310.trans (ZS U L)
 f338:=Tryz.func311.trans (ZS U L)
 t0:=fk
 a0:=iS
 z0:=hZ
 v0:=fv
 t2:=oT
 a2:=sT
 z2:=sn
 v2:=ps
 t3:=et
 a3:=gH
 z3:=fL
 v3:=ez
 t4:=ew
 a4:=gR
 z4:=fN
 v4:=eA
 t5:=eL
 a5:=hY
 z5:=gS
 v5:=ff
 t9:=ej
 a9:=hB
 z9:=fR
 v9:=eC
 t20:=lb
 a20:=pf
 z20:=ot
 v20:=lO
 t21:=la
 a21:=pe
 z21:=oq
 v21:=lE
 t37:=ld
 a37:=ph
 z37:=ov
 v37:=lP
 t46:=eI
 a46:=hF
 z46:=gh
 v46:=fa
 t51:=eJ
 a51:=hH
 z51:=gi
 v51:=fb
 t53:=ka
 a53:=ox
 z53:=nc
 v53:=lh
 t75:=rL
 a75:=tS
 z75:=tp
 v75:=so
 t85:=xc
 a85:=CG
 z85:=BY
 v85:=yk
 t127:=rN
 a127:=tU
 z127:=tq
 v127:=sq
 t143:=sv
 a143:=CH
 z143:=B0
 v143:=yl
 t145:=sx
 a145:=CI
 z145:=B1
 v145:=yo
 t167:=xd
 a167:=CM
 z167:=B2
 v167:=yp
 t168:=xf
 a168:=CN
 z168:=B3
 v168:=yq
 t171:=nd
 a171:=rh
 z171:=pL
 v171:=oa
 t173:=nf
 a173:=ri
 z173:=pN
 v173:=oc
 t175:=xi
 a175:=CT
 z175:=B4
 v175:=yr
 t210:=xj
 a210:=CU
 z210:=B5
 v210:=yv
 t212:=nh
 a212:=rj
 z212:=pP
 v212:=od
 t213:=nj
 a213:=rk
 z213:=pS
 t232:=np
 a232:=rl
 z232:=pZ
 v232:=oe
 t233:=nq
 a233:=rm
 z233:=qj
 v233:=oi
 g15:=L
 g16:=L
 g17:=L
 g18:=L
 g19:=L
 t80:=xl
 a80:=CV
 z80:=B6
 v80:=yy
 i0:=L
 i2:=L
 i3:=L
 i4:=L
 i5:=L
 i9:=L
 i20:=L
 i21:=L
 i37:=L
 i46:=L
 i51:=L
 i53:=L
 i75:=L
 i80:=L
 i85:=L
 i127:=L
 i143:=L
 i145:=L
 i167:=L
 i168:=L
 i171:=L
 i173:=L
 i175:=L
 i210:=L
 i212:=L
 i232:=L
 i233:=L
 m15:=L
 m16:=L
 m17:=L
 m18:=L
 m19:=L
 c0:=L
 c2:=L
 c3:=L
 c4:=L
 c5:=L
 c9:=L
 c20:=L
 c21:=L
 c37:=L
 c46:=L
 c51:=L
 c53:=L
 c75:=L
 c80:=L
 c85:=L
 c127:=L
 c143:=L
 c145:=L
 c167:=L
 c168:=L
 c171:=L
 c173:=L
 c175:=L
 c210:=L
 c212:=L
 c213:=L
 c232:=L
 c233:=by kernel_rfl}
open Go.RowKit in
theorem Tryz.strconv_ParseInt_10_at64_ok(s:ByteArray)(a:s.size<=9223372036854775806)(v:Int)(h:kj 64 s.data.toList=.ok v)(w:ay):
 bp cw 247 #[.string s,.int .i64 10,.int .i64 64] w λe w'=>e=.returned (.tuple #[.int .i64 v,.nilIface])/\(w'=w\/∃t,w'=lA w 5 t):=Any.strconv_ParseInt_10_at64_ok Tryz.laysC174 s a v h w
open Go.RowKit in
theorem Tryz.strconv_ParseInt_10_at64_syntax_var(s:ByteArray)(b:s.size<=281474976710656)(e:Lib.NumEnd Int)(h:kj 64 s.data.toList=e)(d:∀v,e≠ .ok v)(f:e≠ .range)(c:bk)(p:Q)(w:ay)(a:w.var? cw "strconv.ErrSyntax" =U #[.iface c p]):
 bp cw 247 #[.string s,.int .i64 10,.int .i64 64] w λe w'=>∃N,e=.returned (.tuple #[.int .i64 (0),.iface 314 (.pointer (U ⟨N,0,bh⟩))])/\w.heap.size<=N/\w'.heap[N]? =U (.cells #[.string ⟨#[80,97,114,115,101,73,110,116]⟩,.string s,.iface c p] 344 (0,0))/\Below w.heap.size w w':=Any.strconv_ParseInt_10_at64_syntax_var Tryz.laysC174 s b (by cases e with|ok v=>exact ZD Z (d v)|range=>exact ZD Z f|_=>exact h) c p w a
open Go.RowKit in
theorem Tryz.strconv_ParseInt_10_at64_range_var(s:ByteArray)(b:s.size<=281474976710656)(h:kj 64 s.data.toList=.range)(c:bk)(p:Q)(w:ay)(a:w.var? cw "strconv.ErrRange" =U #[.iface c p]):
 bp cw 247 #[.string s,.int .i64 10,.int .i64 64] w λe w'=>∃N,e=.returned (.tuple #[.int .i64 (Lib.intSat 64 s.data.toList),.iface 314 (.pointer (U ⟨N,0,bh⟩))])/\w.heap.size<=N/\w'.heap[N]? =U (.cells #[.string ⟨#[80,97,114,115,101,73,110,116]⟩,.string s,.iface c p] 344 (0,0))/\Below w.heap.size w w':=Any.strconv_ParseInt_10_at64_range_var Tryz.laysC174 s b h c p w a
def Tryz.laysM173_ren:Go.Shelf.Ren:=⟨fun|173=>248|246=>269|283=>293|284=>294|285=>295|286=>296|129=>236|317=>306|318=>307|319=>308|320=>309|337=>310|338=>311|n=>n,fun|2=>2|3=>3|9=>9|4=>4|171=>361|0=>0|53=>296|37=>36|5=>5|173=>363|212=>379|51=>294|20=>20|213=>380|46=>249|232=>384|233=>385|n=>n,fun|17=>5|18=>8|19=>9|n=>n⟩
theorem Tryz.laysM173:Go.Proofs.LaysM.n173 cw Tryz.laysM173_ren:={
 mixed:=L
 f129:=Tryz.func236.trans (ZS U L)
 f173:=Tryz.func248.trans (ZS U L)
 f246:=Tryz.func269.trans (ZS U L)
 f283:=Tryz.func293.trans (ZS U L)
 f284:=Tryz.func294.trans (ZS U L)
 f285:=Tryz.func295.trans (ZS U L)
 f286:=Tryz.func296.trans (ZS U L)
 f317:=Tryz.func306.trans (ZS U L)
 f318:=Tryz.func307.trans (ZS U L)
 f319:=Tryz.func308.trans (ZS U L)
 f320:=Tryz.func309.trans (ZS U L)
 f337:=Tryz.func310.trans (ZS U L)
 f338:=Tryz.func311.trans (ZS U L)
 t0:=fk
 a0:=iS
 z0:=hZ
 v0:=fv
 t2:=oT
 a2:=sT
 z2:=sn
 v2:=ps
 t3:=et
 a3:=gH
 z3:=fL
 v3:=ez
 t4:=ew
 a4:=gR
 z4:=fN
 v4:=eA
 t5:=eL
 a5:=hY
 z5:=gS
 v5:=ff
 t9:=ej
 a9:=hB
 z9:=fR
 v9:=eC
 t20:=lb
 a20:=pf
 z20:=ot
 v20:=lO
 t37:=ld
 a37:=ph
 z37:=ov
 v37:=lP
 t46:=eI
 a46:=hF
 z46:=gh
 v46:=fa
 t51:=eJ
 a51:=hH
 z51:=gi
 v51:=fb
 t53:=ka
 a53:=ox
 z53:=nc
 v53:=lh
 t171:=nd
 a171:=rh
 z171:=pL
 v171:=oa
 t173:=nf
 a173:=ri
 z173:=pN
 v173:=oc
 t212:=nh
 a212:=rj
 z212:=pP
 v212:=od
 t213:=nj
 a213:=rk
 z213:=pS
 t232:=np
 a232:=rl
 z232:=pZ
 v232:=oe
 t233:=nq
 a233:=rm
 z233:=qj
 v233:=oi
 g17:=L
 g18:=L
 g19:=L
 i0:=L
 i2:=L
 i3:=L
 i4:=L
 i5:=L
 i9:=L
 i20:=L
 i37:=L
 i46:=L
 i51:=L
 i53:=L
 i171:=L
 i173:=L
 i212:=L
 i232:=L
 i233:=L
 m17:=L
 m18:=L
 m19:=by kernel_rfl}
open Go.RowKit Go.Sort Go.Lib in
theorem Tryz.strconv_FormatInt_10(n:Int)(c: -9223372036854775808<=n)(b:n<=9223372036854775807)(w:ay)(a:px cw w "internal/strconv.uint64pow10" .u64 Lib.pow10Tab):
 bp cw 248 #[.int .i64 n,.int .i64 10] w λe w'=>e=.returned (.string ⟨ar (Lib.itoa n)⟩)/\∃k os,w'=grow (w.drewN k) os:=Any.strconv_FormatInt_10 Tryz.laysM173 n c b w a
def Tryz.lays157_ren:Go.Shelf.Ren:=⟨fun|157=>171|229=>213|199=>214|261=>258|311=>285|312=>286|n=>n,fun|9=>9|31=>187|3=>3|5=>5|4=>4|119=>271|0=>0|40=>273|152=>317|21=>21|154=>319|51=>294|141=>321|196=>349|193=>346|198=>352|49=>350|194=>347|201=>355|226=>374|46=>249|227=>375|n=>n,fun|0=>0|6=>1|n=>n⟩
theorem Tryz.lays157:Go.Proofs.Lays.n157 cw Tryz.lays157_ren:={
 mixed:=L
 f157:=Tryz.func171.trans (ZS U L)
 f199:=Tryz.func214.trans (ZS U L)
 f229:=Tryz.func213.trans (ZS U L)
 f261:=Tryz.func258.trans (ZS U L)
 f311:=Tryz.func285.trans (ZS U L)
 f312:=Tryz.func286.trans (ZS U L)
 t0:=fk
 a0:=iS
 z0:=hZ
 v0:=fv
 t3:=et
 a3:=gH
 z3:=fL
 v3:=ez
 t4:=ew
 a4:=gR
 z4:=fN
 v4:=eA
 t5:=eL
 a5:=hY
 z5:=gS
 v5:=ff
 t9:=ej
 a9:=hB
 z9:=fR
 v9:=eC
 t21:=la
 a21:=pe
 z21:=oq
 v21:=lE
 t31:=nb
 a31:=rb
 z31:=pH
 v31:=nQ
 t40:=Tryz.underlying273
 a40:=Tryz.isAgg273
 z40:=Tryz.sizeOf273
 v40:=Tryz.zeroValue273
 t46:=eI
 a46:=hF
 z46:=gh
 v46:=fa
 t49:=Tryz.underlying350
 a49:=Tryz.isAgg350
 z49:=Tryz.sizeOf350
 v49:=Tryz.zeroValue350
 t51:=eJ
 a51:=hH
 z51:=gi
 v51:=fb
 t119:=rK
 a119:=tR
 z119:=tm
 t141:=Tryz.underlying321
 a141:=Tryz.isAgg321
 z141:=Tryz.sizeOf321
 v141:=Tryz.zeroValue321
 t152:=Tryz.underlying317
 a152:=Tryz.isAgg317
 z152:=Tryz.sizeOf317
 v152:=Tryz.zeroValue317
 t154:=Tryz.underlying319
 a154:=Tryz.isAgg319
 z154:=Tryz.sizeOf319
 v154:=Tryz.zeroValue319
 t193:=Tryz.underlying346
 a193:=Tryz.isAgg346
 z193:=Tryz.sizeOf346
 v193:=Tryz.zeroValue346
 t194:=Tryz.underlying347
 a194:=Tryz.isAgg347
 z194:=Tryz.sizeOf347
 v194:=Tryz.zeroValue347
 t196:=Tryz.underlying349
 a196:=Tryz.isAgg349
 z196:=Tryz.sizeOf349
 v196:=Tryz.zeroValue349
 t198:=Tryz.underlying352
 a198:=Tryz.isAgg352
 z198:=Tryz.sizeOf352
 v198:=Tryz.zeroValue352
 t201:=Tryz.underlying355
 a201:=Tryz.isAgg355
 z201:=Tryz.sizeOf355
 v201:=Tryz.zeroValue355
 t226:=Tryz.underlying374
 a226:=Tryz.isAgg374
 z226:=Tryz.sizeOf374
 v226:=Tryz.zeroValue374
 t227:=Tryz.underlying375
 a227:=Tryz.isAgg375
 z227:=Tryz.sizeOf375
 v227:=Tryz.zeroValue375
 g0:=L
 g6:=by kernel_rfl}
open Go.RowKit Go.Lib in
theorem Tryz.strings_Fields(s:ByteArray)(w:ay)(W:s.size<4294967281)(a:∀(j:Nat) b,s.data.toList[j]? =U b->b.toNat<128)(c:px cw w "strings.asciiSpace" .u8 zj):
 bp cw 171 #[.string s] w λe w'=>
  e=.returned (.slice (U ⟨w.heap.size,0,bh⟩) (O (gw s.data.toList)) (O (gw s.data.toList)))/\w'=w.alloc (.cells ((gw s.data.toList).map λl=>pb ⟨ar l⟩).toArray 9):=Any.strings_Fields Tryz.lays157 L L s w W a c
def Tryz.sortCo_ren:Go.Shelf.Ren:=⟨fun|6=>125|15=>185|14=>184|28=>235|29=>236|20=>227|21=>228|22=>229|23=>230|24=>231|25=>232|26=>233|27=>234|46=>264|47=>265|48=>266|49=>267|50=>268|57=>292|n=>n,fun|22=>35|24=>75|25=>184|3=>3|39=>249|0=>0|53=>294|55=>296|4=>4|46=>288|45=>287|50=>274|5=>5|9=>9|66=>325|70=>329|76=>358|77=>359|n=>n,fun|n=>n⟩
theorem Tryz.sortCo:Go.Proofs.SlLaysF0.n6 cw Tryz.sortCo_ren:={
 mixed:=by kernel_rfl,
 f6:=⟨Tryz.f125.name,by decide,Tryz.func125.trans (ZS U L)⟩,
 f14:=⟨Tryz.f184.name,by decide,Tryz.func184.trans (ZS U L)⟩,
 f15:=Tryz.func185.trans (ZS U L),
 f20:=⟨Tryz.f227.name,by decide,Tryz.func227.trans (ZS U L)⟩,
 f21:=⟨Tryz.f228.name,by decide,Tryz.func228.trans (ZS U L)⟩,
 f22:=⟨Tryz.f229.name,by decide,Tryz.func229.trans (ZS U L)⟩,
 f23:=⟨Tryz.f230.name,by decide,Tryz.func230.trans (ZS U L)⟩,
 f24:=⟨Tryz.f231.name,by decide,Tryz.func231.trans (ZS U L)⟩,
 f25:=⟨Tryz.f232.name,by decide,Tryz.func232.trans (ZS U L)⟩,
 f26:=⟨Tryz.f233.name,by decide,Tryz.func233.trans (ZS U L)⟩,
 f27:=⟨Tryz.f234.name,by decide,Tryz.func234.trans (ZS U L)⟩,
 f28:=Tryz.func235.trans (ZS U L),
 f29:=Tryz.func236.trans (ZS U L),
 f46:=⟨Tryz.f264.name,by decide,Tryz.func264.trans (ZS U L)⟩,
 f47:=Tryz.func265.trans (ZS U L),
 f48:=Tryz.func266.trans (ZS U L),
 f49:=⟨Tryz.f267.name,by decide,Tryz.func267.trans (ZS U L)⟩,
 f50:=⟨Tryz.f268.name,by decide,Tryz.func268.trans (ZS U L)⟩,
 f57:=⟨Tryz.f292.name,by decide,Tryz.func292.trans (ZS U L)⟩,
 t0:=fk,
 a0:=iS,
 z0:=hZ,
 v0:=fv,
 t3:=et,
 a3:=gH,
 z3:=fL,
 v3:=ez,
 t4:=ew,
 a4:=gR,
 z4:=fN,
 v4:=eA,
 t5:=eL,
 a5:=hY,
 z5:=gS,
 v5:=ff,
 t9:=ej,
 a9:=hB,
 z9:=fR,
 v9:=eC,
 t22:=Tryz.underlying35,
 a22:=Tryz.isAgg35,
 z22:=Tryz.sizeOf35,
 v22:=Tryz.zeroValue35,
 t25:=Tryz.underlying184,
 a25:=Tryz.isAgg184,
 z25:=Tryz.sizeOf184,
 v25:=Tryz.zeroValue184,
 t39:=eI,
 a39:=hF,
 z39:=gh,
 v39:=fa,
 t45:=Tryz.underlying287,
 a45:=Tryz.isAgg287,
 z45:=Tryz.sizeOf287,
 v45:=Tryz.zeroValue287,
 t46:=Tryz.underlying288,
 a46:=Tryz.isAgg288,
 z46:=Tryz.sizeOf288,
 v46:=Tryz.zeroValue288,
 t50:=Tryz.underlying274,
 a50:=Tryz.isAgg274,
 z50:=Tryz.sizeOf274,
 v50:=Tryz.zeroValue274,
 t53:=eJ,
 a53:=hH,
 z53:=gi,
 v53:=fb,
 t55:=ka,
 a55:=ox,
 z55:=nc,
 v55:=lh,
 t66:=Tryz.underlying325,
 a66:=Tryz.isAgg325,
 z66:=Tryz.sizeOf325,
 v66:=Tryz.zeroValue325,
 t70:=Tryz.underlying329,
 a70:=Tryz.isAgg329,
 z70:=Tryz.sizeOf329,
 v70:=Tryz.zeroValue329,
 t76:=Tryz.underlying358,
 a76:=Tryz.isAgg358,
 z76:=Tryz.sizeOf358,
 v76:=Tryz.zeroValue358,
 t77:=Tryz.underlying359,
 a77:=Tryz.isAgg359,
 z77:=Tryz.sizeOf359,
 v77:=Tryz.zeroValue359}
end Go.Proofs