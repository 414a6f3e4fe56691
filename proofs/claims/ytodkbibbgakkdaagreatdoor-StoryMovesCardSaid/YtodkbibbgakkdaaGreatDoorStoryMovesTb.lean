/-
  What the law StoryMoves needs of our own library and of the walks, no more.
-/
import Derived.Shelf.Strings.Builder1
import Derived.Laws.IdiomRangeMap
import Derived.Lib.FieldsLaws
import Derived.KernelRfl
import Derived.Test.YtodkbibbgakkdaaGreatDoorProg
import Derived.Lib.Slices
import Derived.Lib.Walk
import Derived.Shelf.Strings.OnBuilder
import Derived.Shelf.LaysM
import Derived.Shelf.Strconv.Itoa3
import Derived.Shelf.LaysC
import Derived.Shelf.Strconv.AtoiAll
import Derived.Shelf.Strconv.ErrVarAll
import Derived.Shelf.Strings.Cut
import Derived.Shelf.Strings.Split
import Derived.Shelf.Strings.Fields
import Derived.Shelf.Strings.BuilderX
import Derived.Test.YtodkbibbgakkdaaGreatDoorStoryMovesTa
set_option linter.unusedSimpArgs false
set_option linter.unusedVariables false
set_option maxRecDepth 10000
open Array renaming filter->tv,filter_eq_self->pD,getD_eq_getD_getElem?->cV,toList_filter->jK
open Bool renaming and_eq_true->cP,false_eq_true->cv,not_eq_true'->gC,not_true->ea,false->aq,true->aT
open Decidable renaming decide->ab
open Go renaming Calls->bw,Edge->hY,Exit->fl,FuncId->fY,Oper->ei,Operand->bo,Program->ca,TypeId->ba,Value->al,World->ao,bodyPost->jF,execOp->bk,getObj->lb,leftOf->kn,madeCells->qV,run_equalIn_int->pk,run_part_plain->fW,step->lx,undef->gf
open Go.Lib renaming TabIs->oy,asciiSpaceTab->se,atoiAll->ey,countB->gj,cut->nk,fields->fj,indexByte->lr
open Go.Question renaming forced->nr
open Go.Region renaming free->fi,noSelect->en,ready->cX
open Go.Result renaming andThen_ok->bp
open Go.Sem renaming run->kq,run_bind->cy
open Go.Value renaming agg->rM,bool->dr,int->dq,pointer->gh,string->lO
open List renaming all_eq_true->lP,any_cons->tw,append_assoc->ck,eq_nil_of_length_eq_zero->cl,ext_getElem?->dp,filter_eq_self->nd,getElem?_append->gR,getElem?_append_left->ks,getElem?_append_right->gS,getElem?_drop->cC,getElem?_eq_getElem->bc,getElem?_eq_none->bt,getElem?_map->ej,getElem?_set->fh,getElem?_set_ne->dR,getElem?_set_self->iB,getElem?_take->cf,getElem?_zipWith->ml,getElem?_zip_eq_some->oS,getElem_set_ne->nb,getElem_set_self->mx,getElem_zip->sf,length_append->bj,length_drop->cN,length_map->cH,length_replicate->jI,length_set->cp,length_take->cd,length_zip->ff,map_append->cL,map_cons->cg,map_set->hJ,mem_cons->bm,mem_cons_self->eV,nodup_cons->sX,not_mem_nil->di,size_toArray->rL,zip_eq_zipWith->mN
open List.Perm renaming refl->nB
open Nat renaming add_mul->cj,beq->fL,beq_eq->rJ,ble->lA,ble_eq->oT,eq_or_lt_of_le->rK,le_of_ble_eq_true->gE,le_of_succ_le->sg,le_refl->bE,lt_of_lt_of_le->cq,lt_or_ge->cI,mul_le_mul_right->bd,not_succ_le_self->qt,zero_le->fN
open Option renaming map_some->dd,none->ar,some->ak
open Option.some renaming inj->cQ,injEq->eJ
open Prod renaming snd->dk
namespace Go.LX
open Go.RowKit Go.Proofs
section
variable{P:ca}{ops:Array ei}{Q:fl->Act->ao->Prop}{n:Nat}{env:Nat->al}{w w' w0:ao}{M K:BS}{hp:Nat->Chunk}{rest:ZD ei}
 {d:Zs Nat} {op:Op} {ty:ba} {pos:String} {af:Array hY} {v:al} {g:Zs (Nat×Ys)} {T:ba} {ρ:bo->al} {x y:bo} {i fuel:Nat} {listed:Array Ys}
theorem SH.pceAt{S:Pce}(h:SH w0 M K w hp)(i:Nat)(a:hp i=.eY S):S.P w (SH.A M hp):=by
 have:=h.ok i;rw[a]at this;exact this
theorem SH.M6{S S':Pce}(h:SH w0 M K w hp)(i:Nat)(c:hp i=.eY S)(e:S'.P w' (SH.A M hp))(f:bL S.own w w')(hn:∀b,S'.own b->b<w.heap.size->S.own b):SH w0 M K w' (bY hp i (.eY S')):=by
  refine h.step i f (fun b a _=>by rw[c];exact a) (fun b a d=>by rw[c];exact hn b a d) ?_;refine S'.go e (bL.refl BE w') (fun _ h=>h.elim) (fun _ h=>h.elim) fun b a _=>?_;rcases a with a|a|a
  · exact .inl<|.inl a
  · exact .inl<|.inr<|lU a
  · exact .inr a
end
open Go.RowKit Go.Proofs
structure RO(α β:Type)where
 sz:Nat
 enc:α->al->List al
 sub:α->List β
 put:α->List β->α
 len:∀x u,(enc x u).length=sz
 one:∀x u,u.oneCell'=aT->∀c∈enc x u,c.oneCell'=aT
 pos:0<sz
 T9:∀x s u,enc (put x s) u=enc x u
 Ua:∀x s,sub (put x s)=s
def RO.raw{α β:Type}(N:RO α β):lT (α×al) where
 sz:=N.sz
 rd _ _ cs p:=cs=N.enc p.1 p.2/\p.2.oneCell'=aT
 len:=by rintro w A cs x ⟨rfl,_⟩;exact N.len _ _
 one:=by rintro w A cs x ⟨rfl,h⟩;exact N.one _ _ h
 pos:=N.pos
 go:=fun h _ _ _=>h
def hn:Nat->Prop:=fun _=>False
def hat(k:Nat):Nat->Prop:=fun i=>i=k
def Hm(ho:Nat->Prop)(us:ZD al):BS:=fun b=>∃i u,us[i]? =ak u/\¬ho i/\ob u b
def FamP{β:Type}(R:lT β)(E:ba)(ho:Nat->Prop)(us:ZD al)(ss:ZD (ZD β))(w:ao)(A:BS):Prop:=
 us.length=ss.length/\
 (∀i u s,us[i]? =ak u->ss[i]? =ak s->¬ho i->cK R E w (fun b=>A b\/Hm ho us b) u s)/\
 (∀i j u v,i≠j->¬ho i->¬ho j->us[i]? =ak u->us[j]? =ak v->∀b,ob u b->¬ob v b)
theorem FamP.at{β:Type}{R:lT β}{E:ba}{ho:Nat->Prop}{us:ZD al}{ss:ZD (ZD β)}{w:ao}{A:BS}(h:FamP R E ho us ss w A){i:Nat}{u:al}(a:us[i]? =ak u):∃s,ss[i]? =ak s:=by
  have:i<us.length:=by
    rcases cI i us.length with h|h
    · exact h
    · rw[bt h]at a;cases a
  exact⟨ss[i]'(h.1▸this),bc _⟩
def bP{β:Type}(R:lT β)(E:ba)(ho:Nat->Prop)(us:ZD al)(ss:ZD (ZD β)):Pce where
  own:=Hm ho us
  P w A:=FamP R E ho us ss w A
  lt:=by
    rintro w A b h⟨i,u,h1,h2,h3⟩;obtain⟨s,hs⟩:=h.at h1;exact(h.2.1 i u s h1 hs h2).lt b h3
  go:=by
    rintro w w' A A' K⟨h1,h2,h3⟩hk hK hKo hA;refine⟨h1,fun i u s hu hs hi=>(h2 i u s hu hs hi).go hk (fun b hb hl=>.inl<|hK b hb hl) (fun b hb ho=>hKo b hb ⟨i,u,hu,hi,ho⟩) fun b hb hl=>?_,h3⟩;rcases hb with hb|hb
    · exact .inl<|hA b hb hl
    · exact .inl<|.inr hb
section
variable{α β:Type}{N:RO α β}{R:lT β}{E Es T:ba}{w0 w w':ao}{M K A:BS}{hp:Nat->Chunk}{v u u':al}{us us':ZD al}{L L':ZD α}{ss ss':ZD (ZD β)}{s:ZD β}{x y:α}{k:Nat}{ho ho':Nat->Prop}
theorem ET(hp:Nat->Chunk)(i:Nat)(a c:Chunk):bY (bY hp i a) i c=bY hp i c:=by
  funext j;by_cases e:j=i
  · subst e;rw[bZ,bZ]
  · rw[eD e,eD e,eD e]
theorem hupd_comm(hp:Nat->Chunk){i j:Nat}(a c:Chunk)(h:i≠j):bY (bY hp i a) j c=bY (bY hp j c) i a:=by
  funext x;by_cases e:x=i
  · subst e;rw[bZ,eD h,bZ]
  · by_cases b:x=j
    · subst b;rw[bZ,eD e,bZ]
    · rw[eD b,eD e,eD e,eD b]
theorem SH.Yf(h:SH w0 M K w hp)(j:Nat)(a:hp j=.eY (bP R E ho us ss)):FamP R E ho us ss w (SH.A M hp):=h.pceAt j a
theorem SH.jX(h:SH w0 M K w hp)(j:Nat)(a:hp j=.eY (bP R E ho us (L.map N.sub))):us.length=L.length:=by
 have:=(h.Yf j a).1;rw[cH]at this;exact this
theorem gN(h:us.length=L.length):(L.zip us).length=L.length:=by rw[ff];omega
theorem gP(b:L[k]? =ak x)(a:us[k]? =ak u):(L.zip us)[k]? =ak (x,u):=by
 rw[oS];exact⟨b,a⟩
theorem Zj(a:us[k]? =ak u):(L.zip us).set k (y,u)=(L.set k y).zip us:=by
  apply dp;intro i;rw[fh];by_cases e:k=i
  · subst e;rw[Z2 rfl];by_cases b:k<L.length
    · rw[gP (x:=y) (u:=u) (by rw[iB b]) a];have:k<us.length:=by
        rcases cI k us.length with h|h
        · exact h
        · rw[bt h]at a;cases a
      rw[Z2 (by rw[ff];omega)]
    · rw[Z3 (by rw[ff];omega),bt (by rw[ff,cp];omega)]
  · rw[Z3 e];simp only[mN,ml,dR e]
theorem Ub(a:L[k]? =ak x):(L.zip us).set k (x,u)=L.zip (us.set k u):=by
  apply dp;intro i;rw[fh];by_cases e:k=i
  · subst e;rw[Z2 rfl];by_cases b:k<us.length
    · rw[gP (x:=x) (u:=u) a (by rw[iB b])];have:k<L.length:=by
        rcases cI k L.length with h|h
        · exact h
        · rw[bt h]at a;cases a
      rw[Z2 (by rw[ff];omega)]
    · rw[Z3 (by rw[ff];omega),bt (by rw[ff,cp];omega)]
  · rw[Z3 e];simp only[mN,ml,dR e]
theorem CF(a:L[k]? =ak y):L.set k y=L:=by
  apply dp;intro i;rw[fh];by_cases e:k=i
  · subst e;by_cases b:k<L.length
    · rw[Z2 rfl,Z2 b,a]
    · rw[bt V]at a;cases a
  · rw[Z3 e]
theorem ou{z:α}(a:L[k]? =ak x):(L.set k z)[k]? =ak z:=by
  rw[iB];rcases cI k L.length with h|h
  · exact h
  · rw[bt h]at a;cases a
theorem VK(a:us[k]? =ak u):(us.set k u')[k]? =ak u':=ou a
theorem own_re{l b:ZD (α×al)}(h:cK N.raw E w A v l)(c:b.length=l.length)(k:∀(i:Nat) (p a:α×al),l[i]? =ak p->b[i]? =ak a->N.enc a.1 a.2=N.enc p.1 p.2/\a.2=p.2):cK N.raw E w A v b:=by
 obtain⟨xs,m,e⟩:=h;refine⟨xs,by rw[c];exact m,fun i d=>?_⟩;obtain⟨f,n⟩:=e i<|c▸d;obtain⟨g,j⟩:=k i _ _ (bc<|c▸d)<|bc d;exact⟨f.trans g.symm,by rw[j];exact n⟩
theorem SH.rawRe(h:SH w0 M K w hp)(i:Nat)(j:hp i=.own N.raw E v (L.zip us))(f:L[k]? =ak x)(m:∀u,N.enc y u=N.enc x u):SH w0 M K w (bY hp i (.own N.raw E v ((L.set k y).zip us))):=by
  refine h.step i (bL.refl BE w) (fun _ h=>h.elim) (fun b d _=>by rw[j];exact d) ?_;have ho:=h.ok i;rw[j]at ho;refine Chunk.sub (O:=iT hp) (c:=.own N.raw E v ((L.set k y).zip us)) ?_ fun b d _=>?_
  · refine own_re ho (by rw[ff,ff,cp]) fun i p q hp a=>?_;rw[oS]at hp a;rw[fh]at a;have l:=cQ<|hp.2.symm.trans a.2;by_cases e:k=i
    · subst e;have n:k<L.length:=by
        rcases cI k L.length with h|h
        · exact h
        · rw[bt h]at f;cases f
      rw[Z2 rfl,Z2 n]at a;have g:=cQ a.1;have o:=cQ<|f.symm.trans hp.1;rw[<-l,<-g,<-o];exact⟨m _,Z⟩
    · rw[Z3 e]at a;have g:=cQ<|hp.1.symm.trans a.1;rw[<-l,<-g];exact⟨Z,Z⟩
  · rcases d with d|d
    · exact lU d
    · exact⟨i,by rw[j];exact d⟩
theorem SH.famRe(h:SH w0 M K w hp)(j:Nat)(n:hp j=.eY (bP R E ho us ss))(o:us'.length=ss'.length)(e:∀i,¬ho i->us'[i]? =us[i]? /\ss'[i]? =ss[i]?):SH w0 M K w (bY hp j (.eY (bP R E ho us' ss'))):=by
 have l:=h.Yf j n;have a:∀b,Hm ho us' b->Hm ho us b:=fun b⟨i,u,r,m,q⟩=>⟨i,u,(e i m).1▸r,m,q⟩;refine h.M6 j n ?_ (bL.refl _ _) fun b f _=>a b f;refine⟨o,fun i u s k p c=>?_,fun i j u v g c d k hv=>l.2.2 i j u v g c d ((e i c).1▸k) ((e j d).1▸hv)⟩;refine(l.2.1 i u s ((e i c).1▸k) ((e i c).2▸p) c).go (bL.refl BE w) (fun _ h=>h.elim) (fun _ h=>h.elim) fun b f _=>.inl<|f.imp id<|a b
theorem SH.famL(h:SH w0 M K w hp)(j:Nat)(y:α)(a:hp j=.eY (bP R E (hat k) us (L.map N.sub))):SH w0 M K w (bY hp j (.eY (bP R E (hat k) us ((L.set k y).map N.sub)))):=by
  refine h.famRe j a ?_ fun i b=>⟨Z,?_⟩
  · rw[cH,cp];exact h.jX j a
  · rw[hJ,dR (fun e=>b e.symm)]
theorem SH.famU(h:SH w0 M K w hp)(j:Nat)(u:al)(a:hp j=.eY (bP R E (hat k) us ss)):SH w0 M K w (bY hp j (.eY (bP R E (hat k) (us.set k u) ss))):=by
  refine h.famRe j a ?_ fun i b=>⟨?_,Z⟩
  · rw[cp];exact(h.Yf j a).1
  · rw[dR (fun e=>b e.symm)]
theorem SH.famOpen(h:SH w0 M K w hp)(j m:Nat)(A:hp j=.eY (bP R E ho us ss))(F:hp m=.no)(n:j≠m)(f:us[k]? =ak u)(C:ss[k]? =ak s)(o:¬ho k)(ho':Nat->Prop)(g:∀i,ho' i↔ho i\/i=k):
    SH w0 M K w (bY (bY hp j (.eY (bP R E ho' us ss))) m (.own R E u s)):=by
  have l:=h.Yf j A;have c:∀b,Hm ho' us b->Hm ho us b:=fun b⟨i,u,p,d,x⟩=>⟨i,u,p,fun h=>d ((g i).2<|.inl h),x⟩;have r:(Chunk.two (.eY<|bP R E ho' us ss)<|.own R E u s).holds w M (SH.av hp j<|Chunk.two (.eY<|bP R E ho' us ss)<|.own R E u s):=by
    refine⟨⟨l.1,fun i v t hv B z=>?_,fun i j u v q z y f hv=>l.2.2 i j u v q (fun h=>z ((g i).2<|.inl h)) (fun h=>y ((g j).2<|.inl h)) f hv⟩,?_,?_⟩
    · refine(l.2.1 i v t hv B fun h=>z ((g i).2<|.inl h)).go (bL.refl BE w) (fun _ h=>h.elim) (fun _ h=>h.elim) fun b a _=>.inl ?_;rcases a with(a|a|a)|a
      · exact .inl<|.inl a
      · exact .inl<|.inr<|lU a
      · rcases a with a|a
        · exact .inr<|c b a
        · exact .inr ⟨k,u,f,o,a⟩
      · exact .inr<|c b a
    · refine(l.2.1 k u s f C o).go (bL.refl BE w) (fun _ h=>h.elim) (fun _ h=>h.elim) fun b a _=>.inl ?_;rcases a with a|a|a
      · exact .inl<|.inl a
      · exact .inl<|.inr<|lU a
      · rcases a with a|a
        · exact .inr<|c b a
        · exact .inr ⟨k,u,f,o,a⟩
    · rintro b⟨i,v,p,d,x⟩a;exact l.2.2 i k v u (fun e=>d ((g i).2<|.inr e)) (fun h=>d ((g i).2<|.inl h)) o p f b x a
  have p:=h.step j (bL.refl BE w) (fun _ h=>h.elim) (fun b a _=>by
    rw[A];rcases a with a|a
    · exact c b a
    · exact⟨k,u,f,o,a⟩) r
  have d:=p.unpair j m n (bZ _ _ _) (by rw[eD (Ne.symm n)];exact F);rw[ET]at d;exact d
theorem SH.Lj(h:SH w0 M K w hp)(j m:Nat)(X:hp j=.eY (bP R E ho us ss))(Q:hp m=.own R E u s)(P:j≠m)(x:us[k]? =ak u)(hk:ho k)(ho':Nat->Prop)(h':∀i,ho i↔ho' i\/i=k)(O:¬ho' k):
    SH w0 M K w (bY (bY hp m .no) j (.eY (bP R E ho' us (ss.set k s)))):=by
  have p:=h.pair j m P;have a:∀i,¬ho' i->i=k\/¬ho i:=fun i F=>by
    by_cases e:i=k
    · exact .inl e
    · exact .inr fun h=>((h' i).1 h).elim F e
  have n:∀b,Hm ho' us b->Hm ho us b\/ob u b:=fun b⟨i,v,p,r,G⟩=>by
    rcases a i r with rfl|h4
    · rw[x]at p;cases p;exact .inr G
    · exact .inl ⟨i,v,p,h4,G⟩
  have N:∀b,Hm ho us b\/ob u b->Hm ho' us b:=fun b d=>by
    rcases d with⟨i,v,p,r,G⟩|d
    · exact⟨i,v,p,fun h=>r ((h' i).2<|.inl h),G⟩
    · exact⟨k,u,x,O,d⟩
  have l:=p.ok j;have S:bY (bY hp m .no) j (.two (hp j)<|hp m)=bY (bY hp m .no) j (.two (.eY<|bP R E ho us ss)<|.own R E u s):=by rw[X,Q]
  rw[bZ,X,Q]at l;have r:=p.step (c:=.eY (bP R E ho' us (ss.set k s))) j (bL.refl BE w) (fun _ h=>h.elim) (fun b d _=>by
    rw[bZ,X,Q];exact n b d) ?_
  · rw[ET]at r;exact r
  · rw[S];have hA:∀b,(M b\/SH.av (bY (bY hp m .no) j<|.two (.eY<|bP R E ho us ss)<|.own R E u s) j (.eY<|bP R E ho' us<|ss.set k s) b)\/Hm ho' us b->(M b\/iT (bY (bY hp m .no) j<|.two (.eY<|bP R E ho us ss)<|.own R E u s) b):=by
      have z:∀b,Hm ho' us b->iT (bY (bY hp m .no) j (.two (.eY (bP R E ho us ss)) (.own R E u s))) b:=fun b d=>⟨j,by rw[bZ];exact n b d⟩;rintro b((d|d|d)|d)
      · exact .inl d
      · exact .inr<|lU d
      · exact .inr<|z b d
      · exact .inr<|z b d
    refine⟨by rw[cp];exact l.1.1,fun i v t hv L F=>?_,fun i o v v' C F B hv g b d q=>?_⟩
    · by_cases e:i=k
      · subst e;rw[x]at hv;cases hv;have T:i<ss.length:=by
          obtain⟨s',y⟩:=l.1.at x;rcases cI i ss.length with h|h
          · exact h
          · rw[bt h]at y;cases y
        rw[iB T]at L;cases L;refine cK.go l.2.1 (bL.refl BE w) (fun _ h=>h.elim) (fun _ h=>h.elim) fun b d _=>.inl<|hA b d
      · rw[dR (fun h=>e h.symm)]at L;have f:¬ho i:=(a i F).resolve_left e;refine(l.1.2.1 i v t hv L f).go (bL.refl BE w) (fun _ h=>h.elim) (fun _ h=>h.elim) fun b d _=>.inl<|.inl<|hA b d
    · by_cases e:i=k
      · have I:o≠k:=fun h=>C<|e.trans h.symm;have f:¬ho o:=(a o B).resolve_left I;subst e;rw[x]at hv;cases hv;exact l.2.2 b ⟨o,v',g,f,q⟩ d
      · have f:¬ho i:=(a i F).resolve_left e;by_cases I:o=k
        · subst I;rw[x]at g;cases g;exact l.2.2 b ⟨i,v,hv,f,d⟩ q
        · have A:¬ho o:=(a o B).resolve_left I;exact l.1.2.2 i o v v' C f A hv g b d q
end
open Go.RowKit Go.Proofs
section
variable{α β:Type}{N:RO α β}{R:lT β}{E Es T:ba}{w0 w w':ao}{M K A:BS}{hp:Nat->Chunk}{v u u':al}{us us' wO:ZD al}{L L':ZD α}{ss ss' ss2:ZD (ZD β)}{s:ZD β}{x y:α}{k:Nat}{ho ho':Nat->Prop}
theorem M7{a:Type}{l:ZD a}{z:a}(h:l[k]? =ak z):k<l.length:=by
  rcases cI k l.length with h1|h1
  · exact h1
  · rw[bt h1]at h;cases h
theorem SH.dnOpen(h:SH w0 M K w hp)(j m:Nat)(c:hp j=.eY (bP R Es hn us (L.map N.sub)))(f:hp m=.no)(b:j≠m)(d:L[k]? =ak x):
  ∃u,us[k]? =ak u/\SH w0 M K w (bY (bY hp j (.eY (bP R Es (hat k) us (L.map N.sub)))) m (.own R Es u (N.sub x))):=by
 have e:=h.jX j c;have a:=M7 d;exact⟨us[k]'(e▸a),bc _,h.famOpen j m c f b (bc _) (by rw[ej,d];rfl) (fun h=>h) _ (fun i=>⟨.inr,fun h=>h.elim (fun h=>h.elim) id⟩)⟩
theorem SH.BM(h:SH w0 M K w hp)(i j m:Nat)(y:α)(o:hp i=.own N.raw E v (L.zip us))(l:hp j=.eY (bP R Es (hat k) us (L.map N.sub)))(q:hp m=.own R Es u s)(a:i≠j)(c:i≠m)(b:j≠m)(n:L[k]? =ak x)(g:us[k]? =ak u)(d:y=N.put x s):
  SH w0 M K w (bY (bY (bY hp m .no) j (.eY (bP R Es hn us ((L.set k y).map N.sub)))) i (.own N.raw E v ((L.set k y).zip us))):=by
 have p:=h.Lj j m l q b g Z hn (fun i=>⟨.inr,fun h=>h.elim (fun h=>h.elim) id⟩) fun h=>h;have f:=p.rawRe (N:=N) (x:=x) (y:=y) (k:=k) (E:=E) (v:=v) i (by rw[eD a,eD c];exact o) n (fun u=>by rw[d];exact N.T9 _ _ _);have e:(L.map N.sub).set k s=(L.set k y).map N.sub:=by rw[hJ,d,N.Ua]
 rw[e]at f;exact f
theorem SH.mG(h:SH w0 M K w hp)(j m:Nat)(d:hp j=.eY (bP R Es (hat k) us (L.map N.sub)))(l:hp m=.own R Es u s)(a:j≠m)(f:L[k]? =ak x)(c:us[k]? =ak u)(g:N.sub x=s):
  SH w0 M K w (bY (bY hp m .no) j (.eY (bP R Es hn us (L.map N.sub)))):=by
 have b:=h.Lj j m d l a c Z hn (fun i=>⟨.inr,fun h=>h.elim (fun h=>h.elim) id⟩) fun h=>h;have e:(L.map N.sub).set k s=L.map N.sub:=CF (by rw[ej,f,<-g];rfl);rw[e]at b;exact b
theorem SH.famNew(h:SH w0 M K w hp)(m:Nat)(g:hp m=.own R Es u s):SH w0 M K w (bY hp m (.eY (bP R Es hn [u] [s]))):=by
  have ho:=h.ok m;rw[g]at ho;have a:∀b,Hm hn [u] b->ob u b:=by
    rintro b⟨i,v,f,_,k⟩;cases i with
    |zero=>cases f;exact k
    |succ i=>cases f
  refine h.step m (bL.refl BE w) (fun _ h=>h.elim) (fun b c _=>by rw[g];exact a b c) ⟨Z,fun i v t hv e _=>?_,fun i j v t d _ _ hv e=>?_⟩
  · cases i with
    |succ i=>cases hv
    |zero=>
      cases hv;cases e;refine cK.go ho (bL.refl BE w) (fun _ h=>h.elim) (fun _ h=>h.elim) fun b c _=>?_;rcases c with(c|c|c)|c
      · exact .inl<|.inl c
      · exact .inl<|.inr<|lU c
      · exact .inr<|a b c
      · exact .inr<|a b c
  · cases i with
    |zero=>cases j with
      |zero=>exact ZJ Z d
      |succ j=>cases e
    |succ i=>cases hv
theorem SH.famNil(h:SH w0 M K w hp)(j:Nat):SH w0 M K w (bY hp j (.eY (bP R Es hn [] []))):=
  h.learn j (bL.refl BE w) (by rintro b ⟨i,u,a,_⟩;cases a) (by
    refine⟨Z,?_,?_⟩
    · intro i v t hv;cases hv
    · intro i j v t _ _ _ hv;cases hv)
theorem SH.Ho(h:SH w0 M K w hp)(j m:Nat)(B:hp j=.eY (bP R Es hn us ss))(C:hp m=.eY (bP R Es hn wO ss2))(u:j≠m):SH w0 M K w (bY (bY hp m .no) j (.eY (bP R Es hn (us++wO) (ss++ss2)))):=by
  have e:=h.pair j m u;have g:=e.ok j;rw[B,C]at e;rw[bZ,B,C]at g;have l:∀b,Hm hn (us++wO) b->Hm hn us b\/Hm hn wO b:=by
    rintro b⟨i,v,e,_,n⟩;rw[gR]at e;split at e
    · exact .inl ⟨i,v,e,fun h=>h,n⟩
    · exact .inr ⟨_,v,e,fun h=>h,n⟩
  have s:∀b,Hm hn us b\/Hm hn wO b->Hm hn (us++wO) b:=by
    rintro b(⟨i,v,e,_,n⟩|⟨i,v,e,_,n⟩)
    · exact⟨i,v,by rw[ks (M7 e)];exact e,fun h=>h,n⟩
    · exact⟨us.length+i,v,by rw[gS V,Nat.add_sub_cancel_left];exact e,fun h=>h,n⟩
  have z:=e.step (c:=.eY (bP R Es hn (us++wO) (ss++ss2))) j (bL.refl BE w) (fun _ h=>h.elim) (fun b a _=>by rw[bZ];exact l b a) ?_
  · rw[ET]at z;exact z
  · have A:∀b,(M b\/SH.av (bY (bY hp m .no) j<|.two (.eY<|bP R Es hn us ss)<|.eY<|bP R Es hn wO ss2) j (.eY<|bP R Es hn (us++wO)<|ss++ss2) b)\/Hm hn (us++wO) b->(M b\/iT (bY (bY hp m .no) j<|.two (.eY<|bP R Es hn us ss)<|.eY<|bP R Es hn wO ss2) b):=by
      have p:∀b,Hm hn (us++wO) b->iT (bY (bY hp m .no) j (.two (.eY (bP R Es hn us ss)) (.eY (bP R Es hn wO ss2)))) b:=fun b a=>⟨j,by rw[bZ];exact l b a⟩;rintro b((a|a|a)|a)
      · exact .inl a
      · exact .inr<|lU a
      · exact .inr<|p b a
      · exact .inr<|p b a
    have E:=g.1.1;have F:=g.2.1.1;refine⟨by simp only[bj];omega,fun i v t hv o _=>?_,fun i x v r y _ _ hv d b a k=>?_⟩
    · rw[gR]at hv o;by_cases q:i<us.length
      · rw[Z2 q]at hv;rw[Z2 V]at o;exact(g.1.2.1 i v t hv o fun h=>h).go (bL.refl BE w) (fun _ h=>h.elim) (fun _ h=>h.elim) fun b a _=>.inl<|.inl<|A b a
      · rw[Z3 q]at hv;rw[Z3 V,<-E]at o;exact(g.2.1.2.1 _ v t hv o fun h=>h).go (bL.refl BE w) (fun _ h=>h.elim) (fun _ h=>h.elim) fun b a _=>.inl<|.inl<|A b a
    · rw[gR]at hv d;by_cases q:i<us.length
      · rw[Z2 q]at hv;by_cases f:x<us.length
        · rw[Z2 f]at d;exact g.1.2.2 i x v r y (fun h=>h) (fun h=>h) hv d b a k
        · rw[Z3 f]at d;exact g.2.2 b ⟨_,v,hv,fun h=>h,a⟩ ⟨_,r,d,fun h=>h,k⟩
      · rw[Z3 q]at hv;by_cases f:x<us.length
        · rw[Z2 f]at d;exact g.2.2 b ⟨_,r,d,fun h=>h,k⟩ ⟨_,v,hv,fun h=>h,a⟩
        · rw[Z3 f]at d;exact g.2.1.2.2 _ _ v r V (fun h=>h) (fun h=>h) hv d b a k
theorem SH.famTake(h:SH w0 M K w hp)(j n:Nat)(m:hp j=.eY (bP R Es hn us (L.map N.sub))):SH w0 M K w (bY hp j (.eY (bP R Es hn (us.take n) ((L.take n).map N.sub)))):=by
  have d:=h.Yf j m;have hat:∀(i:Nat) (u:al),(us.take n)[i]? =ak u->us[i]? =ak u/\i<n:=fun i u a=>by
    rw[cf]at a;split at a
    · exact⟨a,by assumption⟩
    · cases a
  have c:∀b,Hm hn (us.take n) b->Hm hn us b:=fun b⟨i,u,r,o,q⟩=>⟨i,u,(hat i u r).1,o,q⟩;refine h.M6 j m ?_ (bL.refl _ _) fun b e _=>c b e;have p:=d.1;rw[cH]at p;refine⟨by rw[cd,cH,cd];omega,fun i u s a l k=>?_,fun i j u v f k g a hv=>d.2.2 i j u v f k g (hat i u a).1 (hat j v hv).1⟩;rw[List.map_take,cf,Z2 (hat i u a).2]at l;refine(d.2.1 i u s (hat i u a).1 l k).go (bL.refl BE w) (fun _ h=>h.elim) (fun _ h=>h.elim) fun b e _=>.inl<|e.imp id<|c b
theorem zip_take'(n:Nat):(L.zip us).take n=(L.take n).zip (us.take n):=by
 apply dp;intro i;simp only[mN,cf,ml];split<;>rfl
theorem Kg{a:ZD α}(h:us.length=L.length):(L.zip us)++(a.zip wO)=(L++a).zip (us++wO):=(List.zip_append h.symm).symm
theorem vK{P:ca}{ρ:bo->al}{d:Zs Nat}{ty:ba}{pos:String}{af:Array hY}{g:Zs (Nat×Ys)}{a:bo}{e:Nat}{B A:BS}{i:ao}(f:SliceOf P T E e)(b:ρ a=v)(hv:eO N.raw i B A v (L.zip us))(c:us.length=L.length):
  (bk ρ ⟨d,.call {callee:=.builtin .len,args:= #[a],argTypes:= #[T]},ty,pos,af,g⟩).run P w=.ok (.value (.int .i64 L.length)) w:=by
 have h:=gY (P:=P) (w:=w) (d:=d) (ty:=ty) (pos:=pos) (af:=af) (g:=g) f b hv;rw[gN c]at h;exact h
theorem SH.Ll{R':lT α}(h:SH w0 M K w hp)(i j:Nat)(t:hp i=.own N.raw E v (L.zip us))(l:hp j=.eY (bP R Es hn us (L.map N.sub)))(r:i≠j)(s:R'.sz=N.sz)(br:∀w A x u,dx R w A u (N.sub x)->R'.rd w A (N.enc x u) x):SH w0 M K w (bY (bY hp j .no) i (.rd R' v L)):=by
  have p:=h.jX j l;have m:=h.pair i j r;have g:=m.apart i;have G:=m.apM i;have n:=m.ok i;rw[bZ]at g G;rw[bZ,t,l]at n;have y:=m.step (c:=.rd R' v L) i (bL.refl BE w) (fun _ h=>h.elim) (fun b d _=>d.elim) ?_
  · rw[ET]at y;exact y
  · have hno:∀b,(hp i).own' b\/(hp j).own' b->¬(M b\/SH.av (bY (bY hp j .no) i<|.two (hp i)<|hp j) i (.rd R' v L) b):=by
      intro b d f;rcases f with f|⟨q,k,f⟩|f
      · exact G b d f
      · exact g q (fun e=>k e.symm) b d f
      · exact f
    have I:∀b,(M b\/SH.av (bY (bY hp j .no) i<|.two (hp i)<|hp j) i (.rd R' v L) b)->M b\/iT (bY (bY hp j .no) i<|.two (.own N.raw E v<|L.zip us)<|.eY<|bP R Es hn us<|L.map N.sub) b:=by
      rw[t,l];rintro b(d|d|d)
      · exact .inl d
      · exact .inr<|lU d
      · exact d.elim
    have hr:dx N.raw w (fun b=>M b\/SH.av (bY (bY hp j .no) i<|.two (hp i)<|hp j) i (.rd R' v L) b) v (L.zip us):=
      cK.rd n.1 (fun b d=>hno b (.inl (by rw[t];exact d))) (fun b d _=>.inl (I b d))
    obtain⟨a,cap,z,C,S,T,O⟩:=hr;rw[gN p]at z C;refine⟨a,cap,z,C,S,T,fun q k=>?_⟩;obtain⟨b,o,cells,F,Q,P,q2,q3,B⟩:=O q (by rw[gN p];exact k);refine⟨b,o,cells,F,Q,P,q2,q3,?_⟩;rw[s];have e6:(L.zip us)[q]'(by rw[gN p];exact k)=(L[q],us[q]'V):=by simp
    rw[e6]at B;obtain⟨X,_⟩:=B;have q6:((cells.toList.drop<|o+q*N.sz).take N.sz)=N.enc L[q] (us[q]'V):=X;rw[q6];refine br _ _ _ _ (cK.rd (n.2.1.2.1 q _ _ (bc V) (by rw[ej,bc k];rfl) (fun h=>h)) (fun b d=>hno b (.inr (by rw[l];exact⟨q,_,bc V,fun h=>h,d⟩))) (fun b d _=>.inl (.inl (I b d))))
theorem SH.moveC(h:SH w0 M K w hp)(j i:Nat){c:Chunk}(t:hp j=c)(u:hp i=.no)(s:j≠i):SH w0 M K w (bY (bY hp j .no) i c):=by
  subst t;have f:∀x b,(bY (bY hp j .no) i (hp j) x).own' b->∃y,(hp y).own' b/\(x=i->y=j)/\(x≠i->y=x/\x≠j):=by
    intro x b a;by_cases e:x=i
    · subst e;rw[bZ]at a;exact⟨j,a,fun _=>rfl,fun h=>ZJ Z h⟩
    · rw[eD e]at a;by_cases d:x=j
      · subst d;rw[bZ]at a;exact a.elim
      · rw[eD d]at a;exact⟨x,a,fun h=>ZJ h e,fun _=>⟨Z,d⟩⟩
  have g:∀b,iT (bY (bY hp j .no) i<|hp j) b->iT hp b:=fun b⟨x,m⟩=>let ⟨y,k,_⟩:=f x b m;⟨y,k⟩;refine⟨h.keep,h.ltM,fun x b a=>let ⟨y,k,_⟩:=f x b a;h.apM y b k,fun x=>?_,fun x y l b m k=>?_,fun x b a=>let ⟨y,k,_⟩:=f x b a;h.old y b k⟩
  · by_cases e:x=i
    · subst e;rw[bZ];exact Chunk.sub (h.ok j) fun b a _=>g b a
    · rw[eD e];by_cases d:x=j
      · subst d;rw[bZ];trivial
      · rw[eD d];exact Chunk.sub (h.ok x) (fun b a _=>g b a)
  · obtain⟨x',r,q,o⟩:=f x b m;obtain⟨p,k1,k2,n⟩:=f y b k;have:x'≠p:=by
      by_cases e:x=i
      · have d:y≠i:=fun h=>l<|e.trans h.symm;rw[q e,(n d).1];exact fun h=>(n d).2 h.symm
      · by_cases d:y=i
        · rw[k2 d,(o e).1];exact(o e).2
        · rw[(o e).1,(n d).1];exact l
    exact h.apart x' p this b r k1
def dz(β:Type):RO (ZD β) β where
 sz:=1
 enc _ u:=[u]
 sub x:=x
 put _ s:=s
 len _ _:=rfl
 one:=by intro x u h c hc;simp at hc;subst hc;exact h
 pos:=by decide
 T9 _ _ _:=rfl
 Ua _ _:=rfl
theorem Uc{R:lT β}:∀w A (x:ZD β) u,dx R w A u ((dz β).sub x)->(yE R).rd w A ((dz β).enc x u) x:=fun _ _ _ u h=>⟨u,rfl,h⟩
end
open Go.RowKit Go.Proofs
section
variable{P:ca}{w:ao}{ρ:bo->al}{d:Zs Nat}{ty:ba}{pos:String}{af:Array hY}{g:Zs (Nat×Ys)}{T:ba}{x y:bo}
theorem SH.Kh{α β:Type}{N:RO α β}{R:lT β}{E:ba}{w0:ao}{M K:BS}{hp:Nat->Chunk}{u:al}{s:ZD β}(h:SH w0 M K w hp)(m:Nat)(x:α)(a:hp m=.own R E u s)(b:N.sub x=s):SH w0 M K w (bY hp m (.eY (bP R E hn [u] (List.map N.sub [x])))):=by
 subst b;exact h.famNew m a
theorem us_at{α:Type}{us:ZD al}{L:ZD α}{k:Nat}{z:α}(h:us.length=L.length)(a:L[k]? =ak z):∃u,us[k]? =ak u:=by
 have:=M7 a;exact⟨us[k]'(h▸this),bc _⟩
end
open Go.RowKit Go.Proofs
section
variable{α:Type}{R:lT α}{E:ba}{w0 w w':ao}{M K:BS}{hp:Nat->Chunk}{C C':Chunk}{v:al}{l:ZD α}
theorem qZ:∀b,iT (bY hno 1 C) b->C.own' b:=by
  rintro b⟨j,a⟩;by_cases e:j=1
  · subst e;rw[bZ]at a;exact a
  · rw[eD e]at a;exact a.elim
theorem ja{i:Nat}(hn:∀b,iT hp b->C.own' b):∀b,iT (bY hp i (.rd R v l)) b->C.own' b:=by
  rintro b⟨j,a⟩;by_cases e:j=i
  · subst e;rw[bZ]at a;exact a.elim
  · rw[eD e]at a;exact hn b ⟨j,a⟩
theorem SH.ky(h:SH w M K w hp)(i:Nat)(ho:dx R w (fun b=>M b\/C.own' b) v l)(hn:∀b,iT hp b->C.own' b):SH w M K w (bY hp i (.rd R v l)):=
 h.aK i (ho.sub (fun b a _=>a.imp id (hn b)) (fun b a _=>a.imp id (hn b)))
theorem SH.lendS(h:SH w0 M K w hp)(i:Nat)(c:hp i=C)(a:C.TU):C.holds w (fun b=>M b\/rest hp i b) C.own'/\(∀b,C.own' b->¬(M b\/rest hp i b))/\(∀b,(M b\/rest hp i b)->b<w.heap.size):=by
 subst c;exact h.lendC i a
theorem SH.xZ(h:SH w0 M K w hp)(i j:Nat)(d:hp j=.rd R v l)(e:hp i=C):dx R w (fun b=>(M b\/rest hp i b)\/C.own' b) v l:=by
  have c:∀b,(M b\/rest hp i b)\/C.own' b->SH.A M hp b:=by
    rintro b((a|a)|a)
    · exact .inl a
    · exact .inr<|lU a
    · exact .inr ⟨i,by rw[e];exact a⟩
  exact(h.bz j d).sub (fun b a _=>c b a) fun b a _=>c b a
theorem SH.back(h:SH w0 M K w hp)(i:Nat)(c:hp i=C)(a:C'.TU)(e:C'.holds w' (fun b=>M b\/rest hp i b) C'.own')(d:bL C.own' w w')(hn:∀b,C'.own' b->b<w.heap.size->C.own' b):SH w0 M K w' (bY hp i C'):=by
 subst c;exact h.givenC i a e d hn
theorem fI{i:Nat}(h:dx R w (fun b=>(M b\/rest hp i b)\/C.own' b) v l):dx R w (SH.A M (bY hp i C)) v l:=by
  have a:∀b,SH.A M (bY hp i C) b->(M b\/rest hp i b)\/C.own' b:=by
    rintro b(c|⟨j,d⟩)
    · exact .inl<|.inl c
    · by_cases e:j=i
      · subst e;rw[bZ]at d;exact .inr d
      · rw[eD e]at d;exact .inl (.inr ⟨j,e,d⟩)
  exact h.sub (fun b c _=>a b c) fun b c _=>a b c
theorem SH.bX(h:SH w0 M K w hp)(i j:Nat)(d:hp j=.rd R v l)(e:hp i=C):dx R w (fun b=>M b\/C.own' b) v l:=by
  have c:∀b,M b\/C.own' b->SH.A M hp b:=by
    rintro b(a|a)
    · exact .inl a
    · exact .inr ⟨i,by rw[e];exact a⟩
  exact(h.bz j d).sub (fun b a _=>c b a) fun b a _=>c b a
theorem SH.outS(h:SH w0 M K w hp)(i:Nat)(c:hp i=C)(a:C.TU):C.holds w M C.own'/\bL K w0 w/\(∀b,C.own' b->b<w0.heap.size->K b):=h.outC i c a
end
section
variable{P:ca}{ops:Array ei}{Q:fl->Act->ao->Prop}{n:Nat}{env:Nat->al}{w:ao}
theorem At.hold{w w':ao}{L:BS}{b o:Nat}{cs:ZD al}(h:At w b o cs)(c:bL L w w')(hn:¬L b):At w' b o cs:=by
 obtain⟨cells,E,a,e,d⟩:=h;exact⟨cells,E,a,c.blk e hn,d⟩
theorem fin4{g:Func}{R:Ending->ao->Prop}{t u a c:Tmp}{v1 v2 v3 v4:al}(m:g.results= #[.tmp t,.tmp u,.tmp a,.tmp c])(l:ev n env (.tmp t)=v1)(i:ev n env (.tmp u)=v2)(j:ev n env (.tmp a)=v3)(k:ev n env (.tmp c)=v4)(h:R (.returned (.tuple #[v1,v2,v3,v4])) w):jF P g R .ret (act n env) w:=by
 refine⟨Z,_,?_,h⟩;have b:=congrFun (gX n env)<|.tmp t;have e:=congrFun (gX n env)<|.tmp u;have d:=congrFun (gX n env)<|.tmp a;have f:=congrFun (gX n env)<|.tmp c;rw[l]at b;rw[i]at e;rw[j]at d;rw[k]at f;simp only[Act.eval]at b e d f;rw[cV]at b e d f;unfold results;rw[m];simp[b,e,d,f]
end
structure Ins where
 op:Int
 a:Int
 b:Int
 c:Int
 args:List Int
deriving DecidableEq
def lN:lT Ins where
 sz:=5
 rd w A cs x:=∃Yg,cs=[.int .i64 x.op,.int .i64 x.a,.int .i64 x.b,.int .i64 x.c,Yg]/\dx dm w A Yg x.args
 len:=by rintro w A cs x ⟨Yg,rfl,h0⟩;rfl
 one:=by rintro w A cs x ⟨Yg,rfl,h0⟩ u hu;simp only[bm,di,or_false]at hu;rcases hu with rfl|rfl|rfl|rfl|rfl<;>first|rfl|exact h0.one
 pos:=by decide
 go:=by rintro w A cs x w2 A2 K ⟨Yg,rfl,h0⟩ hk hK hA;exact⟨_,Z,h0.go hk hK hA⟩
theorem Lm{w:ao}{A:BS}{cs:ZD al}{x:Ins}(h:lN.rd w A cs x):∃d,cs=[.int .i64 x.op,.int .i64 x.a,.int .i64 x.b,.int .i64 x.c,d]/\dx dm w A d x.args:=h
structure aX where
 params:Int
 regs:Int
 code:List Ins
deriving DecidableEq
def dJ:lT aX where
 sz:=3
 rd w A cs x:=∃Yh,cs=[.int .i64 x.params,.int .i64 x.regs,Yh]/\dx lN w A Yh x.code
 len:=by rintro w A cs x ⟨Yh,rfl,h0⟩;rfl
 one:=by rintro w A cs x ⟨Yh,rfl,h0⟩ u hu;simp only[bm,di,or_false]at hu;rcases hu with rfl|rfl|rfl<;>first|rfl|exact h0.one
 pos:=by decide
 go:=by rintro w A cs x w2 A2 K ⟨Yh,rfl,h0⟩ hk hK hA;exact⟨_,Z,h0.go hk hK hA⟩
theorem xJ{w:ao}{A:BS}{cs:ZD al}{x:aX}(h:dJ.rd w A cs x):∃a,cs=[.int .i64 x.params,.int .i64 x.regs,a]/\dx lN w A a x.code:=h
structure Frame where
 proc:Int
 at_:Int
 regs:List Val
 iF:Int
deriving DecidableEq
def jQ:lT Frame where
 sz:=4
 rd w A cs x:=∃Yi,cs=[.int .i64 x.proc,.int .i64 x.at_,Yi,.int .i64 x.iF]/\dx bJ w A Yi x.regs
 len:=by rintro w A cs x ⟨Yi,rfl,h0⟩;rfl
 one:=by rintro w A cs x ⟨Yi,rfl,h0⟩ u hu;simp only[bm,di,or_false]at hu;rcases hu with rfl|rfl|rfl|rfl<;>first|rfl|exact h0.one
 pos:=by decide
 go:=by rintro w A cs x w2 A2 K ⟨Yi,rfl,h0⟩ hk hK hA;exact⟨_,Z,h0.go hk hK hA⟩
theorem FW{w:ao}{A:BS}{cs:ZD al}{x:Frame}(h:jQ.rd w A cs x):∃a,cs=[.int .i64 x.proc,.int .i64 x.at_,a,.int .i64 x.iF]/\dx bJ w A a x.regs:=h
structure State where
 frames:List Frame
 cells:List (List Val)
 status:Int
 bU:Int
deriving DecidableEq
def Lp:RO aX Ins where
 sz:=3
 enc x u:=[.int .i64 x.params,.int .i64 x.regs,u]
 sub x:=x.code
 put x s:={x with code:=s}
 len _ _:=rfl
 one:=by intro x u h c hc;simp only[bm,di,or_false]at hc;rcases hc with rfl|rfl|rfl<;>first|rfl|exact h
 pos:=by decide
 T9 _ _ _:=rfl
 Ua _ _:=rfl
theorem nProc_br:∀w A (x:aX) u,dx lN w A u (Lp.sub x)->dJ.rd w A (Lp.enc x u) x:=fun _ _ _ u h=>⟨u,rfl,h⟩
def aS:RO Frame Val where
 sz:=4
 enc x u:=[.int .i64 x.proc,.int .i64 x.at_,u,.int .i64 x.iF]
 sub x:=x.regs
 put x s:={x with regs:=s}
 len _ _:=rfl
 one:=by intro x u h c hc;simp only[bm,di,or_false]at hc;rcases hc with rfl|rfl|rfl|rfl<;>first|rfl|exact h
 pos:=by decide
 T9 _ _ _:=rfl
 Ua _ _:=rfl
theorem Lr:∀w A (x:Frame) u,dx bJ w A u (aS.sub x)->jQ.rd w A (aS.enc x u) x:=fun _ _ _ u h=>⟨u,rfl,h⟩
open Go.RowKit Go.Proofs
section
variable{P:ca}{ops:Array ei}{Q:fl->Act->ao->Prop}{n:Nat}{env:Nat->al}{w w' w0:ao}{M K:BS}{hp:Nat->Chunk}{rest:ZD ei}
 {d:Zs Nat} {op:Op} {ty:ba} {pos:String} {af:Array hY} {v:al} {g:Zs (Nat×Ys)} {T:ba} {ρ:bo->al} {x y:bo}
theorem fin_c{e:Func}{R:Ending->ao->Prop}{a:Tmp}{T:ba}{zs vs:ZD al}{b:Nat}(m:e.results= #[.cell a T])(g:ev n env (.tmp a)=.pointer (ak ⟨b,0,ar⟩))
  (f:SH w0 M K w hp) (i:Nat) (l:hp i=.blk b vs) (k:xy P T zs) (j:vs.length=zs.length) (h:R (.returned (.agg vs.toArray)) w):jF P e R .ret (act n env) w:=by
 refine⟨Z,_,?_,h⟩;have c:=congrFun (gX n env)<|.tmp a;rw[g]at c;simp only[Act.eval]at c;rw[cV]at c;have d:=Dq (P:=P) f l k j Z;unfold results;rw[m];simp[c,asAddr,d]
end
theorem cutS_free{c:UInt8}{s:Str}(h:c∉s)(a:s.length<4294967281):cutS s [c]=ak (s,[],aq):=by
  unfold cutS;rw[kz a];rcases idx1 c s with⟨h1,h2⟩|⟨x,r,h1,h2,h3⟩
  · unfold nk;rw[h1,Z3 zq1]
  · exact ZJ (by rw[h1];simp) h
theorem cutS_hit{c:UInt8}{x r:Str}(h:c∉x)(a:(x++c::r).length<4294967281):cutS (x++c::r) [c]=ak (x,r,aT):=by
  unfold cutS;rw[kz a];rcases idx1 c (x++c::r)with⟨h1,h2⟩|⟨y,q,h1,h2,h3⟩
  · exact ZJ zq3 h2
  · have e:x=y/\r=q:=by
      have k1:=Cf (r:=r) h;have k2:=Cf (r:=q) h2;rw[<-h1,k1]at k2;injection k2 with k2 k3;subst k2;refine⟨Z,?_⟩;have:=List.append_cancel_left h1;injection this
    obtain⟨rfl,rfl⟩:=e;unfold nk;rw[h3,Z2 V];simp only[Int.toNat_natCast];rw[List.take_left,show x.length+[c].length=(x++[c]).length by simp,show x++c::r=(x++[c])++r by simp,List.drop_left]
theorem splitC_cons{c:UInt8}{s x y:Str}{l:ZD Str}(h:jP c s=x::y::l):∃r,s=x++c::r/\jP c r=y::l/\c∉x:=by
 have b:=(ES c s x (by rw[h];exact eV)).2;have a:=CE c s;rw[h,zn]at a;refine⟨wN c<|y::l,a.symm,?_,b⟩;rw[<-a,Cf b]at h;injection h
theorem splitC_single{c:UInt8}{s x:Str}(h:jP c s=[x]):s=x/\c∉x:=by
 have b:=(ES c s x (by rw[h];exact eV)).2;have a:=CE c s;rw[h,CB]at a;exact⟨a.symm,b⟩
open Go.RowKit Go.Proofs
def RngP{α:Type}(f:α->al)(m r:Nat)(c:Zs (Int×α))(left:ZD (Int×α))(w:ao):Prop:=
 m≠r/\∃d a b,w.heap[m]? =ak (.map d a)/\MX d a/\w.heap[r]? =ak (.mapIter (ak m) a b a)/\
  (kn d b).toList.map (fun e=>(e.key,e.val))=left.map (fun p=>(dq .i64 p.1,f p.2))/\
  ∀p,c=ak p->∃e∈d.toList,b.back?=ak e.born/\e.key=.int .i64 p.1/\e.val=f p.2
def rngS{α:Type}(f:α->al)(m r:Nat)(last:Zs (Int×α))(left:ZD (Int×α)):Pce where
  own x:=x=m\/x=r
  P w _:=RngP f m r last left w
  lt:=by
    rintro w A x⟨_,es,clock,seen,h1,_,h2,_⟩(rfl|rfl)
    · exact iR h1
    · exact iR h2
  go:=by
    rintro w w' A A' K⟨h0,es,clock,seen,h1,h2,h3,h4⟩hk hK hKo hA;exact⟨h0,es,clock,seen,hk.blk h1 fun h=>hKo m h<|.inl Z,h2,hk.blk h3 fun h=>hKo r h<|.inr Z,h4⟩
section
variable{P:ca}{ops:Array ei}{Q:fl->Act->ao->Prop}{n:Nat}{env:Nat->al}{w w' w0:ao}{M K:BS}{hp:Nat->Chunk}{rest:ZD ei}
 {d:Zs Nat} {op:Op} {ty:ba} {pos:String} {af:Array hY} {v:al} {g:Zs (Nat×Ys)} {T:ba} {ρ:bo->al} {x y:bo} {α:Type} {f:α->al}
theorem w_range{z:al}{m:Nat}{jM:ZD (Int×al)}(l:ZD (Int×α))(h:SH w0 M K w hp)(i:Nat)(t:hp i=.mp m jM)(B:MapOf P T z)(A:ev n env x=.map (ak m))(y:jM=l.map fun p=>(p.1,f p.2))
    (k:∀w' r,SH w0 M K w' (bY hp i (.eY (rngS f m r ar l)))->WL P ops Q rest n (gH env d (.pointer (ak ⟨r,0,ar⟩))) w'):WL P ops Q (⟨d,.range T x,ty,pos,af,ar⟩::rest) n env w:=by
  obtain⟨v,E,C,F,G⟩:=B.desc;obtain⟨e,a,o,q,j⟩:=h.mpAt i t;have c:(bk (ev n env) ⟨d,.range T x,ty,pos,af,ar⟩).run P w=.ok (.value<|.pointer<|some ⟨w.heap.size,0,ar⟩) (w.alloc<|.mapIter (ak m) a #[] a):=by
    simp only[bk,A];simp[run_range_map w T v E m e a C o]
  refine J c<|k _ _ ?_;have s:=iR o;refine h.step i (N:=BE) (Grow.alloc _ _) (fun _ h=>h.elim) (fun b g u=>?_) ?_
  · rw[t];rcases g with rfl|rfl
    · rfl
    · exact ZJ u<|Nat.lt_irrefl _
  · refine⟨Nat.ne_of_lt s,e,a,#[],by rw[(Grow.alloc _ _).blk o],j,heap_alloc_new _ _,?_,fun p h=>by cases h⟩;have:kn e #[]=e:=by unfold kn;exact pD.2 (fun x _=>by simp)
    rw[this,q,y,List.map_map];rfl
theorem YC{r:Nat}{a:Zs Nat}{s c:Nat}{b:Array Nat}(o:Obj)(d:w.heap[r]? =ak (.mapIter a s b c)):(setObj r o).run P w=.ok () (xz w r o):=by
 simp only[setObj,kq,d];rfl
theorem run_next_any(ty:ba){m r a:Nat}{f:Array MapEntry}{b:Array Nat}(A:w.heap[m]? =ak (.map f a))(u:w.heap[r]? =ak (.mapIter (ak m) a b a))(i:∀e∈f.toList,e.born<a):
    ((kn f b).size=0/\(Instr.next (.pointer (ak ⟨r,0,ar⟩)) aq ty).run P w=.ok (.tuple #[.bool aq]) w)\/
    ∃e∈(kn f b).toList,∃d:ao,(d=w\/d=w.drew)/\(Instr.next (.pointer (ak ⟨r,0,ar⟩)) aq ty).run P w=.ok (.tuple #[.bool aT,e.key,e.val]) (xz d r (.mapIter (ak m) a (b.push e.born) a)):=by
  have o:(lb r).run P w=.ok (.mapIter (ak m) a b a) w:=by simp[lb,kq,u]
  have p:(lb m).run P w=.ok (.map f a) w:=by simp[lb,kq,A]
  simp only[Instr.next,cy,o,p,bp,next_test_false b f a a i (bE _),cv,if_false];unfold kn;have c:∀x∈(tv (fun e=> !b.contains e.born) f).toList,x.born<a:=fun x g=>i x (by simp at g⊢;exact g.1);generalize tv (fun e=> !b.contains e.born) f=L at c⊢;have v:L.filter (fun x=>decide<|x.born<a)=L:=pD.2 (fun x g=>by simpa using c x (by simpa using g));have y:L.filter (fun x=>decide<|x.born≥a)= #[]:=by
    rw[Array.filter_eq_empty_iff];intro x g;have:=c x (by simpa using g);simp;omega
  simp only[v,y,Array.append_empty];by_cases t:L.size=0
  · left;have:L= #[]:=Array.eq_empty_of_size_eq_zero t;subst this;refine⟨Z,?_⟩;simp[choose,kq,nr]
  · right;have n:L.isEmpty=false:=by simp[Array.isEmpty,t]
    simp only[n,cv,if_false,Array.empty_append,Array.size_map];have q:∃(j:Nat) (d:ao),j<L.size/\(d=w\/d=w.drew)/\(choose<|Question.mapNext L.size).run P w=.ok j d:=by
      by_cases s:L.size<=1
      · exact⟨0,w,by omega,.inl Z,by simp[choose,kq,nr,s]⟩
      · exact⟨_,w.drew,Nat.mod_lt _ V,.inr Z,by
          simp only[choose,kq,nr,decide_eq_true_eq,s,if_false,Question.cut];rfl⟩
    obtain⟨j,d,z,h,k⟩:=q;refine⟨L[j],by simp,d,h,?_⟩;have l:d.heap[r]? =ak (.mapIter (ak m) a b a):=by rcases h with rfl|rfl<;>exact u
    simp only[k,Array.getElem?_map,Array.getElem?_eq_getElem z,dd,cy,YC _ l,bp];rfl
theorem leftOf_push(c:Array MapEntry)(a:Array Nat)(b:Nat):(kn c (a.push b)).toList=(kn c a).toList.filter (fun x=>x.born !=b):=by
 unfold kn;rw[jK,jK,List.filter_filter];apply List.filter_congr;intro x _;have:(a.push b).contains x.born=(a.contains x.born||(x.born==b)):=by
  rw[Bool.eq_iff_iff];simp[Array.contains_iff_mem]
 rw[this];cases a.contains x.born<;>cases hq:(x.born==b)<;>simp[bne,hq]
theorem w_next{m r:Nat}{t:Zs (Int×α)}{left:ZD (Int×α)}(h:SH w0 M K w hp)(i:Nat)(S:hp i=.eY (rngS f m r t left))(k:ev n env x=.pointer (ak ⟨r,0,ar⟩))
    (X:left=[]->WL P ops Q rest n (gH env d (.tuple #[.bool aq])) w)
    (k1:∀p g w',left.Perm (p::g)->SH w0 M K w' (bY hp i (.eY (rngS f m r (ak p) g)))->WL P ops Q rest n (gH env d (.tuple #[.bool aT,.int .i64 p.1,f p.2])) w'):
    WL P ops Q (⟨d,.next x aq,ty,pos,af,ar⟩::rest) n env w:=by
  have N:=h.ok i;rw[S]at N;obtain⟨s,q,a,c,L,E,O,C,h5⟩:=N;rcases run_next_any (P:=P) ty L O E.1 with⟨g1,g2⟩|⟨e,he,w1,hw1,g2⟩
  · have hl:left=[]:=by
      have:(kn q c).toList=[]:=cl (by simpa using g1);rw[this]at C;cases left with
      |nil=>rfl
      |cons p l=>cases C
    refine J (v:=.tuple #[.bool aq]) (w':=w) ?_<|X hl;simp only[bk,k];simp[g2]
  · obtain⟨A,B,o⟩:=List.append_of_mem he;rw[o,cL,cg]at C;obtain⟨R,l2,rfl,q1,q2⟩:=List.map_eq_append_iff.1 C.symm;obtain⟨p,T,rfl,z,q4⟩:=List.map_eq_cons_iff.1 q2;simp only[Prod.mk.injEq]at z;have y:=iR O;have j:Grow w w1:=by
      rcases hw1 with rfl|rfl
      · exact bL.refl _ _
      · exact⟨Z,Z,Z,bE _,fun _ _ _=>rfl⟩
    have hk:bL (fun x=>x=m\/x=r) w (xz w1 r<|.mapIter (ak m) a (c.push e.born) a):=bL.step (j.weaken fun _ h _=>h.elim) (bL.xz _ _ _) fun x k _=>.inr k;have F:(xz w1 r<|.mapIter (ak m) a (c.push e.born) a).heap[m]? =ak (.map q a):=by
      rw[(bL.xz w1 r _).block m s (cq (iR L) j.size),j.blk L]
    refine J (v:=.tuple #[.bool aT,.int .i64 p.1,f p.2]) (w':=xz w1 r<|.mapIter (ak m) a (c.push e.born) a) ?_<|k1 p (R++T) _ (List.perm_middle) ?_
    · rw[z.1,z.2];simp only[bk,k];simp[g2]
    · refine h.M6 (S':=rngS f m r (ak p)<|R++T) i S ?_ hk fun b hb _=>hb;refine⟨s,q,a,c.push e.born,F,E,wH<|cq y j.size,?_,fun p' G=>?_⟩
      · rw[leftOf_push,o];have u:((kn q c).toList.map (·.born)).Nodup:=by
          unfold kn;rw[jK];exact(E.2.sublist ((List.filter_sublist (l:=q.toList)).map _))
        rw[o,cL,cg,List.nodup_append]at u;obtain⟨n1,n2,n3⟩:=u;rw[List.filter_append,List.filter_cons_of_neg zq3,nd.2 (fun x k=>?_),nd.2 (fun x k=>?_),cL,cL,<-q1,<-q4]
        · have:=(sX.1 n2).1;simp only[bne_iff_ne,ne_eq,decide_not,gC,beq_eq_false_iff_ne];intro I;exact this (by rw[<-I];exact List.mem_map.2 ⟨x,k,Z⟩)
        · simp only[bne_iff_ne,ne_eq,decide_not,gC,beq_eq_false_iff_ne];intro I;exact n3 x.born (List.mem_map.2 ⟨x,k,Z⟩) e.born zq3 I
      · cases G;refine⟨e,?_,by simp,z.1.symm,z.2.symm⟩;have:e∈(kn q c).toList:=he;unfold kn at this;rw[jK]at this;exact(List.mem_filter.1 this).1
theorem r_entry{m r:Nat}{p:Int×α}{left:ZD (Int×α)}(h:SH w0 M K w hp)(i:Nat)(B:hp i=.eY (rngS f m r (ak p) left))(n:ρ x=.pointer (ak ⟨r,0,ar⟩)):
    (bk ρ ⟨d,.entry x,ty,pos,af,g⟩).run P w=.ok (.value (.tuple #[.int .i64 p.1,f p.2])) w:=by
  have l:=h.ok i;rw[B]at l;obtain⟨u,c,a,b,A,s,y,C,q⟩:=l;obtain⟨e,z,t,v,hv⟩:=q p Z;have k:(lb r).run P w=.ok (.mapIter (ak m) a b a) w:=by simp[lb,kq,y]
  have j:(lb m).run P w=.ok (.map c a) w:=by simp[lb,kq,A]
  have o:c.find? (·.born==e.born)=ak e:=by rw[<-Array.find?_toList];exact find_born e c.toList s.2 z
  simp only[bk,n];have:(Instr.entry<|.pointer<|some ⟨r,0,ar⟩).run P w=.ok (.tuple #[.int .i64 p.1,f p.2]) w:=by
    simp only[Instr.entry,cy,k,j,bp,t,bne_self_eq_false,cv,if_false,o];rw[v,hv];rfl
  simp[this]
theorem SH.rngForget{m r:Nat}{c:Zs (Int×α)}{left:ZD (Int×α)}(h:SH w0 M K w hp)(i:Nat)(j:hp i=.eY (rngS f m r c left)):SH w0 M K w (bY hp i (.eY (rngS f m r ar left))):=by
 have g:=h.ok i;rw[j]at g;obtain⟨e,k,a,d,s,l,q,n,t⟩:=g;exact h.M6 (S':=rngS f m r ar left) i j ⟨e,k,a,d,s,l,q,n,fun p h=>by cases h⟩ (bL.refl _ _) fun b o _=>o
end
def Zk{α σ:Type}(lx:α->σ->Zs σ):ZD α->σ->Zs σ
 |[],s=>ak s
 |a::l,s=>(lx a s).bind (Zk lx l)
def BN{α σ:Type}(lx:α->σ->Zs σ)(L:ZD α)(s fin:σ):Prop:=∀p,p.Perm L->Zk lx p s=ak fin
open Classical in
noncomputable def Ki{α σ:Type}(lx:α->σ->Zs σ)(L:ZD α)(s:σ):Zs σ:=if h:∃fin,BN lx L s fin then ak h.choose else ar
theorem o_fold{α σ:Type}{lx:α->σ->Zs σ}{L:ZD α}{s fin:σ}(h:Ki lx L s=ak fin):BN lx L s fin:=by
  unfold Ki at h;split at h
  · rename_i a;cases h;exact a.choose_spec
  · cases h
theorem foldAny_eq{α σ:Type}{lx:α->σ->Zs σ}{L:ZD α}{s fin:σ}(h:BN lx L s fin):Ki lx L s=ak fin:=by
 have a:∃fin,BN lx L s fin:=⟨fin,h⟩;unfold Ki;rw[dif_pos a];have b:=a.choose_spec L<|nB _;rw[h L (nB _)]at b;exact b.symm
theorem BN.nil{α σ:Type}{lx:α->σ->Zs σ}{s fin:σ}(h:BN lx [] s fin):s=fin:=by
 have:=h []<|nB _;exact cQ this
theorem BN.cons{α σ:Type}{lx:α->σ->Zs σ}{L L':ZD α}{p:α}{s fin:σ}(h:BN lx L s fin)(hp:L.Perm (p::L')):∃a,lx p s=ak a/\BN lx L' a fin:=by
 have c:=h (p::L') hp.symm;obtain⟨a,b,e⟩:=az c;refine⟨a,b,fun q d=>?_⟩;have:=h (p::q) ((d.cons p).trans hp.symm);unfold Zk at this;rw[b]at this;exact this
open Go.RowKit Go.Proofs
section
variable{w0 w w':ao}{M K:BS}{hp:Nat->Chunk}{C:Chunk}
theorem SH.M8{b:Nat}{cs:ZD al}(h:SH w M K w hp)(i:Nat)(ho:∃E,w.heap[b]? =ak (.cells cs.toArray E (0,0)))(c:¬C.own' b)(hn:∀b,iT hp b->C.own' b):SH w M K w (bY hp i (.pt b 0 cs)):=by
 obtain⟨E,a⟩:=ho;exact h.pt i (fun h=>c<|hn b h) ⟨_,E,_,a,by simp⟩
theorem Aq{i b o:Nat}{cs:ZD al}(hn:∀b,iT hp b->C.own' b):∀x,iT (bY hp i (.pt b o cs)) x->C.own' x:=by
  rintro x⟨j,a⟩;by_cases e:j=i
  · subst e;rw[bZ]at a;exact a.elim
  · rw[eD e]at a;exact hn x ⟨j,a⟩
theorem SH.loseC3{c e f:Chunk}(h:SH w0 M K w hp)(i j k:Nat)(g:i≠j)(d:i≠k)(m:j≠k)(p:hp i=c)(n:hp j=e)(l:hp k=f)(o:bL (fun b=>c.own' b\/e.own' b\/f.own' b) w w'):
    SH w0 M K w' (bY (bY (bY (bY (bY hp j .no) i (.two (hp i) (hp j))) k .no) i (.two ((bY (bY hp j .no) i (.two (hp i) (hp j))) i) ((bY (bY hp j .no) i (.two (hp i) (hp j))) k))) i .no):=by
  have r:=h.pair i j g;have q:=r.pair i k d;refine q.mF i (bZ _ _ _) ?_;rw[bZ,eD (fun e=>d e.symm),eD (fun e=>m e.symm),p,n,l];refine o.weaken fun b a _=>?_;rcases a with a|a|a
  · exact .inl<|.inl a
  · exact .inl<|.inr a
  · exact .inr a
end
section
variable{α:Type}{R:lT α}{E:ba}{w0 w w':ao}{M K A:BS}{hp:Nat->Chunk}{C:Chunk}{v:al}{l:ZD α}
theorem cK.srcB{B:BS}(h:cK R E w A v l)(p:∀b,ob v b->¬B b):eO R w B A v l:=by
  have n:=h.src;obtain⟨xs,s,y⟩:=h;rcases s.2 with⟨rfl,hn⟩|⟨g,cap,cur,rfl,e1,e2,e3,e4,e5,e6⟩
  · have:l=[]:=cl hn;subst this;exact eO.nil
  · obtain⟨a,c,d,j,r,t,m⟩:=n;refine⟨a,c,d,j,r,t,fun i u=>?_⟩;obtain⟨b,o,cells,F,k,e,x,q,f⟩:=m i u;refine⟨b,o,cells,F,k,e,?_,q,f⟩;subst e;simp only[Value.slice.injEq,eJ,Addr.mk.injEq]at d;exact p b (by simp[ob,d.1.1])
theorem Kj{i:Nat}(hn:∀b,iT hp b->C.own' b):∀b,iT (bY hp i (.sr R v l)) b->C.own' b:=by
  rintro b⟨j,a⟩;by_cases e:j=i
  · subst e;rw[bZ]at a;exact a.elim
  · rw[eD e]at a;exact hn b ⟨j,a⟩
theorem SH.argSrC(h:SH w M K w hp)(i:Nat)(ho:eO R w C.own' (fun b=>M b\/C.own' b) v l)(hn:∀b,iT hp b->C.own' b):SH w M K w (bY hp i (.sr R v l)):=
 h.know i (fun _ h=>h) (ho.sub (fun b a _=>hn b a) (fun b a _=>a.imp id (hn b)))
theorem av_all{i:Nat}(c:hp i=C):∀b,(M b\/rest hp i b)\/C.own' b->SH.A M hp b:=by
  rintro b((a|a)|a)
  · exact .inl a
  · exact .inr<|lU a
  · exact .inr ⟨i,by rw[c];exact a⟩
theorem SH.ownSr(h:SH w0 M K w hp)(i j:Nat)(c:i≠j)(d:hp j=.own R E v l)(e:hp i=C):eO R w C.own' (fun b=>(M b\/rest hp i b)\/C.own' b) v l:=
 ((h.bI j d).srcB (B:=C.own') (fun b a f=>h.apart i j c b (by rw[e];exact f) (by rw[d];exact a))).sub (fun _ h _=>h) (fun b a _=>av_all e b a)
theorem SH.srSr(h:SH w0 M K w hp)(i j:Nat)(d:hp j=.sr R v l)(c:hp i=C):eO R w C.own' (fun b=>(M b\/rest hp i b)\/C.own' b) v l:=
 (h.srAt j d).sub (fun b a _=>⟨i,by rw[c];exact a⟩) (fun b a _=>av_all c b a)
end
def Ud(s:Str):Zs (ZD Str):=iG (s.length<4294967281/\(s.all fun b=>ab (b.toNat<128))=aT/\(fj s).length<=4294967281) (ak (fj s))
theorem fields_w{P:ca}{f:fY}{E:ba}{g q:Nat}{w0:ao}{M:BS}(c:∀(s:ByteArray) (w:ao),s.size<4294967281->(∀(j:Nat) b,s.data.toList[j]? =ak b->b.toNat<128)->oy P w "strings.asciiSpace" .u8 se->
    bw P f #[.string s] w fun e w'=>e=.returned (.slice (ak ⟨w.heap.size,0,ar⟩) (fj s.data.toList).length (fj s.data.toList).length)/\w'=w.alloc (.cells ((fj s.data.toList).map fun l=>lO ⟨l.toArray⟩).toArray E))
    (d:P.globalNamed "strings.asciiSpace" =ak q) (h:∀b,M b->b<w0.heap.size) (k:qY P g w0) {s:Str} {r:ZD Str} (a:Ud s=ak r):bw P f #[bF s] w0 (fun e w'=>Grow w0 w'/\∃u,e=.returned u/\dx uZ w' M u r):=by
  obtain⟨⟨n,i,p⟩,a⟩:=bD a;cases a;refine(c ⟨s.toArray⟩ w0 (by rw[wM];exact n) (fun j b m=>?_) (k.asc q d)).mono ?_
  · have:=lP.1 i b<|List.mem_of_getElem? (by simpa using m);simpa using this
  · rintro e w'⟨rfl,rfl⟩;refine⟨Grow.alloc _ _,_,Z,?_⟩;have:=strs_rd (E:=E) (l:=(fj s).map fun l=>(⟨l.toArray⟩:ByteArray)) (cap:=(fj s).length) (cells:=((fj s).map fun l=>lO ⟨l.toArray⟩).toArray) w0 h (by rw[cH];exact bE _) (by unfold maxLen;omega) (fun j o=>by simp);rw[cH,List.map_map]at this;have e:(List.map (((fun x=>x.data.toList):ByteArray->Str)∘fun l=>⟨l.toArray⟩)<|fj s)=fj s:=by simp[Function.comp_def]
    simpa[Function.comp_def]using this
open Go.RowKit Go.Proofs Go.ChangeShapes
def Rp(b o:Nat)(r:Nat×Nat×Nat):Ys:=fL r.1 b&&(lA r.2.1 o&&Nat.blt o (r.2.1+r.2.2))
def VL(b o:Nat):ZD (Nat×Nat×Nat)->ZD (Nat×Nat×Nat)
 |[]=>[(b,o,1)]
 |(c,s,l)::r=>bif fL c b&&fL (o+1) s then(b,o,l+1)::r else(b,o,1)::(c,s,l)::r
def runsOf:ZD MemPlace->Zs (ZD (Nat×Nat×Nat))
 |[]=>ak []
 | .cell b o::r=>(runsOf r).bind fun rs=>bif rs.any (Rp b o)then ar else ak (VL b o rs)
 |_::_=>ar
theorem addRun_old{b o c q:Nat}{rs:ZD (Nat×Nat×Nat)}(h:rs.any (Rp c q)=aT):(VL b o rs).any (Rp c q)=true:=by
  cases rs with
  |nil=>cases h
  |cons r rs=>
    obtain⟨d,s,l⟩:=r;have e:VL b o ((d,s,l)::rs)=bif fL d b&&fL (o+1) s then(b,o,l+1)::rs else(b,o,1)::(d,s,l)::rs:=rfl;rw[e];cases hc:(fL d b&&fL (o+1) s)with
    |false=>rw[Z1,tw,h,Bool.or_true]
    |true=>
      rw[ZS];simp only[cP,rJ]at hc;obtain⟨rfl,rfl⟩:=hc;rw[tw]at h⊢;rcases Bool.or_eq_true_iff.1 h with h|h
      · unfold Rp at h⊢;simp only[cP,rJ,oT,Nat.blt_eq]at h;have:(fL d c&&(lA o q&&Nat.blt q (o+(l+1))))=true:=by
          simp only[cP,rJ,oT,Nat.blt_eq];omega
        rw[this,Bool.true_or]
      · rw[h,Bool.or_true]
theorem addRun_new{b o:Nat}{rs:ZD (Nat×Nat×Nat)}:(VL b o rs).any (Rp b o)=true:=by
 cases rs with
 |nil=>simp[VL,Rp]
 |cons r rs=>
  obtain⟨d,s,l⟩:=r;have e:VL b o ((d,s,l)::rs)=bif fL d b&&fL (o+1) s then(b,o,l+1)::rs else(b,o,1)::(d,s,l)::rs:=rfl;rw[e];cases (fL d b&&fL (o+1) s)with
  |false=>simp[Rp]
  |true=>simp[Rp]
theorem Ue:∀{d:ZD MemPlace} {rs:ZD (Nat×Nat×Nat)},runsOf d=ak rs->d.Nodup/\∀b o,MemPlace.cell b o∈d->rs.any (Rp b o)=aT
  |[],rs,h=>⟨List.nodup_nil,fun _ _ a=>by cases a⟩
  | .cell b o::r,rs,h=>by
    unfold runsOf at h;obtain⟨q,g,h⟩:=Option.bind_eq_some_iff.1 h;obtain⟨i,f⟩:=Ue g;cases hc:q.any (Rp b o)with
    |true=>rw[hc]at h;cases h
    |false=>
      rw[hc,Z1]at h;cases h;refine⟨sX.2 ⟨fun a=>(by rw[f b o a]at hc;cases hc),i⟩,fun c p a=>?_⟩;rcases bm.1 a with e|a
      · cases e;exact addRun_new
      · exact addRun_old<|f c p a
  | .map _::_,rs,h=>by cases h
theorem YD{P:ca}{w:ao}{l:ZD (String×DataW Unit)}(fuel:Nat)(h:(DataW.laidRun P w fuel (l.map (·.1))).map (·.1)=ak l)
    (a:(DataW.laidRun P w fuel (l.map (·.1))).map (fun x=>(runsOf x.2).isSome&&laidRowsB P w x.2)=ak aT):laidMet P l w:=by
  cases hx:DataW.laidRun P w fuel (l.map (·.1))with
  |none=>simp[hx]at h
  |some x=>
    obtain⟨c,d⟩:=x;simp only[hx,dd,eJ]at h a;subst h;simp only[cP]at a;obtain⟨rs,b⟩:=Option.isSome_iff_exists.1 a.1;exact laidMet_of_run fuel hx (decide_eq_true (Ue b).1) a.2
structure gM where
 at_:Int
 ok:Bool
deriving DecidableEq
open Go.RowKit Go.Proofs
section
variable{α β:Type}{N:RO α β}{R:lT β}{E Es T:ba}{w0 w w':ao}{M K A:BS}{hp:Nat->Chunk}{v u u':al}{us us':ZD al}{L L':ZD α}{ss ss':ZD (ZD β)}{s:ZD β}{x y:α}{k:Nat}{ho ho':Nat->Prop}{C:Chunk}
theorem Yj{a:Type}(P:Nat->a->Prop):∀(n:Nat),(∀i,i<n->∃u,P i u)->∃us:ZD a,us.length=n/\∀i u,us[i]? =ak u->P i u
  |0,_=>⟨[],rfl,fun i u h=>by cases h⟩
  |n+1,h=>by
    obtain⟨us,d,c⟩:=Yj P n fun i f=>h i V;obtain⟨u,b⟩:=h n V;refine⟨us++[u],by simp[d],fun i z hz=>?_⟩;rw[gR]at hz;split at hz
    · exact c i z hz
    · rename_i e;have:i-us.length=0:=by
        rcases Nat.eq_zero_or_pos (i-us.length)with h0|h0
        · exact h0
        · rw[bt (by simp;omega)]at hz;cases hz
      rw[this]at hz;cases hz;obtain rfl:i=n:=by omega
      exact b
def hge(k:Nat):Nat->Prop:=fun i=>k<=i
def M9{β:Type}(R:lT β)(k:Nat)(us:ZD al)(ss:ZD (ZD β)):Pce where
 own:=BE
 P w A:=∀i u s,k<=i->us[i]? =ak u->ss[i]? =ak s->dx R w A u s
 lt:=fun _ h=>h.elim
 go:=fun h hk hK hKo hA i u s hi hu hs=>dx.go (h i u s hi hu hs) hk hK (fun b hb hl=>(hA b hb hl).elim id (fun h=>h.elim))
theorem SH.famHo(h:SH w0 M K w hp)(j:Nat)(ho':Nat->Prop)(a:hp j=.eY (bP R E ho us ss))(c:∀i,ho i↔ho' i):SH w0 M K w (bY hp j (.eY (bP R E ho' us ss))):=by
 have e:ho=ho':=funext fun i=>propext<|c i;subst e;exact h.M6 (S':=bP R E ho us ss) j a (h.Yf j a) (bL.refl _ _) fun b d _=>d
theorem SH.thaw{R':lT α}(h:SH w0 M K w hp)(i j q:Nat)(k:hp i=.own R' E v L)(I:i≠j)(F:i≠q)(Q:j≠q)(l:R'.sz=N.sz)(op:∀w A cs x,R'.rd w A cs x->∃u,cs=N.enc x u/\dx R w A u (N.sub x)):
    ∃us,us.length=L.length/\SH w0 M K w (bY (bY (bY hp i (.own N.raw E v (L.zip us))) j (.eY (bP R Es (hge 0) us (L.map N.sub)))) q (.eY (M9 R 0 us (L.map N.sub)))):=by
  have ho:=h.bI i k;have X:=ho;obtain⟨xs,h1,G⟩:=ho;obtain⟨us,o,n⟩:=Yj (fun i u=>∃k:i<L.length,(xs.drop (i*R'.sz)).take R'.sz=N.enc L[i] u/\dx R w (fun b=>SH.A M hp b\/ob v b) u (N.sub L[i])) L.length (fun i k=>by
    obtain⟨u,r,m⟩:=op _ _ _ _<|G i k;exact⟨u,k,r,m⟩)
  refine⟨us,o,?_⟩;have S:SH w0 M K w (bY hp i<|.own N.raw E v<|L.zip us):=by
    refine h.step i (bL.refl BE w) (fun _ h=>h.elim) (fun b a _=>by rw[k];exact a) ⟨xs,?_,?_⟩
    · rw[gN o];show w.ownsRow 0 E N.sz v L.length xs;rw[<-l];exact h1
    · intro q B;have T:q<L.length:=by rw[gN o]at B;exact B
      have y:q<us.length:=by omega
      obtain⟨_,r,m⟩:=n q us[q]<|bc y;refine⟨?_,?_⟩
      · show(xs.drop<|q*N.sz).take N.sz=N.enc ((L.zip us)[q]).1 ((L.zip us)[q]).2;rw[sf,<-l];exact r
      · rw[sf];exact m.one
  have d:∀b,¬Hm (hge 0) us b:=fun b⟨i,u,_,hn,_⟩=>hn<|fN i;have O:SH w0 M K w (bY (bY hp i<|.own N.raw E v<|L.zip us) j<|.eY<|bP R Es (hge 0) us<|L.map N.sub):=
    S.know j (c:=.eY (bP R Es (hge 0) us (L.map N.sub))) (fun b a=>d b a) ⟨by rw[cH];exact o,fun i u s _ _ hn=>ZJ (fN i) hn,fun i j u v _ hn=>ZJ (fN i) hn⟩
  refine O.know q (c:=.eY<|M9 R 0 us<|L.map N.sub) (fun b a=>a) ?_;intro p u s _ P C;obtain⟨t,r,m⟩:=n p u P;rw[ej,bc t]at C;cases C;have f:∀b,(M b\/iT (bY (bY hp i<|.own N.raw E v<|L.zip us) j<|.eY<|bP R Es (hge 0) us<|L.map N.sub) b)->SH.A M hp b\/ob v b:=by
    rintro b(a|⟨c,g⟩)
    · exact .inl<|.inl a
    · by_cases e:c=j
      · subst e;rw[bZ]at g;exact ZJ g (d b)
      · rw[eD e]at g;by_cases z:c=i
        · subst z;rw[bZ]at g;exact .inr g
        · rw[eD z]at g;exact .inl (.inr ⟨c,g⟩)
  exact m.sub (fun b a _=>f b a) fun b a _=>f b a
theorem SH.rdpAt(h:SH w0 M K w hp)(q:Nat)(d:hp q=.eY (M9 R k us (L.map N.sub)))(c:us.length=L.length)(a:L[k]? =ak x):∃u,us[k]? =ak u/\dx R w (SH.A M hp) u (N.sub x):=by
 obtain⟨u,b⟩:=us_at c a;exact⟨u,b,h.pceAt q d k u _ (bE _) b (by rw[ej,a];rfl)⟩
theorem SH.rdpStep(h:SH w0 M K w hp)(q:Nat)(a:hp q=.eY (M9 R k us ss)):SH w0 M K w (bY hp q (.eY (M9 R (k+1) (us.set k u) (ss.set k s)))):=by
 have d:=h.pceAt q a;refine h.M6 (S':=M9 R (k+1) (us.set k u)<|ss.set k s) q a ?_ (bL.refl _ _) fun b e _=>e;intro i z t f hz c;rw[dR V]at hz c;exact d i z t V hz c
theorem SH.pendPut(h:SH w0 M K w hp)(j q m:Nat)(y:α)(l:hp j=.eY (bP R Es (hge k) us (L.map N.sub)))(v:hp q=.eY (M9 R k us (L.map N.sub)))(A:hp m=.own R Es u s)(c:j≠q)(b:j≠m)(f:q≠m)(t:L[k]? =ak x)(d:us[k]? =ak u')(o:N.sub y=s):
    SH w0 M K w (bY (bY (bY (bY (bY hp q (.eY (M9 R (k+1) (us.set k u) ((L.map N.sub).set k s)))) j (.eY (bP R Es (hge k) (us.set k u) ((L.map N.sub).set k s)))) m .no) j (.eY (bP R Es (hge (k+1)) (us.set k u) (((L.map N.sub).set k s).set k s)))) j (.eY (bP R Es (hge (k+1)) (us.set k u) ((L.set k y).map N.sub)))):=by
  have B:=h.rdpStep (u:=u) (s:=s) q v;have g:=h.jX j l;have p:=B.famRe (us':=us.set k u) (ss':=(L.map N.sub).set k s) j (by rw[eD c];exact l) (by simp[g]) (fun i a=>by
    have:k≠i:=fun e=>a (by subst e;exact bE _);rw[dR this,dR this];exact⟨Z,Z⟩)
  have n:=M7 t;have r:=p.Lj j m (k:=k) (u:=u) (s:=s) (bZ _ _ _) (by rw[eD (fun e=>b e.symm),eD (fun e=>f e.symm)];exact A) b (VK d) (bE k) (hge (k+1)) (fun i=>⟨fun a=>by
    rcases rK (show k<=i from a)with e|e
    · exact .inr e.symm
    · exact .inl e,fun a=>a.elim (fun a=>sg a) (fun e=>by subst e;exact bE _)⟩) (fun a=>ZJ a (qt k))
  have e:((L.map N.sub).set k s).set k s=(L.set k y).map N.sub:=by rw[List.set_set,hJ,o]
  have z:=r.famRe (us':=us.set k u) (ss':=(L.set k y).map N.sub) j (bZ _ _ _) (by simp[g]) (fun i a=>⟨Z,by rw[e]⟩);exact z
theorem SH.famAll(h:SH w0 M K w hp)(j:Nat)(l:hp j=.eY (bP R Es (hge k) us (L.map N.sub)))(p:L.length<=k):SH w0 M K w (bY hp j (.eY (bP R Es hn us (L.map N.sub)))):=by
  have o:=h.jX j l;have d:=h.Yf j l;have a:∀i (z:al),us[i]? =ak z->¬hge k i:=fun i z hz n=>by
    have:=M7 hz;have:k<=i:=n;omega
  refine h.M6 (S':=bP R Es hn us<|L.map N.sub) j l ⟨d.1,fun i z t hz m _=>?_,fun i j z v f _ _ hz hv=>d.2.2 i j z v f (a i z hz) (a j v hv) hz hv⟩ (bL.refl _ _) fun b⟨i,z,c,_,g⟩_=>⟨i,z,c,a i z c,g⟩;refine(d.2.1 i z t hz m<|a i z hz).go (bL.refl BE w) (fun _ h=>h.elim) (fun _ h=>h.elim) fun b e _=>?_;rcases e with e|⟨i,z,c,_,g⟩
  · exact .inl<|.inl e
  · exact .inl<|.inr ⟨i,z,c,a i z c,g⟩
def hmv(a:ZD Int):Nat->Prop:=fun i=>(i:Int)∈a
theorem SH.famMv0(h:SH w0 M K w hp)(j:Nat)(a:hp j=.eY (bP R Es hn us ss)):SH w0 M K w (bY hp j (.eY (bP R Es (hmv []) us ss))):=
 h.famHo j (hmv []) a (fun i=>⟨fun h=>h.elim,fun h=>by cases h⟩)
theorem SH.mvOpen{c:ZD Int}{a:Int}(h:SH w0 M K w hp)(j m:Nat)(g:hp j=.eY (bP R Es (hmv c) us (L.map N.sub)))(o:hp m=.no)(d:j≠m)(l:0<=a)(k:L[a.toNat]? =ak x)(b:a∉c):
    ∃u,us[a.toNat]? =ak u/\SH w0 M K w (bY (bY hp j (.eY (bP R Es (hmv (c++[a])) us (L.map N.sub)))) m (.own R Es u (N.sub x))):=by
  have n:=h.jX j g;obtain⟨u,f⟩:=us_at n k;have e:((a.toNat:Nat):Int)=a:=Int.toNat_of_nonneg l;refine⟨u,f,h.famOpen j m g o d f (by rw[ej,k];rfl) (fun h=>b (by rw[<-e];exact h)) (hmv (c++[a])) (fun i=>?_)⟩;unfold hmv;rw[List.mem_append,List.mem_singleton];constructor
  · rintro(h|h)
    · exact .inl h
    · exact .inr V
  · rintro(h|h)
    · exact .inl h
    · exact .inr (by rw[h];exact e)
theorem SH.gotC(h:SH w0 M K w hp)(i:Nat)(d:Grow w w')(c:C.TU)(e:C.holds w' (SH.A M hp) C.own')(hn:∀b,C.own' b->w.heap.size<=b):SH w0 M K w' (bY hp i C):=
  h.learn i d hn (Chunk.re c e (fun b a _=>by
    rcases a with a|a|a
    · exact .inl<|.inl a
    · exact .inl<|.inr a
    · exact .inr a))
theorem new_own(ho:∀b,C.own' b->b<w0.heap.size->BE b):∀b,C.own' b->w0.heap.size<=b:=fun b a=>Nat.le_of_not_lt (fun c=>ho b a c)
theorem nLst_op{R:lT β}:∀(w:ao) (A:BS) cs (x:ZD β),(yE R).rd w A cs x->∃u,cs=(dz β).enc x u/\dx R w A u ((dz β).sub x):=fun _ _ _ _ h=>h
end
theorem VM:∀(w:ao) (A:BS) cs (x:Frame),jQ.rd w A cs x->∃u,cs=aS.enc x u/\dx bJ w A u (aS.sub x):=fun _ _ _ _ h=>h
def Br{α:Type}(k:Int)(v:α):ZD (Int×α)->ZD (Int×α)
 |[]=>[(k,v)]
 |p::r=>if k=p.1 then(p.1,v)::r else p::Br k v r
theorem Qs{α:Type}{f:α->al}{k:Int}{v:α}:∀(l:ZD (Int×α)),Oi (l.map fun p=>(p.1,f p.2)) k (f v)=(Br k v l).map fun p=>(p.1,f p.2)
  |[]=>rfl
  |p::r=>by
    show(if k=p.1 then(p.1,f v)::_ else(p.1,f p.2)::Oi _ k (f v))=_;unfold Br;split
    · rfl
    · rw[Qs r];rfl
theorem J8.keep{w w':ao}{K:BS}{b:Nat}{jM:ZD (Int×al)}(h:J8 w b jM)(e:bL K w w')(hn:¬K b):J8 w' b jM:=by
 obtain⟨a,c,g,d,f⟩:=h;exact⟨a,c,e.blk g hn,d,f⟩
section
variable{P:ca}{w:ao}{ρ:bo->al}{d:Zs Nat}{ty:ba}{pos:String}{af:Array hY}{g:Zs (Nat×Ys)}{T:ba}
theorem r_lk1M{α:Type}{f:α->al}{zz:α}{z:al}{x y:bo}{b:Nat}{k:Int}(l:ZD (Int×α))(e:J8 w b (l.map fun p=>(p.1,f p.2)))(h:MapOf P T z)(a:ρ x=.map (ak b))(c:ρ y=.int .i64 k)(hz:z=f zz):
  (bk ρ ⟨d,.lookup T x y aq,ty,pos,af,g⟩).run P w=.ok (.value (f ((lk k l).getD zz))) w:=by
 have:=Zb (d:=d) (ty:=ty) (pos:=pos) (af:=af) (g:=g) h a c e;rw[hz,YS]at this;exact this
end
open Go.RowKit Go.Proofs Go.MapKept
section
variable{P:ca}{ops:Array ei}{Q:fl->Act->ao->Prop}{n:Nat}{env:Nat->al}{w w' w0:ao}{M K:BS}{hp:Nat->Chunk}{rest:ZD ei}
 {d:Zs Nat} {op:Op} {ty:ba} {pos:String} {af:Array hY} {v:al} {g:Zs (Nat×Ys)} {T:ba} {ρ:bo->al}
theorem made_drop(zs:ZD al)(m q:Nat)(b:q<m):((qV zs.toArray (m*zs.length)).toList.drop (q*zs.length)).take zs.length=zs:=by
  apply dp;intro i;rw[cf];split
  · rename_i a;rw[cC];have d:q*zs.length+i<m*zs.length:=by
      have:=bd zs.length (show q+1<=m from b);rw[Nat.succ_mul]at this;omega
    have c:(q*zs.length+i)%zs.length=i:=by rw[Nat.mul_comm,Nat.mul_add_mod];exact Nat.mod_eq_of_lt a
    simp[qV,d,c,a]
  · rename_i a;rw[bt V]
theorem Ls{α:Type}{R:lT α}{E:ba}{c l:Nat}{k:Int}{zs:ZD al}{x y:bo}{a:α}(h:SH w0 M K w hp)(i:Nat)(G:kM P T E l c)(hz:xy P E zs)(B:R.sz=l)(r:0<c)(L:ev n env x=.int .i64 k)(hy:ev n env y=.int .i64 k)
    (S:0<=k/\k*c<=140737488355328) (hl:zs.length=l) (I:∀w A,R.rd w A zs a)
    (kk:∀w' u,SH w0 M K w' (bY hp i (.own R E u (List.replicate k.toNat a)))->Grow w w'->(∀b,ob u b->w.heap.size<=b)->WL P ops Q rest n (gH env d u) w'):
    WL P ops Q (⟨d,.makeSlice T x y,ty,pos,af,ar⟩::rest) n env w:=by
  obtain⟨h0,X⟩:=S;obtain⟨m,rfl⟩:=Int.eq_ofNat_of_zero_le h0;obtain⟨j,z',C,N,z,s,a0⟩:=G.info;have g:=hz.info;rw[C]at g;simp only[dd,eJ,Prod.mk.injEq]at g;have a1:m<=m*c:=Nat.le_mul_of_pos_right _ r;have O:m*c<=140737488355328:=by
    have:((m*c:Nat):Int)<=140737488355328:=by rw[Int.natCast_mul];exact X
    omega
  obtain⟨w',hr,ho,hg⟩:=run_make_full (P:=P) w 0 T E j _ l G.desc C g.1 z .i64 .i64 m (by rw[s,Nat.mul_comm];omega) (by unfold maxLen;omega) (fN _);have o:Grow w w':=(BK (v:=.slice ar 0 0) hg).weaken fun _ h _=>h.elim;have p:(bk (ev n env) ⟨d,.makeSlice T x y,ty,pos,af,ar⟩).run P w=.ok (.value<|.slice (ak ⟨w.heap.size,0,ar⟩) m m) w':=by
    simp only[bk,cy,Sem.run_pure,bp,L,hy,hr]
  have f:∀b,ob (.slice (ak ⟨w.heap.size,0,ar⟩) m m) b->w.heap.size<=b:=fun b r=>by
    have:b=w.heap.size:=r;omega
  refine J p<|kk w' _ (h.wF i o ⟨(qV zs.toArray<|m*l).toList,?_,?_⟩ f) o f
  · rw[B];rw[jI];exact ho
  · intro q F;simp only[jI]at F;have t:q<m:=F;have e:((qV zs.toArray<|m*l).toList.drop<|q*R.sz).take R.sz=zs:=by rw[B,<-hl];exact made_drop zs m q t
    rw[e];simp only[List.getElem_replicate];exact I _ _
end
open Go.RowKit Go.Proofs
section
variable{α β:Type}{N:RO α β}{R:lT β}{E Es T:ba}{w0 w w':ao}{M K A:BS}{hp:Nat->Chunk}{u u':al}{us:ZD al}{L:ZD α}{s:ZD β}{x:α}{k:Nat}
theorem Lt{a:Type}{l:ZD a}{z:a}{i:Int}(b:i=(k:Int))(h:l[i.toNat]? =ak z):l[k]? =ak z:=by subst b;simpa using h
theorem at_pd{a:Type}{l:ZD a}{z:a}{i:Int}(b:i=(k:Int))(h:l[k]? =ak z):l[i.toNat]? =ak z:=by subst b;simpa using h
theorem Zl{i:Int}(a:i=(k:Int)):i.toNat=k:=by subst a;simp
theorem SH.Zm(h:SH w0 M K w hp)(j q m:Nat)(l:hp j=.eY (bP R Es (hge k) us (L.map N.sub)))(n:hp q=.eY (M9 R k us (L.map N.sub)))(o:hp m=.own R Es u s)(c:j≠q)(a:j≠m)(f:q≠m)(b:L[k]? =ak x)(d:us[k]? =ak u')(g:N.sub x=s):
  SH w0 M K w (bY (bY (bY (bY (bY hp q (.eY (M9 R (k+1) (us.set k u) (L.map N.sub)))) j (.eY (bP R Es (hge k) (us.set k u) (L.map N.sub)))) m .no) j (.eY (bP R Es (hge (k+1)) (us.set k u) (L.map N.sub)))) j (.eY (bP R Es (hge (k+1)) (us.set k u) (L.map N.sub)))):=by
 have i:=h.pendPut (y:=x) j q m l n o c a f b d g;have e:(L.map N.sub).set k s=L.map N.sub:=by rw[<-g,<-hJ,CF b]
 rw[e,e,CF b]at i;exact i
end
theorem Dt{α:Type}{b:Nat}{a r:ZD α}(h:clone b a=ak r):a=r:=by
 unfold clone at h;obtain⟨_,h⟩:=bD h;exact cQ h
theorem Zn{α β:Type}{N:RO α β}{w:ao}{B A:BS}{v:al}{L:ZD α}{us:ZD al}(h:eO N.raw w B A v (L.zip us))(a:us.length=L.length):L.length<=9223372036854775807:=by
 have:=h.bK;rwa[gN a]at this
theorem r_mul{P:ca}{w:ao}{ρ:bo->al}{d:Zs Nat}{ty:ba}{pos:String}{af:Array hY}{g:Zs (Nat×Ys)}{x y:bo}{T T2:ba}{p q:Int}(a:ρ x=.int .i64 p)(b:ρ y=.int .i64 q)(h: -9223372036854775808<=p*q/\p*q<=9223372036854775807):
  (bk ρ ⟨d,.binOp .mul T x y T2,ty,pos,af,g⟩).run P w=.ok (.value (.int .i64 (p*q))) w:=by
 simp[bk,a,b,eqGuard,binOp,Op.intArith,wrap_in h.1 h.2]
open Go.RowKit Go.Proofs
theorem Qt{cs vs:ZD al}{o:Nat}(h:o+vs.length<=cs.length)(j:Nat):(MU cs o vs)[j]? =if j<o then cs[j]? else if j<o+vs.length then vs[j-o]? else cs[j]? :=by
  unfold MU;have b:(cs.take o).length=o:=by rw[cd];omega
  by_cases a:j<o
  · rw[Z2 a,ck,ks V,cf,Z2 a]
  · rw[Z3 a];by_cases c:j<o+vs.length
    · rw[Z2 c,ck,gS V,b,ks V]
    · rw[Z3 c,gS (by rw[bj,b];omega),bj,b,cC];congr 1;omega
theorem YV{cs vs:ZD al}{o:Nat}(h:o+vs.length<=cs.length):(MU cs o vs).length=cs.length:=by
 unfold MU;simp only[bj,cd,cN];omega
theorem spl_take{cs vs:ZD al}{o n:Nat}(h:o+vs.length<=n)(hn:n<=cs.length):(MU cs o vs).take n=MU (cs.take n) o vs:=by
  apply dp;intro j;have b:(cs.take n).length=n:=by rw[cd];omega
  rw[cf,Qt V,Qt V,cf];by_cases a:j<n
  · rw[Z2 a,Z2 a]
  · rw[Z3 a,Z3 V,Z3 V,Z3 a]
theorem spl_self{cs vs:ZD al}{o:Nat}(h:o+vs.length<=cs.length):((MU cs o vs).drop o).take vs.length=vs:=by
  apply dp;intro j;rw[cf,cC,Qt h];by_cases a:j<vs.length
  · rw[Z2 a,Z3 V,Z2 V];congr 1;omega
  · rw[Z3 a,bt V]
theorem spl_other{cs vs:ZD al}{o p s:Nat}(h:o+vs.length<=cs.length)(hp:p+s<=o\/o+vs.length<=p):((MU cs o vs).drop p).take s=(cs.drop p).take s:=by
  apply dp;intro j;rw[cf,cC,Qt h,cf,cC];by_cases a:j<s
  · rw[Z2 a,Z2 a];by_cases b:p+j<o
    · rw[Z2 b]
    · rw[Z3 b,Z3 V]
  · rw[Z3 a,Z3 a]
section
variable{P:ca}{ops:Array ei}{Q:fl->Act->ao->Prop}{n:Nat}{env:Nat->al}{w w' w0:ao}{M K:BS}{hp:Nat->Chunk}{rest:ZD ei}
 {d:Zs Nat} {op:Op} {ty:ba} {pos:String} {af:Array hY} {v:al} {g:Zs (Nat×Ys)} {T:ba} {ρ:bo->al} {x y:bo}
theorem EU{α:Type}{R:lT α}{E:ba}{I:Nat}{l:ZD α}{k:Int}{a a':α}{b:Nat}{zs vs:ZD al}{u:al}(h:SH w0 M K w hp)(i:Nat)(t:hp i=.own R E u l)(z:ob u b)(hs:R.sz=I)(hk:l[k.toNat]? =ak a)(hT:xy P T zs)(c:ev n env x=.pointer (ak ⟨b,k.toNat*I,ar⟩))
    (hy:ev n env y=.agg vs.toArray) (hl:vs.length=zs.length) (G:zs.length=I) (hset:R.rd w (SH.A M hp) vs a')
    (kk:∀w',SH w0 M K w' (bY hp i (.own R E u (l.set k.toNat a')))->bL (ob u) w w'->WL P ops Q rest n (gH env d gf) w'):
    WL P ops Q (⟨d,.store T x y,ty,pos,af,ar⟩::rest) n env w:=by
  subst hs;have v:k.toNat<l.length:=M7 hk;generalize k.toNat=k at*;have f:∀b,ob u b->SH.A M hp b:=fun b z=>.inr ⟨i,by rw[t];exact z⟩;obtain⟨xs,B,q3⟩:=h.bI i t;rcases B.2 with⟨rfl,hn⟩|⟨g',cap,cur,rfl,e1,e2,e3,e4,e5,e6⟩
  · omega
  have F:b=g':=z;subst F;have X:(k+1)*R.sz<=l.length*R.sz:=bd _ v;have a0:l.length*R.sz<=cap*R.sz:=bd _ e3;rw[cj]at X;have L:vs.length=R.sz:=hl.trans G;have N:cur.toList.length=cap*R.sz:=by simpa using e5
  have a1:xs.length=l.length*R.sz:=B.1;have r:k*R.sz+vs.length<=cur.toList.length:=by omega
  have m:k*R.sz+vs.length<=xs.length:=by omega
  have o:=bL.xz w b<|.cells (MU cur.toList (k*R.sz) vs).toArray E (0,0);have C:=TN (P:=P) (w:=w) (ρ:=ev n env) (d:=d) (ty:=ty) (pos:=pos) (af:=af) (g:=ar) (cs:=cur.toList) (E:=E) hT c (by simpa using e2) hy hl r<|R.one hset;refine BJ C (kk _ (h.step i o (fun x c _=>by rw[t];exact c) (fun x c _=>by rw[t];exact c) ⟨MU xs (k*R.sz) vs,⟨?_,.inr ⟨b,cap,(MU cur.toList (k*R.sz) vs).toArray,?_,e1,?_,?_,e4,?_,?_⟩⟩,?_⟩) (o.weaken (fun x c _=>c)))
  · rw[YV m,cp];exact B.1
  · rw[cp]
  · rw[wH (iR e2)]
  · rw[cp];exact e3
  · rw[rL,YV r];exact N
  · rw[cp];show(MU cur.toList (k*R.sz) vs).take (l.length*R.sz)=MU xs (k*R.sz) vs;rw[spl_take V V,e6]
  · intro p O;have S:p<l.length:=by rwa[cp]at O
    have s:=fun cs a(h:R.rd w (SH.A M hp) cs a)=>R.go (A':=fun x=>(M x\/(SH.av hp i (.own R E (.slice (ak ⟨b,0,ar⟩) l.length cap) (l.set k a'))) x)\/ob (.slice (ak ⟨b,0,ar⟩) l.length cap) x) h o (fun x c _=>f x c) (fun x c _=>by
      rcases c with(c|c|c)|c
      · exact .inl c
      · exact .inr<|lU c
      · exact f x c
      · exact f x c)
    have hq:=fun j(hj:j<l.length)=>R.go (A':=SH.A M hp) (q3 j hj) (bL.refl BE w) (fun _ h=>h.elim) fun x c _=>.inl c;by_cases q:p=k
    · subst q;rw[mx];have e:=spl_self m;rw[L]at e;rw[e];exact s _ _ hset
    · rw[nb (Ne.symm q),spl_other m]
      · exact s _ _<|hq p S
      · rcases cI k p with h5|h5
        · right;have:(k+1)*R.sz<=p*R.sz:=bd _ h5;rw[cj]at this;omega
        · left;have:(p+1)*R.sz<=k*R.sz:=bd _ V;rw[cj]at this;omega
end
section
variable{α β:Type}{N:RO α β}{R:lT β}{E Es T:ba}{w0 w w':ao}{M K A:BS}{hp:Nat->Chunk}{us:ZD al}{L:ZD α}{x:α}{k:Nat}
theorem SH.yZ(h:SH w0 M K w hp)(j m:Nat)(s:ZD β)(b:hp j=.eY (bP R Es hn us (L.map N.sub)))(e:hp m=.no)(a:j≠m)(c:L[k]? =ak x)(d:N.sub x=s):
 ∃u,us[k]? =ak u/\SH w0 M K w (bY (bY hp j (.eY (bP R Es (hat k) us (L.map N.sub)))) m (.own R Es u s)):=by subst d;exact h.dnOpen j m b e a c
theorem SH.mvOpenL{d:ZD Int}{a:Int}(h:SH w0 M K w hp)(j m:Nat)(s:ZD β)(f:hp j=.eY (bP R Es (hmv d) us (L.map N.sub)))(k:hp m=.no)(c:j≠m)(e:0<=a)(g:L[a.toNat]? =ak x)(b:a∉d)(i:N.sub x=s):
 ∃u,us[a.toNat]? =ak u/\SH w0 M K w (bY (bY hp j (.eY (bP R Es (hmv (d++[a])) us (L.map N.sub)))) m (.own R Es u s)):=by subst i;exact h.mvOpen j m f k c e g b
theorem SH.rdpAtL(h:SH w0 M K w hp)(q:Nat)(s:ZD β)(d:hp q=.eY (M9 R k us (L.map N.sub)))(a:us.length=L.length)(b:L[k]? =ak x)(c:N.sub x=s):∃u,us[k]? =ak u/\dx R w (SH.A M hp) u s:=by subst c;exact h.rdpAt q d a b
end
open Go.RowKit Go.Proofs
def Chunk.flat:Chunk->Prop
 | .no=>True
 | .own R _ _ _=>∀w A A' cs x,R.rd w A cs x->R.rd w A' cs x
 | .two a b=>a.flat/\b.flat
 | .eY S=>∀w A A',S.P w A->S.P w A'
 |_=>False
theorem cK.flat{α:Type}{R:lT α}{E:ba}{w:ao}{A A':BS}{v:al}{l:ZD α}(c:∀w A A' cs x,R.rd w A cs x->R.rd w A' cs x)(h:cK R E w A v l):cK R E w A' v l:=by
 obtain⟨xs,d,a⟩:=h;exact⟨xs,d,fun i b=>c _ _ _ _ _<|a i b⟩
theorem Chunk.flatten{c:Chunk}{w:ao}{M O f e:BS}(d:c.flat)(h:c.holds w M O):c.holds w f e:=by
 induction c with
 |no=>trivial
 |own R E v l=>exact cK.flat d h
 |two a b ha hb=>exact⟨ha d.1 h.1,hb d.2 h.2.1,h.2.2⟩
 |eY S=>exact d _ _ _ h
 |_=>exact d.elim
theorem Qu{β:Type}{R:lT β}{E:ba}{ho:Nat->Prop}{us:ZD al}{ss:ZD (ZD β)}(e:∀w A A' cs x,R.rd w A cs x->R.rd w A' cs x):∀w A A',(bP R E ho us ss).P w A->(bP R E ho us ss).P w A':=by
 rintro w A A'⟨f,a,d⟩;exact⟨f,fun i u s c b g=>cK.flat e<|a i u s c b g,d⟩
theorem eO.toBE{α:Type}{R:lT α}{w:ao}{B A:BS}{v:al}{l:ZD α}(h:eO R w B A v l):eO R w BE BE v l:=
 eO.go h (bL.refl BE w) (fun _ h=>h.elim) (fun _ h=>h.elim) (fun _ h=>h.elim) (fun _ h=>h.elim)
section
variable{α β:Type}{N:RO α β}{R:lT β}{E Es T:ba}{w0 w w':ao}{M K A:BS}{hp:Nat->Chunk}{v u u':al}{us us':ZD al}{L L':ZD α}
theorem SH.VN{R':lT α}(h:SH w0 M K w hp)(i j:Nat)(d:hp i=.own N.raw E v (L.zip us))(c:hp j=.eY (bP R Es hn us (L.map N.sub)))(a:i≠j)(b:R'.sz=N.sz)(e:∀w A x u,dx R w A u (N.sub x)->R'.rd w A (N.enc x u) x):eO R' w BE BE v L:=
 eO.toBE ((h.Ll i j d c a b e).bz i (bZ _ _ _))
theorem SH.gotCF{C:Chunk}{O:BS}(h:SH w0 M K w hp)(i:Nat)(d:Grow w w')(c:C.TU)(a:C.flat)(e:C.holds w' BE O)(hn:∀b,C.own' b->w.heap.size<=b):SH w0 M K w' (bY hp i C):=
 h.gotC i d c (Chunk.flatten a e) hn
end
section
variable{P:ca}{Q:fl->Act->ao->Prop}{n:Nat}{env:Nat->al}{w w' w0:ao}{M K:BS}{hp:Nat->Chunk}
theorem Uf{k:Func}{R:Ending->ao->Prop}{t u j a:Tmp}{T:ba}{v2 v3 v4:al}{zs vs:ZD al}{b:Nat}(x:k.results= #[.cell a T,.tmp t,.tmp u,.tmp j])(l:ev n env (.tmp a)=.pointer (ak ⟨b,0,ar⟩))(s:ev n env (.tmp t)=v2)(m:ev n env (.tmp u)=v3)(q:ev n env (.tmp j)=v4)
  (r:SH w0 M K w hp) (i:Nat) (v:hp i=.blk b vs) (p:xy P T zs) (o:vs.length=zs.length) (h:R (.returned (.tuple #[.agg vs.toArray,v2,v3,v4])) w):jF P k R .ret (act n env) w:=by
 refine⟨Z,_,?_,h⟩;have d:=congrFun (gX n env)<|.tmp t;have f:=congrFun (gX n env)<|.tmp u;have c:=congrFun (gX n env)<|.tmp j;have e:=congrFun (gX n env)<|.tmp a;rw[s]at d;rw[m]at f;rw[q]at c;rw[l]at e;simp only[Act.eval]at d f e c;rw[cV]at d f e c;have g:=Dq (P:=P) r v p o Z;unfold results;rw[x];simp[d,f,e,c,asAddr,g]
end
section
variable{α β:Type}{R:lT α}{E:ba}{w0 w:ao}{M K:BS}{hp:Nat->Chunk}{v:al}{l:ZD α}{C:Chunk}
theorem SH.ownSrB(h:SH w0 M K w hp)(i j:Nat)(c:i≠j)(d:hp j=.own R E v l)(f:hp i=C):dx R w (fun b=>BE b\/C.own' b) v l:=
 (h.ownSr i j c d f).sub (fun b a _=>a.elim (fun e=>e.elim) id) (fun b a _=>a.elim (fun e=>e.elim) .inr)
theorem ap_BE{C:Chunk}:∀b,C.own' b->¬BE b:=fun _ _ h=>h
end
structure RP where
 said:Bool
 n:Int
 paused:Bool
structure ow where
 l:List Int
 bad:Bool
open Go.RowKit Go.Proofs
theorem spl_mid{xs vs:ZD al}{p s off:Nat}(h:off+vs.length<=s)(hp:p+s<=xs.length):((MU xs (p+off) vs).drop p).take s=MU ((xs.drop p).take s) off vs:=by
  apply dp;intro j;have d:((xs.drop p).take s).length=s:=by rw[cd,cN];omega
  rw[Qt V,cf];by_cases a:j<s
  · rw[Z2 a,cC,Qt V,cf,Z2 a,cC];by_cases c:j<off
    · rw[Z2 c,Z2 V]
    · rw[Z3 c,Z3 V];by_cases b:j<off+vs.length
      · rw[Z2 b,Z2 V,show p+j-(p+off)=j-off by omega]
      · rw[Z3 b,Z3 V]
  · rw[Z3 a,Z3 V,Z3 V,cf,Z3 a]
section
variable{P:ca}{ops:Array ei}{Q:fl->Act->ao->Prop}{n:Nat}{env:Nat->al}{w w' w0:ao}{M K:BS}{hp:Nat->Chunk}{rest:ZD ei}
 {d:Zs Nat} {op:Op} {ty:ba} {pos:String} {af:Array hY} {v:al} {g:Zs (Nat×Ys)} {T:ba} {ρ:bo->al} {x y:bo}
theorem w_stOP{α:Type}{R:lT α}{E:ba}{L:Nat}{l:ZD α}{k:Int}{a a':α}{b off:Nat}{zs vs:ZD al}{u:al}(h:SH w0 M K w hp)(i:Nat)(z:hp i=.own R E u l)(B:ob u b)(hs:R.sz=L)(G:l[k.toNat]? =ak a)(hT:xy P T zs)(c:ev n env x=.pointer (ak ⟨b,k.toNat*L+off,ar⟩))
    (hy:ev n env y=.agg vs.toArray) (hl:vs.length=zs.length) (s:lA (off+vs.length) L=aT) (q:∀u∈vs,u.oneCell'=aT) (hset:∀cs,R.rd w (SH.A M hp) cs a->R.rd w (SH.A M hp) (MU cs off vs) a')
    (kk:∀w',SH w0 M K w' (bY hp i (.own R E u (l.set k.toNat a')))->bL (ob u) w w'->WL P ops Q rest n (gH env d gf) w'):
    WL P ops Q (⟨d,.store T x y,ty,pos,af,ar⟩::rest) n env w:=by
  subst hs;rw[oT]at s;have f:k.toNat<l.length:=M7 G;have O:l[k.toNat]=a:=by rw[bc f]at G;exact cQ G
  generalize k.toNat=k at*;have e:∀b,ob u b->SH.A M hp b:=fun b B=>.inr ⟨i,by rw[z];exact B⟩;obtain⟨xs,C,q3⟩:=h.bI i z;rcases C.2 with⟨rfl,hn⟩|⟨g',cap,cur,rfl,e1,e2,e3,e4,e5,e6⟩
  · omega
  have I:b=g':=B;subst I;have a0:(k+1)*R.sz<=l.length*R.sz:=bd _ f;have a1:l.length*R.sz<=cap*R.sz:=bd _ e3;rw[cj]at a0;have N:cur.toList.length=cap*R.sz:=by simpa using e5
  have a2:xs.length=l.length*R.sz:=C.1;have t:k*R.sz+off+vs.length<=cur.toList.length:=by omega
  have r:k*R.sz+off+vs.length<=xs.length:=by omega
  have m:=bL.xz w b<|.cells (MU cur.toList (k*R.sz+off) vs).toArray E (0,0);have F:=TN (P:=P) (w:=w) (ρ:=ev n env) (d:=d) (ty:=ty) (pos:=pos) (af:=af) (g:=ar) (cs:=cur.toList) (E:=E) hT c (by simpa using e2) hy hl t q;refine BJ F (kk _ (h.step i m (fun x c _=>by rw[z];exact c) (fun x c _=>by rw[z];exact c) ⟨MU xs (k*R.sz+off) vs,⟨?_,.inr ⟨b,cap,(MU cur.toList (k*R.sz+off) vs).toArray,?_,e1,?_,?_,e4,?_,?_⟩⟩,?_⟩) (m.weaken (fun x c _=>c)))
  · rw[YV r,cp];exact C.1
  · rw[cp]
  · rw[wH (iR e2)]
  · rw[cp];exact e3
  · rw[rL,YV t];exact N
  · rw[cp];show(MU cur.toList (k*R.sz+off) vs).take (l.length*R.sz)=MU xs (k*R.sz+off) vs;rw[spl_take V V,e6]
  · intro o S;have X:o<l.length:=by rwa[cp]at S
    have v:=fun cs a(h:R.rd w (SH.A M hp) cs a)=>R.go (A':=fun x=>(M x\/(SH.av hp i (.own R E (.slice (ak ⟨b,0,ar⟩) l.length cap) (l.set k a'))) x)\/ob (.slice (ak ⟨b,0,ar⟩) l.length cap) x) h m (fun x c _=>e x c) (fun x c _=>by
      rcases c with(c|c|c)|c
      · exact .inl c
      · exact .inr<|lU c
      · exact e x c
      · exact e x c)
    have hq:=fun j(hj:j<l.length)=>R.go (A':=SH.A M hp) (q3 j hj) (bL.refl BE w) (fun _ h=>h.elim) fun x c _=>.inl c;by_cases p:o=k
    · subst p;rw[mx];rw[spl_mid s V];exact v _ _<|hset _<|O▸hq o f
    · rw[nb (Ne.symm p),spl_other r]
      · exact v _ _<|hq o X
      · rcases cI k o with h5|h5
        · right;have:(k+1)*R.sz<=o*R.sz:=bd _ h5;rw[cj]at this;omega
        · left;have:(o+1)*R.sz<=k*R.sz:=bd _ V;rw[cj]at this;omega
end
open Go.RowKit Go.Proofs
def nIns:RO Ins Int where
 sz:=5
 enc x u:=[.int .i64 x.op,.int .i64 x.a,.int .i64 x.b,.int .i64 x.c,u]
 sub x:=x.args
 put x s:={x with args:=s}
 len _ _:=rfl
 one:=by intro x u h c hc;simp only[bm,di,or_false]at hc;rcases hc with rfl|rfl|rfl|rfl|rfl<;>first|rfl|exact h
 pos:=by decide
 T9 _ _ _:=rfl
 Ua _ _:=rfl
theorem nIns_br:∀w A (x:Ins) u,dx dm w A u (nIns.sub x)->lN.rd w A (nIns.enc x u) x:=fun _ _ _ u h=>⟨u,rfl,h⟩
theorem nIns_op:∀(w:ao) (A:BS) cs (x:Ins),lN.rd w A cs x->∃u,cs=nIns.enc x u/\dx dm w A u (nIns.sub x):=fun _ _ _ _ h=>h
theorem nProc_op:∀(w:ao) (A:BS) cs (x:aX),dJ.rd w A cs x->∃u,cs=Lp.enc x u/\dx lN w A u (Lp.sub x):=fun _ _ _ _ h=>h
section
variable{α β:Type}{N:RO α β}{R:lT β}{E Es T:ba}{w0 w w':ao}{M K A:BS}{hp:Nat->Chunk}{v u u':al}{us us':ZD al}{L L':ZD α}{ss ss':ZD (ZD β)}{s:ZD β}{x y:α}{k:Nat}
theorem SH.pendSet(h:SH w0 M K w hp)(j q:Nat)(c:hp j=.eY (bP R Es (hge k) us (L.map N.sub)))(f:hp q=.eY (M9 R k us (L.map N.sub)))(a:j≠q)(d:L[k]? =ak x):
  SH w0 M K w (bY (bY hp q (.eY (M9 R (k+1) (us.set k u) (L.map N.sub)))) j (.eY (bP R Es (hge k) (us.set k u) (L.map N.sub)))):=by
 have l:=h.rdpStep (u:=u) (s:=N.sub x) q f;have g:=h.jX j c;have b:=l.famRe (us':=us.set k u) (ss':=(L.map N.sub).set k (N.sub x)) j (by rw[eD a];exact c) (by simp[g]) (fun i m=>by
  have:k≠i:=fun e=>m (by subst e;exact bE _);rw[dR this,dR this];exact⟨Z,Z⟩)
 have e:(L.map N.sub).set k (N.sub x)=L.map N.sub:=by rw[<-hJ,CF d]
 rw[e]at b;exact b
theorem SH.pendDel(h:SH w0 M K w hp)(j m:Nat)(g:hp j=.eY (bP R Es (hge k) us (L.map N.sub)))(n:hp m=.own R Es u s)(b:j≠m)(d:L[k]? =ak x)(f:us[k]? =ak u)(l:N.sub x=s):
    SH w0 M K w (bY (bY hp m .no) j (.eY (bP R Es (hge (k+1)) us (L.map N.sub)))):=by
  have c:=h.Lj j m (k:=k) (u:=u) (s:=s) g n b f (bE k) (hge (k+1)) (fun i=>⟨fun a=>by
    rcases rK (show k<=i from a)with e|e
    · exact .inr e.symm
    · exact .inl e,fun a=>a.elim (fun a=>sg a) (fun e=>by subst e;exact bE _)⟩) (fun a=>ZJ a (qt k))
  have e:(L.map N.sub).set k s=L.map N.sub:=by rw[<-l,<-hJ,CF d]
  rw[e]at c;exact c
theorem SH.dnOwn{R':lT α}(h:SH w0 M K w hp)(i j:Nat)(r:hp i=.own N.raw E v (L.zip us))(f:hp j=.eY (bP R Es hn us (L.map N.sub)))(o:i≠j)(k:R'.sz=N.sz)(I:∀w A x u,dx R w A u (N.sub x)->R'.rd w A (N.enc x u) x):SH w0 M K w (bY (bY hp j .no) i (.own R' E v L)):=by
  have s:=h.jX j f;have n:=h.pair i j o;have l:=n.apart i;have B:=n.apM i;have g:=n.ok i;rw[bZ]at l B;rw[bZ,r,f]at g;have t:=n.step (c:=.own R' E v L) i (bL.refl BE w) (fun _ h=>h.elim) (fun b a _=>by rw[bZ,r];exact .inl a) ?_
  · rw[ET]at t;exact t
  · have hno:∀b,(hp j).own' b->¬((M b\/SH.av (bY (bY hp j .no) i<|.two (hp i)<|hp j) i (.own R' E v L) b)\/ob v b):=by
      intro b a d;rcases d with(d|⟨q,m,d⟩|d)|d
      · exact B b (.inr a) d
      · exact l q (fun e=>m e.symm) b (.inr a) d
      · exact g.2.2 b d (by rw[<-f];exact a)
      · exact g.2.2 b d (by rw[<-f];exact a)
    have G:∀b,((M b\/SH.av (bY (bY hp j .no) i<|.two (hp i)<|hp j) i (.own R' E v L) b)\/ob v b)->M b\/iT (bY (bY hp j .no) i<|.two (.own N.raw E v<|L.zip us)<|.eY<|bP R Es hn us<|L.map N.sub) b:=by
      rw[r,f];have hv:∀b,ob v b->iT (bY (bY hp j .no) i (.two (.own N.raw E v (L.zip us)) (.eY (bP R Es hn us (L.map N.sub))))) b:=fun b a=>⟨i,by rw[bZ];exact .inl a⟩;rintro b((a|a|a)|a)
      · exact .inl a
      · exact .inr<|lU a
      · exact .inr<|hv b a
      · exact .inr<|hv b a
    obtain⟨xs,y,C⟩:=g.1;refine⟨xs,?_,fun q m=>?_⟩
    · rw[gN s]at y;show w.ownsRow 0 E R'.sz v L.length xs;rw[k];exact y
    · have p:q<(L.zip us).length:=by rw[gN s];exact m
      have z:=C q p;have P:(L.zip us)[q]=(L[q],us[q]'V):=by simp
      rw[P]at z;obtain⟨F,_⟩:=z;have O:((xs.drop<|q*N.sz).take N.sz)=N.enc L[q] (us[q]'V):=F;show R'.rd w _ ((xs.drop<|q*R'.sz).take R'.sz) L[q];rw[k,O];exact I _ _ _ _ (cK.rd (g.2.1.2.1 q _ _ (bc V) (by rw[ej,bc m];rfl) (fun h=>h)) (fun b a=>hno b (by rw[f];exact⟨q,_,bc V,fun h=>h,a⟩)) (fun b a _=>.inl (.inl (G b a))))
end
structure bV where
 cos:List Co
 safe:List UInt8
 wait:List UInt8
 up:Bool
def fu:lT bV where
 sz:=4
 rd w A cs x:=∃vcos,∃Yk,∃Yl,cs=[vcos,Yk,Yl,.bool x.up]/\dx Il w A vcos x.cos/\dx iN w A Yk x.safe/\dx iN w A Yl x.wait
 len:=by rintro w A cs x ⟨vcos,Yk,Yl,rfl,h0,h1,h2⟩;rfl
 one:=by rintro w A cs x ⟨vcos,Yk,Yl,rfl,h0,h1,h2⟩ u hu;simp only[bm,di,or_false]at hu;rcases hu with rfl|rfl|rfl|rfl<;>first|rfl|exact h0.one|exact h1.one|exact h2.one
 pos:=by decide
 go:=by rintro w A cs x w2 A2 K ⟨vcos,Yk,Yl,rfl,h0,h1,h2⟩ hk hK hA;exact⟨_,_,_,Z,h0.go hk hK hA,h1.go hk hK hA,h2.go hk hK hA⟩
theorem ic{w:ao}{A:BS}{cs:ZD al}{x:bV}(h:fu.rd w A cs x):∃a,∃c,∃b,cs=[a,c,b,.bool x.up]/\dx Il w A a x.cos/\dx iN w A c x.safe/\dx iN w A b x.wait:=h
structure aW where
 prog:List aX
 places:List bV
 aY:List dE
structure jo where
 kind:Int
 place:Int
 co:Int
 n:Int
def rHap:lT jo where
 sz:=4
 rd w A cs x:=cs=[.int .i64 x.kind,.int .i64 x.place,.int .i64 x.co,.int .i64 x.n]
 len:=by rintro w A cs x rfl;rfl
 one:=by rintro w A cs x rfl u hu;simp only[bm,di,or_false]at hu;rcases hu with rfl|rfl|rfl|rfl<;>first|rfl
 pos:=by decide
 go:=fun h _ _ _=>h
open Go Go.RowKit Go.Proofs
section
variable{P:ca}{ops:Array ei}{Q:fl->Act->ao->Prop}{rest:ZD ei}{n:Nat}{env:Nat->al}{w w0:ao}{M K:BS}{hp:Nat->Chunk}{d:Zs Nat}{ty:ba}{pos:String}{af:Array hY}{x y:bo}{T:ba}{v:al}
theorem mI{i:Int}(a:ev n env x=.int .i64 i)(h:WL P ops Q rest n (gH env d (.int .i64 i)) w):WL P ops Q (⟨d,.move x,ty,pos,af,ar⟩::rest) n env w:=J (bO a) h
theorem mB{i:Ys}(a:ev n env x=.bool i)(h:WL P ops Q rest n (gH env d (.bool i)) w):WL P ops Q (⟨d,.move x,ty,pos,af,ar⟩::rest) n env w:=J (bO a) h
theorem mP{i:Zs Addr}(a:ev n env x=.pointer i)(h:WL P ops Q rest n (gH env d (.pointer i)) w):WL P ops Q (⟨d,.move x,ty,pos,af,ar⟩::rest) n env w:=J (bO a) h
theorem mV(v:al)(a:ev n env x=v)(h:WL P ops Q rest n (gH env d v) w):WL P ops Q (⟨d,.move x,ty,pos,af,ar⟩::rest) n env w:=J (bO a) h
theorem aI{i:Int}(a:ev n env x=.int .i64 i)(h:WL P ops Q rest n (gH env d (.int .i64 i)) w):WL P ops Q (⟨d,.assign x,ty,pos,af,ar⟩::rest) n env w:=J (fD a) h
theorem aB{i:Ys}(a:ev n env x=.bool i)(h:WL P ops Q rest n (gH env d (.bool i)) w):WL P ops Q (⟨d,.assign x,ty,pos,af,ar⟩::rest) n env w:=J (fD a) h
theorem aP{i:Zs Addr}(a:ev n env x=.pointer i)(h:WL P ops Q rest n (gH env d (.pointer i)) w):WL P ops Q (⟨d,.assign x,ty,pos,af,ar⟩::rest) n env w:=J (fD a) h
theorem aV(v:al)(a:ev n env x=v)(h:WL P ops Q rest n (gH env d v) w):WL P ops Q (⟨d,.assign x,ty,pos,af,ar⟩::rest) n env w:=J (fD a) h
theorem lB{z:al}{b o:Nat}{cs:ZD al}(h:SH w0 M K w hp)(i:Nat)(a:One P T z)(e:(hp i,ev n env x,cs[o]?)=(Chunk.blk b cs,gh (ak ⟨b,o,ar⟩),ak v))(k:WL P ops Q rest n (gH env d v) w):WL P ops Q (⟨d,.load T x,ty,pos,af,ar⟩::rest) n env w:=by
 injection e with e1 e2;injection e2 with e2 e3;exact J (cz h i e1 a e2 e3) k
theorem nA{zs vs:ZD al}{b o:Nat}{cs:ZD al}(h:SH w0 M K w hp)(i:Nat)(a:xy P T zs)(e:(hp i,ev n env x,(cs.drop o).take zs.length,vs.length)=(Chunk.blk b cs,gh (ak ⟨b,o,ar⟩),vs,zs.length))(k:WL P ops Q rest n (gH env d (.agg vs.toArray)) w):WL P ops Q (⟨d,.load T x,ty,pos,af,ar⟩::rest) n env w:=by
 injection e with e1 e2;injection e2 with e2 e3;injection e3 with e3 e4;exact J (yM h i e1 a e2 e3 e4) k
theorem dO{b o k off:Nat}(c:dX P T k off)(a:ev n env x=.pointer (ak ⟨b,o,ar⟩))(h:WL P ops Q rest n (gH env d (.pointer (ak ⟨b,o+off,ar⟩))) w):WL P ops Q (⟨d,.fieldAddr T x k,ty,pos,af,ar⟩::rest) n env w:=J (aM c a) h
theorem w_stA{zs:ZD al}{b:Nat}{cs:ZD al}(h:SH w0 M K w hp)(i:Nat)(vs:ZD al)(a:xy P T zs)(e:(hp i,ev n env x,ev n env y,vs.length,cs.length)=(Chunk.blk b cs,gh (ak ⟨b,0,ar⟩),rM vs.toArray,zs.length,vs.length))(hv:∀v∈vs,v.oneCell'=aT)
  (k:∀w',SH w0 M K w' (bY hp i (.blk b vs))->WL P ops Q rest n (gH env d gf) w'):WL P ops Q (⟨d,.store T x y,ty,pos,af,ar⟩::rest) n env w:=by
 injection e with e1 e2;injection e2 with e2 e3;injection e3 with e3 e4;injection e4 with e4 e5;refine w_stN h i vs e1 a e2 e3 e4 ?_ (by rw[oT];omega) hv k;unfold MU;simp[e5]
theorem bS{f:fY}{first captured:Array al}{xs:Array bo}{j:Array ba}{args:ZD al}(h:SH w0 M K w hp)(c:TP P f)(a:ev n env x=.func (.func f) first captured)
  (b:first.toList++xs.toList.map (ev n env)++captured.toList=args) (i:bw P f args.toArray w (fun e w'=>Grow w w'/\e=.returned v)) (k:∀w',SH w0 M K w' hp->WL P ops Q rest n (gH env d v) w'):
  WL P ops Q (⟨d,.call {callee:=.value x,args:=xs,argTypes:=j},ty,pos,af,ar⟩::rest) n env w:=
 bW c a b i (by rintro _ w' ⟨g,rfl⟩;exact⟨_,Z,k w' (h.grow g)⟩)
theorem YW{α:Type}{R:lT α}{l:ZD α}{f:fY}{first captured:Array al}{xs:Array bo}{m:Array ba}{args:ZD al}{F:al->al}(h:SH w0 M K w hp)(i:Nat)(b:TP P f)(j:ev n env x=.func (.func f) first captured)
  (a:first.toList++xs.toList.map (ev n env)++captured.toList=args) (c:bw P f args.toArray w (fun e w'=>Grow w w'/\∃u,e=.returned (F u)/\dx R w' (SH.A M hp) u l)) (k:∀w' u,SH w0 M K w' (bY hp i (.rd R u l))->WL P ops Q rest n (gH env d (F u)) w'):
  WL P ops Q (⟨d,.call {callee:=.value x,args:=xs,argTypes:=m},ty,pos,af,ar⟩::rest) n env w:=
 bW b j a c (by rintro _ w' ⟨g,u,rfl,g2⟩;exact⟨_,Z,k w' u (h.wG i g g2)⟩)
theorem je{α:Type}{R:lT α}{E:ba}{l:ZD α}{f:fY}{first captured:Array al}{xs:Array bo}{p:Array ba}{args:ZD al}{F:al->al}(h:SH w0 M K w hp)(i:Nat)(j:TP P f)(o:ev n env x=.func (.func f) first captured)
  (c:first.toList++xs.toList.map (ev n env)++captured.toList=args) (m:bw P f args.toArray w (fun e w'=>Grow w w'/\∃u,e=.returned (F u)/\cK R E w' (SH.A M hp) u l/\(∀b,ob u b->w.heap.size<=b))) (k:∀w' u,SH w0 M K w' (bY hp i (.own R E u l))->WL P ops Q rest n (gH env d (F u)) w'):
  WL P ops Q (⟨d,.call {callee:=.value x,args:=xs,argTypes:=p},ty,pos,af,ar⟩::rest) n env w:=
 bW j o c m (by rintro _ w' ⟨g,u,rfl,g2,a⟩;exact⟨_,Z,k w' u (h.wF i g g2 a)⟩)
end
section
variable{w w' w0:ao}{M K:BS}{hp:Nat->Chunk}{C:Chunk}
theorem SH.fA(h:SH w0 M K w hp)(i:Nat)(a:(hp i).TU):(hp i).holds w M (hp i).own'/\bL K w0 w/\(∀b,(hp i).own' b->b<w0.heap.size->K b):=h.outS i Z a
theorem SH.iw(h:SH w0 M K w hp)(i:Nat)(a:(hp i).TU):(hp i).holds w (fun b=>M b\/rest hp i b) (hp i).own'/\(∀b,(hp i).own' b->¬(M b\/rest hp i b))/\(∀b,(M b\/rest hp i b)->b<w.heap.size):=h.lendS i Z a
theorem SH.lg(h:SH w0 M K w hp)(i:Nat)(d:C.holds w' (fun b=>M b\/rest hp i b) C.own')(a:C.TU)(c:bL (hp i).own' w w')(hn:∀b,C.own' b->b<w.heap.size->(hp i).own' b):SH w0 M K w' (bY hp i C):=h.back i Z a d c hn
end
section
variable{σ ρ α:Type}{b:Int->σ->(σ->ρ)->ρ}{bx:Int->α->σ->(σ->ρ)->ρ}{be:α->σ->(σ->ρ)->ρ}{K:σ->ρ}{s:σ}{r:ρ}{i c:Int}{k:Nat}{L:ZD α}
theorem sH(f:i=(k:Int))(e:ab (i<c)=aT)(d:upto b K i (c.toNat-k) s=r):∃a,upto b K (i+1) (c.toNat-(k+1))=a/\b i s a=r:=by
 rw[upto_lt (by have:=of_decide_eq_true e;omega)]at d;exact⟨_,Z,d⟩
theorem zo(d:i=(k:Int))(e:ab (i<c)=aq)(a:upto b K i (c.toNat-k) s=r):K s=r:=by
 rw[upto_ge (by have:=of_decide_eq_false e;omega)]at a;exact a
theorem zq(a:i=(k:Int))(e:ab (i<c)=aT)(b:c<=9223372036854775807):kN (i+1):=by
 have:=of_decide_eq_true e;exact kN.mk V V
theorem J2(a:i=(k:Int))(e:ab (i<c)=aT):c.toNat-(k+1)<c.toNat-k:=by
 have:=of_decide_eq_true e;omega
theorem lI(a:i=(k:Int))(e:ab (i<(L.length:Int))=aT)(c:each be K (L.drop k) s=r):∃x b,L[k]? =ak x/\each be K (L.drop (k+1))=b/\be x s b=r:=by
 obtain⟨x,f,d⟩:=drop_lt<|a▸e;rw[d,gV]at c;exact⟨x,_,f,Z,c⟩
theorem ql(a:i=(k:Int))(e:ab (i<(L.length:Int))=aq)(b:each be K (L.drop k) s=r):K s=r:=by
 rw[drop_ge (a▸e),rE]at b;exact b
theorem Cg(a:i=(k:Int))(e:ab (i<(L.length:Int))=aT)(c:ib bx K i (L.drop k) s=r):∃x b,L[k]? =ak x/\ib bx K (i+1) (L.drop (k+1))=b/\bx i x s b=r:=by
 obtain⟨x,f,d⟩:=drop_lt<|a▸e;rw[d,sG]at c;exact⟨x,_,f,Z,c⟩
theorem IM(a:i=(k:Int))(e:ab (i<(L.length:Int))=aq)(b:ib bx K i (L.drop k) s=r):K s=r:=by
 rw[drop_ge (a▸e),VD]at b;exact b
theorem uC(a:i=(k:Int))(e:ab (i<(L.length:Int))=aT):L.length-(k+1)<L.length-k:=by
 have:=of_decide_eq_true e;omega
end
abbrev cW(b:Nat)(a v1 v2:al)(l:ZD bV):Chunk:=.two (.blk b [a,v1,v2]) (.own fu 40 v1 l)
abbrev nC(M:BS)(w:ao):Prop:=∀b,M b->b<w.heap.size
open Go Go.RowKit Go.Proofs
section
variable{P:ca}{ops:Array ei}{Q:fl->Act->ao->Prop}{rest:ZD ei}{n:Nat}{env:Nat->al}{w w0:ao}{M K:BS}{hp:Nat->Chunk}{d:Zs Nat}{ty:ba}{pos:String}{af:Array hY}{x y:bo}{T T2:ba}{v:al}
theorem om{k:Int}{p:al}(i:IxOk P T v k p)(e:(ev n env x,ev n env y)=(v,dq .i64 k))(h:WL P ops Q rest n (gH env d p) w):WL P ops Q (⟨d,.indexAddr T x y,ty,pos,af,ar⟩::rest) n env w:=by
 injection e with e1 e2;exact J (i _ _ _ _ _ _ _ _ _ e1 e2) h
theorem eB{p q:Int}{k:IntKind}(e:(ev n env x,ev n env y)=(dq k p,dq k q))(h:WL P ops Q rest n (gH env d (.bool (ab (p=q)))) w):WL P ops Q (⟨d,.binOp .eql T x y T2,ty,pos,af,ar⟩::rest) n env w:=by
 injection e with e1 e2;exact J (pE e1 e2) h
theorem jJ{p q:Int}{k:IntKind}(e:(ev n env x,ev n env y)=(dq k p,dq k q))(h:WL P ops Q rest n (gH env d (.bool (ab (p≠q)))) w):WL P ops Q (⟨d,.binOp .neq T x y T2,ty,pos,af,ar⟩::rest) n env w:=by
 injection e with e1 e2;exact J (Cw e1 e2) h
theorem gp{p q:Int}(e:(ev n env x,ev n env y)=(dq .i64 p,dq .i64 q))(h:WL P ops Q rest n (gH env d (.bool (ab (p<q)))) w):WL P ops Q (⟨d,.binOp .lss T x y T2,ty,pos,af,ar⟩::rest) n env w:=by
 injection e with e1 e2;exact J (wE e1 e2) h
theorem fQ{p q:Int}(e:(ev n env x,ev n env y)=(dq .i64 p,dq .i64 q))(a:kN (p+q))(h:WL P ops Q rest n (gH env d (.int .i64 (p+q))) w):WL P ops Q (⟨d,.binOp .add T x y T2,ty,pos,af,ar⟩::rest) n env w:=by
 injection e with e1 e2;exact J (Lf e1 e2 a) h
theorem fJ{i:Nat}{vs:ZD al}(e:(ev n env x,vs[i]?)=(Value.tuple vs.toArray,ak v))(h:WL P ops Q rest n (gH env d v) w):WL P ops Q (⟨d,.extract x i,ty,pos,af,ar⟩::rest) n env w:=by
 injection e with e1 e2;exact J (dY e1 e2) h
theorem fU{α:Type}{R:lT α}{E:ba}{a:Nat}{l:ZD α}(h:SH w0 M K w hp)(i:Nat)(b:SliceOf P T E a)(e:(hp i,ev n env x)=(Chunk.sr R v l,v))(k:WL P ops Q rest n (gH env d (.int .i64 l.length)) w):WL P ops Q (⟨d,.call {callee:=.builtin .len,args:= #[x],argTypes:= #[T]},ty,pos,af,ar⟩::rest) n env w:=by
 injection e with e1 e2;exact J (gY b e2<|h.gu i e1) k
theorem pG{α:Type}{R:lT α}{E:ba}{a:Nat}{l:ZD α}(h:SH w0 M K w hp)(i:Nat)(b:SliceOf P T E a)(e:(hp i,ev n env x)=(Chunk.rd R v l,v))(k:WL P ops Q rest n (gH env d (.int .i64 l.length)) w):WL P ops Q (⟨d,.call {callee:=.builtin .len,args:= #[x],argTypes:= #[T]},ty,pos,af,ar⟩::rest) n env w:=by
 injection e with e1 e2;exact J (gY b e2<|h.kT i e1) k
theorem sI{j dj b' o:Nat}{b a:Ys}{z:al}{cs:ZD al}(h:SH w0 M K w hp)(i:Nat)(c:One P T z)(e:((ops[j]?).bind (·.dst),ev n env (.tmp dj),hp i,ev n env x,cs[o]?)=(ak dj,dr b,Chunk.blk b' cs,gv (b==a) (.pointer (ak ⟨b',o,ar⟩)),ak v))
    (k:WL P ops Q rest n (gH env d (gv (b==a) v)) w):WL P ops Q (⟨d,.load T x,ty,pos,af,ak (j,a)⟩::rest) n env w:=by
  injection e with e1 e2;injection e2 with e2 e3;injection e3 with e3 e4;injection e4 with e4 e5;exact aQ e1 e2 (fun q=>cz h i e3 c (e4.trans<|fC q) e5) k
theorem uu{j dj b' o f off:Nat}{b a:Ys}(c:dX P T f off)(e:((ops[j]?).bind (·.dst),ev n env (.tmp dj),ev n env x)=(ak dj,dr b,gh (ak ⟨b',o,ar⟩)))
    (k:WL P ops Q rest n (gH env d (gv (b==a) (.pointer (ak ⟨b',o+off,ar⟩)))) w):WL P ops Q (⟨d,.fieldAddr T x f,ty,pos,af,ak (j,a)⟩::rest) n env w:=by
  injection e with e1 e2;injection e2 with e2 e3;exact aQ e1 e2 (fun q=>aM c e3) k
end
theorem cst{P:ca}{f:fY}{a:Func}{c:Code}{args:ZD al}{R:Ending->ao->Prop}{n:Nat}{w:ao}(b:P.funcs[f]? =ak a)(hn:a.ntmps=n)(e:(a.body,lA args.length n)=(ak c,aT))
  (h:WC P c (jF P a R) n (VB args) w):bw P f args.toArray w R:=by
 injection e with e1 e2;exact calls_start b e1 hn (gE e2) h
open Go Go.RowKit Go.Proofs
def fillF(pl:ZD (Nat×Nat))(cs:ZD al):ZD (Nat×al)->Zs (ZD al)
 |[]=>ak cs
 |(i,v)::r=>match pl[i]? with
  |some (off,1)=>if off<cs.length then fillF pl (cs.set off v) r else ar
  |_=>ar
theorem fillF_ok{pl:ZD (Nat×Nat)}:∀{pv:ZD (Nat×al)} {cs out:ZD al},(∀v∈pv.map (·.2),v.oneCell'=aT)->fillF pl cs pv=ak out->FillOk pl cs pv out
  |[],cs,out,_,h=>cQ h
  |(i,v)::r,cs,out,ho,h=>by
    unfold fillF at h;split at h
    · rename_i off e;split at h
      · rename_i b;refine⟨off,1,[v],e,dZ<|ho v zq3,Z,by omega,?_⟩;rw[show MU cs off [v]=cs.set off v by unfold MU;rw[List.set_eq_take_append_cons_drop,Z2 b];simp];exact fillF_ok (fun x a=>ho x<|List.mem_cons_of_mem _ a) h
      · cases h
    · cases h
section
variable{P:ca}{ops:Array ei}{Q:fl->Act->ao->Prop}{rest:ZD ei}{n:Nat}{env:Nat->al}{w w0:ao}{M K:BS}{hp:Nat->Chunk}{d:Zs Nat}{op:Op}{ty:ba}{pos:String}{af:Array hY}{x y c:bo}{T T2:ba}{v:al}{j dj:Nat}{b b0 r:Ys}{i:Int}
theorem jB{zs out:ZD al}{pl:ZD (Nat×Nat)}{a:Array (Nat×bo)}{pv:ZD (Nat×al)}(b:Struct P T zs pl)(e:(a.toList.map fun p=>(p.1,ev n env p.2),fillF pl zs pv)=(pv,ak out))(ho:∀v∈pv.map (·.2),v.oneCell'=aT)
    (h:WL P ops Q rest n (gH env d (.agg out.toArray)) w):WL P ops Q (⟨d,.build T a,ty,pos,af,ar⟩::rest) n env w:=by
  injection e with e1 e2;exact J (pO b e1<|fillF_ok ho e2) h
theorem Ug(a:b0=aT)(e:(ev n env c,ev n env x)=(dr b0,dr r))(h:WL P ops Q rest n (gH env d (.bool r)) w):WL P ops Q (⟨d,.pick c x y,ty,pos,af,ar⟩::rest) n env w:=by
 injection e with e1 e2;exact J (oq (b:=aT) (by rw[e1,a]) e2) h
theorem Ym(a:b0=aq)(e:(ev n env c,ev n env y)=(dr b0,dr r))(h:WL P ops Q rest n (gH env d (.bool r)) w):WL P ops Q (⟨d,.pick c x y,ty,pos,af,ar⟩::rest) n env w:=by
 injection e with e1 e2;exact J (oq (b:=aq) (by rw[e1,a]) e2) h
theorem za(a:b0=aq)(e:((ops[j]?).bind (·.dst),ev n env (.tmp dj),(aq==b))=(ak dj,dr b0,aq))(h:WL P ops Q rest n (gH env d gf) w):WL P ops Q (⟨d,op,ty,pos,af,ak (j,b)⟩::rest) n env w:=by
  injection e with e1 e2;injection e2 with e2 e3;exact jW e1 (by rw[e2,a]) e3 h
theorem JZ(a:b0=aT)(e:((ops[j]?).bind (·.dst),ev n env (.tmp dj),(aT==b))=(ak dj,dr b0,aq))(h:WL P ops Q rest n (gH env d gf) w):WL P ops Q (⟨d,op,ty,pos,af,ak (j,b)⟩::rest) n env w:=by
  injection e with e1 e2;injection e2 with e2 e3;exact jW e1 (by rw[e2,a]) e3 h
theorem oN(a:b0=b)(e:((ops[j]?).bind (·.dst),ev n env (.tmp dj))=(ak dj,dr b0))(h:WL P ops Q (⟨d,op,ty,pos,af,ar⟩::rest) n env w):WL P ops Q (⟨d,op,ty,pos,af,ak (j,b)⟩::rest) n env w:=by
  injection e with e1 e2;exact X7 e1 (by rw[e2,a]) h
theorem Vv{a:Ys}(e:((ops[j]?).bind (·.dst),ev n env (.tmp dj),ev n env x)=(ak dj,dr b,dq .i64 i))(h:WL P ops Q rest n (gH env d (gv (b==a) (.int .i64 i))) w):WL P ops Q (⟨d,.move x,ty,pos,af,ak (j,a)⟩::rest) n env w:=by
  injection e with e1 e2;injection e2 with e2 e3;exact aQ e1 e2 (fun _=>bO e3) h
theorem g0B'{a:Ys}(e:((ops[j]?).bind (·.dst),ev n env (.tmp dj),ev n env x)=(ak dj,dr b,dr r))(h:WL P ops Q rest n (gH env d (gv (b==a) (.bool r))) w):WL P ops Q (⟨d,.move x,ty,pos,af,ak (j,a)⟩::rest) n env w:=by
  injection e with e1 e2;injection e2 with e2 e3;exact aQ e1 e2 (fun _=>bO e3) h
theorem Ld{zs vs:ZD al}{a o k:Nat}{cs:ZD al}(h:SH w0 M K w hp)(i:Nat)(b:xy P T zs)(e:(hp i,ev n env x,(cs.drop k).take zs.length,vs.length,lA (k+zs.length) cs.length)=(Chunk.pt a o cs,gh (ak ⟨a,o+k,ar⟩),vs,zs.length,aT))(q:WL P ops Q rest n (gH env d (.agg vs.toArray)) w):WL P ops Q (⟨d,.load T x,ty,pos,af,ar⟩::rest) n env w:=by
 injection e with e1 e2;injection e2 with e2 e3;injection e3 with e3 e4;injection e4 with e4 e5;exact J (MZ h i e1 b e2 e3 e4<|gE e5) q
theorem jw{L:BS}{ws:ao}{u:al}(a:bL L ws w)(g:∀b,ob u b->w.heap.size<=b):∀b,ob u b->ws.heap.size<=b:=fun b c=>Nat.le_trans a.size (g b c)
end
section
variable{P:ca}{ops:Array ei}{Q:fl->Act->ao->Prop}{n:Nat}{env:Nat->al}{w ws:ao}{d:Zs Nat}{op:Op}{ty:ba}{pos:String}{af:Array hY}{fuel:Nat}{listed:Array Ys}{v:al}{L:BS}
theorem cu(i:Nat)(c:Grow ws w)(f:ops[i]? =ak ⟨d,op,ty,pos,af,ar⟩)(e:∀b,Grow ws b->(bk (ev n env) ⟨d,op,ty,pos,af,ar⟩).run P b=.ok (.value v) b)(h:WH P ops ws Q fuel (listed.setIfInBounds i aT) n (gH env d v) w)(a:(en ops&&(fi .any ops listed i&&(cX .any ops listed).contains i))=true:=by kernel_rfl):WH P ops ws Q (fuel+1) listed n env w:=by
 simp only[cP]at a;exact wh_ok i c f bC a.1 a.2.1 a.2.2 e h
theorem bu(i:Nat)(c:bL L ws w)(f:ops[i]? =ak ⟨d,op,ty,pos,af,ar⟩)(e:∀b,bL L ws b->(bk (ev n env) ⟨d,op,ty,pos,af,ar⟩).run P b=.ok (.value v) b)(h:YT P ops L ws Q fuel (listed.setIfInBounds i aT) n (gH env d v) w)(a:(en ops&&(fi .any ops listed i&&(cX .any ops listed).contains i))=true:=by kernel_rfl):YT P ops L ws Q (fuel+1) listed n env w:=by
 simp only[cP]at a;exact whk_ok i c f bC a.1 a.2.1 a.2.2 e h
end
section
variable{P:ca}{ops:Array ei}{w:ao}{Q1:Act->Prop}{rest:ZD ei}{n:Nat}{env:Nat->al}{d:Zs Nat}{ty:ba}{pos:String}{af:Array hY}{x:bo}
theorem kI{i:Int}(a:ev n env x=.int .i64 i)(h:WK P ops w Q1 rest n (gH env d (.int .i64 i))):WK P ops w Q1 (⟨d,.move x,ty,pos,af,ar⟩::rest) n env:=aJ (bO a) h
theorem kB{i:Ys}(a:ev n env x=.bool i)(h:WK P ops w Q1 rest n (gH env d (.bool i))):WK P ops w Q1 (⟨d,.move x,ty,pos,af,ar⟩::rest) n env:=aJ (bO a) h
end
abbrev Hq(w:ao)(M:BS)(C:Chunk):Prop:=Chunk.holds w M (Chunk.own' C) C
abbrev ApC(C:Chunk)(M:BS):Prop:=∀b,Chunk.own' C b->¬M b
abbrev Zo(C':Chunk)(w:ao)(C:Chunk):Prop:=∀b,Chunk.own' C' b->b<w.heap.size->Chunk.own' C b
abbrev FX(M:BS)(C:Chunk):BS:=fun b=>M b\/Chunk.own' C b
open Go Go.RowKit Go.Proofs
section
variable{P:ca}{ops:Array ei}{Q:fl->Act->ao->Prop}{n:Nat}{env:Nat->al}{w ws:ao}{d:Zs Nat}{ty:ba}{pos:String}{af:Array hY}{fuel:Nat}{listed:Array Ys}{v:al}{L:BS}{T:ba}{x:bo}
theorem Hr(i:Nat)(a:Grow ws w){k off b o:Nat}(f:dX P T k off)(e:(ops[i]?,ev n env x)=(ak ⟨d,.fieldAddr T x k,ty,pos,af,ar⟩,gh (ak ⟨b,o,ar⟩)))(h:WH P ops ws Q fuel (listed.setIfInBounds i aT) n (gH env d (.pointer (ak ⟨b,o+off,ar⟩))) w)(c:(en ops&&(fi .any ops listed i&&(cX .any ops listed).contains i))=true:=by kernel_rfl):WH P ops ws Q (fuel+1) listed n env w:=by
 injection e with e1 e2;exact cu i a e1 (fun _ _=>aM f e2) h c
theorem dA(i:Nat)(a:bL L ws w){k off b o:Nat}(f:dX P T k off)(e:(ops[i]?,ev n env x)=(ak ⟨d,.fieldAddr T x k,ty,pos,af,ar⟩,gh (ak ⟨b,o,ar⟩)))(h:YT P ops L ws Q fuel (listed.setIfInBounds i aT) n (gH env d (.pointer (ak ⟨b,o+off,ar⟩))) w)(c:(en ops&&(fi .any ops listed i&&(cX .any ops listed).contains i))=true:=by kernel_rfl):YT P ops L ws Q (fuel+1) listed n env w:=by
 injection e with e1 e2;exact bu i a e1 (fun _ _=>aM f e2) h c
theorem yf(i:Nat)(a:Grow ws w)(v:al)(e:(ops[i]?,ev n env x)=(ak ⟨d,.move x,ty,pos,af,ar⟩,v))(h:WH P ops ws Q fuel (listed.setIfInBounds i aT) n (gH env d v) w)(b:(en ops&&(fi .any ops listed i&&(cX .any ops listed).contains i))=true:=by kernel_rfl):WH P ops ws Q (fuel+1) listed n env w:=by
 injection e with e1 e2;exact cu i a e1 (fun _ _=>bO e2) h b
theorem jf(i:Nat)(a:bL L ws w)(v:al)(e:(ops[i]?,ev n env x)=(ak ⟨d,.move x,ty,pos,af,ar⟩,v))(h:YT P ops L ws Q fuel (listed.setIfInBounds i aT) n (gH env d v) w)(b:(en ops&&(fi .any ops listed i&&(cX .any ops listed).contains i))=true:=by kernel_rfl):YT P ops L ws Q (fuel+1) listed n env w:=by
 injection e with e1 e2;exact bu i a e1 (fun _ _=>bO e2) h b
theorem J3(i:Nat)(a:Grow ws w)(v:al)(e:(ops[i]?,ev n env x)=(ak ⟨d,.assign x,ty,pos,af,ar⟩,v))(h:WH P ops ws Q fuel (listed.setIfInBounds i aT) n (gH env d v) w)(b:(en ops&&(fi .any ops listed i&&(cX .any ops listed).contains i))=true:=by kernel_rfl):WH P ops ws Q (fuel+1) listed n env w:=by
 injection e with e1 e2;exact cu i a e1 (fun _ _=>fD e2) h b
theorem vU(i:Nat)(a:bL L ws w)(v:al)(e:(ops[i]?,ev n env x)=(ak ⟨d,.assign x,ty,pos,af,ar⟩,v))(h:YT P ops L ws Q fuel (listed.setIfInBounds i aT) n (gH env d v) w)(b:(en ops&&(fi .any ops listed i&&(cX .any ops listed).contains i))=true:=by kernel_rfl):YT P ops L ws Q (fuel+1) listed n env w:=by
 injection e with e1 e2;exact bu i a e1 (fun _ _=>fD e2) h b
end
section
variable{P:ca}{ops:Array ei}{Q:fl->Act->ao->Prop}{rest:ZD ei}{n:Nat}{env:Nat->al}{w w0:ao}{M K:BS}{hp:Nat->Chunk}{d:Zs Nat}{ty:ba}{pos:String}{af:Array hY}{x y:bo}{T:ba}
theorem bM{zs vs:ZD al}{b:Nat}{cs:ZD al}(h:SH w0 M K w hp)(i:Nat)(a:xy P T zs)(e:(hp i,ev n env x,ev n env y,vs.length,cs.length)=(Chunk.blk b cs,gh (ak ⟨b,0,ar⟩),rM vs.toArray,zs.length,vs.length))(hv:∀v∈vs,v.oneCell'=aT)
 (k:∀w',SH w0 M K w' (bY hp i (.blk b vs))->WL P ops Q rest n (gH env d gf) w'):WL P ops Q (⟨d,.store T x y,ty,pos,af,ar⟩::rest) n env w:=w_stA h i vs a e hv k
theorem SH.pr(h:SH w0 M K w hp)(i j:Nat)(a:i≠j:=by decide):SH w0 M K w (bY (bY hp j .no) i (.two (hp i) (hp j))):=h.pair i j a
theorem SH.un{a c:Chunk}(h:SH w0 M K w hp)(i j:Nat)(e:hp i=.two a c)(d:hp j=.no)(b:i≠j:=by decide):SH w0 M K w (bY (bY hp i a) j c):=h.unpair i j b e d
end
open Go Go.RowKit Go.Proofs
theorem kR{L:BS}{w:ao}:bL L w w:=bL.refl L w
theorem dH{vs:ZD al}(e:vs.all Value.oneCell'=aT):∀v∈vs,v.oneCell'=true:=fun v h=>lP.1 e v h
section
variable{P:ca}{ops:Array ei}{Q:fl->Act->ao->Prop}{n:Nat}{env:Nat->al}{w:ao}{fuel:Nat}{listed:Array Ys}{L:BS}
theorem gW(h:∀ws,bL L ws w->YT P ops L ws Q fuel listed n env w):YT P ops L w Q fuel listed n env w:=h w (bL.refl _ _)
theorem rF(h:∀ws,Grow ws w->WH P ops ws Q fuel listed n env w):WH P ops w Q fuel listed n env w:=h w (bL.refl _ _)
end
section
variable{P:ca}{ops:Array ei}{Q:fl->Act->ao->Prop}{rest:ZD ei}{n:Nat}{env:Nat->al}{w w0:ao}{M K:BS}{hp:Nat->Chunk}{d:Zs Nat}{ty:ba}{pos:String}{af:Array hY}{x:bo}{v:al}
theorem FY{f:fY}{first captured:Array al}{xs:Array bo}{j:Array ba}{args:ZD al}(h:SH w0 M K w hp)(c:TP P f)(a:ev n env x=.func (.func f) first captured)
  (b:first.toList++xs.toList.map (ev n env)++captured.toList=args) (i:bw P f args.toArray w (fun e w'=>Grow w w'/\e=.returned v)) (k:∀w',Grow w w'->SH w0 M K w' hp->WL P ops Q rest n (gH env d v) w'):
  WL P ops Q (⟨d,.call {callee:=.value x,args:=xs,argTypes:=j},ty,pos,af,ar⟩::rest) n env w:=
 bW c a b i (by rintro _ w' ⟨g,rfl⟩;exact⟨_,Z,k w' g (h.grow g)⟩)
theorem yg{α:Type}{R:lT α}{l:ZD α}{f:fY}{first captured:Array al}{xs:Array bo}{m:Array ba}{args:ZD al}{F:al->al}(h:SH w0 M K w hp)(i:Nat)(b:TP P f)(j:ev n env x=.func (.func f) first captured)
  (a:first.toList++xs.toList.map (ev n env)++captured.toList=args) (c:bw P f args.toArray w (fun e w'=>Grow w w'/\∃u,e=.returned (F u)/\dx R w' (SH.A M hp) u l)) (k:∀w' u,Grow w w'->SH w0 M K w' (bY hp i (.rd R u l))->WL P ops Q rest n (gH env d (F u)) w'):
  WL P ops Q (⟨d,.call {callee:=.value x,args:=xs,argTypes:=m},ty,pos,af,ar⟩::rest) n env w:=
 bW b j a c (by rintro _ w' ⟨g,u,rfl,g2⟩;exact⟨_,Z,k w' u g (h.wG i g g2)⟩)
theorem dP{α:Type}{R:lT α}{E:ba}{l:ZD α}{f:fY}{first captured:Array al}{xs:Array bo}{p:Array ba}{args:ZD al}{F:al->al}(h:SH w0 M K w hp)(i:Nat)(j:TP P f)(o:ev n env x=.func (.func f) first captured)
  (c:first.toList++xs.toList.map (ev n env)++captured.toList=args) (m:bw P f args.toArray w (fun e w'=>Grow w w'/\∃u,e=.returned (F u)/\cK R E w' (SH.A M hp) u l/\(∀b,ob u b->w.heap.size<=b))) (k:∀w' u,Grow w w'->(∀b,ob u b->w.heap.size<=b)->SH w0 M K w' (bY hp i (.own R E u l))->WL P ops Q rest n (gH env d (F u)) w'):
  WL P ops Q (⟨d,.call {callee:=.value x,args:=xs,argTypes:=p},ty,pos,af,ar⟩::rest) n env w:=
 bW j o c m (by rintro _ w' ⟨g,u,rfl,g2,a⟩;exact⟨_,Z,k w' u g a (h.wF i g g2 a)⟩)
end
open Go Go.RowKit Go.Proofs
abbrev pT(b:Nat):Value:=.pointer (ak ⟨b,0,ar⟩)
abbrev nS:Value:=.slice ar 0 0
def fchk(P:ca)(f:fY):Ys:=match P.funcs[f]? with
 |some fn=> !(fn.name== "runtime.NumGoroutine")&& !fn.body.isNone
 |none=>aq
theorem fo{P:ca}{f:fY}(h:fchk P f=true:=by kernel_rfl):TP P f:=by
  unfold fchk at h;split at h
  · rename_i a e;simp only[cP,gC]at h;exact⟨a,e,h.1,h.2⟩
  · cases h
section
variable{P:ca}{ops:Array ei}{Q:fl->Act->ao->Prop}{n:Nat}{env:Nat->al}{w ws:ao}{d:Zs Nat}{op:Op}{ty:ba}{pos:String}{af:Array hY}{fuel:Nat}{listed:Array Ys}{L:BS}
theorem aZ(i:Nat)(a:ops[i]? =ak ⟨d,op,ty,pos,af,ar⟩)(h:WL P ops (VG P ops L ws Q fuel (listed.setIfInBounds i aT)) [⟨d,op,ty,pos,af,ar⟩] n env w)(b:cX .any ops listed=[i]:=by kernel_rfl):YT P ops L ws Q (fuel+1) listed n env w:=whk_eff i b a bC h
theorem vg(i:Nat)(a:ops[i]? =ak ⟨d,op,ty,pos,af,ar⟩)(h:WL P ops (after P ops ws Q fuel (listed.setIfInBounds i aT)) [⟨d,op,ty,pos,af,ar⟩] n env w)(b:cX .any ops listed=[i]:=by kernel_rfl):WH P ops ws Q (fuel+1) listed n env w:=wh_eff i b a bC h
theorem jc(h:Q .normal (act n env) w)(a:cX .any ops listed=[]:=by kernel_rfl):YT P ops L ws Q fuel listed n env w:=whk_done a h
theorem Ht(h:Q .normal (act n env) w)(a:cX .any ops listed=[]:=by kernel_rfl):WH P ops ws Q fuel listed n env w:=wh_done a h
end
open Go Go.RowKit Go.Proofs
def zk{α:Type}(L:ZD (Int×α))(us:ZD al):ZD (Int×al):=(L.zip us).map fun p=>(p.1.1,p.2)
def VO{α:Type}(k:Int):ZD (Int×α)->Zs Nat
  |[]=>ar
  |p::r=>if k=p.1 then ak 0 else(VO k r).map (· +1)
def hkey{α:Type}(L:ZD (Int×α))(k:Int):Nat->Prop:=fun i=>VO k L=ak i
section
variable{α:Type}{k:Int}
theorem Qv(p:Int×α)(r:ZD (Int×α))(u:al)(us:ZD al):zk (p::r) (u::us)=(p.1,u)::zk r us:=rfl
theorem VP:∀{L:ZD (Int×α)} {us:ZD al} {z v:al} {a:α},us.length=L.length->VO k L=ar->
    lk k L=ar/\RH z (zk L us) k=z/\Oi (zk L us) k v=zk (L++[(k,a)]) (us++[v])/\Br k a L=L++[(k,a)]
  |[],us,z,v,a,h,_=>by
    cases us with
    |nil=>exact⟨rfl,rfl,rfl,rfl⟩
    |cons u us=>cases h
  |p::r,us,z,v,a,h,e=>by
    cases us with
    |nil=>cases h
    |cons u us=>
      unfold VO at e;by_cases c:k=p.1
      · rw[Z2 c]at e;cases e
      · rw[Z3 c]at e;have b:VO k r=none:=by
          cases q:VO k r with
          |none=>rfl
          |some x=>rw[q]at e;cases e
        obtain⟨i,d,g,f⟩:=VP (us:=us) (z:=z) (v:=v) (a:=a) (Nat.succ.inj h) b;refine⟨?_,?_,?_,?_⟩
        · unfold lk;rw[Z3 c];exact i
        · rw[Qv];unfold RH;rw[Z3 c];exact d
        · rw[Qv];unfold Oi;rw[Z3 c,g];rfl
        · unfold Br;rw[Z3 c,f];rfl
theorem Qw:∀{L:ZD (Int×α)} {us:ZD al} {z v:al} {a:α} {i:Nat},us.length=L.length->VO k L=ak i->
    ∃x u,lk k L=ak x/\us[i]? =ak u/\(L.map dk)[i]? =ak x/\RH z (zk L us) k=u/\Oi (zk L us) k v=zk (Br k a L) (us.set i v)/\(Br k a L).map dk=(L.map dk).set i a
  |[],us,z,v,a,i,h,e=>by cases e
  |p::r,us,z,v,a,i,h,e=>by
    cases us with
    |nil=>cases h
    |cons u us=>
      unfold VO at e;by_cases c:k=p.1
      · rw[Z2 c]at e;cases e;refine⟨p.2,u,?_,Z,Z,?_,?_,?_⟩
        · unfold lk;rw[Z2 c]
        · rw[Qv];unfold RH;rw[Z2 c]
        · rw[Qv];unfold Oi Br;rw[Z2 c,Z2 c];rfl
        · unfold Br;rw[Z2 c];rfl
      · rw[Z3 c]at e;cases q:VO k r with
        |none=>rw[q]at e;cases e
        |some j=>
          rw[q]at e;cases e;obtain⟨x,u',l,b,g,f,m,d⟩:=Qw (us:=us) (z:=z) (v:=v) (a:=a) (Nat.succ.inj h) q;refine⟨x,u',?_,b,g,?_,?_,?_⟩
          · unfold lk;rw[Z3 c];exact l
          · rw[Qv];unfold RH;rw[Z3 c];exact f
          · rw[Qv];unfold Oi Br;rw[Z3 c,Z3 c,m];rfl
          · unfold Br;rw[Z3 c];show p.2::_=_;rw[d];rfl
end
section
variable{β:Type}{R:lT β}{E:ba}{w0 w:ao}{M K:BS}{hp:Nat->Chunk}{L:ZD (Int×ZD β)}{us:ZD al}{k:Int}{u:al}{s:ZD β}
theorem VQ(e:VO k L=ar):hkey L k=hn:=by
 funext i;unfold hkey hn;rw[e];exact propext ⟨fun h=>(by cases h),fun h=>h.elim⟩
theorem SH.msLen(h:SH w0 M K w hp)(j:Nat){ho:Nat->Prop}(a:hp j=.eY (bP R E ho us (L.map dk))):us.length=L.length:=by
 have:=(h.Yf j a).1;rw[cH]at this;exact this
theorem SH.msTake(h:SH w0 M K w hp)(j m:Nat)(k:Int)(f:hp j=.eY (bP R E hn us (L.map dk)))(o:hp m=.no)(d:j≠m):
    ∃u,RH (.slice ar 0 0) (zk L us) k=u/\SH w0 M K w (bY (bY hp j (.eY (bP R E (hkey L k) us (L.map dk)))) m (.own R E u ((lk k L).getD []))):=by
  have n:=h.msLen j f;cases e:VO k L with
  |none=>
    obtain⟨l,b,-,-⟩:=VP (z:=.slice ar 0 0) (v:=.slice ar 0 0) (a:=[]) n e;refine⟨.slice ar 0 0,b,?_⟩;rw[l,VQ e];have g:=h.Dl (R:=R) (E:=E) m;have c:bY hp j (.eY<|bP R E hn us<|L.map dk)=hp:=by
      funext x;by_cases q:x=j
      · subst q;rw[bZ];exact f.symm
      · rw[eD q]
    rw[c];exact g
  |some i=>
    obtain⟨x,u,l,b,g,c,-,-⟩:=Qw (z:=.slice ar 0 0) (v:=.slice ar 0 0) (a:=[]) n e;refine⟨u,c,?_⟩;rw[l];exact h.famOpen j m f o d b g (fun h=>h) (hkey L k) (fun a=>by unfold hkey hn;rw[e];exact⟨fun h=>.inr (cQ h).symm,fun h=>h.elim (fun h=>h.elim) (fun h=>by rw[h])⟩)
theorem SH.msBack(h:SH w0 M K w hp)(j m:Nat)(d:hp j=.eY (bP R E (hkey L k) us (L.map dk)))(g:hp m=.own R E u ((lk k L).getD []))(b:j≠m)(o:RH (.slice ar 0 0) (zk L us) k=u):
    SH w0 M K w (bY (bY hp m .no) j (.eY (bP R E hn us (L.map dk)))):=by
  have l:=h.msLen j d;cases e:VO k L with
  |none=>
    rw[VQ e]at d;have f:=h.gL m;have c:bY (bY hp m .no) j (.eY<|bP R E hn us<|L.map dk)=bY hp m .no:=by
      funext x;by_cases q:x=j
      · subst q;rw[bZ,eD b];exact d.symm
      · rw[eD q]
    rw[c];exact f
  |some i=>
    obtain⟨x,u',p,n,f,c,-,-⟩:=Qw (z:=.slice ar 0 0) (v:=.slice ar 0 0) (a:=[]) l e;rw[p]at g;rw[o]at c;have:=h.Lj (k:=i) j m d g b (c▸n) e hn (fun a=>by unfold hkey hn;rw[e];exact⟨fun h=>.inr (cQ h).symm,fun h=>h.elim (fun h=>h.elim) (fun h=>by rw[h])⟩) (fun h=>h);have q:(L.map dk).set i ((ak x).getD [])=L.map Prod.snd:=CF f;rw[q]at this;exact this
theorem SH.msPut(h:SH w0 M K w hp)(j m:Nat)(c:hp j=.eY (bP R E (hkey L k) us (L.map dk)))(p:hp m=.own R E u s)(b:j≠m):
  ∃us',Oi (zk L us) k u=zk (Br k s L) us'/\SH w0 M K w (bY (bY hp m .no) j (.eY (bP R E hn us' ((Br k s L).map dk)))):=by
 have g:=h.msLen j c;cases e:VO k L with
 |none=>
  rw[VQ e]at c;obtain⟨-,-,o,n⟩:=VP (z:=.slice ar 0 0) (v:=u) (a:=s) g e;refine⟨us++[u],by rw[o,n],?_⟩;have f:=h.famNew m p;have d:=f.Ho (us:=us) (ss:=L.map dk) j m (by rw[eD b];exact c) (by rw[bZ]) b;rw[ET]at d;rw[n,cL];exact d
 |some i=>
  have q:hkey L k=hat i:=by
   funext a;unfold hkey hat;rw[e];exact propext ⟨fun h=>(cQ h).symm,fun h=>by rw[h]⟩
  rw[q]at c;obtain⟨x,u',y,r,o,-,f,d⟩:=Qw (z:=.slice ar 0 0) (v:=u) (a:=s) g e;refine⟨us.set i u,f,?_⟩;have t:=h.famU j u c;have l:=t.Lj (k:=i) (ho:=hat i) j m (by rw[bZ]) (by rw[eD (Ne.symm b)];exact p) b (VK r) Z hn (fun a=>⟨fun h=>.inr h,fun h=>h.elim (fun h=>h.elim) id⟩) (fun h=>h);rw[d];rw[hupd_comm hp (.eY (bP R E (hat i) (us.set i u) (L.map dk))) .no b,ET]at l;exact l
end
section
variable{P:ca}{w w0:ao}{M K:BS}{hp:Nat->Chunk}{d:Zs Nat}{ty:ba}{pos:String}{af:Array hY}{g:Zs (Nat×Ys)}{T:ba}{ρ:bo->al}
theorem r_lkS{x y:bo}{z:al}{b:Nat}{k:Int}{jM:ZD (Int×al)}{u:al}(h:SH w0 M K w hp)(i:Nat)(j:hp i=.mp b jM)(f:MapOf P T z)(a:ρ x=.map (ak b))(e:ρ y=.int .i64 k)(c:RH z jM k=u):
  (bk ρ ⟨d,.lookup T x y aq,ty,pos,af,g⟩).run P w=.ok (.value u) w:=by
 have:=Zb (d:=d) (ty:=ty) (pos:=pos) (af:=af) (g:=g) f a e<|h.mpAt i j;rw[c]at this;exact this
theorem w_mapUpdateG{ops:Array ei}{Q:fl->Act->ao->Prop}{n:Nat}{env:Nat->al}{rest:ZD ei}{v z:al}{x y u:bo}{b:Nat}{k:Int}{jM vT:ZD (Int×al)}(h:SH w0 M K w hp)(i:Nat)(c:hp i=.mp b jM)(j:MapOf P T z)(f:ev n env x=.map (ak b))(g:ev n env y=.int .i64 k)(m:ev n env u=v)(o:Oi jM k v=vT)
  (e:∀w',SH w0 M K w' (bY hp i (.mp b vT))->bL (fun x=>x=b) w w'->WL P ops Q rest n (gH env d gf) w'):WL P ops Q (⟨d,.mapUpdate T x y u,ty,pos,af,ar⟩::rest) n env w:=
 TT j f g m (h.mpAt i c) fun w' a l=>e w' (h.mpSet i c a (o▸l)) a
end
open Go Go.RowKit Go.Proofs
structure Arr3(P:ca)(T E:ba):Prop where
  desc:P.underlying T=ak (.array 3 E)
  zero:∃z0 z1 z2,(P.info? T).map (·.zero)=ak (ak (.agg #[z0,z1,z2]))
  size:(P.info? E).map (·.size)=ak 1
  plain:P.underlying E=ak (.int .i64)
  key:P.plainKey E=aT
  cells:P.cellsOf E=1
  guard:P.eqGuardType P.depth T=aq
structure ArrA(P:ca)(T E:ba):Prop where
  desc:P.underlying T=ak (.array 3 E)
  size:(P.info? E).map (·.size)=ak 1
section
variable{P:ca}{w:ao}{d:Zs Nat}{ty:ba}{pos:String}{af:Array hY}{g:Zs (Nat×Ys)}{T:ba}{ρ:bo->al}
theorem r_build3{E:ba}{x y z:bo}{p q r:Int}(h:Arr3 P T E)(o:ρ x=.int .i64 p)(n:ρ y=.int .i64 q)(b:ρ z=.int .i64 r):(bk ρ ⟨d,.build T #[(0,x),(1,y),(2,z)],ty,pos,af,g⟩).run P w=.ok (.value (.agg #[.int .i64 p,.int .i64 q,.int .i64 r])) w:=by
 obtain⟨e,f,l,hz⟩:=h.zero;obtain⟨i,a,k⟩:∃i,P.info? T=ak i/\i.zero=ak (.agg #[e,f,l]):=by
  cases a:P.info? T with
  |none=>simp[a]at hz
  |some i=>simp[a]at hz;exact⟨i,Z,hz⟩
 obtain⟨j,t,m⟩:∃j,P.info? E=ak j/\j.size=1:=by
  have:=h.size;cases a:P.info? E with
  |none=>simp[a]at this
  |some i=>simp[a]at this;exact⟨i,Z,this⟩
 have c (p:Int):(dq .i64 p).cells= #[.int .i64 p]:=rfl;simp only[bk,Instr.build,o,n,b,underlying,zeroValue,typeInfo,sizeOf];have s:(rM #[e,f,l]).cells= #[e,f,l]:=rfl;simp[a,k,h.desc,t,m,Instr.fill,c,s,o,n,b]
theorem r_idxA3{E:ba}{x y:bo}{b o k:Nat}(c:ArrA P T E)(m:k<3)(f:ρ x=.pointer (ak ⟨b,o,ar⟩))(h:ρ y=.int .i64 k):(bk ρ ⟨d,.indexAddr T x y,ty,pos,af,g⟩).run P w=.ok (.value (.pointer (ak ⟨b,o+k,ar⟩))) w:=by
 obtain⟨j,l,a⟩:∃j,P.info? E=ak j/\j.size=1:=by
  have:=c.size;cases hi:P.info? E with
  |none=>simp[hi]at this
  |some i=>simp[hi]at this;exact⟨i,Z,this⟩
 have n:((k:Int)<3):=by omega
 simp only[bk,Instr.indexAt,f,h,underlying,asIntOf,Instr.sureAddr,sizeOf,typeInfo];by_cases e:k=0<;>simp[c.desc,l,a,m,Addr.add,e]
theorem eq_arr3{E:ba}(d:Arr3 P T E)(a b c a' b' e:Int):(Op.equalIn 10000 T (.agg #[.int .i64 a,.int .i64 b,.int .i64 c]) (.agg #[.int .i64 a',.int .i64 b',.int .i64 e])).run P w=.ok (ab (a=a')&&(ab (b=b')&&ab (c=e))) w:=by
  obtain⟨j,f⟩:∃j,P.info? E=ak j:=by
    have:=d.size;cases hi:P.info? E with
    |none=>simp[hi]at this
    |some i=>exact⟨i,rfl⟩
  rw[show(10000:Nat)=9999+1 from rfl,run_equalIn_array w 9999 _ _ d.desc f,d.cells,show List.range 3=[0,1,2]from rfl];simp only[Op.eqItems,cy,Nat.zero_mul,Nat.one_mul,Nat.mul_one];rw[fW w d.key (xs:= #[.int .i64 a,.int .i64 b,.int .i64 c]) (off:=0) (v:=.int .i64 a) rfl];simp only[bp];rw[fW w d.key (xs:= #[.int .i64 a',.int .i64 b',.int .i64 e]) (off:=0) (v:=.int .i64 a') rfl];simp only[bp];rw[show(9999:Nat)=9998+1 from rfl,pk w 9998 E .i64 .i64 a a' d.plain];simp only[bp,Sem.run_ite,cy];by_cases h:a=a'
  · subst h;simp only[beq_self_eq_true,ea,cv,if_false];rw[fW w d.key (xs:= #[.int .i64 a,.int .i64 b,.int .i64 c]) (off:=1) (v:=.int .i64 b) rfl];simp only[bp];rw[fW w d.key (xs:= #[.int .i64 a,.int .i64 b',.int .i64 e]) (off:=1) (v:=.int .i64 b') rfl];simp only[bp];rw[pk w 9998 E .i64 .i64 b b' d.plain];simp only[bp,Sem.run_ite,cy];by_cases h:b=b'
    · subst h;simp only[beq_self_eq_true,ea,cv,if_false];rw[fW w d.key (xs:= #[.int .i64 a,.int .i64 b,.int .i64 c]) (off:=2) (v:=.int .i64 c) rfl];simp only[bp];rw[fW w d.key (xs:= #[.int .i64 a,.int .i64 b,.int .i64 e]) (off:=2) (v:=.int .i64 e) rfl];simp only[bp];rw[pk w 9998 E .i64 .i64 c e d.plain];by_cases h:c=e<;>simp[h]
    · simp[h]
  · simp[h]
theorem r_neq3{T2 E:ba}{x y:bo}{a b c a' b' f:Int}(e:Arr3 P T E)(h:ρ x=.agg #[.int .i64 a,.int .i64 b,.int .i64 c])(i:ρ y=.agg #[.int .i64 a',.int .i64 b',.int .i64 f]):(bk ρ ⟨d,.binOp .neq T x y T2,ty,pos,af,g⟩).run P w=.ok (.value (.bool (!(ab (a=a')&&(ab (b=b')&&ab (c=f)))))) w:=by
 simp only[bk,h,i,cy,run_eqGuard_agg w .neq T x y _ _ e.guard,bp,run_neq_struct,eq_arr3 e];simp
end
structure T3 where
 a:Int
 b:Int
 c:Int
deriving DecidableEq
def rT3:lT T3 where
 sz:=3
 rd w A cs x:=cs=[.int .i64 x.a,.int .i64 x.b,.int .i64 x.c]
 len:=by rintro w A cs x rfl;rfl
 one:=by rintro w A cs x rfl u hu;simp only[bm,di,or_false]at hu;rcases hu with rfl|rfl|rfl<;>first|rfl
 pos:=by decide
 go:=fun h _ _ _=>h
end Go.LX
namespace Go.Proofs
set_option maxHeartbeats 1000000 in
set_option maxRecDepth 100000 in
theorem Tryz.stringslite_IndexByte(s:ByteArray)(c:Int)(w:ao):
  bw Tryz.prog 210 #[.string s,.int .u8 c] w fun e w'=>e=.returned (.int .i64 (lr s.data.toList c.toNat.toUInt8))/\w'=w:=by
 go_enter Tryz.func210,Tryz.ntmps210
 go_wp2
 rw[run_callFunc_extern Tryz.func225 zq2 zq2 zq2 (e:=Extern.BytealgIndexByte.indexByte) zq2,Lib.run_indexByteString];simp only[Result.andThen];rw[Oper.upon_value]
 go_wp2
 go_ret
 exact⟨Z,Z⟩
set_option maxHeartbeats 2000000 in
set_option maxRecDepth 100000 in
theorem Tryz.stringslite_Index_one(s:ByteArray)(c:UInt8)(w:ao):
    bw Tryz.prog 195 #[.string s,.string ⟨#[c]⟩] w fun e w'=>e=.returned (.int .i64 (lr s.data.toList c))/\w'=w:=by
  go_enter Tryz.func195,Tryz.ntmps195
  go_wp2_with (go_at_call 210;refine(Tryz.stringslite_IndexByte _ _ _).mono ?_;rintro e w'⟨rfl,rfl⟩)
  · have h:([c]==s.toList)=true:=by assumption
    go_ret
    refine⟨?_,Z⟩;have e:s.data.toList=[c]:=by rw[<-Lib.toList_data];exact(beq_iff_eq.1 h).symm
    rw[e];simp[lr]
  · go_ret
    exact⟨Z,Z⟩
set_option maxHeartbeats 1000000 in
theorem Tryz.strings_Index_one(s:ByteArray)(c:UInt8)(w:ao):
  bw Tryz.prog 178 #[.string s,.string ⟨#[c]⟩] w fun e w'=>e=.returned (.int .i64 (lr s.data.toList c))/\w'=w:=by
 go_enter Tryz.func178,Tryz.ntmps178
 go_wp2_with (go_at_call 195;refine(Tryz.stringslite_Index_one _ _ _).mono ?_;rintro e w'⟨rfl,rfl⟩)
 go_ret
 exact⟨Z,Z⟩
set_option maxHeartbeats 1000000 in
theorem Tryz.strings_Contains_one(s:ByteArray)(c:UInt8)(w:ao):
  bw Tryz.prog 188 #[.string s,.string ⟨#[c]⟩] w fun e w'=>e=.returned (.bool (ab (0<=lr s.data.toList c)))/\w'=w:=by
 go_enter Tryz.func188,Tryz.ntmps188
 go_wp2_with (go_at_call 178;refine(Tryz.strings_Index_one _ _ _).mono ?_;rintro e w'⟨rfl,rfl⟩)
 go_ret
 exact⟨Z,Z⟩
open Go.Shelf
def Tryz.lays146_ren:Go.Shelf.Ren:=⟨fun|146=>96|221=>145|268=>176|138=>177|143=>178|195=>197|197=>198|218=>199|219=>195|260=>215|217=>210|225=>211|224=>212|267=>213|266=>225|314=>226|n=>n,fun|9=>9|31=>173|3=>3|4=>4|0=>0|105=>293|21=>21|5=>5|46=>299|119=>242|139=>340|138=>339|146=>336|51=>277|n=>n,fun|1=>4|3=>5|4=>6|n=>n⟩
theorem Tryz.lays146:Go.Proofs.Lays.n146 Tryz.prog Tryz.lays146_ren:={
 mixed:=zq2
 f138:=Tryz.func177.trans (ZL ak zq2)
 f143:=Tryz.func178.trans (ZL ak zq2)
 f146:=Tryz.func96.trans (ZL ak zq2)
 f195:=Tryz.func197.trans (ZL ak zq2)
 f197:=Tryz.func198.trans (ZL ak zq2)
 f217:=Tryz.func210.trans (ZL ak zq2)
 f218:=Tryz.func199.trans (ZL ak zq2)
 f219:=Tryz.func195.trans (ZL ak zq2)
 f221:=Tryz.func145.trans (ZL ak zq2)
 f224:=Tryz.func212.trans (ZL ak zq2)
 f225:=Tryz.func211.trans (ZL ak zq2)
 f260:=Tryz.func215.trans (ZL ak zq2)
 f266:=Tryz.func225.trans (ZL ak zq2)
 f267:=Tryz.func213.trans (ZL ak zq2)
 f268:=Tryz.func176.trans (ZL ak zq2)
 f314:=Tryz.func226.trans (ZL ak zq2)
 t0:=Tryz.underlying0
 a0:=Tryz.isAgg0
 z0:=Tryz.sizeOf0
 v0:=Tryz.zeroValue0
 t3:=Tryz.underlying3
 a3:=Tryz.isAgg3
 z3:=Tryz.sizeOf3
 v3:=Tryz.zeroValue3
 t4:=Tryz.underlying4
 a4:=Tryz.isAgg4
 z4:=Tryz.sizeOf4
 v4:=Tryz.zeroValue4
 t5:=Tryz.underlying5
 a5:=Tryz.isAgg5
 z5:=Tryz.sizeOf5
 v5:=Tryz.zeroValue5
 t9:=Tryz.underlying9
 a9:=Tryz.isAgg9
 z9:=Tryz.sizeOf9
 v9:=Tryz.zeroValue9
 t21:=Tryz.underlying21
 a21:=Tryz.isAgg21
 z21:=Tryz.sizeOf21
 v21:=Tryz.zeroValue21
 t31:=Tryz.underlying173
 a31:=Tryz.isAgg173
 z31:=Tryz.sizeOf173
 v31:=Tryz.zeroValue173
 t46:=Tryz.underlying299
 a46:=Tryz.isAgg299
 z46:=Tryz.sizeOf299
 v46:=Tryz.zeroValue299
 t51:=Tryz.underlying277
 a51:=Tryz.isAgg277
 z51:=Tryz.sizeOf277
 v51:=Tryz.zeroValue277
 t105:=Tryz.underlying293
 a105:=Tryz.isAgg293
 z105:=Tryz.sizeOf293
 v105:=Tryz.zeroValue293
 t119:=Tryz.underlying242
 a119:=Tryz.isAgg242
 z119:=Tryz.sizeOf242
 t138:=Tryz.underlying339
 a138:=Tryz.isAgg339
 z138:=Tryz.sizeOf339
 v138:=Tryz.zeroValue339
 t139:=Tryz.underlying340
 a139:=Tryz.isAgg340
 z139:=Tryz.sizeOf340
 v139:=Tryz.zeroValue340
 t146:=Tryz.underlying336
 a146:=Tryz.isAgg336
 z146:=Tryz.sizeOf336
 v146:=Tryz.zeroValue336
 g1:=zq2
 g3:=zq2
 g4:=by kernel_rfl}
open Go.RowKit Go.Lib in
theorem Tryz.strings_Split(s a:ByteArray)(m:Int)(w:ao)(b:s.size<4294967281)(d:w.cell? ⟨4,0,ar⟩=ak (.int .i64 m))(c:1<=a.size):
 bw Tryz.prog 96 #[.string s,.string a] w fun e w'=>
  e=.returned (.slice (ak ⟨w.heap.size,0,ar⟩) (gj s a+1) (gj s a+1))/\w'=w.alloc (.cells ((Lib.splitB a 0 (gj s a) s).map lO).toArray 9):=Any.strings_Split Tryz.lays146 zq2 s a m w b d c
def Tryz.laysC172_ren:Go.Shelf.Ren:=⟨fun|172=>97|244=>146|245=>147|247=>179|279=>180|280=>181|281=>182|282=>183|287=>200|316=>201|171=>149|205=>202|321=>216|322=>217|243=>185|246=>203|283=>218|284=>219|285=>220|286=>221|129=>228|317=>227|318=>229|319=>230|320=>231|337=>232|338=>233|n=>n,fun|9=>9|3=>3|75=>176|76=>177|4=>4|5=>5|167=>267|37=>36|0=>0|85=>268|2=>2|168=>270|53=>296|175=>297|46=>299|210=>302|127=>317|145=>323|143=>321|21=>21|171=>324|173=>327|212=>342|51=>277|20=>20|213=>343|232=>346|233=>347|80=>180|n=>n,fun|15=>2|16=>3|17=>7|18=>8|19=>9|n=>n⟩
theorem Tryz.Zp:Go.Proofs.LaysC.n172 Tryz.prog Tryz.laysC172_ren:={
 mixed:=zq2
 f129:=Tryz.func228.trans (ZL ak zq2)
 f171:=Tryz.func149.trans (ZL ak zq2)
 f172:=Tryz.func97.trans (ZL ak zq2)
 f205:=Tryz.func202.trans (ZL ak zq2)
 f243:=Tryz.func185.trans (ZL ak zq2)
 f244:=Tryz.func146.trans (ZL ak zq2)
 f245:=Tryz.func147.trans (ZL ak zq2)
 f246:=Tryz.func203.trans (ZL ak zq2)
 f247:=Tryz.func179.trans (ZL ak zq2)
 f279:=Tryz.func180.trans (ZL ak zq2)
 f280:=Tryz.func181.trans (ZL ak zq2)
 f281:=Tryz.func182.trans (ZL ak zq2)
 f282:=Tryz.func183.trans (ZL ak zq2)
 f283:=Tryz.func218.trans (ZL ak zq2)
 f284:=Tryz.func219.trans (ZL ak zq2)
 f285:=Tryz.func220.trans (ZL ak zq2)
 f286:=Tryz.func221.trans (ZL ak zq2)
 f287:=Tryz.func200.trans (ZL ak zq2)
 f316:=Tryz.func201.trans (ZL ak zq2)
 f317:=Tryz.func227.trans (ZL ak zq2)
 f318:=Tryz.func229.trans (ZL ak zq2)
 f319:=Tryz.func230.trans (ZL ak zq2)
 f320:=Tryz.func231.trans (ZL ak zq2)
 f321:=Tryz.func216.trans (ZL ak zq2)
 f322:=Tryz.func217.trans (ZL ak zq2)
 f337:=Tryz.func232.trans (ZL ak zq2)
 f338:=Tryz.func233.trans (ZL ak zq2)
 t0:=Tryz.underlying0
 a0:=Tryz.isAgg0
 z0:=Tryz.sizeOf0
 v0:=Tryz.zeroValue0
 t2:=Tryz.underlying2
 a2:=Tryz.isAgg2
 z2:=Tryz.sizeOf2
 v2:=Tryz.zeroValue2
 t3:=Tryz.underlying3
 a3:=Tryz.isAgg3
 z3:=Tryz.sizeOf3
 v3:=Tryz.zeroValue3
 t4:=Tryz.underlying4
 a4:=Tryz.isAgg4
 z4:=Tryz.sizeOf4
 v4:=Tryz.zeroValue4
 t5:=Tryz.underlying5
 a5:=Tryz.isAgg5
 z5:=Tryz.sizeOf5
 v5:=Tryz.zeroValue5
 t9:=Tryz.underlying9
 a9:=Tryz.isAgg9
 z9:=Tryz.sizeOf9
 v9:=Tryz.zeroValue9
 t20:=Tryz.underlying20
 a20:=Tryz.isAgg20
 z20:=Tryz.sizeOf20
 v20:=Tryz.zeroValue20
 t21:=Tryz.underlying21
 a21:=Tryz.isAgg21
 z21:=Tryz.sizeOf21
 v21:=Tryz.zeroValue21
 t37:=Tryz.underlying36
 a37:=Tryz.isAgg36
 z37:=Tryz.sizeOf36
 v37:=Tryz.zeroValue36
 t46:=Tryz.underlying299
 a46:=Tryz.isAgg299
 z46:=Tryz.sizeOf299
 v46:=Tryz.zeroValue299
 t51:=Tryz.underlying277
 a51:=Tryz.isAgg277
 z51:=Tryz.sizeOf277
 v51:=Tryz.zeroValue277
 t53:=Tryz.underlying296
 a53:=Tryz.isAgg296
 z53:=Tryz.sizeOf296
 v53:=Tryz.zeroValue296
 t75:=Tryz.underlying176
 a75:=Tryz.isAgg176
 z75:=Tryz.sizeOf176
 v75:=Tryz.zeroValue176
 t76:=Tryz.underlying177
 a76:=Tryz.isAgg177
 z76:=Tryz.sizeOf177
 v76:=Tryz.zeroValue177
 t85:=Tryz.underlying268
 a85:=Tryz.isAgg268
 z85:=Tryz.sizeOf268
 v85:=Tryz.zeroValue268
 t127:=Tryz.underlying317
 a127:=Tryz.isAgg317
 z127:=Tryz.sizeOf317
 v127:=Tryz.zeroValue317
 t143:=Tryz.underlying321
 a143:=Tryz.isAgg321
 z143:=Tryz.sizeOf321
 v143:=Tryz.zeroValue321
 t145:=Tryz.underlying323
 a145:=Tryz.isAgg323
 z145:=Tryz.sizeOf323
 v145:=Tryz.zeroValue323
 t167:=Tryz.underlying267
 a167:=Tryz.isAgg267
 z167:=Tryz.sizeOf267
 v167:=Tryz.zeroValue267
 t168:=Tryz.underlying270
 a168:=Tryz.isAgg270
 z168:=Tryz.sizeOf270
 v168:=Tryz.zeroValue270
 t171:=Tryz.underlying324
 a171:=Tryz.isAgg324
 z171:=Tryz.sizeOf324
 v171:=Tryz.zeroValue324
 t173:=Tryz.underlying327
 a173:=Tryz.isAgg327
 z173:=Tryz.sizeOf327
 v173:=Tryz.zeroValue327
 t175:=Tryz.underlying297
 a175:=Tryz.isAgg297
 z175:=Tryz.sizeOf297
 v175:=Tryz.zeroValue297
 t210:=Tryz.underlying302
 a210:=Tryz.isAgg302
 z210:=Tryz.sizeOf302
 v210:=Tryz.zeroValue302
 t212:=Tryz.underlying342
 a212:=Tryz.isAgg342
 z212:=Tryz.sizeOf342
 v212:=Tryz.zeroValue342
 t213:=Tryz.underlying343
 a213:=Tryz.isAgg343
 z213:=Tryz.sizeOf343
 t232:=Tryz.underlying346
 a232:=Tryz.isAgg346
 z232:=Tryz.sizeOf346
 v232:=Tryz.zeroValue346
 t233:=Tryz.underlying347
 a233:=Tryz.isAgg347
 z233:=Tryz.sizeOf347
 v233:=Tryz.zeroValue347
 g15:=zq2
 g16:=zq2
 g17:=zq2
 g18:=zq2
 g19:=zq2
 t80:=Tryz.underlying180
 a80:=Tryz.isAgg180
 z80:=Tryz.sizeOf180
 v80:=Tryz.zeroValue180
 i0:=zq2
 i2:=zq2
 i3:=zq2
 i4:=zq2
 i5:=zq2
 i9:=zq2
 i20:=zq2
 i21:=zq2
 i37:=zq2
 i46:=zq2
 i51:=zq2
 i53:=zq2
 i75:=zq2
 i76:=zq2
 i80:=zq2
 i85:=zq2
 i127:=zq2
 i143:=zq2
 i145:=zq2
 i167:=zq2
 i168:=zq2
 i171:=zq2
 i173:=zq2
 i175:=zq2
 i210:=zq2
 i212:=zq2
 i232:=zq2
 i233:=zq2
 m15:=zq2
 m16:=zq2
 m17:=zq2
 m18:=zq2
 m19:=zq2
 c0:=zq2
 c2:=zq2
 c3:=zq2
 c4:=zq2
 c5:=zq2
 c9:=zq2
 c20:=zq2
 c21:=zq2
 c37:=zq2
 c46:=zq2
 c51:=zq2
 c53:=zq2
 c75:=zq2
 c76:=zq2
 c80:=zq2
 c85:=zq2
 c127:=zq2
 c143:=zq2
 c145:=zq2
 c167:=zq2
 c168:=zq2
 c171:=zq2
 c173:=zq2
 c175:=zq2
 c210:=zq2
 c212:=zq2
 c213:=zq2
 c232:=zq2
 c233:=by kernel_rfl}
open Go.RowKit in
theorem Tryz.strconv_Atoi_ok(s:ByteArray)(a:s.size<=9223372036854775806)(v:Int)(h:ey s.data.toList=.ok v)(w:ao):
 bw Tryz.prog 97 #[.string s] w fun e w'=>e=.returned (.tuple #[.int .i64 v,.nilIface])/\(w'=w\/∃t,w'=Lib.bytesWorld w 5 t):=Any.strconv_Atoi_ok Tryz.Zp s a v h w
open Go.RowKit in
theorem Tryz.strconv_Atoi_syntax_var(s:ByteArray)(a:s.size<=281474976710656)(e:Lib.NumEnd Int)(h:ey s.data.toList=e)(f:∀v,e≠ .ok v)(d:e≠ .range)(c:ba)(p:al)(w:ao)(b:w.var? Tryz.prog "strconv.ErrSyntax" =ak #[.iface c p]):
 bw Tryz.prog 97 #[.string s] w fun e w'=>∃N,e=.returned (.tuple #[.int .i64 0,.iface 270 (.pointer (ak ⟨N,0,ar⟩))])/\w.heap.size<=N/\w'.heap[N]? =ak (.cells #[.string ⟨#[65,116,111,105]⟩,.string s,.iface c p] 302 (0,0))/\Below w.heap.size w w':=Any.strconv_Atoi_syntax_var Tryz.Zp s a (by cases e with|ok v=>exact ZJ Z (f v)|range=>exact ZJ Z d|_=>exact h) c p w b
open Go.RowKit in
theorem Tryz.strconv_Atoi_range_var(s:ByteArray)(a:s.size<=281474976710656)(h:ey s.data.toList=.range)(c:ba)(p:al)(w:ao)(b:w.var? Tryz.prog "strconv.ErrRange" =ak #[.iface c p]):
 bw Tryz.prog 97 #[.string s] w fun e w'=>∃N,e=.returned (.tuple #[.int .i64 (Lib.atoiSat s.data.toList),.iface 270 (.pointer (ak ⟨N,0,ar⟩))])/\w.heap.size<=N/\w'.heap[N]? =ak (.cells #[.string ⟨#[65,116,111,105]⟩,.string s,.iface c p] 302 (0,0))/\Below w.heap.size w w':=Any.strconv_Atoi_range_var Tryz.Zp s a h c p w b
def Tryz.laysM171_ren:Go.Shelf.Ren:=⟨fun|171=>149|243=>185|246=>203|283=>218|284=>219|285=>220|286=>221|129=>228|317=>227|318=>229|319=>230|320=>231|337=>232|338=>233|n=>n,fun|3=>3|9=>9|2=>2|4=>4|171=>324|0=>0|53=>296|37=>36|5=>5|173=>327|212=>342|51=>277|20=>20|213=>343|46=>299|232=>346|233=>347|n=>n,fun|17=>7|18=>8|19=>9|n=>n⟩
theorem Tryz.laysM171:Go.Proofs.LaysM.n171 Tryz.prog Tryz.laysM171_ren:={
 mixed:=zq2
 f129:=Tryz.func228.trans (ZL ak zq2)
 f171:=Tryz.func149.trans (ZL ak zq2)
 f243:=Tryz.func185.trans (ZL ak zq2)
 f246:=Tryz.func203.trans (ZL ak zq2)
 f283:=Tryz.func218.trans (ZL ak zq2)
 f284:=Tryz.func219.trans (ZL ak zq2)
 f285:=Tryz.func220.trans (ZL ak zq2)
 f286:=Tryz.func221.trans (ZL ak zq2)
 f317:=Tryz.func227.trans (ZL ak zq2)
 f318:=Tryz.func229.trans (ZL ak zq2)
 f319:=Tryz.func230.trans (ZL ak zq2)
 f320:=Tryz.func231.trans (ZL ak zq2)
 f337:=Tryz.func232.trans (ZL ak zq2)
 f338:=Tryz.func233.trans (ZL ak zq2)
 t0:=Tryz.underlying0
 a0:=Tryz.isAgg0
 z0:=Tryz.sizeOf0
 v0:=Tryz.zeroValue0
 t2:=Tryz.underlying2
 a2:=Tryz.isAgg2
 z2:=Tryz.sizeOf2
 v2:=Tryz.zeroValue2
 t3:=Tryz.underlying3
 a3:=Tryz.isAgg3
 z3:=Tryz.sizeOf3
 v3:=Tryz.zeroValue3
 t4:=Tryz.underlying4
 a4:=Tryz.isAgg4
 z4:=Tryz.sizeOf4
 v4:=Tryz.zeroValue4
 t5:=Tryz.underlying5
 a5:=Tryz.isAgg5
 z5:=Tryz.sizeOf5
 v5:=Tryz.zeroValue5
 t9:=Tryz.underlying9
 a9:=Tryz.isAgg9
 z9:=Tryz.sizeOf9
 v9:=Tryz.zeroValue9
 t20:=Tryz.underlying20
 a20:=Tryz.isAgg20
 z20:=Tryz.sizeOf20
 v20:=Tryz.zeroValue20
 t37:=Tryz.underlying36
 a37:=Tryz.isAgg36
 z37:=Tryz.sizeOf36
 v37:=Tryz.zeroValue36
 t46:=Tryz.underlying299
 a46:=Tryz.isAgg299
 z46:=Tryz.sizeOf299
 v46:=Tryz.zeroValue299
 t51:=Tryz.underlying277
 a51:=Tryz.isAgg277
 z51:=Tryz.sizeOf277
 v51:=Tryz.zeroValue277
 t53:=Tryz.underlying296
 a53:=Tryz.isAgg296
 z53:=Tryz.sizeOf296
 v53:=Tryz.zeroValue296
 t171:=Tryz.underlying324
 a171:=Tryz.isAgg324
 z171:=Tryz.sizeOf324
 v171:=Tryz.zeroValue324
 t173:=Tryz.underlying327
 a173:=Tryz.isAgg327
 z173:=Tryz.sizeOf327
 v173:=Tryz.zeroValue327
 t212:=Tryz.underlying342
 a212:=Tryz.isAgg342
 z212:=Tryz.sizeOf342
 v212:=Tryz.zeroValue342
 t213:=Tryz.underlying343
 a213:=Tryz.isAgg343
 z213:=Tryz.sizeOf343
 t232:=Tryz.underlying346
 a232:=Tryz.isAgg346
 z232:=Tryz.sizeOf346
 v232:=Tryz.zeroValue346
 t233:=Tryz.underlying347
 a233:=Tryz.isAgg347
 z233:=Tryz.sizeOf347
 v233:=Tryz.zeroValue347
 g17:=zq2
 g18:=zq2
 g19:=zq2
 i0:=zq2
 i2:=zq2
 i3:=zq2
 i4:=zq2
 i5:=zq2
 i9:=zq2
 i20:=zq2
 i37:=zq2
 i46:=zq2
 i51:=zq2
 i53:=zq2
 i171:=zq2
 i173:=zq2
 i212:=zq2
 i232:=zq2
 i233:=zq2
 m17:=zq2
 m18:=zq2
 m19:=by kernel_rfl}
open Go.RowKit Go.Sort Go.Lib in
theorem Tryz.strconv_Itoa(n:Int)(b: -9223372036854775808<=n)(c:n<=9223372036854775807)(w:ao)(a:oy Tryz.prog w "internal/strconv.uint64pow10" .u64 Lib.pow10Tab):
 bw Tryz.prog 149 #[.int .i64 n] w fun e w'=>e=.returned (.string ⟨(Lib.itoa n).toArray⟩)/\∃k os,w'=grow (w.drewN k) os:=Any.strconv_Itoa Tryz.laysM171 n b c w a
def Tryz.lays157_ren:Go.Shelf.Ren:=⟨fun|157=>107|229=>152|199=>153|261=>186|311=>204|312=>205|n=>n,fun|9=>9|31=>173|3=>3|5=>5|4=>4|119=>242|0=>0|40=>244|152=>274|21=>21|154=>276|51=>277|141=>279|196=>308|193=>305|198=>311|49=>309|194=>306|201=>314|226=>329|46=>299|227=>330|n=>n,fun|0=>0|6=>1|n=>n⟩
theorem Tryz.lays157:Go.Proofs.Lays.n157 Tryz.prog Tryz.lays157_ren:={
 mixed:=zq2
 f157:=Tryz.func107.trans (ZL ak zq2)
 f199:=Tryz.func153.trans (ZL ak zq2)
 f229:=Tryz.func152.trans (ZL ak zq2)
 f261:=Tryz.func186.trans (ZL ak zq2)
 f311:=Tryz.func204.trans (ZL ak zq2)
 f312:=Tryz.func205.trans (ZL ak zq2)
 t0:=Tryz.underlying0
 a0:=Tryz.isAgg0
 z0:=Tryz.sizeOf0
 v0:=Tryz.zeroValue0
 t3:=Tryz.underlying3
 a3:=Tryz.isAgg3
 z3:=Tryz.sizeOf3
 v3:=Tryz.zeroValue3
 t4:=Tryz.underlying4
 a4:=Tryz.isAgg4
 z4:=Tryz.sizeOf4
 v4:=Tryz.zeroValue4
 t5:=Tryz.underlying5
 a5:=Tryz.isAgg5
 z5:=Tryz.sizeOf5
 v5:=Tryz.zeroValue5
 t9:=Tryz.underlying9
 a9:=Tryz.isAgg9
 z9:=Tryz.sizeOf9
 v9:=Tryz.zeroValue9
 t21:=Tryz.underlying21
 a21:=Tryz.isAgg21
 z21:=Tryz.sizeOf21
 v21:=Tryz.zeroValue21
 t31:=Tryz.underlying173
 a31:=Tryz.isAgg173
 z31:=Tryz.sizeOf173
 v31:=Tryz.zeroValue173
 t40:=Tryz.underlying244
 a40:=Tryz.isAgg244
 z40:=Tryz.sizeOf244
 v40:=Tryz.zeroValue244
 t46:=Tryz.underlying299
 a46:=Tryz.isAgg299
 z46:=Tryz.sizeOf299
 v46:=Tryz.zeroValue299
 t49:=Tryz.underlying309
 a49:=Tryz.isAgg309
 z49:=Tryz.sizeOf309
 v49:=Tryz.zeroValue309
 t51:=Tryz.underlying277
 a51:=Tryz.isAgg277
 z51:=Tryz.sizeOf277
 v51:=Tryz.zeroValue277
 t119:=Tryz.underlying242
 a119:=Tryz.isAgg242
 z119:=Tryz.sizeOf242
 t141:=Tryz.underlying279
 a141:=Tryz.isAgg279
 z141:=Tryz.sizeOf279
 v141:=Tryz.zeroValue279
 t152:=Tryz.underlying274
 a152:=Tryz.isAgg274
 z152:=Tryz.sizeOf274
 v152:=Tryz.zeroValue274
 t154:=Tryz.underlying276
 a154:=Tryz.isAgg276
 z154:=Tryz.sizeOf276
 v154:=Tryz.zeroValue276
 t193:=Tryz.underlying305
 a193:=Tryz.isAgg305
 z193:=Tryz.sizeOf305
 v193:=Tryz.zeroValue305
 t194:=Tryz.underlying306
 a194:=Tryz.isAgg306
 z194:=Tryz.sizeOf306
 v194:=Tryz.zeroValue306
 t196:=Tryz.underlying308
 a196:=Tryz.isAgg308
 z196:=Tryz.sizeOf308
 v196:=Tryz.zeroValue308
 t198:=Tryz.underlying311
 a198:=Tryz.isAgg311
 z198:=Tryz.sizeOf311
 v198:=Tryz.zeroValue311
 t201:=Tryz.underlying314
 a201:=Tryz.isAgg314
 z201:=Tryz.sizeOf314
 v201:=Tryz.zeroValue314
 t226:=Tryz.underlying329
 a226:=Tryz.isAgg329
 z226:=Tryz.sizeOf329
 v226:=Tryz.zeroValue329
 t227:=Tryz.underlying330
 a227:=Tryz.isAgg330
 z227:=Tryz.sizeOf330
 v227:=Tryz.zeroValue330
 g0:=zq2
 g6:=by kernel_rfl}
open Go.RowKit Go.Lib in
theorem Tryz.strings_Fields(s:ByteArray)(w:ao)(d:s.size<4294967281)(a:∀(j:Nat) b,s.data.toList[j]? =ak b->b.toNat<128)(c:oy Tryz.prog w "strings.asciiSpace" .u8 se):
 bw Tryz.prog 107 #[.string s] w fun e w'=>
  e=.returned (.slice (ak ⟨w.heap.size,0,ar⟩) (fj s.data.toList).length (fj s.data.toList).length)/\w'=w.alloc (.cells ((fj s.data.toList).map fun l=>lO ⟨l.toArray⟩).toArray 9):=Any.strings_Fields Tryz.lays157 zq2 zq2 s w d a c
def Tryz.Yn:Go.Shelf.Ren:=⟨fun|156=>157|165=>191|166=>192|169=>193|240=>207|241=>208|276=>222|277=>223|n=>n,fun|31=>173|9=>9|3=>3|4=>4|0=>0|20=>20|72=>287|76=>177|70=>285|37=>36|75=>176|127=>317|164=>331|5=>5|80=>180|n=>n,fun|n=>n⟩
theorem Tryz.lays156:Go.Proofs.Lays.n156 Tryz.prog Tryz.Yn:={
 mixed:=zq2
 f156:=Tryz.func157.trans (ZL ak zq2)
 f165:=Tryz.func191.trans (ZL ak zq2)
 f166:=Tryz.func192.trans (ZL ak zq2)
 f169:=Tryz.func193.trans (ZL ak zq2)
 f240:=Tryz.func207.trans (ZL ak zq2)
 f241:=Tryz.func208.trans (ZL ak zq2)
 f276:=Tryz.func222.trans (ZL ak zq2)
 f277:=Tryz.func223.trans (ZL ak zq2)
 t0:=Tryz.underlying0
 a0:=Tryz.isAgg0
 z0:=Tryz.sizeOf0
 v0:=Tryz.zeroValue0
 t3:=Tryz.underlying3
 a3:=Tryz.isAgg3
 z3:=Tryz.sizeOf3
 v3:=Tryz.zeroValue3
 t4:=Tryz.underlying4
 a4:=Tryz.isAgg4
 z4:=Tryz.sizeOf4
 v4:=Tryz.zeroValue4
 t9:=Tryz.underlying9
 a9:=Tryz.isAgg9
 z9:=Tryz.sizeOf9
 v9:=Tryz.zeroValue9
 t20:=Tryz.underlying20
 a20:=Tryz.isAgg20
 z20:=Tryz.sizeOf20
 v20:=Tryz.zeroValue20
 t31:=Tryz.underlying173
 a31:=Tryz.isAgg173
 z31:=Tryz.sizeOf173
 v31:=Tryz.zeroValue173
 t37:=Tryz.underlying36
 a37:=Tryz.isAgg36
 z37:=Tryz.sizeOf36
 v37:=Tryz.zeroValue36
 t70:=Tryz.underlying285
 a70:=Tryz.isAgg285
 z70:=Tryz.sizeOf285
 v70:=Tryz.zeroValue285
 t72:=Tryz.underlying287
 a72:=Tryz.isAgg287
 z72:=Tryz.sizeOf287
 v72:=Tryz.zeroValue287
 t75:=Tryz.underlying176
 a75:=Tryz.isAgg176
 z75:=Tryz.sizeOf176
 v75:=Tryz.zeroValue176
 t76:=Tryz.underlying177
 a76:=Tryz.isAgg177
 z76:=Tryz.sizeOf177
 v76:=Tryz.zeroValue177
 t127:=Tryz.underlying317
 a127:=Tryz.isAgg317
 z127:=Tryz.sizeOf317
 v127:=Tryz.zeroValue317
 t164:=Tryz.underlying331
 a164:=Tryz.isAgg331
 z164:=Tryz.sizeOf331
 v164:=Tryz.zeroValue331}
theorem Tryz.Kk:Builder.Extra Tryz.prog Tryz.Yn:={
 sizeBuilder:=zq2
 liesBuilder:=zq2
 t5:=Tryz.underlying5
 a5:=Tryz.isAgg5
 z5:=Tryz.sizeOf5
 v5:=Tryz.zeroValue5
 infoByte:=zq2
 cellsByte:=zq2
 sizeByte:=zq2
 neB5:=by decide}
open Go.RowKit in
theorem Tryz.strings_Join_none(a:Zs Addr)(c:Nat)(b:ByteArray)(w:ao):
 bw Tryz.prog 157 #[.slice a 0 c,.string b] w fun e w'=>e=.returned (.string ⟨#[]⟩)/\w'=w:=Any.strings_Join_none Tryz.lays156 Tryz.Kk a c b w
open Go.RowKit in
theorem Tryz.strings_Join(g o c:Nat)(xs:ZD ByteArray)(b:ByteArray)(w:ao)(a:∀(j:Nat) x,xs[j]? =ak x->w.cell? ⟨g,o+j,ar⟩=ak (.string x))(h:g<w.heap.size)(hN:xs.length<=140737488355328)(d:xs.length<=c)(f:(Lib.join (xs.map (·.data.toList)) b.data.toList).length<=140737488355328):
    bw Tryz.prog 157 #[.slice (ak ⟨g,o,ar⟩) xs.length c,.string b] w fun e w'=>e=.returned (.string ⟨(Lib.join (xs.map (·.data.toList)) b.data.toList).toArray⟩)/\Below w.heap.size w w':=Any.strings_Join Tryz.lays156 Tryz.Kk g o c xs b w a h hN d f
def Tryz.lays145_ren:Go.Shelf.Ren:=⟨fun|145=>130|220=>171|219=>195|217=>210|225=>211|224=>212|267=>213|266=>225|314=>226|n=>n,fun|9=>9|4=>4|59=>217|3=>3|5=>5|46=>299|146=>336|51=>277|n=>n,fun|1=>4|n=>n⟩
theorem Tryz.lays145:Go.Proofs.Lays.n145 Tryz.prog Tryz.lays145_ren:={
 mixed:=zq2
 f145:=Tryz.func130.trans (ZL ak zq2)
 f217:=Tryz.func210.trans (ZL ak zq2)
 f219:=Tryz.func195.trans (ZL ak zq2)
 f220:=Tryz.func171.trans (ZL ak zq2)
 f224:=Tryz.func212.trans (ZL ak zq2)
 f225:=Tryz.func211.trans (ZL ak zq2)
 f266:=Tryz.func225.trans (ZL ak zq2)
 f267:=Tryz.func213.trans (ZL ak zq2)
 f314:=Tryz.func226.trans (ZL ak zq2)
 t3:=Tryz.underlying3
 a3:=Tryz.isAgg3
 z3:=Tryz.sizeOf3
 v3:=Tryz.zeroValue3
 t4:=Tryz.underlying4
 a4:=Tryz.isAgg4
 z4:=Tryz.sizeOf4
 v4:=Tryz.zeroValue4
 t5:=Tryz.underlying5
 a5:=Tryz.isAgg5
 z5:=Tryz.sizeOf5
 v5:=Tryz.zeroValue5
 t9:=Tryz.underlying9
 a9:=Tryz.isAgg9
 z9:=Tryz.sizeOf9
 v9:=Tryz.zeroValue9
 t46:=Tryz.underlying299
 a46:=Tryz.isAgg299
 z46:=Tryz.sizeOf299
 v46:=Tryz.zeroValue299
 t51:=Tryz.underlying277
 a51:=Tryz.isAgg277
 z51:=Tryz.sizeOf277
 v51:=Tryz.zeroValue277
 t59:=Tryz.underlying217
 a59:=Tryz.isAgg217
 z59:=Tryz.sizeOf217
 v59:=Tryz.zeroValue217
 t146:=Tryz.underlying336
 a146:=Tryz.isAgg336
 z146:=Tryz.sizeOf336
 v146:=Tryz.zeroValue336
 g1:=by kernel_rfl}
open Go.RowKit Go.Lib in
theorem Tryz.strings_Cut(s a:ByteArray)(m:Int)(w:ao)(b:s.size<4294967281)(c:w.cell? ⟨4,0,ar⟩=ak (.int .i64 m)):
 bw Tryz.prog 130 #[.string s,.string a] w fun e w'=>e=.returned (.tuple #[.string ⟨(nk s.data.toList a.data.toList).1.toArray⟩,.string ⟨(nk s.data.toList a.data.toList).2.1.toArray⟩,.bool (nk s.data.toList a.data.toList).2.2])/\∃n,w'=w.drewN n:=Any.strings_Cut Tryz.lays145 s a m w b c
end Go.Proofs