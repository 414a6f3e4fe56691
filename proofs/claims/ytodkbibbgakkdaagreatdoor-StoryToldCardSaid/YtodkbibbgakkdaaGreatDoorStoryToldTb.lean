/-
  What the law StoryTold needs of our own library and of the walks, no more.
-/
import Derived.Shelf.Strings.Builder1
import Derived.Laws.IdiomRangeMap
import Derived.Lib.FieldsLaws
import Derived.KernelRfl
import Derived.Test.YtodkbibbgakkdaaGreatDoorProg
import Derived.Lib.Slices
import Derived.Lib.Walk
import Derived.Shelf.Strings.OnBuilder
import Derived.Shelf.LaysM
import Derived.Shelf.Strconv.Itoa3
import Derived.Shelf.LaysC
import Derived.Shelf.Strconv.AtoiAll
import Derived.Shelf.Strconv.ErrVarAll
import Derived.Shelf.Strings.Cut
import Derived.Shelf.Strings.Split
import Derived.Shelf.Strings.Fields
import Derived.Shelf.Strings.BuilderX
import Derived.Test.YtodkbibbgakkdaaGreatDoorStoryToldTa
set_option linter.unusedSimpArgs false
set_option linter.unusedVariables false
set_option maxRecDepth 10000
open Array renaming filter->td,filter_eq_self->pj,getD_eq_getD_getElem?->cY,toList_filter->jr
open Bool renaming and_eq_true->cN,false_eq_true->cM,not_eq_true'->gn,not_true->dI,false->aq,true->ba
open Decidable renaming decide->ab
open Go renaming Calls->bC,Edge->hF,Exit->fi,FuncId->fW,Oper->ei,Operand->bo,Program->ca,TypeId->aT,Value->al,World->ao,bodyPost->jj,execOp->bl,getObj->km,leftOf->kc,madeCells->qj,run_equalIn_int->oX,run_part_plain->fN,step->kA,undef->fR
open Go.Lib renaming TabIs->oa,asciiSpaceTab->rr,atoiAll->ey,countB->gf,cut->mN,fields->fh,indexByte->kx
open Go.Question renaming forced->mT
open Go.Region renaming free->eS,noSelect->ec,ready->cR
open Go.Result renaming andThen_ok->bp
open Go.Sem renaming run->kf,run_bind->cv
open Go.Value renaming agg->rh,bool->dq,int->dp,pointer->ga,string->lj
open List renaming all_eq_true->lo,any_cons->te,append_assoc->cf,eq_nil_of_length_eq_zero->cl,ext_getElem?->di,filter_eq_self->mC,getElem?_append->gx,getElem?_append_left->kh,getElem?_append_right->gA,getElem?_drop->cw,getElem?_eq_getElem->bh,getElem?_eq_none->bw,getElem?_map->ej,getElem?_set->fg,getElem?_set_ne->dB,getElem?_set_self->ib,getElem?_take->cg,getElem?_zipWith->lE,getElem?_zip_eq_some->oi,getElem_set_ne->mz,getElem_set_self->lR,getElem_zip->rv,length_append->bc,length_drop->cL,length_map->cG,length_replicate->jq,length_set->cp,length_take->cd,length_zip->ff,map_append->cI,map_cons->ck,map_set->gE,mem_cons->bn,mem_cons_self->fa,nodup_cons->so,not_mem_nil->df,size_toArray->rb,zip_eq_zipWith->mv
open List.Perm renaming refl->mZ
open Nat renaming add_mul->cj,beq->fv,beq_eq->qV,ble->la,ble_eq->oj,eq_or_lt_of_le->ra,le_of_ble_eq_true->gw,le_of_succ_le->rB,le_refl->bt,lt_of_lt_of_le->cq,lt_or_ge->cD,mul_le_mul_right->bd,not_succ_le_self->pN,zero_le->fx
open Option renaming map_some->db,none->aw,some->aj
open Option.some renaming inj->cQ,injEq->eJ
open Prod renaming snd->dv
namespace Go.LX
open Go.RowKit Go.Proofs
section
variable{P:ca}{ops:Array ei}{Q:fi->Act->ao->Prop}{n:Nat}{env:Nat->al}{w w' w0:ao}{M K:BS}{hp:Nat->Chunk}{rest:List ei}
 {d:Option Nat} {op:Op} {ty:aT} {pos:String} {af:Array hF} {v:al} {g:Option (Nat×Bool)} {T:aT} {ρ:bo->al} {x y:bo} {i fuel:Nat} {listed:Array Bool}
theorem SH.pceAt{S:Pce}(h:SH w0 M K w hp)(i:Nat)(a:hp i=.eF S):S.P w (SH.A M hp):=by
 have:=h.ok i;rw[a]at this;exact this
theorem SH.Mg{S S':Pce}(h:SH w0 M K w hp)(i:Nat)(c:hp i=.eF S)(e:S'.P w' (SH.A M hp))(d:bL S.own w w')(hn:∀b,S'.own b->b<w.heap.size->S.own b):SH w0 M K w' (bV hp i (.eF S')):=by
  refine h.step i d (fun b a _=>by rw[c];exact a) (fun b a f=>by rw[c];exact hn b a f) ?_;refine S'.go e (bL.refl BE w') (fun _ h=>h.elim) (fun _ h=>h.elim) fun b a _=>?_;rcases a with a|a|a
  · exact .inl<|.inl a
  · exact .inl<|.inr<|lu a
  · exact .inr a
end
open Go.RowKit Go.Proofs
structure QN(α β:Type)where
 sz:Nat
 enc:α->al->List al
 sub:α->List β
 put:α->List β->α
 len:∀x u,(enc x u).length=sz
 one:∀x u,u.oneCell'=ba->∀c∈enc x u,c.oneCell'=ba
 pos:0<sz
 Sz:∀x s u,enc (put x s) u=enc x u
 SA:∀x s,sub (put x s)=s
def QN.raw{α β:Type}(N:QN α β):lq (α×al) where
 sz:=N.sz
 rd _ _ cs p:=cs=N.enc p.1 p.2/\p.2.oneCell'=ba
 len:=by rintro w A cs x ⟨rfl,_⟩;exact N.len _ _
 one:=by rintro w A cs x ⟨rfl,h⟩;exact N.one _ _ h
 pos:=N.pos
 go:=fun h _ _ _=>h
def hn:Nat->Prop:=fun _=>False
def hat(k:Nat):Nat->Prop:=fun i=>i=k
def GA(ho:Nat->Prop)(us:List al):BS:=fun b=>∃i u,us[i]? =aj u/\¬ho i/\ob u b
def FamP{β:Type}(R:lq β)(E:aT)(ho:Nat->Prop)(us:List al)(ss:List (List β))(w:ao)(A:BS):Prop:=
 us.length=ss.length/\
 (∀i u s,us[i]? =aj u->ss[i]? =aj s->¬ho i->bZ R E w (fun b=>A b\/GA ho us b) u s)/\
 (∀i j u v,i≠j->¬ho i->¬ho j->us[i]? =aj u->us[j]? =aj v->∀b,ob u b->¬ob v b)
theorem FamP.at{β:Type}{R:lq β}{E:aT}{ho:Nat->Prop}{us:List al}{ss:List (List β)}{w:ao}{A:BS}(h:FamP R E ho us ss w A){i:Nat}{u:al}(a:us[i]? =aj u):∃s,ss[i]? =aj s:=by
  have:i<us.length:=by
    rcases cD i us.length with h|h
    · exact h
    · rw[bw h]at a;cases a
  exact⟨ss[i]'(h.1▸this),bh _⟩
def bP{β:Type}(R:lq β)(E:aT)(ho:Nat->Prop)(us:List al)(ss:List (List β)):Pce where
  own:=GA ho us
  P w A:=FamP R E ho us ss w A
  lt:=by
    rintro w A b h⟨i,u,h1,h2,h3⟩;obtain⟨s,hs⟩:=h.at h1;exact(h.2.1 i u s h1 hs h2).lt b h3
  go:=by
    rintro w w' A A' K⟨h1,h2,h3⟩hk hK hKo hA;refine⟨h1,fun i u s hu hs hi=>(h2 i u s hu hs hi).go hk (fun b hb hl=>.inl<|hK b hb hl) (fun b hb ho=>hKo b hb ⟨i,u,hu,hi,ho⟩) fun b hb hl=>?_,h3⟩;rcases hb with hb|hb
    · exact .inl<|hA b hb hl
    · exact .inl<|.inr hb
section
variable{α β:Type}{N:QN α β}{R:lq β}{E Es T:aT}{w0 w w':ao}{M K A:BS}{hp:Nat->Chunk}{v u u':al}{us us':List al}{L L':List α}{ss ss':List (List β)}{s:List β}{x y:α}{k:Nat}{ho ho':Nat->Prop}
theorem Em(hp:Nat->Chunk)(i:Nat)(a c:Chunk):bV (bV hp i a) i c=bV hp i c:=by
  funext j;by_cases e:j=i
  · subst e;rw[bY,bY]
  · rw[dZ e,dZ e,dZ e]
theorem hupd_comm(hp:Nat->Chunk){i j:Nat}(a c:Chunk)(h:i≠j):bV (bV hp i a) j c=bV (bV hp j c) i a:=by
  funext x;by_cases e:x=i
  · subst e;rw[bY,dZ h,bY]
  · by_cases b:x=j
    · subst b;rw[bY,dZ e,bY]
    · rw[dZ b,dZ e,dZ e,dZ b]
theorem SH.WV(h:SH w0 M K w hp)(j:Nat)(a:hp j=.eF (bP R E ho us ss)):FamP R E ho us ss w (SH.A M hp):=h.pceAt j a
theorem SH.jO(h:SH w0 M K w hp)(j:Nat)(a:hp j=.eF (bP R E ho us (L.map N.sub))):us.length=L.length:=by
 have:=(h.WV j a).1;rw[cG]at this;exact this
theorem gH(h:us.length=L.length):(L.zip us).length=L.length:=by rw[ff];omega
theorem gJ(b:L[k]? =aj x)(a:us[k]? =aj u):(L.zip us)[k]? =aj (x,u):=by
 rw[oi];exact⟨b,a⟩
theorem X7(a:us[k]? =aj u):(L.zip us).set k (y,u)=(L.set k y).zip us:=by
  apply di;intro i;rw[fg];by_cases e:k=i
  · subst e;rw[if_pos rfl];by_cases b:k<L.length
    · rw[gJ (x:=y) (u:=u) (by rw[ib b]) a];have:k<us.length:=by
        rcases cD k us.length with h|h
        · exact h
        · rw[bw h]at a;cases a
      rw[if_pos (by rw[ff];omega)]
    · rw[if_neg (by rw[ff];omega),bw (by rw[ff,cp];omega)]
  · rw[if_neg e];simp only[mv,lE,dB e]
theorem SB(a:L[k]? =aj x):(L.zip us).set k (x,u)=L.zip (us.set k u):=by
  apply di;intro i;rw[fg];by_cases e:k=i
  · subst e;rw[if_pos rfl];by_cases b:k<us.length
    · rw[gJ (x:=x) (u:=u) a (by rw[ib b])];have:k<L.length:=by
        rcases cD k L.length with h|h
        · exact h
        · rw[bw h]at a;cases a
      rw[if_pos (by rw[ff];omega)]
    · rw[if_neg (by rw[ff];omega),bw (by rw[ff,cp];omega)]
  · rw[if_neg e];simp only[mv,lE,dB e]
theorem BM(a:L[k]? =aj y):L.set k y=L:=by
  apply di;intro i;rw[fg];by_cases e:k=i
  · subst e;by_cases b:k<L.length
    · rw[if_pos rfl,if_pos b,a]
    · rw[bw V]at a;cases a
  · rw[if_neg e]
theorem nL{z:α}(a:L[k]? =aj x):(L.set k z)[k]? =aj z:=by
  rw[ib];rcases cD k L.length with h|h
  · exact h
  · rw[bw h]at a;cases a
theorem UE(a:us[k]? =aj u):(us.set k u')[k]? =aj u':=nL a
theorem own_re{l b:List (α×al)}(h:bZ N.raw E w A v l)(c:b.length=l.length)(k:∀(i:Nat) (p a:α×al),l[i]? =aj p->b[i]? =aj a->N.enc a.1 a.2=N.enc p.1 p.2/\a.2=p.2):bZ N.raw E w A v b:=by
 obtain⟨xs,j,g⟩:=h;refine⟨xs,by rw[c];exact j,fun i d=>?_⟩;obtain⟨m,f⟩:=g i<|c▸d;obtain⟨e,n⟩:=k i _ _ (bh<|c▸d)<|bh d;exact⟨m.trans e.symm,by rw[n];exact f⟩
theorem SH.rawRe(h:SH w0 M K w hp)(i:Nat)(g:hp i=.own N.raw E v (L.zip us))(f:L[k]? =aj x)(n:∀u,N.enc y u=N.enc x u):SH w0 M K w (bV hp i (.own N.raw E v ((L.set k y).zip us))):=by
  refine h.step i (bL.refl BE w) (fun _ h=>h.elim) (fun b d _=>by rw[g];exact d) ?_;have ho:=h.ok i;rw[g]at ho;refine Chunk.sub (O:=iO hp) (c:=.own N.raw E v ((L.set k y).zip us)) ?_ fun b d _=>?_
  · refine own_re ho (by rw[ff,ff,cp]) fun i p q hp a=>?_;rw[oi]at hp a;rw[fg]at a;have l:=cQ<|hp.2.symm.trans a.2;by_cases e:k=i
    · subst e;have o:k<L.length:=by
        rcases cD k L.length with h|h
        · exact h
        · rw[bw h]at f;cases f
      rw[if_pos rfl,if_pos o]at a;have j:=cQ a.1;have m:=cQ<|f.symm.trans hp.1;rw[<-l,<-j,<-m];exact⟨n _,Z⟩
    · rw[if_neg e]at a;have j:=cQ<|hp.1.symm.trans a.1;rw[<-l,<-j];exact⟨Z,Z⟩
  · rcases d with d|d
    · exact lu d
    · exact⟨i,by rw[g];exact d⟩
theorem SH.famRe(h:SH w0 M K w hp)(j:Nat)(n:hp j=.eF (bP R E ho us ss))(r:us'.length=ss'.length)(e:∀i,¬ho i->us'[i]? =us[i]? /\ss'[i]? =ss[i]?):SH w0 M K w (bV hp j (.eF (bP R E ho us' ss'))):=by
 have m:=h.WV j n;have a:∀b,GA ho us' b->GA ho us b:=fun b⟨i,u,o,l,q⟩=>⟨i,u,(e i l).1▸o,l,q⟩;refine h.Mg j n ?_ (bL.refl _ _) fun b g _=>a b g;refine⟨r,fun i u s k p c=>?_,fun i j u v f c d k t=>m.2.2 i j u v f c d ((e i c).1▸k) ((e j d).1▸t)⟩;refine(m.2.1 i u s ((e i c).1▸k) ((e i c).2▸p) c).go (bL.refl BE w) (fun _ h=>h.elim) (fun _ h=>h.elim) fun b g _=>.inl<|g.imp id<|a b
theorem SH.famL(h:SH w0 M K w hp)(j:Nat)(y:α)(a:hp j=.eF (bP R E (hat k) us (L.map N.sub))):SH w0 M K w (bV hp j (.eF (bP R E (hat k) us ((L.set k y).map N.sub)))):=by
  refine h.famRe j a ?_ fun i b=>⟨Z,?_⟩
  · rw[cG,cp];exact h.jO j a
  · rw[gE,dB (fun e=>b e.symm)]
theorem SH.famU(h:SH w0 M K w hp)(j:Nat)(u:al)(a:hp j=.eF (bP R E (hat k) us ss)):SH w0 M K w (bV hp j (.eF (bP R E (hat k) (us.set k u) ss))):=by
  refine h.famRe j a ?_ fun i b=>⟨?_,Z⟩
  · rw[cp];exact(h.WV j a).1
  · rw[dB (fun e=>b e.symm)]
theorem SH.famOpen(h:SH w0 M K w hp)(j m:Nat)(B:hp j=.eF (bP R E ho us ss))(C:hp m=.no)(p:j≠m)(f:us[k]? =aj u)(F:ss[k]? =aj s)(l:¬ho k)(ho':Nat->Prop)(g:∀i,ho' i↔ho i\/i=k):
    SH w0 M K w (bV (bV hp j (.eF (bP R E ho' us ss))) m (.own R E u s)):=by
  have o:=h.WV j B;have c:∀b,GA ho' us b->GA ho us b:=fun b⟨i,u,n,d,z⟩=>⟨i,u,n,fun h=>d ((g i).2<|.inl h),z⟩;have r:(Chunk.two (.eF<|bP R E ho' us ss)<|.own R E u s).holds w M (SH.av hp j<|Chunk.two (.eF<|bP R E ho' us ss)<|.own R E u s):=by
    refine⟨⟨o.1,fun i v t y G A=>?_,fun i j u v x A q f y=>o.2.2 i j u v x (fun h=>A ((g i).2<|.inl h)) (fun h=>q ((g j).2<|.inl h)) f y⟩,?_,?_⟩
    · refine(o.2.1 i v t y G fun h=>A ((g i).2<|.inl h)).go (bL.refl BE w) (fun _ h=>h.elim) (fun _ h=>h.elim) fun b a _=>.inl ?_;rcases a with(a|a|a)|a
      · exact .inl<|.inl a
      · exact .inl<|.inr<|lu a
      · rcases a with a|a
        · exact .inr<|c b a
        · exact .inr ⟨k,u,f,l,a⟩
      · exact .inr<|c b a
    · refine(o.2.1 k u s f F l).go (bL.refl BE w) (fun _ h=>h.elim) (fun _ h=>h.elim) fun b a _=>.inl ?_;rcases a with a|a|a
      · exact .inl<|.inl a
      · exact .inl<|.inr<|lu a
      · rcases a with a|a
        · exact .inr<|c b a
        · exact .inr ⟨k,u,f,l,a⟩
    · rintro b⟨i,v,n,d,z⟩a;exact o.2.2 i k v u (fun e=>d ((g i).2<|.inr e)) (fun h=>d ((g i).2<|.inl h)) l n f b z a
  have n:=h.step j (bL.refl BE w) (fun _ h=>h.elim) (fun b a _=>by
    rw[B];rcases a with a|a
    · exact c b a
    · exact⟨k,u,f,l,a⟩) r
  have d:=n.unpair j m p (bY _ _ _) (by rw[dZ (Ne.symm p)];exact C);rw[Em]at d;exact d
theorem SH.KA(h:SH w0 M K w hp)(j m:Nat)(Q:hp j=.eF (bP R E ho us ss))(X:hp m=.own R E u s)(a0:j≠m)(y:us[k]? =aj u)(hk:ho k)(ho':Nat->Prop)(h':∀i,ho i↔ho' i\/i=k)(P:¬ho' k):
    SH w0 M K w (bV (bV hp m .no) j (.eF (bP R E ho' us (ss.set k s)))):=by
  have q:=h.pair j m a0;have a:∀i,¬ho' i->i=k\/¬ho i:=fun i F=>by
    by_cases e:i=k
    · exact .inl e
    · exact .inr fun h=>((h' i).1 h).elim F e
  have p:∀b,GA ho' us b->GA ho us b\/ob u b:=fun b⟨i,v,q,x,N⟩=>by
    rcases a i x with rfl|h4
    · rw[y]at q;cases q;exact .inr N
    · exact .inl ⟨i,v,q,h4,N⟩
  have O:∀b,GA ho us b\/ob u b->GA ho' us b:=fun b d=>by
    rcases d with⟨i,v,q,x,N⟩|d
    · exact⟨i,v,q,fun h=>x ((h' i).2<|.inl h),N⟩
    · exact⟨k,u,y,P,d⟩
  have n:=q.ok j;have T:bV (bV hp m .no) j (.two (hp j)<|hp m)=bV (bV hp m .no) j (.two (.eF<|bP R E ho us ss)<|.own R E u s):=by rw[Q,X]
  rw[bY,Q,X]at n;have x:=q.step (c:=.eF (bP R E ho' us (ss.set k s))) j (bL.refl BE w) (fun _ h=>h.elim) (fun b d _=>by
    rw[bY,Q,X];exact p b d) ?_
  · rw[Em]at x;exact x
  · rw[T];have hA:∀b,(M b\/SH.av (bV (bV hp m .no) j<|.two (.eF<|bP R E ho us ss)<|.own R E u s) j (.eF<|bP R E ho' us<|ss.set k s) b)\/GA ho' us b->(M b\/iO (bV (bV hp m .no) j<|.two (.eF<|bP R E ho us ss)<|.own R E u s) b):=by
      have z:∀b,GA ho' us b->iO (bV (bV hp m .no) j (.two (.eF (bP R E ho us ss)) (.own R E u s))) b:=fun b d=>⟨j,by rw[bY];exact p b d⟩;rintro b((d|d|d)|d)
      · exact .inl d
      · exact .inr<|lu d
      · exact .inr<|z b d
      · exact .inr<|z b d
    refine⟨by rw[cp];exact n.1.1,fun i v t o L F=>?_,fun i l v v' C F A o g b d r=>?_⟩
    · by_cases e:i=k
      · subst e;rw[y]at o;cases o;have S:i<ss.length:=by
          obtain⟨s',G⟩:=n.1.at y;rcases cD i ss.length with h|h
          · exact h
          · rw[bw h]at G;cases G
        rw[ib S]at L;cases L;refine bZ.go n.2.1 (bL.refl BE w) (fun _ h=>h.elim) (fun _ h=>h.elim) fun b d _=>.inl<|hA b d
      · rw[dB (fun h=>e h.symm)]at L;have f:¬ho i:=(a i F).resolve_left e;refine(n.1.2.1 i v t o L f).go (bL.refl BE w) (fun _ h=>h.elim) (fun _ h=>h.elim) fun b d _=>.inl<|.inl<|hA b d
    · by_cases e:i=k
      · have I:l≠k:=fun h=>C<|e.trans h.symm;have f:¬ho l:=(a l A).resolve_left I;subst e;rw[y]at o;cases o;exact n.2.2 b ⟨l,v',g,f,r⟩ d
      · have f:¬ho i:=(a i F).resolve_left e;by_cases I:l=k
        · subst I;rw[y]at g;cases g;exact n.2.2 b ⟨i,v,o,f,d⟩ r
        · have B:¬ho l:=(a l A).resolve_left I;exact n.1.2.2 i l v v' C f B o g b d r
end
open Go.RowKit Go.Proofs
section
variable{α β:Type}{N:QN α β}{R:lq β}{E Es T:aT}{w0 w w':ao}{M K A:BS}{hp:Nat->Chunk}{v u u':al}{us us' vT:List al}{L L':List α}{ss ss' ss2:List (List β)}{s:List β}{x y:α}{k:Nat}{ho ho':Nat->Prop}
theorem Mh{a:Type}{l:List a}{z:a}(h:l[k]? =aj z):k<l.length:=by
  rcases cD k l.length with h1|h1
  · exact h1
  · rw[bw h1]at h;cases h
theorem SH.dnOpen(h:SH w0 M K w hp)(j m:Nat)(d:hp j=.eF (bP R Es hn us (L.map N.sub)))(e:hp m=.no)(a:j≠m)(c:L[k]? =aj x):
  ∃u,us[k]? =aj u/\SH w0 M K w (bV (bV hp j (.eF (bP R Es (hat k) us (L.map N.sub)))) m (.own R Es u (N.sub x))):=by
 have f:=h.jO j d;have b:=Mh c;exact⟨us[k]'(f▸b),bh _,h.famOpen j m d e a (bh _) (by rw[ej,c];rfl) (fun h=>h) _ (fun i=>⟨.inr,fun h=>h.elim (fun h=>h.elim) id⟩)⟩
theorem SH.Bc(h:SH w0 M K w hp)(i j m:Nat)(y:α)(o:hp i=.own N.raw E v (L.zip us))(l:hp j=.eF (bP R Es (hat k) us (L.map N.sub)))(g:hp m=.own R Es u s)(a:i≠j)(b:i≠m)(c:j≠m)(n:L[k]? =aj x)(p:us[k]? =aj u)(d:y=N.put x s):
  SH w0 M K w (bV (bV (bV hp m .no) j (.eF (bP R Es hn us ((L.set k y).map N.sub)))) i (.own N.raw E v ((L.set k y).zip us))):=by
 have q:=h.KA j m l g c p Z hn (fun i=>⟨.inr,fun h=>h.elim (fun h=>h.elim) id⟩) fun h=>h;have f:=q.rawRe (N:=N) (x:=x) (y:=y) (k:=k) (E:=E) (v:=v) i (by rw[dZ a,dZ b];exact o) n (fun u=>by rw[d];exact N.Sz _ _ _);have e:(L.map N.sub).set k s=(L.set k y).map N.sub:=by rw[gE,d,N.SA]
 rw[e]at f;exact f
theorem SH.lW(h:SH w0 M K w hp)(j m:Nat)(d:hp j=.eF (bP R Es (hat k) us (L.map N.sub)))(c:hp m=.own R Es u s)(a:j≠m)(l:L[k]? =aj x)(g:us[k]? =aj u)(f:N.sub x=s):
  SH w0 M K w (bV (bV hp m .no) j (.eF (bP R Es hn us (L.map N.sub)))):=by
 have b:=h.KA j m d c a g Z hn (fun i=>⟨.inr,fun h=>h.elim (fun h=>h.elim) id⟩) fun h=>h;have e:(L.map N.sub).set k s=L.map N.sub:=BM (by rw[ej,l,<-f];rfl);rw[e]at b;exact b
theorem SH.famNew(h:SH w0 M K w hp)(m:Nat)(g:hp m=.own R Es u s):SH w0 M K w (bV hp m (.eF (bP R Es hn [u] [s]))):=by
  have ho:=h.ok m;rw[g]at ho;have a:∀b,GA hn [u] b->ob u b:=by
    rintro b⟨i,v,k,_,l⟩;cases i with
    |zero=>cases k;exact l
    |succ i=>cases k
  refine h.step m (bL.refl BE w) (fun _ h=>h.elim) (fun b c _=>by rw[g];exact a b c) ⟨Z,fun i v t d e _=>?_,fun i j v t f _ _ d e=>?_⟩
  · cases i with
    |succ i=>cases d
    |zero=>
      cases d;cases e;refine bZ.go ho (bL.refl BE w) (fun _ h=>h.elim) (fun _ h=>h.elim) fun b c _=>?_;rcases c with(c|c|c)|c
      · exact .inl<|.inl c
      · exact .inl<|.inr<|lu c
      · exact .inr<|a b c
      · exact .inr<|a b c
  · cases i with
    |zero=>cases j with
      |zero=>exact absurd Z f
      |succ j=>cases e
    |succ i=>cases d
theorem SH.famNil(h:SH w0 M K w hp)(j:Nat):SH w0 M K w (bV hp j (.eF (bP R Es hn [] []))):=
  h.learn j (bL.refl BE w) (by rintro b ⟨i,u,c,_⟩;cases c) (by
    refine⟨Z,?_,?_⟩
    · intro i v t a;cases a
    · intro i j v t _ _ _ a;cases a)
theorem SH.GD(h:SH w0 M K w hp)(j m:Nat)(C:hp j=.eF (bP R Es hn us ss))(B:hp m=.eF (bP R Es hn vT ss2))(z:j≠m):SH w0 M K w (bV (bV hp m .no) j (.eF (bP R Es hn (us++vT) (ss++ss2)))):=by
  have e:=h.pair j m z;have k:=e.ok j;rw[C,B]at e;rw[bY,C,B]at k;have n:∀b,GA hn (us++vT) b->GA hn us b\/GA hn vT b:=by
    rintro b⟨i,v,e,_,o⟩;rw[gx]at e;split at e
    · exact .inl ⟨i,v,e,fun h=>h,o⟩
    · exact .inr ⟨_,v,e,fun h=>h,o⟩
  have x:∀b,GA hn us b\/GA hn vT b->GA hn (us++vT) b:=by
    rintro b(⟨i,v,e,_,o⟩|⟨i,v,e,_,o⟩)
    · exact⟨i,v,by rw[kh (Mh e)];exact e,fun h=>h,o⟩
    · exact⟨us.length+i,v,by rw[gA V,Nat.add_sub_cancel_left];exact e,fun h=>h,o⟩
  have A:=e.step (c:=.eF (bP R Es hn (us++vT) (ss++ss2))) j (bL.refl BE w) (fun _ h=>h.elim) (fun b a _=>by rw[bY];exact n b a) ?_
  · rw[Em]at A;exact A
  · have E:∀b,(M b\/SH.av (bV (bV hp m .no) j<|.two (.eF<|bP R Es hn us ss)<|.eF<|bP R Es hn vT ss2) j (.eF<|bP R Es hn (us++vT)<|ss++ss2) b)\/GA hn (us++vT) b->(M b\/iO (bV (bV hp m .no) j<|.two (.eF<|bP R Es hn us ss)<|.eF<|bP R Es hn vT ss2) b):=by
      have p:∀b,GA hn (us++vT) b->iO (bV (bV hp m .no) j (.two (.eF (bP R Es hn us ss)) (.eF (bP R Es hn vT ss2)))) b:=fun b a=>⟨j,by rw[bY];exact n b a⟩;rintro b((a|a|a)|a)
      · exact .inl a
      · exact .inr<|lu a
      · exact .inr<|p b a
      · exact .inr<|p b a
    have F:=k.1.1;have G:=k.2.1.1;refine⟨by simp only[bc];omega,fun i v t f q _=>?_,fun i u v s y _ _ f d b a l=>?_⟩
    · rw[gx]at f q;by_cases r:i<us.length
      · rw[if_pos r]at f;rw[if_pos V]at q;exact(k.1.2.1 i v t f q fun h=>h).go (bL.refl BE w) (fun _ h=>h.elim) (fun _ h=>h.elim) fun b a _=>.inl<|.inl<|E b a
      · rw[if_neg r]at f;rw[if_neg V,<-F]at q;exact(k.2.1.2.1 _ v t f q fun h=>h).go (bL.refl BE w) (fun _ h=>h.elim) (fun _ h=>h.elim) fun b a _=>.inl<|.inl<|E b a
    · rw[gx]at f d;by_cases r:i<us.length
      · rw[if_pos r]at f;by_cases g:u<us.length
        · rw[if_pos g]at d;exact k.1.2.2 i u v s y (fun h=>h) (fun h=>h) f d b a l
        · rw[if_neg g]at d;exact k.2.2 b ⟨_,v,f,fun h=>h,a⟩ ⟨_,s,d,fun h=>h,l⟩
      · rw[if_neg r]at f;by_cases g:u<us.length
        · rw[if_pos g]at d;exact k.2.2 b ⟨_,s,d,fun h=>h,l⟩ ⟨_,v,f,fun h=>h,a⟩
        · rw[if_neg g]at d;exact k.2.1.2.2 _ _ v s V (fun h=>h) (fun h=>h) f d b a l
theorem SH.famTake(h:SH w0 M K w hp)(j n:Nat)(l:hp j=.eF (bP R Es hn us (L.map N.sub))):SH w0 M K w (bV hp j (.eF (bP R Es hn (us.take n) ((L.take n).map N.sub)))):=by
  have f:=h.WV j l;have hat:∀(i:Nat) (u:al),(us.take n)[i]? =aj u->us[i]? =aj u/\i<n:=fun i u a=>by
    rw[cg]at a;split at a
    · exact⟨a,by assumption⟩
    · cases a
  have c:∀b,GA hn (us.take n) b->GA hn us b:=fun b⟨i,u,q,o,r⟩=>⟨i,u,(hat i u q).1,o,r⟩;refine h.Mg j l ?_ (bL.refl _ _) fun b k _=>c b k;have t:=f.1;rw[cG]at t;refine⟨by rw[cd,cG,cd];omega,fun i u s a m g=>?_,fun i j u v e g d a p=>f.2.2 i j u v e g d (hat i u a).1 (hat j v p).1⟩;rw[List.map_take,cg,if_pos (hat i u a).2]at m;refine(f.2.1 i u s (hat i u a).1 m g).go (bL.refl BE w) (fun _ h=>h.elim) (fun _ h=>h.elim) fun b k _=>.inl<|k.imp id<|c b
theorem zip_take'(n:Nat):(L.zip us).take n=(L.take n).zip (us.take n):=by
 apply di;intro i;simp only[mv,cg,lE];split<;>rfl
theorem Jw{a:List α}(h:us.length=L.length):(L.zip us)++(a.zip vT)=(L++a).zip (us++vT):=(List.zip_append h.symm).symm
theorem uY{P:ca}{ρ:bo->al}{d:Option Nat}{ty:aT}{pos:String}{af:Array hF}{g:Option (Nat×Bool)}{a:bo}{f:Nat}{B A:BS}{e:ao}(b:SliceOf P T E f)(i:ρ a=v)(j:ed N.raw e B A v (L.zip us))(c:us.length=L.length):
  (bl ρ ⟨d,.call {callee:=.builtin .len,args:= #[a],argTypes:= #[T]},ty,pos,af,g⟩).run P w=.ok (.value (.int .i64 L.length)) w:=by
 have h:=gG (P:=P) (w:=w) (d:=d) (ty:=ty) (pos:=pos) (af:=af) (g:=g) b i j;rw[gH c]at h;exact h
theorem SH.KC{R':lq α}(h:SH w0 M K w hp)(i j:Nat)(t:hp i=.own N.raw E v (L.zip us))(l:hp j=.eF (bP R Es hn us (L.map N.sub)))(r:i≠j)(p:R'.sz=N.sz)(br:∀w A x u,dm R w A u (N.sub x)->R'.rd w A (N.enc x u) x):SH w0 M K w (bV (bV hp j .no) i (.rd R' v L)):=by
  have s:=h.jO j l;have m:=h.pair i j r;have g:=m.apart i;have C:=m.apM i;have n:=m.ok i;rw[bY]at g C;rw[bY,t,l]at n;have z:=m.step (c:=.rd R' v L) i (bL.refl BE w) (fun _ h=>h.elim) (fun b d _=>d.elim) ?_
  · rw[Em]at z;exact z
  · have hno:∀b,(hp i).own' b\/(hp j).own' b->¬(M b\/SH.av (bV (bV hp j .no) i<|.two (hp i)<|hp j) i (.rd R' v L) b):=by
      intro b d f;rcases f with f|⟨q,k,f⟩|f
      · exact C b d f
      · exact g q (fun e=>k e.symm) b d f
      · exact f
    have B:∀b,(M b\/SH.av (bV (bV hp j .no) i<|.two (hp i)<|hp j) i (.rd R' v L) b)->M b\/iO (bV (bV hp j .no) i<|.two (.own N.raw E v<|L.zip us)<|.eF<|bP R Es hn us<|L.map N.sub) b:=by
      rw[t,l];rintro b(d|d|d)
      · exact .inl d
      · exact .inr<|lu d
      · exact d.elim
    have hr:dm N.raw w (fun b=>M b\/SH.av (bV (bV hp j .no) i<|.two (hp i)<|hp j) i (.rd R' v L) b) v (L.zip us):=
      bZ.rd n.1 (fun b d=>hno b (.inl (by rw[t];exact d))) (fun b d _=>.inl (B b d))
    obtain⟨a,cap,I,y,e3,e4,e5⟩:=hr;rw[gH s]at I y;refine⟨a,cap,I,y,e3,e4,fun q k=>?_⟩;obtain⟨b,o,cells,F,Q,O,q2,X,G⟩:=e5 q (by rw[gH s];exact k);refine⟨b,o,cells,F,Q,O,q2,X,?_⟩;rw[p];have P:(L.zip us)[q]'(by rw[gH s];exact k)=(L[q],us[q]'V):=by simp
    rw[P]at G;obtain⟨T,_⟩:=G;have S:((cells.toList.drop<|o+q*N.sz).take N.sz)=N.enc L[q] (us[q]'V):=T;rw[S];refine br _ _ _ _ (bZ.rd (n.2.1.2.1 q _ _ (bh V) (by rw[ej,bh k];rfl) (fun h=>h)) (fun b d=>hno b (.inr (by rw[l];exact⟨q,_,bh V,fun h=>h,d⟩))) (fun b d _=>.inl (.inl (B b d))))
theorem SH.moveC(h:SH w0 M K w hp)(j i:Nat){c:Chunk}(s:hp j=c)(u:hp i=.no)(t:j≠i):SH w0 M K w (bV (bV hp j .no) i c):=by
  subst s;have f:∀x b,(bV (bV hp j .no) i (hp j) x).own' b->∃y,(hp y).own' b/\(x=i->y=j)/\(x≠i->y=x/\x≠j):=by
    intro x b a;by_cases e:x=i
    · subst e;rw[bY]at a;exact⟨j,a,fun _=>rfl,fun h=>absurd Z h⟩
    · rw[dZ e]at a;by_cases d:x=j
      · subst d;rw[bY]at a;exact a.elim
      · rw[dZ d]at a;exact⟨x,a,fun h=>absurd h e,fun _=>⟨Z,d⟩⟩
  have g:∀b,iO (bV (bV hp j .no) i<|hp j) b->iO hp b:=fun b⟨x,n⟩=>let ⟨y,k,_⟩:=f x b n;⟨y,k⟩;refine⟨h.keep,h.ltM,fun x b a=>let ⟨y,k,_⟩:=f x b a;h.apM y b k,fun x=>?_,fun x y l b n k=>?_,fun x b a=>let ⟨y,k,_⟩:=f x b a;h.old y b k⟩
  · by_cases e:x=i
    · subst e;rw[bY];exact Chunk.sub (h.ok j) fun b a _=>g b a
    · rw[dZ e];by_cases d:x=j
      · subst d;rw[bY];trivial
      · rw[dZ d];exact Chunk.sub (h.ok x) (fun b a _=>g b a)
  · obtain⟨x',r,q,o⟩:=f x b n;obtain⟨p,k1,k2,m⟩:=f y b k;have:x'≠p:=by
      by_cases e:x=i
      · have d:y≠i:=fun h=>l<|e.trans h.symm;rw[q e,(m d).1];exact fun h=>(m d).2 h.symm
      · by_cases d:y=i
        · rw[k2 d,(o e).1];exact(o e).2
        · rw[(o e).1,(m d).1];exact l
    exact h.apart x' p this b r k1
def dn(β:Type):QN (List β) β where
 sz:=1
 enc _ u:=[u]
 sub x:=x
 put _ s:=s
 len _ _:=rfl
 one:=by intro x u h c hc;simp at hc;subst hc;exact h
 pos:=by decide
 Sz _ _ _:=rfl
 SA _ _:=rfl
theorem SC{R:lq β}:∀w A (x:List β) u,dm R w A u ((dn β).sub x)->(wY R).rd w A ((dn β).enc x u) x:=fun _ _ _ u h=>⟨u,rfl,h⟩
end
open Go.RowKit Go.Proofs
section
variable{P:ca}{w:ao}{ρ:bo->al}{d:Option Nat}{ty:aT}{pos:String}{af:Array hF}{g:Option (Nat×Bool)}{T:aT}{x y:bo}
theorem SH.Jy{α β:Type}{N:QN α β}{R:lq β}{E:aT}{w0:ao}{M K:BS}{hp:Nat->Chunk}{u:al}{s:List β}(h:SH w0 M K w hp)(m:Nat)(x:α)(a:hp m=.own R E u s)(b:N.sub x=s):SH w0 M K w (bV hp m (.eF (bP R E hn [u] (List.map N.sub [x])))):=by
 subst b;exact h.famNew m a
theorem us_at{α:Type}{us:List al}{L:List α}{k:Nat}{z:α}(h:us.length=L.length)(a:L[k]? =aj z):∃u,us[k]? =aj u:=by
 have:=Mh a;exact⟨us[k]'(h▸this),bh _⟩
end
open Go.RowKit Go.Proofs
section
variable{α:Type}{R:lq α}{E:aT}{w0 w w':ao}{M K:BS}{hp:Nat->Chunk}{C C':Chunk}{v:al}{l:List α}
theorem qE:∀b,iO (bV hno 1 C) b->C.own' b:=by
  rintro b⟨j,a⟩;by_cases e:j=1
  · subst e;rw[bY]at a;exact a
  · rw[dZ e]at a;exact a.elim
theorem iQ{i:Nat}(hn:∀b,iO hp b->C.own' b):∀b,iO (bV hp i (.rd R v l)) b->C.own' b:=by
  rintro b⟨j,a⟩;by_cases e:j=i
  · subst e;rw[bY]at a;exact a.elim
  · rw[dZ e]at a;exact hn b ⟨j,a⟩
theorem SH.j4(h:SH w M K w hp)(i:Nat)(ho:dm R w (fun b=>M b\/C.own' b) v l)(hn:∀b,iO hp b->C.own' b):SH w M K w (bV hp i (.rd R v l)):=
 h.aK i (ho.sub (fun b a _=>a.imp id (hn b)) (fun b a _=>a.imp id (hn b)))
theorem SH.lendS(h:SH w0 M K w hp)(i:Nat)(a:hp i=C)(c:C.Sr):C.holds w (fun b=>M b\/rest hp i b) C.own'/\(∀b,C.own' b->¬(M b\/rest hp i b))/\(∀b,(M b\/rest hp i b)->b<w.heap.size):=by
 subst a;exact h.lendC i c
theorem SH.xJ(h:SH w0 M K w hp)(i j:Nat)(e:hp j=.rd R v l)(d:hp i=C):dm R w (fun b=>(M b\/rest hp i b)\/C.own' b) v l:=by
  have c:∀b,(M b\/rest hp i b)\/C.own' b->SH.A M hp b:=by
    rintro b((a|a)|a)
    · exact .inl a
    · exact .inr<|lu a
    · exact .inr ⟨i,by rw[d];exact a⟩
  exact(h.bB j e).sub (fun b a _=>c b a) fun b a _=>c b a
theorem SH.back(h:SH w0 M K w hp)(i:Nat)(a:hp i=C)(e:C'.Sr)(c:C'.holds w' (fun b=>M b\/rest hp i b) C'.own')(d:bL C.own' w w')(hn:∀b,C'.own' b->b<w.heap.size->C.own' b):SH w0 M K w' (bV hp i C'):=by
 subst a;exact h.givenC i e c d hn
theorem fA{i:Nat}(h:dm R w (fun b=>(M b\/rest hp i b)\/C.own' b) v l):dm R w (SH.A M (bV hp i C)) v l:=by
  have a:∀b,SH.A M (bV hp i C) b->(M b\/rest hp i b)\/C.own' b:=by
    rintro b(c|⟨j,d⟩)
    · exact .inl<|.inl c
    · by_cases e:j=i
      · subst e;rw[bY]at d;exact .inr d
      · rw[dZ e]at d;exact .inl (.inr ⟨j,e,d⟩)
  exact h.sub (fun b c _=>a b c) fun b c _=>a b c
theorem SH.bU(h:SH w0 M K w hp)(i j:Nat)(e:hp j=.rd R v l)(d:hp i=C):dm R w (fun b=>M b\/C.own' b) v l:=by
  have c:∀b,M b\/C.own' b->SH.A M hp b:=by
    rintro b(a|a)
    · exact .inl a
    · exact .inr ⟨i,by rw[d];exact a⟩
  exact(h.bB j e).sub (fun b a _=>c b a) fun b a _=>c b a
theorem SH.outS(h:SH w0 M K w hp)(i:Nat)(a:hp i=C)(c:C.Sr):C.holds w M C.own'/\bL K w0 w/\(∀b,C.own' b->b<w0.heap.size->K b):=h.outC i a c
end
section
variable{P:ca}{ops:Array ei}{Q:fi->Act->ao->Prop}{n:Nat}{env:Nat->al}{w:ao}
theorem At.hold{w w':ao}{L:BS}{b o:Nat}{cs:List al}(h:At w b o cs)(e:bL L w w')(hn:¬L b):At w' b o cs:=by
 obtain⟨cells,E,a,d,c⟩:=h;exact⟨cells,E,a,e.blk d hn,c⟩
theorem fin4{g:Func}{R:Ending->ao->Prop}{t u a c:Tmp}{v1 v2 v3 v4:al}(l:g.results= #[.tmp t,.tmp u,.tmp a,.tmp c])(k:ev n env (.tmp t)=v1)(j:ev n env (.tmp u)=v2)(m:ev n env (.tmp a)=v3)(i:ev n env (.tmp c)=v4)(h:R (.returned (.tuple #[v1,v2,v3,v4])) w):jj P g R .ret (act n env) w:=by
 refine⟨Z,_,?_,h⟩;have e:=congrFun (gP n env)<|.tmp t;have b:=congrFun (gP n env)<|.tmp u;have f:=congrFun (gP n env)<|.tmp a;have d:=congrFun (gP n env)<|.tmp c;rw[k]at e;rw[j]at b;rw[m]at f;rw[i]at d;simp only[Act.eval]at e b f d;rw[cY]at e b f d;unfold results;rw[l];simp[e,b,f,d]
end
structure Ins where
 op:Int
 a:Int
 b:Int
 c:Int
 args:List Int
deriving DecidableEq
def kZ:lq Ins where
 sz:=5
 rd w A cs x:=∃WW,cs=[.int .i64 x.op,.int .i64 x.a,.int .i64 x.b,.int .i64 x.c,WW]/\dm cZ w A WW x.args
 len:=by rintro w A cs x ⟨WW,rfl,h0⟩;rfl
 one:=by rintro w A cs x ⟨WW,rfl,h0⟩ u hu;simp only[bn,df,or_false]at hu;rcases hu with rfl|rfl|rfl|rfl|rfl<;>first|rfl|exact h0.one
 pos:=by decide
 go:=by rintro w A cs x w2 A2 K ⟨WW,rfl,h0⟩ hk hK hA;exact⟨_,Z,h0.go hk hK hA⟩
theorem KD{w:ao}{A:BS}{cs:List al}{x:Ins}(h:kZ.rd w A cs x):∃d,cs=[.int .i64 x.op,.int .i64 x.a,.int .i64 x.b,.int .i64 x.c,d]/\dm cZ w A d x.args:=h
structure bu where
 params:Int
 regs:Int
 code:List Ins
deriving DecidableEq
def dK:lq bu where
 sz:=3
 rd w A cs x:=∃WX,cs=[.int .i64 x.params,.int .i64 x.regs,WX]/\dm kZ w A WX x.code
 len:=by rintro w A cs x ⟨WX,rfl,h0⟩;rfl
 one:=by rintro w A cs x ⟨WX,rfl,h0⟩ u hu;simp only[bn,df,or_false]at hu;rcases hu with rfl|rfl|rfl<;>first|rfl|exact h0.one
 pos:=by decide
 go:=by rintro w A cs x w2 A2 K ⟨WX,rfl,h0⟩ hk hK hA;exact⟨_,Z,h0.go hk hK hA⟩
theorem xh{w:ao}{A:BS}{cs:List al}{x:bu}(h:dK.rd w A cs x):∃a,cs=[.int .i64 x.params,.int .i64 x.regs,a]/\dm kZ w A a x.code:=h
structure Frame where
 proc:Int
 at_:Int
 regs:List Val
 jy:Int
deriving DecidableEq
def iY:lq Frame where
 sz:=4
 rd w A cs x:=∃WY,cs=[.int .i64 x.proc,.int .i64 x.at_,WY,.int .i64 x.jy]/\dm bG w A WY x.regs
 len:=by rintro w A cs x ⟨WY,rfl,h0⟩;rfl
 one:=by rintro w A cs x ⟨WY,rfl,h0⟩ u hu;simp only[bn,df,or_false]at hu;rcases hu with rfl|rfl|rfl|rfl<;>first|rfl|exact h0.one
 pos:=by decide
 go:=by rintro w A cs x w2 A2 K ⟨WY,rfl,h0⟩ hk hK hA;exact⟨_,Z,h0.go hk hK hA⟩
theorem Fh{w:ao}{A:BS}{cs:List al}{x:Frame}(h:iY.rd w A cs x):∃a,cs=[.int .i64 x.proc,.int .i64 x.at_,a,.int .i64 x.jy]/\dm bG w A a x.regs:=h
structure State where
 frames:List Frame
 cells:List (List Val)
 status:Int
 bM:Int
deriving DecidableEq
def KE:QN bu Ins where
 sz:=3
 enc x u:=[.int .i64 x.params,.int .i64 x.regs,u]
 sub x:=x.code
 put x s:={x with code:=s}
 len _ _:=rfl
 one:=by intro x u h c hc;simp only[bn,df,or_false]at hc;rcases hc with rfl|rfl|rfl<;>first|rfl|exact h
 pos:=by decide
 Sz _ _ _:=rfl
 SA _ _:=rfl
theorem nProc_br:∀w A (x:bu) u,dm kZ w A u (KE.sub x)->dK.rd w A (KE.enc x u) x:=fun _ _ _ u h=>⟨u,rfl,h⟩
def aS:QN Frame Val where
 sz:=4
 enc x u:=[.int .i64 x.proc,.int .i64 x.at_,u,.int .i64 x.jy]
 sub x:=x.regs
 put x s:={x with regs:=s}
 len _ _:=rfl
 one:=by intro x u h c hc;simp only[bn,df,or_false]at hc;rcases hc with rfl|rfl|rfl|rfl<;>first|rfl|exact h
 pos:=by decide
 Sz _ _ _:=rfl
 SA _ _:=rfl
theorem KF:∀w A (x:Frame) u,dm bG w A u (aS.sub x)->iY.rd w A (aS.enc x u) x:=fun _ _ _ u h=>⟨u,rfl,h⟩
open Go.RowKit Go.Proofs
section
variable{P:ca}{ops:Array ei}{Q:fi->Act->ao->Prop}{n:Nat}{env:Nat->al}{w w' w0:ao}{M K:BS}{hp:Nat->Chunk}{rest:List ei}
 {d:Option Nat} {op:Op} {ty:aT} {pos:String} {af:Array hF} {v:al} {g:Option (Nat×Bool)} {T:aT} {ρ:bo->al} {x y:bo}
theorem fin_c{e:Func}{R:Ending->ao->Prop}{a:Tmp}{T:aT}{zs vs:List al}{b:Nat}(f:e.results= #[.cell a T])(g:ev n env (.tmp a)=.pointer (aj ⟨b,0,aw⟩))
  (j:SH w0 M K w hp) (i:Nat) (m:hp i=.blk b vs) (k:wU P T zs) (l:vs.length=zs.length) (h:R (.returned (.agg vs.toArray)) w):jj P e R .ret (act n env) w:=by
 refine⟨Z,_,?_,h⟩;have c:=congrFun (gP n env)<|.tmp a;rw[g]at c;simp only[Act.eval]at c;rw[cY]at c;have d:=Cw (P:=P) j m k l Z;unfold results;rw[f];simp[c,asAddr,d]
end
theorem cutS_free{c:UInt8}{s:Str}(h:c∉s)(a:s.length<4294967281):cutS s [c]=aj (s,[],aq):=by
  unfold cutS;rw[jN a];rcases idx1 c s with⟨h1,h2⟩|⟨x,r,h1,h2,h3⟩
  · unfold mN;rw[h1,if_neg zq1]
  · exact absurd (by rw[h1];simp) h
theorem cutS_hit{c:UInt8}{x r:Str}(h:c∉x)(a:(x++c::r).length<4294967281):cutS (x++c::r) [c]=aj (x,r,ba):=by
  unfold cutS;rw[jN a];rcases idx1 c (x++c::r)with⟨h1,h2⟩|⟨y,q,h1,h2,h3⟩
  · exact absurd zq3 h2
  · have e:x=y/\r=q:=by
      have k1:=Bt (r:=r) h;have k2:=Bt (r:=q) h2;rw[<-h1,k1]at k2;injection k2 with k2 k3;subst k2;refine⟨Z,?_⟩;have:=List.append_cancel_left h1;injection this
    obtain⟨rfl,rfl⟩:=e;unfold mN;rw[h3,if_pos V];simp only[Int.toNat_natCast];rw[List.take_left,show x.length+[c].length=(x++[c]).length by simp,show x++c::r=(x++[c])++r by simp,List.drop_left]
theorem splitC_cons{c:UInt8}{s x y:Str}{l:List Str}(h:jH c s=x::y::l):∃r,s=x++c::r/\jH c r=y::l/\c∉x:=by
 have b:=(El c s x (by rw[h];exact fa)).2;have a:=BL c s;rw[h,yM]at a;refine⟨vS c<|y::l,a.symm,?_,b⟩;rw[<-a,Bt b]at h;injection h
theorem splitC_single{c:UInt8}{s x:Str}(h:jH c s=[x]):s=x/\c∉x:=by
 have b:=(El c s x (by rw[h];exact fa)).2;have a:=BL c s;rw[h,BK]at a;exact⟨a.symm,b⟩
open Go.RowKit Go.Proofs
def RngP{α:Type}(f:α->al)(m r:Nat)(c:Option (Int×α))(left:List (Int×α))(w:ao):Prop:=
 m≠r/\∃d a b,w.heap[m]? =aj (.map d a)/\L8 d a/\w.heap[r]? =aj (.mapIter (aj m) a b a)/\
  (kc d b).toList.map (fun e=>(e.key,e.val))=left.map (fun p=>(dp .i64 p.1,f p.2))/\
  ∀p,c=aj p->∃e∈d.toList,b.back?=aj e.born/\e.key=.int .i64 p.1/\e.val=f p.2
def rngS{α:Type}(f:α->al)(m r:Nat)(last:Option (Int×α))(left:List (Int×α)):Pce where
  own x:=x=m\/x=r
  P w _:=RngP f m r last left w
  lt:=by
    rintro w A x⟨_,es,clock,seen,h1,_,h2,_⟩(rfl|rfl)
    · exact iN h1
    · exact iN h2
  go:=by
    rintro w w' A A' K⟨h0,es,clock,seen,h1,h2,h3,h4⟩hk hK hKo hA;exact⟨h0,es,clock,seen,hk.blk h1 fun h=>hKo m h<|.inl Z,h2,hk.blk h3 fun h=>hKo r h<|.inr Z,h4⟩
section
variable{P:ca}{ops:Array ei}{Q:fi->Act->ao->Prop}{n:Nat}{env:Nat->al}{w w' w0:ao}{M K:BS}{hp:Nat->Chunk}{rest:List ei}
 {d:Option Nat} {op:Op} {ty:aT} {pos:String} {af:Array hF} {v:al} {g:Option (Nat×Bool)} {T:aT} {ρ:bo->al} {x y:bo} {α:Type} {f:α->al}
theorem w_range{z:al}{m:Nat}{jC:List (Int×al)}(l:List (Int×α))(h:SH w0 M K w hp)(i:Nat)(t:hp i=.mp m jC)(A:MapOf P T z)(y:ev n env x=.map (aj m))(u:jC=l.map fun p=>(p.1,f p.2))
    (k:∀w' r,SH w0 M K w' (bV hp i (.eF (rngS f m r aw l)))->WL P ops Q rest n (gq env d (.pointer (aj ⟨r,0,aw⟩))) w'):WL P ops Q (⟨d,.range T x,ty,pos,af,aw⟩::rest) n env w:=by
  obtain⟨B,E,v,F,G⟩:=A.desc;obtain⟨e,a,s,q,o⟩:=h.mpAt i t;have c:(bl (ev n env) ⟨d,.range T x,ty,pos,af,aw⟩).run P w=.ok (.value<|.pointer<|some ⟨w.heap.size,0,aw⟩) (w.alloc<|.mapIter (aj m) a #[] a):=by
    simp only[bl,y];simp[run_range_map w T B E m e a v s]
  refine J c<|k _ _ ?_;have j:=iN s;refine h.step i (N:=BE) (Grow.alloc _ _) (fun _ h=>h.elim) (fun b g C=>?_) ?_
  · rw[t];rcases g with rfl|rfl
    · rfl
    · exact absurd C<|Nat.lt_irrefl _
  · refine⟨Nat.ne_of_lt j,e,a,#[],by rw[(Grow.alloc _ _).blk s],o,heap_alloc_new _ _,?_,fun p h=>by cases h⟩;have:kc e #[]=e:=by unfold kc;exact pj.2 (fun x _=>by simp)
    rw[this,q,u,List.map_map];rfl
theorem Xr{r:Nat}{a:Option Nat}{s c:Nat}{d:Array Nat}(o:Obj)(b:w.heap[r]? =aj (.mapIter a s d c)):(setObj r o).run P w=.ok () (wV w r o):=by
 simp only[setObj,kf,b];rfl
theorem run_next_any(ty:aT){m r a:Nat}{f:Array MapEntry}{b:Array Nat}(z:w.heap[m]? =aj (.map f a))(u:w.heap[r]? =aj (.mapIter (aj m) a b a))(k:∀e∈f.toList,e.born<a):
    ((kc f b).size=0/\(Instr.next (.pointer (aj ⟨r,0,aw⟩)) aq ty).run P w=.ok (.tuple #[.bool aq]) w)\/
    ∃e∈(kc f b).toList,∃d:ao,(d=w\/d=w.drew)/\(Instr.next (.pointer (aj ⟨r,0,aw⟩)) aq ty).run P w=.ok (.tuple #[.bool ba,e.key,e.val]) (wV d r (.mapIter (aj m) a (b.push e.born) a)):=by
  have o:(km r).run P w=.ok (.mapIter (aj m) a b a) w:=by simp[km,kf,u]
  have n:(km m).run P w=.ok (.map f a) w:=by simp[km,kf,z]
  simp only[Instr.next,cv,o,n,bp,next_test_false b f a a k (bt _),cM,if_false];unfold kc;have c:∀x∈(td (fun e=> !b.contains e.born) f).toList,x.born<a:=fun x g=>k x (by simp at g⊢;exact g.1);generalize td (fun e=> !b.contains e.born) f=L at c⊢;have A:L.filter (fun x=>decide<|x.born<a)=L:=pj.2 (fun x g=>by simpa using c x (by simpa using g));have v:L.filter (fun x=>decide<|x.born≥a)= #[]:=by
    rw[Array.filter_eq_empty_iff];intro x g;have:=c x (by simpa using g);simp;omega
  simp only[A,v,Array.append_empty];by_cases s:L.size=0
  · left;have:L= #[]:=Array.eq_empty_of_size_eq_zero s;subst this;refine⟨Z,?_⟩;simp[choose,kf,mT]
  · right;have l:L.isEmpty=false:=by simp[Array.isEmpty,s]
    simp only[l,cM,if_false,Array.empty_append,Array.size_map];have q:∃(j:Nat) (d:ao),j<L.size/\(d=w\/d=w.drew)/\(choose<|Question.mapNext L.size).run P w=.ok j d:=by
      by_cases t:L.size<=1
      · exact⟨0,w,by omega,.inl Z,by simp[choose,kf,mT,t]⟩
      · exact⟨_,w.drew,Nat.mod_lt _ V,.inr Z,by
          simp only[choose,kf,mT,decide_eq_true_eq,t,if_false,Question.cut];rfl⟩
    obtain⟨j,d,y,i,h⟩:=q;refine⟨L[j],by simp,d,i,?_⟩;have p:d.heap[r]? =aj (.mapIter (aj m) a b a):=by rcases i with rfl|rfl<;>exact u
    simp only[h,Array.getElem?_map,Array.getElem?_eq_getElem y,db,cv,Xr _ p,bp];rfl
theorem leftOf_push(c:Array MapEntry)(a:Array Nat)(b:Nat):(kc c (a.push b)).toList=(kc c a).toList.filter (fun x=>x.born !=b):=by
 unfold kc;rw[jr,jr,List.filter_filter];apply List.filter_congr;intro x _;have:(a.push b).contains x.born=(a.contains x.born||(x.born==b)):=by
  rw[Bool.eq_iff_iff];simp[Array.contains_iff_mem]
 rw[this];cases a.contains x.born<;>cases hq:(x.born==b)<;>simp[bne,hq]
theorem w_next{m r:Nat}{t:Option (Int×α)}{left:List (Int×α)}(h:SH w0 M K w hp)(i:Nat)(T:hp i=.eF (rngS f m r t left))(k:ev n env x=.pointer (aj ⟨r,0,aw⟩))
    (k0:left=[]->WL P ops Q rest n (gq env d (.tuple #[.bool aq])) w)
    (k1:∀p g w',left.Perm (p::g)->SH w0 M K w' (bV hp i (.eF (rngS f m r (aj p) g)))->WL P ops Q rest n (gq env d (.tuple #[.bool ba,.int .i64 p.1,f p.2])) w'):
    WL P ops Q (⟨d,.next x aq,ty,pos,af,aw⟩::rest) n env w:=by
  have R:=h.ok i;rw[T]at R;obtain⟨s,q,a,c,G,E,S,C,h5⟩:=R;rcases run_next_any (P:=P) ty G S E.1 with⟨g1,g2⟩|⟨e,he,w1,hw1,g2⟩
  · have hl:left=[]:=by
      have:(kc q c).toList=[]:=cl (by simpa using g1);rw[this]at C;cases left with
      |nil=>rfl
      |cons p l=>cases C
    refine J (v:=.tuple #[.bool aq]) (w':=w) ?_<|k0 hl;simp only[bl,k];simp[g2]
  · obtain⟨A,B,o⟩:=List.append_of_mem he;rw[o,cI,ck]at C;obtain⟨N,l2,rfl,X,q2⟩:=List.map_eq_append_iff.1 C.symm;obtain⟨p,O,rfl,y,q4⟩:=List.map_eq_cons_iff.1 q2;simp only[Prod.mk.injEq]at y;have z:=iN S;have j:Grow w w1:=by
      rcases hw1 with rfl|rfl
      · exact bL.refl _ _
      · exact⟨Z,Z,Z,bt _,fun _ _ _=>rfl⟩
    have hk:bL (fun x=>x=m\/x=r) w (wV w1 r<|.mapIter (aj m) a (c.push e.born) a):=bL.step (j.weaken fun _ h _=>h.elim) (bL.wV _ _ _) fun x k _=>.inr k;have F:(wV w1 r<|.mapIter (aj m) a (c.push e.born) a).heap[m]? =aj (.map q a):=by
      rw[(bL.wV w1 r _).block m s (cq (iN G) j.size),j.blk G]
    refine J (v:=.tuple #[.bool ba,.int .i64 p.1,f p.2]) (w':=wV w1 r<|.mapIter (aj m) a (c.push e.born) a) ?_<|k1 p (N++O) _ (List.perm_middle) ?_
    · rw[y.1,y.2];simp only[bl,k];simp[g2]
    · refine h.Mg (S':=rngS f m r (aj p)<|N++O) i T ?_ hk fun b hb _=>hb;refine⟨s,q,a,c.push e.born,F,E,vM<|cq z j.size,?_,fun p' I=>?_⟩
      · rw[leftOf_push,o];have u:((kc q c).toList.map (·.born)).Nodup:=by
          unfold kc;rw[jr];exact(E.2.sublist ((List.filter_sublist (l:=q.toList)).map _))
        rw[o,cI,ck,List.nodup_append]at u;obtain⟨n1,n2,n3⟩:=u;rw[List.filter_append,List.filter_cons_of_neg zq3,mC.2 (fun x k=>?_),mC.2 (fun x k=>?_),cI,cI,<-X,<-q4]
        · have:=(so.1 n2).1;simp only[bne_iff_ne,ne_eq,decide_not,gn,beq_eq_false_iff_ne];intro L;exact this (by rw[<-L];exact List.mem_map.2 ⟨x,k,Z⟩)
        · simp only[bne_iff_ne,ne_eq,decide_not,gn,beq_eq_false_iff_ne];intro L;exact n3 x.born (List.mem_map.2 ⟨x,k,Z⟩) e.born zq3 L
      · cases I;refine⟨e,?_,by simp,y.1.symm,y.2.symm⟩;have:e∈(kc q c).toList:=he;unfold kc at this;rw[jr]at this;exact(List.mem_filter.1 this).1
theorem r_entry{m r:Nat}{p:Int×α}{left:List (Int×α)}(h:SH w0 M K w hp)(i:Nat)(A:hp i=.eF (rngS f m r (aj p) left))(s:ρ x=.pointer (aj ⟨r,0,aw⟩)):
    (bl ρ ⟨d,.entry x,ty,pos,af,g⟩).run P w=.ok (.value (.tuple #[.int .i64 p.1,f p.2])) w:=by
  have l:=h.ok i;rw[A]at l;obtain⟨n,j,a,b,q,o,z,E,B⟩:=l;obtain⟨e,v,y,t,C⟩:=B p Z;have k:(km r).run P w=.ok (.mapIter (aj m) a b a) w:=by simp[km,kf,z]
  have c:(km m).run P w=.ok (.map j a) w:=by simp[km,kf,q]
  have u:j.find? (·.born==e.born)=aj e:=by rw[<-Array.find?_toList];exact find_born e j.toList o.2 v
  simp only[bl,s];have:(Instr.entry<|.pointer<|some ⟨r,0,aw⟩).run P w=.ok (.tuple #[.int .i64 p.1,f p.2]) w:=by
    simp only[Instr.entry,cv,k,c,bp,y,bne_self_eq_false,cM,if_false,u];rw[t,C];rfl
  simp[this]
theorem SH.rngForget{m r:Nat}{c:Option (Int×α)}{left:List (Int×α)}(h:SH w0 M K w hp)(i:Nat)(j:hp i=.eF (rngS f m r c left)):SH w0 M K w (bV hp i (.eF (rngS f m r aw left))):=by
 have g:=h.ok i;rw[j]at g;obtain⟨e,l,a,d,o,n,q,k,t⟩:=g;exact h.Mg (S':=rngS f m r aw left) i j ⟨e,l,a,d,o,n,q,k,fun p h=>by cases h⟩ (bL.refl _ _) fun b s _=>s
end
def X8{α σ:Type}(kA:α->σ->Option σ):List α->σ->Option σ
 |[],s=>aj s
 |a::l,s=>(kA a s).bind (X8 kA l)
def Bd{α σ:Type}(kA:α->σ->Option σ)(L:List α)(s a:σ):Prop:=∀p,p.Perm L->X8 kA p s=aj a
open Classical in
noncomputable def Jz{α σ:Type}(kA:α->σ->Option σ)(L:List α)(s:σ):Option σ:=if h:∃a,Bd kA L s a then aj h.choose else aw
theorem o_fold{α σ:Type}{kA:α->σ->Option σ}{L:List α}{s a:σ}(h:Jz kA L s=aj a):Bd kA L s a:=by
  unfold Jz at h;split at h
  · rename_i b;cases h;exact b.choose_spec
  · cases h
theorem foldAny_eq{α σ:Type}{kA:α->σ->Option σ}{L:List α}{s a:σ}(h:Bd kA L s a):Jz kA L s=aj a:=by
 have c:∃a,Bd kA L s a:=⟨a,h⟩;unfold Jz;rw[dif_pos c];have b:=c.choose_spec L<|mZ _;rw[h L (mZ _)]at b;exact b.symm
theorem Bd.nil{α σ:Type}{kA:α->σ->Option σ}{s a:σ}(h:Bd kA [] s a):s=a:=by
 have:=h []<|mZ _;exact cQ this
theorem Bd.cons{α σ:Type}{kA:α->σ->Option σ}{L L':List α}{p:α}{s a:σ}(h:Bd kA L s a)(hp:L.Perm (p::L')):∃b,kA p s=aj b/\Bd kA L' b a:=by
 have d:=h (p::L') hp.symm;obtain⟨b,c,f⟩:=az d;refine⟨b,c,fun q e=>?_⟩;have:=h (p::q) ((e.cons p).trans hp.symm);unfold X8 at this;rw[c]at this;exact this
open Go.RowKit Go.Proofs
section
variable{w0 w w':ao}{M K:BS}{hp:Nat->Chunk}{C:Chunk}
theorem SH.Mi{b:Nat}{cs:List al}(h:SH w M K w hp)(i:Nat)(ho:∃E,w.heap[b]? =aj (.cells cs.toArray E (0,0)))(c:¬C.own' b)(hn:∀b,iO hp b->C.own' b):SH w M K w (bV hp i (.pt b 0 cs)):=by
 obtain⟨E,a⟩:=ho;exact h.pt i (fun h=>c<|hn b h) ⟨_,E,_,a,by simp⟩
theorem zQ{i b o:Nat}{cs:List al}(hn:∀b,iO hp b->C.own' b):∀x,iO (bV hp i (.pt b o cs)) x->C.own' x:=by
  rintro x⟨j,a⟩;by_cases e:j=i
  · subst e;rw[bY]at a;exact a.elim
  · rw[dZ e]at a;exact hn x ⟨j,a⟩
theorem SH.loseC3{c e f:Chunk}(h:SH w0 M K w hp)(i j k:Nat)(l:i≠j)(d:i≠k)(g:j≠k)(o:hp i=c)(n:hp j=e)(m:hp k=f)(r:bL (fun b=>c.own' b\/e.own' b\/f.own' b) w w'):
    SH w0 M K w' (bV (bV (bV (bV (bV hp j .no) i (.two (hp i) (hp j))) k .no) i (.two ((bV (bV hp j .no) i (.two (hp i) (hp j))) i) ((bV (bV hp j .no) i (.two (hp i) (hp j))) k))) i .no):=by
  have q:=h.pair i j l;have p:=q.pair i k d;refine p.lV i (bY _ _ _) ?_;rw[bY,dZ (fun e=>d e.symm),dZ (fun e=>g e.symm),o,n,m];refine r.weaken fun b a _=>?_;rcases a with a|a|a
  · exact .inl<|.inl a
  · exact .inl<|.inr a
  · exact .inr a
end
section
variable{α:Type}{R:lq α}{E:aT}{w0 w w':ao}{M K A:BS}{hp:Nat->Chunk}{C:Chunk}{v:al}{l:List α}
theorem bZ.srcB{B:BS}(h:bZ R E w A v l)(n:∀b,ob v b->¬B b):ed R w B A v l:=by
  have j:=h.src;obtain⟨xs,s,x⟩:=h;rcases s.2 with⟨rfl,hn⟩|⟨g,cap,cur,rfl,e1,e2,e3,e4,e5,e6⟩
  · have:l=[]:=cl hn;subst this;exact ed.nil
  · obtain⟨a,c,d,f,u,q,r⟩:=j;refine⟨a,c,d,f,u,q,fun i t=>?_⟩;obtain⟨b,o,cells,F,k,e,y,m,p⟩:=r i t;refine⟨b,o,cells,F,k,e,?_,m,p⟩;subst e;simp only[Value.slice.injEq,eJ,Addr.mk.injEq]at d;exact n b (by simp[ob,d.1.1])
theorem JA{i:Nat}(hn:∀b,iO hp b->C.own' b):∀b,iO (bV hp i (.sr R v l)) b->C.own' b:=by
  rintro b⟨j,a⟩;by_cases e:j=i
  · subst e;rw[bY]at a;exact a.elim
  · rw[dZ e]at a;exact hn b ⟨j,a⟩
theorem SH.argSrC(h:SH w M K w hp)(i:Nat)(ho:ed R w C.own' (fun b=>M b\/C.own' b) v l)(hn:∀b,iO hp b->C.own' b):SH w M K w (bV hp i (.sr R v l)):=
 h.know i (fun _ h=>h) (ho.sub (fun b a _=>hn b a) (fun b a _=>a.imp id (hn b)))
theorem av_all{i:Nat}(c:hp i=C):∀b,(M b\/rest hp i b)\/C.own' b->SH.A M hp b:=by
  rintro b((a|a)|a)
  · exact .inl a
  · exact .inr<|lu a
  · exact .inr ⟨i,by rw[c];exact a⟩
theorem SH.ownSr(h:SH w0 M K w hp)(i j:Nat)(a:i≠j)(d:hp j=.own R E v l)(e:hp i=C):ed R w C.own' (fun b=>(M b\/rest hp i b)\/C.own' b) v l:=
 ((h.bI j d).srcB (B:=C.own') (fun b c f=>h.apart i j a b (by rw[e];exact f) (by rw[d];exact c))).sub (fun _ h _=>h) (fun b c _=>av_all e b c)
theorem SH.srSr(h:SH w0 M K w hp)(i j:Nat)(d:hp j=.sr R v l)(c:hp i=C):ed R w C.own' (fun b=>(M b\/rest hp i b)\/C.own' b) v l:=
 (h.srAt j d).sub (fun b a _=>⟨i,by rw[c];exact a⟩) (fun b a _=>av_all c b a)
end
def SE(s:Str):Option (List Str):=iy (s.length<4294967281/\(s.all fun b=>ab (b.toNat<128))=ba/\(fh s).length<=4294967281) (aj (fh s))
theorem fields_w{P:ca}{f:fW}{E:aT}{g q:Nat}{w0:ao}{M:BS}(c:∀(s:ByteArray) (w:ao),s.size<4294967281->(∀(j:Nat) b,s.data.toList[j]? =aj b->b.toNat<128)->oa P w "strings.asciiSpace" .u8 rr->
    bC P f #[.string s] w fun e w'=>e=.returned (.slice (aj ⟨w.heap.size,0,aw⟩) (fh s.data.toList).length (fh s.data.toList).length)/\w'=w.alloc (.cells ((fh s.data.toList).map fun l=>lj ⟨l.toArray⟩).toArray E))
    (k:P.globalNamed "strings.asciiSpace" =aj q) (d:∀b,M b->b<w0.heap.size) (m:qD P g w0) {s:Str} {r:List Str} (a:SE s=aj r):bC P f #[bE s] w0 (fun e w'=>Grow w0 w'/\∃u,e=.returned u/\dm uF w' M u r):=by
  obtain⟨⟨i,h,p⟩,a⟩:=bD a;cases a;refine(c ⟨s.toArray⟩ w0 (by rw[vR];exact i) (fun j b n=>?_) (m.asc q k)).mono ?_
  · have:=lo.1 h b<|List.mem_of_getElem? (by simpa using n);simpa using this
  · rintro e w'⟨rfl,rfl⟩;refine⟨Grow.alloc _ _,_,Z,?_⟩;have:=strs_rd (E:=E) (l:=(fh s).map fun l=>(⟨l.toArray⟩:ByteArray)) (cap:=(fh s).length) (cells:=((fh s).map fun l=>lj ⟨l.toArray⟩).toArray) w0 d (by rw[cG];exact bt _) (by unfold maxLen;omega) (fun j o=>by simp);rw[cG,List.map_map]at this;have e:(List.map (((fun x=>x.data.toList):ByteArray->Str)∘fun l=>⟨l.toArray⟩)<|fh s)=fh s:=by simp[Function.comp_def]
    simpa[Function.comp_def]using this
open Go.RowKit Go.Proofs Go.ChangeShapes
def Qt(b o:Nat)(r:Nat×Nat×Nat):Bool:=fv r.1 b&&(la r.2.1 o&&Nat.blt o (r.2.1+r.2.2))
def UF(b o:Nat):List (Nat×Nat×Nat)->List (Nat×Nat×Nat)
 |[]=>[(b,o,1)]
 |(c,s,l)::r=>bif fv c b&&fv (o+1) s then(b,o,l+1)::r else(b,o,1)::(c,s,l)::r
def runsOf:List MemPlace->Option (List (Nat×Nat×Nat))
 |[]=>aj []
 | .cell b o::r=>(runsOf r).bind fun rs=>bif rs.any (Qt b o)then aw else aj (UF b o rs)
 |_::_=>aw
theorem addRun_old{b o c q:Nat}{rs:List (Nat×Nat×Nat)}(h:rs.any (Qt c q)=ba):(UF b o rs).any (Qt c q)=true:=by
  cases rs with
  |nil=>cases h
  |cons r rs=>
    obtain⟨d,s,l⟩:=r;have e:UF b o ((d,s,l)::rs)=bif fv d b&&fv (o+1) s then(b,o,l+1)::rs else(b,o,1)::(d,s,l)::rs:=rfl;rw[e];cases hc:(fv d b&&fv (o+1) s)with
    |false=>rw[cond_false,te,h,Bool.or_true]
    |true=>
      rw[cond_true];simp only[cN,qV]at hc;obtain⟨rfl,rfl⟩:=hc;rw[te]at h⊢;rcases Bool.or_eq_true_iff.1 h with h|h
      · unfold Qt at h⊢;simp only[cN,qV,oj,Nat.blt_eq]at h;have:(fv d c&&(la o q&&Nat.blt q (o+(l+1))))=true:=by
          simp only[cN,qV,oj,Nat.blt_eq];omega
        rw[this,Bool.true_or]
      · rw[h,Bool.or_true]
theorem addRun_new{b o:Nat}{rs:List (Nat×Nat×Nat)}:(UF b o rs).any (Qt b o)=true:=by
 cases rs with
 |nil=>simp[UF,Qt]
 |cons r rs=>
  obtain⟨d,s,l⟩:=r;have e:UF b o ((d,s,l)::rs)=bif fv d b&&fv (o+1) s then(b,o,l+1)::rs else(b,o,1)::(d,s,l)::rs:=rfl;rw[e];cases (fv d b&&fv (o+1) s)with
  |false=>simp[Qt]
  |true=>simp[Qt]
theorem SF:∀{d:List MemPlace} {rs:List (Nat×Nat×Nat)},runsOf d=aj rs->d.Nodup/\∀b o,MemPlace.cell b o∈d->rs.any (Qt b o)=ba
  |[],rs,h=>⟨List.nodup_nil,fun _ _ a=>by cases a⟩
  | .cell b o::r,rs,h=>by
    unfold runsOf at h;obtain⟨q,g,h⟩:=Option.bind_eq_some_iff.1 h;obtain⟨i,f⟩:=SF g;cases hc:q.any (Qt b o)with
    |true=>rw[hc]at h;cases h
    |false=>
      rw[hc,cond_false]at h;cases h;refine⟨so.2 ⟨fun a=>(by rw[f b o a]at hc;cases hc),i⟩,fun c p a=>?_⟩;rcases bn.1 a with e|a
      · cases e;exact addRun_new
      · exact addRun_old<|f c p a
  | .map _::_,rs,h=>by cases h
theorem Xt{P:ca}{w:ao}{l:List (String×DataW Unit)}(fuel:Nat)(h:(DataW.laidRun P w fuel (l.map (·.1))).map (·.1)=aj l)
    (a:(DataW.laidRun P w fuel (l.map (·.1))).map (fun x=>(runsOf x.2).isSome&&laidRowsB P w x.2)=aj ba):laidMet P l w:=by
  cases hx:DataW.laidRun P w fuel (l.map (·.1))with
  |none=>simp[hx]at h
  |some x=>
    obtain⟨c,d⟩:=x;simp only[hx,db,eJ]at h a;subst h;simp only[cN]at a;obtain⟨rs,b⟩:=Option.isSome_iff_exists.1 a.1;exact laidMet_of_run fuel hx (decide_eq_true (SF b).1) a.2
structure gF where
 at_:Int
 ok:Bool
deriving DecidableEq
open Go.RowKit Go.Proofs
section
variable{α β:Type}{N:QN α β}{R:lq β}{E Es T:aT}{w0 w w':ao}{M K A:BS}{hp:Nat->Chunk}{v u u':al}{us us':List al}{L L':List α}{ss ss':List (List β)}{s:List β}{x y:α}{k:Nat}{ho ho':Nat->Prop}{C:Chunk}
theorem WZ{a:Type}(P:Nat->a->Prop):∀(n:Nat),(∀i,i<n->∃u,P i u)->∃us:List a,us.length=n/\∀i u,us[i]? =aj u->P i u
  |0,_=>⟨[],rfl,fun i u h=>by cases h⟩
  |n+1,h=>by
    obtain⟨us,d,b⟩:=WZ P n fun i f=>h i V;obtain⟨u,c⟩:=h n V;refine⟨us++[u],by simp[d],fun i z hz=>?_⟩;rw[gx]at hz;split at hz
    · exact b i z hz
    · rename_i e;have:i-us.length=0:=by
        rcases Nat.eq_zero_or_pos (i-us.length)with h0|h0
        · exact h0
        · rw[bw (by simp;omega)]at hz;cases hz
      rw[this]at hz;cases hz;obtain rfl:i=n:=by omega
      exact c
def hge(k:Nat):Nat->Prop:=fun i=>k<=i
def Mj{β:Type}(R:lq β)(k:Nat)(us:List al)(ss:List (List β)):Pce where
 own:=BE
 P w A:=∀i u s,k<=i->us[i]? =aj u->ss[i]? =aj s->dm R w A u s
 lt:=fun _ h=>h.elim
 go:=fun h hk hK hKo hA i u s hi hu hs=>dm.go (h i u s hi hu hs) hk hK (fun b hb hl=>(hA b hb hl).elim id (fun h=>h.elim))
theorem SH.famHo(h:SH w0 M K w hp)(j:Nat)(ho':Nat->Prop)(a:hp j=.eF (bP R E ho us ss))(c:∀i,ho i↔ho' i):SH w0 M K w (bV hp j (.eF (bP R E ho' us ss))):=by
 have e:ho=ho':=funext fun i=>propext<|c i;subst e;exact h.Mg (S':=bP R E ho us ss) j a (h.WV j a) (bL.refl _ _) fun b d _=>d
theorem SH.thaw{R':lq α}(h:SH w0 M K w hp)(i j q:Nat)(k:hp i=.own R' E v L)(G:i≠j)(X:i≠q)(Q:j≠q)(l:R'.sz=N.sz)(op:∀w A cs x,R'.rd w A cs x->∃u,cs=N.enc x u/\dm R w A u (N.sub x)):
    ∃us,us.length=L.length/\SH w0 M K w (bV (bV (bV hp i (.own N.raw E v (L.zip us))) j (.eF (bP R Es (hge 0) us (L.map N.sub)))) q (.eF (Mj R 0 us (L.map N.sub)))):=by
  have ho:=h.bI i k;have O:=ho;obtain⟨xs,S,F⟩:=ho;obtain⟨us,r,n⟩:=WZ (fun i u=>∃k:i<L.length,(xs.drop (i*R'.sz)).take R'.sz=N.enc L[i] u/\dm R w (fun b=>SH.A M hp b\/ob v b) u (N.sub L[i])) L.length (fun i k=>by
    obtain⟨u,o,m⟩:=op _ _ _ _<|F i k;exact⟨u,k,o,m⟩)
  refine⟨us,r,?_⟩;have P:SH w0 M K w (bV hp i<|.own N.raw E v<|L.zip us):=by
    refine h.step i (bL.refl BE w) (fun _ h=>h.elim) (fun b d _=>by rw[k];exact d) ⟨xs,?_,?_⟩
    · rw[gH r];show w.ownsRow 0 E N.sz v L.length xs;rw[<-l];exact S
    · intro q z;have a0:q<L.length:=by rw[gH r]at z;exact z
      have y:q<us.length:=by omega
      obtain⟨_,o,m⟩:=n q us[q]<|bh y;refine⟨?_,?_⟩
      · show(xs.drop<|q*N.sz).take N.sz=N.enc ((L.zip us)[q]).1 ((L.zip us)[q]).2;rw[rv,<-l];exact o
      · rw[rv];exact m.one
  have a:∀b,¬GA (hge 0) us b:=fun b⟨i,u,_,hn,_⟩=>hn<|fx i;have T:SH w0 M K w (bV (bV hp i<|.own N.raw E v<|L.zip us) j<|.eF<|bP R Es (hge 0) us<|L.map N.sub):=
    P.know j (c:=.eF (bP R Es (hge 0) us (L.map N.sub))) (fun b d=>a b d) ⟨by rw[cG];exact r,fun i u s _ _ hn=>absurd (fx i) hn,fun i j u v _ hn=>absurd (fx i) hn⟩
  refine T.know q (c:=.eF<|Mj R 0 us<|L.map N.sub) (fun b d=>d) ?_;intro p u s _ I B;obtain⟨t,o,m⟩:=n p u I;rw[ej,bh t]at B;cases B;have f:∀b,(M b\/iO (bV (bV hp i<|.own N.raw E v<|L.zip us) j<|.eF<|bP R Es (hge 0) us<|L.map N.sub) b)->SH.A M hp b\/ob v b:=by
    rintro b(d|⟨c,g⟩)
    · exact .inl<|.inl d
    · by_cases e:c=j
      · subst e;rw[bY]at g;exact absurd g (a b)
      · rw[dZ e]at g;by_cases C:c=i
        · subst C;rw[bY]at g;exact .inr g
        · rw[dZ C]at g;exact .inl (.inr ⟨c,g⟩)
  exact m.sub (fun b d _=>f b d) fun b d _=>f b d
theorem SH.rdpAt(h:SH w0 M K w hp)(q:Nat)(d:hp q=.eF (Mj R k us (L.map N.sub)))(c:us.length=L.length)(b:L[k]? =aj x):∃u,us[k]? =aj u/\dm R w (SH.A M hp) u (N.sub x):=by
 obtain⟨u,a⟩:=us_at c b;exact⟨u,a,h.pceAt q d k u _ (bt _) a (by rw[ej,b];rfl)⟩
theorem SH.rdpStep(h:SH w0 M K w hp)(q:Nat)(a:hp q=.eF (Mj R k us ss)):SH w0 M K w (bV hp q (.eF (Mj R (k+1) (us.set k u) (ss.set k s)))):=by
 have d:=h.pceAt q a;refine h.Mg (S':=Mj R (k+1) (us.set k u)<|ss.set k s) q a ?_ (bL.refl _ _) fun b e _=>e;intro i z t f hz c;rw[dB V]at hz c;exact d i z t V hz c
theorem SH.pendPut(h:SH w0 M K w hp)(j q m:Nat)(y:α)(g:hp j=.eF (bP R Es (hge k) us (L.map N.sub)))(z:hp q=.eF (Mj R k us (L.map N.sub)))(v:hp m=.own R Es u s)(f:j≠q)(b:j≠m)(c:q≠m)(t:L[k]? =aj x)(d:us[k]? =aj u')(p:N.sub y=s):
    SH w0 M K w (bV (bV (bV (bV (bV hp q (.eF (Mj R (k+1) (us.set k u) ((L.map N.sub).set k s)))) j (.eF (bP R Es (hge k) (us.set k u) ((L.map N.sub).set k s)))) m .no) j (.eF (bP R Es (hge (k+1)) (us.set k u) (((L.map N.sub).set k s).set k s)))) j (.eF (bP R Es (hge (k+1)) (us.set k u) ((L.set k y).map N.sub)))):=by
  have r:=h.rdpStep (u:=u) (s:=s) q z;have l:=h.jO j g;have o:=r.famRe (us':=us.set k u) (ss':=(L.map N.sub).set k s) j (by rw[dZ f];exact g) (by simp[l]) (fun i a=>by
    have:k≠i:=fun e=>a (by subst e;exact bt _);rw[dB this,dB this];exact⟨Z,Z⟩)
  have B:=Mh t;have A:=o.KA j m (k:=k) (u:=u) (s:=s) (bY _ _ _) (by rw[dZ (fun e=>b e.symm),dZ (fun e=>c e.symm)];exact v) b (UE d) (bt k) (hge (k+1)) (fun i=>⟨fun a=>by
    rcases ra (show k<=i from a)with e|e
    · exact .inr e.symm
    · exact .inl e,fun a=>a.elim (fun a=>rB a) (fun e=>by subst e;exact bt _)⟩) (fun a=>absurd a (pN k))
  have e:((L.map N.sub).set k s).set k s=(L.set k y).map N.sub:=by rw[List.set_set,gE,p]
  have n:=A.famRe (us':=us.set k u) (ss':=(L.set k y).map N.sub) j (bY _ _ _) (by simp[l]) (fun i a=>⟨Z,by rw[e]⟩);exact n
theorem SH.famAll(h:SH w0 M K w hp)(j:Nat)(d:hp j=.eF (bP R Es (hge k) us (L.map N.sub)))(p:L.length<=k):SH w0 M K w (bV hp j (.eF (bP R Es hn us (L.map N.sub)))):=by
  have q:=h.jO j d;have f:=h.WV j d;have a:∀i (z:al),us[i]? =aj z->¬hge k i:=fun i z hz o=>by
    have:=Mh hz;have:k<=i:=o;omega
  refine h.Mg (S':=bP R Es hn us<|L.map N.sub) j d ⟨f.1,fun i z t hz n _=>?_,fun i j z v e _ _ hz m=>f.2.2 i j z v e (a i z hz) (a j v m) hz m⟩ (bL.refl _ _) fun b⟨i,z,c,_,g⟩_=>⟨i,z,c,a i z c,g⟩;refine(f.2.1 i z t hz n<|a i z hz).go (bL.refl BE w) (fun _ h=>h.elim) (fun _ h=>h.elim) fun b l _=>?_;rcases l with l|⟨i,z,c,_,g⟩
  · exact .inl<|.inl l
  · exact .inl<|.inr ⟨i,z,c,a i z c,g⟩
def hmv(a:List Int):Nat->Prop:=fun i=>(i:Int)∈a
theorem SH.famMv0(h:SH w0 M K w hp)(j:Nat)(a:hp j=.eF (bP R Es hn us ss)):SH w0 M K w (bV hp j (.eF (bP R Es (hmv []) us ss))):=
 h.famHo j (hmv []) a (fun i=>⟨fun h=>h.elim,fun h=>by cases h⟩)
theorem SH.mvOpen{c:List Int}{a:Int}(h:SH w0 M K w hp)(j m:Nat)(f:hp j=.eF (bP R Es (hmv c) us (L.map N.sub)))(l:hp m=.no)(d:j≠m)(n:0<=a)(k:L[a.toNat]? =aj x)(b:a∉c):
    ∃u,us[a.toNat]? =aj u/\SH w0 M K w (bV (bV hp j (.eF (bP R Es (hmv (c++[a])) us (L.map N.sub)))) m (.own R Es u (N.sub x))):=by
  have o:=h.jO j f;obtain⟨u,g⟩:=us_at o k;have e:((a.toNat:Nat):Int)=a:=Int.toNat_of_nonneg n;refine⟨u,g,h.famOpen j m f l d g (by rw[ej,k];rfl) (fun h=>b (by rw[<-e];exact h)) (hmv (c++[a])) (fun i=>?_)⟩;unfold hmv;rw[List.mem_append,List.mem_singleton];constructor
  · rintro(h|h)
    · exact .inl h
    · exact .inr V
  · rintro(h|h)
    · exact .inl h
    · exact .inr (by rw[h];exact e)
theorem SH.gotC(h:SH w0 M K w hp)(i:Nat)(d:Grow w w')(e:C.Sr)(c:C.holds w' (SH.A M hp) C.own')(hn:∀b,C.own' b->w.heap.size<=b):SH w0 M K w' (bV hp i C):=
  h.learn i d hn (Chunk.re e c (fun b a _=>by
    rcases a with a|a|a
    · exact .inl<|.inl a
    · exact .inl<|.inr a
    · exact .inr a))
theorem new_own(ho:∀b,C.own' b->b<w0.heap.size->BE b):∀b,C.own' b->w0.heap.size<=b:=fun b c=>Nat.le_of_not_lt (fun a=>ho b c a)
theorem nLst_op{R:lq β}:∀(w:ao) (A:BS) cs (x:List β),(wY R).rd w A cs x->∃u,cs=(dn β).enc x u/\dm R w A u ((dn β).sub x):=fun _ _ _ _ h=>h
end
theorem UG:∀(w:ao) (A:BS) cs (x:Frame),iY.rd w A cs x->∃u,cs=aS.enc x u/\dm bG w A u (aS.sub x):=fun _ _ _ _ h=>h
def yG{α:Type}(k:Int)(v:α):List (Int×α)->List (Int×α)
 |[]=>[(k,v)]
 |p::r=>if k=p.1 then(p.1,v)::r else p::yG k v r
theorem Pm{α:Type}{f:α->al}{k:Int}{v:α}:∀(l:List (Int×α)),Nt (l.map fun p=>(p.1,f p.2)) k (f v)=(yG k v l).map fun p=>(p.1,f p.2)
  |[]=>rfl
  |p::r=>by
    show(if k=p.1 then(p.1,f v)::_ else(p.1,f p.2)::Nt _ k (f v))=_;unfold yG;split
    · rfl
    · rw[Pm r];rfl
theorem Jp.keep{w w':ao}{K:BS}{b:Nat}{jC:List (Int×al)}(h:Jp w b jC)(f:bL K w w')(hn:¬K b):Jp w' b jC:=by
 obtain⟨a,c,e,d,g⟩:=h;exact⟨a,c,f.blk e hn,d,g⟩
section
variable{P:ca}{w:ao}{ρ:bo->al}{d:Option Nat}{ty:aT}{pos:String}{af:Array hF}{g:Option (Nat×Bool)}{T:aT}
theorem r_lk1M{α:Type}{f:α->al}{zz:α}{z:al}{x y:bo}{b:Nat}{k:Int}(l:List (Int×α))(e:Jp w b (l.map fun p=>(p.1,f p.2)))(a:MapOf P T z)(h:ρ x=.map (aj b))(c:ρ y=.int .i64 k)(hz:z=f zz):
  (bl ρ ⟨d,.lookup T x y aq,ty,pos,af,g⟩).run P w=.ok (.value (f ((lk k l).getD zz))) w:=by
 have:=XX (d:=d) (ty:=ty) (pos:=pos) (af:=af) (g:=g) a h c e;rw[hz,XD]at this;exact this
end
open Go.RowKit Go.Proofs Go.MapKept
section
variable{P:ca}{ops:Array ei}{Q:fi->Act->ao->Prop}{n:Nat}{env:Nat->al}{w w' w0:ao}{M K:BS}{hp:Nat->Chunk}{rest:List ei}
 {d:Option Nat} {op:Op} {ty:aT} {pos:String} {af:Array hF} {v:al} {g:Option (Nat×Bool)} {T:aT} {ρ:bo->al}
theorem made_drop(zs:List al)(m q:Nat)(b:q<m):((qj zs.toArray (m*zs.length)).toList.drop (q*zs.length)).take zs.length=zs:=by
  apply di;intro i;rw[cg];split
  · rename_i a;rw[cw];have d:q*zs.length+i<m*zs.length:=by
      have:=bd zs.length (show q+1<=m from b);rw[Nat.succ_mul]at this;omega
    have c:(q*zs.length+i)%zs.length=i:=by rw[Nat.mul_comm,Nat.mul_add_mod];exact Nat.mod_eq_of_lt a
    simp[qj,d,c,a]
  · rename_i a;rw[bw V]
theorem KG{α:Type}{R:lq α}{E:aT}{c l:Nat}{k:Int}{zs:List al}{x y:bo}{a:α}(h:SH w0 M K w hp)(i:Nat)(B:kg P T E l c)(hz:wU P E zs)(C:R.sz=l)(z:0<c)(N:ev n env x=.int .i64 k)(hy:ev n env y=.int .i64 k)
    (hk:0<=k/\k*c<=140737488355328) (S:zs.length=l) (ha:∀w A,R.rd w A zs a)
    (kk:∀w' u,SH w0 M K w' (bV hp i (.own R E u (List.replicate k.toNat a)))->Grow w w'->(∀b,ob u b->w.heap.size<=b)->WL P ops Q rest n (gq env d u) w'):
    WL P ops Q (⟨d,.makeSlice T x y,ty,pos,af,aw⟩::rest) n env w:=by
  obtain⟨h0,h1⟩:=hk;obtain⟨m,rfl⟩:=Int.eq_ofNat_of_zero_le h0;obtain⟨j,z',G,I,t,s,a1⟩:=B.info;have g:=hz.info;rw[G]at g;simp only[db,eJ,Prod.mk.injEq]at g;have X:m<=m*c:=Nat.le_mul_of_pos_right _ z;have a0:m*c<=140737488355328:=by
    have:((m*c:Nat):Int)<=140737488355328:=by rw[Int.natCast_mul];exact h1
    omega
  obtain⟨w',O,ho,L⟩:=run_make_full (P:=P) w 0 T E j _ l B.desc G g.1 t .i64 .i64 m (by rw[s,Nat.mul_comm];omega) (by unfold maxLen;omega) (fx _);have p:Grow w w':=(Ba (v:=.slice aw 0 0) L).weaken fun _ h _=>h.elim;have o:(bl (ev n env) ⟨d,.makeSlice T x y,ty,pos,af,aw⟩).run P w=.ok (.value<|.slice (aj ⟨w.heap.size,0,aw⟩) m m) w':=by
    simp only[bl,cv,Sem.run_pure,bp,N,hy,O]
  have f:∀b,ob (.slice (aj ⟨w.heap.size,0,aw⟩) m m) b->w.heap.size<=b:=fun b z=>by
    have:b=w.heap.size:=z;omega
  refine J o<|kk w' _ (h.ui i p ⟨(qj zs.toArray<|m*l).toList,?_,?_⟩ f) p f
  · rw[C];rw[jq];exact ho
  · intro q F;simp only[jq]at F;have r:q<m:=F;have e:((qj zs.toArray<|m*l).toList.drop<|q*R.sz).take R.sz=zs:=by rw[C,<-S];exact made_drop zs m q r
    rw[e];simp only[List.getElem_replicate];exact ha _ _
end
open Go.RowKit Go.Proofs
section
variable{α β:Type}{N:QN α β}{R:lq β}{E Es T:aT}{w0 w w':ao}{M K A:BS}{hp:Nat->Chunk}{u u':al}{us:List al}{L:List α}{s:List β}{x:α}{k:Nat}
theorem KH{a:Type}{l:List a}{z:a}{i:Int}(b:i=(k:Int))(h:l[i.toNat]? =aj z):l[k]? =aj z:=by subst b;simpa using h
theorem at_pd{a:Type}{l:List a}{z:a}{i:Int}(b:i=(k:Int))(h:l[k]? =aj z):l[i.toNat]? =aj z:=by subst b;simpa using h
theorem X9{i:Int}(a:i=(k:Int)):i.toNat=k:=by subst a;simp
theorem SH.Ya(h:SH w0 M K w hp)(j q m:Nat)(o:hp j=.eF (bP R Es (hge k) us (L.map N.sub)))(n:hp q=.eF (Mj R k us (L.map N.sub)))(l:hp m=.own R Es u s)(f:j≠q)(b:j≠m)(c:q≠m)(d:L[k]? =aj x)(a:us[k]? =aj u')(g:N.sub x=s):
  SH w0 M K w (bV (bV (bV (bV (bV hp q (.eF (Mj R (k+1) (us.set k u) (L.map N.sub)))) j (.eF (bP R Es (hge k) (us.set k u) (L.map N.sub)))) m .no) j (.eF (bP R Es (hge (k+1)) (us.set k u) (L.map N.sub)))) j (.eF (bP R Es (hge (k+1)) (us.set k u) (L.map N.sub)))):=by
 have i:=h.pendPut (y:=x) j q m o n l f b c d a g;have e:(L.map N.sub).set k s=L.map N.sub:=by rw[<-g,<-gE,BM d]
 rw[e,e,BM d]at i;exact i
end
theorem Cy{α:Type}{b:Nat}{a r:List α}(h:clone b a=aj r):a=r:=by
 unfold clone at h;obtain⟨_,h⟩:=bD h;exact cQ h
theorem Yb{α β:Type}{N:QN α β}{w:ao}{B A:BS}{v:al}{L:List α}{us:List al}(h:ed N.raw w B A v (L.zip us))(a:us.length=L.length):L.length<=9223372036854775807:=by
 have:=h.bJ;rwa[gH a]at this
theorem r_mul{P:ca}{w:ao}{ρ:bo->al}{d:Option Nat}{ty:aT}{pos:String}{af:Array hF}{g:Option (Nat×Bool)}{x y:bo}{T T2:aT}{p q:Int}(b:ρ x=.int .i64 p)(a:ρ y=.int .i64 q)(h: -9223372036854775808<=p*q/\p*q<=9223372036854775807):
  (bl ρ ⟨d,.binOp .mul T x y T2,ty,pos,af,g⟩).run P w=.ok (.value (.int .i64 (p*q))) w:=by
 simp[bl,b,a,eqGuard,binOp,Op.intArith,wrap_in h.1 h.2]
open Go.RowKit Go.Proofs
theorem Pn{cs vs:List al}{o:Nat}(h:o+vs.length<=cs.length)(j:Nat):(LZ cs o vs)[j]? =if j<o then cs[j]? else if j<o+vs.length then vs[j-o]? else cs[j]? :=by
  unfold LZ;have a:(cs.take o).length=o:=by rw[cd];omega
  by_cases b:j<o
  · rw[if_pos b,cf,kh V,cg,if_pos b]
  · rw[if_neg b];by_cases c:j<o+vs.length
    · rw[if_pos c,cf,gA V,a,kh V]
    · rw[if_neg c,gA (by rw[bc,a];omega),bc,a,cw];congr 1;omega
theorem XG{cs vs:List al}{o:Nat}(h:o+vs.length<=cs.length):(LZ cs o vs).length=cs.length:=by
 unfold LZ;simp only[bc,cd,cL];omega
theorem spl_take{cs vs:List al}{o n:Nat}(h:o+vs.length<=n)(hn:n<=cs.length):(LZ cs o vs).take n=LZ (cs.take n) o vs:=by
  apply di;intro j;have b:(cs.take n).length=n:=by rw[cd];omega
  rw[cg,Pn V,Pn V,cg];by_cases a:j<n
  · rw[if_pos a,if_pos a]
  · rw[if_neg a,if_neg V,if_neg V,if_neg a]
theorem spl_self{cs vs:List al}{o:Nat}(h:o+vs.length<=cs.length):((LZ cs o vs).drop o).take vs.length=vs:=by
  apply di;intro j;rw[cg,cw,Pn h];by_cases a:j<vs.length
  · rw[if_pos a,if_neg V,if_pos V];congr 1;omega
  · rw[if_neg a,bw V]
theorem spl_other{cs vs:List al}{o p s:Nat}(h:o+vs.length<=cs.length)(hp:p+s<=o\/o+vs.length<=p):((LZ cs o vs).drop p).take s=(cs.drop p).take s:=by
  apply di;intro j;rw[cg,cw,Pn h,cg,cw];by_cases a:j<s
  · rw[if_pos a,if_pos a];by_cases b:p+j<o
    · rw[if_pos b]
    · rw[if_neg b,if_neg V]
  · rw[if_neg a,if_neg a]
section
variable{P:ca}{ops:Array ei}{Q:fi->Act->ao->Prop}{n:Nat}{env:Nat->al}{w w' w0:ao}{M K:BS}{hp:Nat->Chunk}{rest:List ei}
 {d:Option Nat} {op:Op} {ty:aT} {pos:String} {af:Array hF} {v:al} {g:Option (Nat×Bool)} {T:aT} {ρ:bo->al} {x y:bo}
theorem En{α:Type}{R:lq α}{E:aT}{N:Nat}{l:List α}{k:Int}{a a':α}{b:Nat}{zs vs:List al}{u:al}(h:SH w0 M K w hp)(i:Nat)(t:hp i=.own R E u l)(S:ob u b)(hs:R.sz=N)(hk:l[k.toNat]? =aj a)(hT:wU P T zs)(c:ev n env x=.pointer (aj ⟨b,k.toNat*N,aw⟩))
    (hy:ev n env y=.agg vs.toArray) (hl:vs.length=zs.length) (B:zs.length=N) (hset:R.rd w (SH.A M hp) vs a')
    (kk:∀w',SH w0 M K w' (bV hp i (.own R E u (l.set k.toNat a')))->bL (ob u) w w'->WL P ops Q rest n (gq env d fR) w'):
    WL P ops Q (⟨d,.store T x y,ty,pos,af,aw⟩::rest) n env w:=by
  subst hs;have F:k.toNat<l.length:=Mh hk;generalize k.toNat=k at*;have f:∀b,ob u b->SH.A M hp b:=fun b S=>.inr ⟨i,by rw[t];exact S⟩;obtain⟨xs,G,q3⟩:=h.bI i t;rcases G.2 with⟨rfl,hn⟩|⟨g',cap,cur,rfl,e1,e2,e3,e4,e5,e6⟩
  · omega
  have O:b=g':=S;subst O;have I:(k+1)*R.sz<=l.length*R.sz:=bd _ F;have a1:l.length*R.sz<=cap*R.sz:=bd _ e3;rw[cj]at I;have L:vs.length=R.sz:=hl.trans B;have z:cur.toList.length=cap*R.sz:=by simpa using e5
  have a0:xs.length=l.length*R.sz:=G.1;have q:k*R.sz+vs.length<=cur.toList.length:=by omega
  have m:k*R.sz+vs.length<=xs.length:=by omega
  have o:=bL.wV w b<|.cells (LZ cur.toList (k*R.sz) vs).toArray E (0,0);have C:=Sj (P:=P) (w:=w) (ρ:=ev n env) (d:=d) (ty:=ty) (pos:=pos) (af:=af) (g:=aw) (cs:=cur.toList) (E:=E) hT c (by simpa using e2) hy hl q<|R.one hset;refine A9 C (kk _ (h.step i o (fun x c _=>by rw[t];exact c) (fun x c _=>by rw[t];exact c) ⟨LZ xs (k*R.sz) vs,⟨?_,.inr ⟨b,cap,(LZ cur.toList (k*R.sz) vs).toArray,?_,e1,?_,?_,e4,?_,?_⟩⟩,?_⟩) (o.weaken (fun x c _=>c)))
  · rw[XG m,cp];exact G.1
  · rw[cp]
  · rw[vM (iN e2)]
  · rw[cp];exact e3
  · rw[rb,XG q];exact z
  · rw[cp];show(LZ cur.toList (k*R.sz) vs).take (l.length*R.sz)=LZ xs (k*R.sz) vs;rw[spl_take V V,e6]
  · intro p v;have X:p<l.length:=by rwa[cp]at v
    have r:=fun cs a(h:R.rd w (SH.A M hp) cs a)=>R.go (A':=fun x=>(M x\/(SH.av hp i (.own R E (.slice (aj ⟨b,0,aw⟩) l.length cap) (l.set k a'))) x)\/ob (.slice (aj ⟨b,0,aw⟩) l.length cap) x) h o (fun x c _=>f x c) (fun x c _=>by
      rcases c with(c|c|c)|c
      · exact .inl c
      · exact .inr<|lu c
      · exact f x c
      · exact f x c)
    have hq:=fun j(hj:j<l.length)=>R.go (A':=SH.A M hp) (q3 j hj) (bL.refl BE w) (fun _ h=>h.elim) fun x c _=>.inl c;by_cases s:p=k
    · subst s;rw[lR];have e:=spl_self m;rw[L]at e;rw[e];exact r _ _ hset
    · rw[mz (Ne.symm s),spl_other m]
      · exact r _ _<|hq p X
      · rcases cD k p with h5|h5
        · right;have:(k+1)*R.sz<=p*R.sz:=bd _ h5;rw[cj]at this;omega
        · left;have:(p+1)*R.sz<=k*R.sz:=bd _ V;rw[cj]at this;omega
end
section
variable{α β:Type}{N:QN α β}{R:lq β}{E Es T:aT}{w0 w w':ao}{M K A:BS}{hp:Nat->Chunk}{us:List al}{L:List α}{x:α}{k:Nat}
theorem SH.yB(h:SH w0 M K w hp)(j m:Nat)(s:List β)(c:hp j=.eF (bP R Es hn us (L.map N.sub)))(b:hp m=.no)(a:j≠m)(e:L[k]? =aj x)(d:N.sub x=s):
 ∃u,us[k]? =aj u/\SH w0 M K w (bV (bV hp j (.eF (bP R Es (hat k) us (L.map N.sub)))) m (.own R Es u s)):=by subst d;exact h.dnOpen j m c b a e
theorem SH.mvOpenL{c:List Int}{a:Int}(h:SH w0 M K w hp)(j m:Nat)(s:List β)(f:hp j=.eF (bP R Es (hmv c) us (L.map N.sub)))(e:hp m=.no)(d:j≠m)(g:0<=a)(k:L[a.toNat]? =aj x)(b:a∉c)(i:N.sub x=s):
 ∃u,us[a.toNat]? =aj u/\SH w0 M K w (bV (bV hp j (.eF (bP R Es (hmv (c++[a])) us (L.map N.sub)))) m (.own R Es u s)):=by subst i;exact h.mvOpen j m f e d g k b
theorem SH.rdpAtL(h:SH w0 M K w hp)(q:Nat)(s:List β)(c:hp q=.eF (Mj R k us (L.map N.sub)))(a:us.length=L.length)(d:L[k]? =aj x)(b:N.sub x=s):∃u,us[k]? =aj u/\dm R w (SH.A M hp) u s:=by subst b;exact h.rdpAt q c a d
end
open Go.RowKit Go.Proofs
def Chunk.flat:Chunk->Prop
 | .no=>True
 | .own R _ _ _=>∀w A A' cs x,R.rd w A cs x->R.rd w A' cs x
 | .two a b=>a.flat/\b.flat
 | .eF S=>∀w A A',S.P w A->S.P w A'
 |_=>False
theorem bZ.flat{α:Type}{R:lq α}{E:aT}{w:ao}{A A':BS}{v:al}{l:List α}(a:∀w A A' cs x,R.rd w A cs x->R.rd w A' cs x)(h:bZ R E w A v l):bZ R E w A' v l:=by
 obtain⟨xs,b,c⟩:=h;exact⟨xs,b,fun i d=>a _ _ _ _ _<|c i d⟩
theorem Chunk.flatten{c:Chunk}{w:ao}{M O f e:BS}(d:c.flat)(h:c.holds w M O):c.holds w f e:=by
 induction c with
 |no=>trivial
 |own R E v l=>exact bZ.flat d h
 |two a b ha hb=>exact⟨ha d.1 h.1,hb d.2 h.2.1,h.2.2⟩
 |eF S=>exact d _ _ _ h
 |_=>exact d.elim
theorem Po{β:Type}{R:lq β}{E:aT}{ho:Nat->Prop}{us:List al}{ss:List (List β)}(f:∀w A A' cs x,R.rd w A cs x->R.rd w A' cs x):∀w A A',(bP R E ho us ss).P w A->(bP R E ho us ss).P w A':=by
 rintro w A A'⟨b,a,d⟩;exact⟨b,fun i u s g c e=>bZ.flat f<|a i u s g c e,d⟩
theorem ed.toBE{α:Type}{R:lq α}{w:ao}{B A:BS}{v:al}{l:List α}(h:ed R w B A v l):ed R w BE BE v l:=
 ed.go h (bL.refl BE w) (fun _ h=>h.elim) (fun _ h=>h.elim) (fun _ h=>h.elim) (fun _ h=>h.elim)
section
variable{α β:Type}{N:QN α β}{R:lq β}{E Es T:aT}{w0 w w':ao}{M K A:BS}{hp:Nat->Chunk}{v u u':al}{us us':List al}{L L':List α}
theorem SH.UH{R':lq α}(h:SH w0 M K w hp)(i j:Nat)(e:hp i=.own N.raw E v (L.zip us))(d:hp j=.eF (bP R Es hn us (L.map N.sub)))(a:i≠j)(b:R'.sz=N.sz)(c:∀w A x u,dm R w A u (N.sub x)->R'.rd w A (N.enc x u) x):ed R' w BE BE v L:=
 ed.toBE ((h.KC i j e d a b c).bB i (bY _ _ _))
theorem SH.gotCF{C:Chunk}{O:BS}(h:SH w0 M K w hp)(i:Nat)(c:Grow w w')(e:C.Sr)(a:C.flat)(d:C.holds w' BE O)(hn:∀b,C.own' b->w.heap.size<=b):SH w0 M K w' (bV hp i C):=
 h.gotC i c e (Chunk.flatten a d) hn
end
section
variable{P:ca}{Q:fi->Act->ao->Prop}{n:Nat}{env:Nat->al}{w w' w0:ao}{M K:BS}{hp:Nat->Chunk}
theorem SG{k:Func}{R:Ending->ao->Prop}{t u g a:Tmp}{T:aT}{v2 v3 v4:al}{zs vs:List al}{b:Nat}(q:k.results= #[.cell a T,.tmp t,.tmp u,.tmp g])(r:ev n env (.tmp a)=.pointer (aj ⟨b,0,aw⟩))(p:ev n env (.tmp t)=v2)(o:ev n env (.tmp u)=v3)(l:ev n env (.tmp g)=v4)
  (m:SH w0 M K w hp) (i:Nat) (x:hp i=.blk b vs) (s:wU P T zs) (v:vs.length=zs.length) (h:R (.returned (.tuple #[.agg vs.toArray,v2,v3,v4])) w):jj P k R .ret (act n env) w:=by
 refine⟨Z,_,?_,h⟩;have e:=congrFun (gP n env)<|.tmp t;have c:=congrFun (gP n env)<|.tmp u;have d:=congrFun (gP n env)<|.tmp g;have f:=congrFun (gP n env)<|.tmp a;rw[p]at e;rw[o]at c;rw[l]at d;rw[r]at f;simp only[Act.eval]at e c f d;rw[cY]at e c f d;have j:=Cw (P:=P) m x s v Z;unfold results;rw[q];simp[e,c,f,d,asAddr,j]
end
section
variable{α β:Type}{R:lq α}{E:aT}{w0 w:ao}{M K:BS}{hp:Nat->Chunk}{v:al}{l:List α}{C:Chunk}
theorem SH.ownSrB(h:SH w0 M K w hp)(i j:Nat)(a:i≠j)(d:hp j=.own R E v l)(f:hp i=C):dm R w (fun b=>BE b\/C.own' b) v l:=
 (h.ownSr i j a d f).sub (fun b c _=>c.elim (fun e=>e.elim) id) (fun b c _=>c.elim (fun e=>e.elim) .inr)
theorem ap_BE{C:Chunk}:∀b,C.own' b->¬BE b:=fun _ _ h=>h
end
structure QO where
 said:Bool
 n:Int
 paused:Bool
structure nM where
 l:List Int
 bad:Bool
open Go.RowKit Go.Proofs
theorem spl_mid{xs vs:List al}{p s off:Nat}(h:off+vs.length<=s)(hp:p+s<=xs.length):((LZ xs (p+off) vs).drop p).take s=LZ ((xs.drop p).take s) off vs:=by
  apply di;intro j;have d:((xs.drop p).take s).length=s:=by rw[cd,cL];omega
  rw[Pn V,cg];by_cases a:j<s
  · rw[if_pos a,cw,Pn V,cg,if_pos a,cw];by_cases c:j<off
    · rw[if_pos c,if_pos V]
    · rw[if_neg c,if_neg V];by_cases b:j<off+vs.length
      · rw[if_pos b,if_pos V,show p+j-(p+off)=j-off by omega]
      · rw[if_neg b,if_neg V]
  · rw[if_neg a,if_neg V,if_neg V,cg,if_neg a]
section
variable{P:ca}{ops:Array ei}{Q:fi->Act->ao->Prop}{n:Nat}{env:Nat->al}{w w' w0:ao}{M K:BS}{hp:Nat->Chunk}{rest:List ei}
 {d:Option Nat} {op:Op} {ty:aT} {pos:String} {af:Array hF} {v:al} {g:Option (Nat×Bool)} {T:aT} {ρ:bo->al} {x y:bo}
theorem w_stOP{α:Type}{R:lq α}{E:aT}{O:Nat}{l:List α}{k:Int}{a a':α}{b off:Nat}{zs vs:List al}{u:al}(h:SH w0 M K w hp)(i:Nat)(z:hp i=.own R E u l)(X:ob u b)(hs:R.sz=O)(N:l[k.toNat]? =aj a)(hT:wU P T zs)(c:ev n env x=.pointer (aj ⟨b,k.toNat*O+off,aw⟩))
    (hy:ev n env y=.agg vs.toArray) (hl:vs.length=zs.length) (p:la (off+vs.length) O=ba) (s:∀u∈vs,u.oneCell'=ba) (hset:∀cs,R.rd w (SH.A M hp) cs a->R.rd w (SH.A M hp) (LZ cs off vs) a')
    (kk:∀w',SH w0 M K w' (bV hp i (.own R E u (l.set k.toNat a')))->bL (ob u) w w'->WL P ops Q rest n (gq env d fR) w'):
    WL P ops Q (⟨d,.store T x y,ty,pos,af,aw⟩::rest) n env w:=by
  subst hs;rw[oj]at p;have f:k.toNat<l.length:=Mh N;have F:l[k.toNat]=a:=by rw[bh f]at N;exact cQ N
  generalize k.toNat=k at*;have e:∀b,ob u b->SH.A M hp b:=fun b X=>.inr ⟨i,by rw[z];exact X⟩;obtain⟨xs,I,q3⟩:=h.bI i z;rcases I.2 with⟨rfl,hn⟩|⟨g',cap,cur,rfl,e1,e2,e3,e4,e5,e6⟩
  · omega
  have S:b=g':=X;subst S;have L:(k+1)*R.sz<=l.length*R.sz:=bd _ f;have a2:l.length*R.sz<=cap*R.sz:=bd _ e3;rw[cj]at L;have C:cur.toList.length=cap*R.sz:=by simpa using e5
  have a1:xs.length=l.length*R.sz:=I.1;have q:k*R.sz+off+vs.length<=cur.toList.length:=by omega
  have v:k*R.sz+off+vs.length<=xs.length:=by omega
  have o:=bL.wV w b<|.cells (LZ cur.toList (k*R.sz+off) vs).toArray E (0,0);have G:=Sj (P:=P) (w:=w) (ρ:=ev n env) (d:=d) (ty:=ty) (pos:=pos) (af:=af) (g:=aw) (cs:=cur.toList) (E:=E) hT c (by simpa using e2) hy hl q s;refine A9 G (kk _ (h.step i o (fun x c _=>by rw[z];exact c) (fun x c _=>by rw[z];exact c) ⟨LZ xs (k*R.sz+off) vs,⟨?_,.inr ⟨b,cap,(LZ cur.toList (k*R.sz+off) vs).toArray,?_,e1,?_,?_,e4,?_,?_⟩⟩,?_⟩) (o.weaken (fun x c _=>c)))
  · rw[XG v,cp];exact I.1
  · rw[cp]
  · rw[vM (iN e2)]
  · rw[cp];exact e3
  · rw[rb,XG q];exact C
  · rw[cp];show(LZ cur.toList (k*R.sz+off) vs).take (l.length*R.sz)=LZ xs (k*R.sz+off) vs;rw[spl_take V V,e6]
  · intro m B;have a0:m<l.length:=by rwa[cp]at B
    have r:=fun cs a(h:R.rd w (SH.A M hp) cs a)=>R.go (A':=fun x=>(M x\/(SH.av hp i (.own R E (.slice (aj ⟨b,0,aw⟩) l.length cap) (l.set k a'))) x)\/ob (.slice (aj ⟨b,0,aw⟩) l.length cap) x) h o (fun x c _=>e x c) (fun x c _=>by
      rcases c with(c|c|c)|c
      · exact .inl c
      · exact .inr<|lu c
      · exact e x c
      · exact e x c)
    have hq:=fun j(hj:j<l.length)=>R.go (A':=SH.A M hp) (q3 j hj) (bL.refl BE w) (fun _ h=>h.elim) fun x c _=>.inl c;by_cases t:m=k
    · subst t;rw[lR];rw[spl_mid p V];exact r _ _<|hset _<|F▸hq m f
    · rw[mz (Ne.symm t),spl_other v]
      · exact r _ _<|hq m a0
      · rcases cD k m with h5|h5
        · right;have:(k+1)*R.sz<=m*R.sz:=bd _ h5;rw[cj]at this;omega
        · left;have:(m+1)*R.sz<=k*R.sz:=bd _ V;rw[cj]at this;omega
end
open Go.RowKit Go.Proofs
def nIns:QN Ins Int where
 sz:=5
 enc x u:=[.int .i64 x.op,.int .i64 x.a,.int .i64 x.b,.int .i64 x.c,u]
 sub x:=x.args
 put x s:={x with args:=s}
 len _ _:=rfl
 one:=by intro x u h c hc;simp only[bn,df,or_false]at hc;rcases hc with rfl|rfl|rfl|rfl|rfl<;>first|rfl|exact h
 pos:=by decide
 Sz _ _ _:=rfl
 SA _ _:=rfl
theorem nIns_br:∀w A (x:Ins) u,dm cZ w A u (nIns.sub x)->kZ.rd w A (nIns.enc x u) x:=fun _ _ _ u h=>⟨u,rfl,h⟩
theorem nIns_op:∀(w:ao) (A:BS) cs (x:Ins),kZ.rd w A cs x->∃u,cs=nIns.enc x u/\dm cZ w A u (nIns.sub x):=fun _ _ _ _ h=>h
theorem nProc_op:∀(w:ao) (A:BS) cs (x:bu),dK.rd w A cs x->∃u,cs=KE.enc x u/\dm kZ w A u (KE.sub x):=fun _ _ _ _ h=>h
section
variable{α β:Type}{N:QN α β}{R:lq β}{E Es T:aT}{w0 w w':ao}{M K A:BS}{hp:Nat->Chunk}{v u u':al}{us us':List al}{L L':List α}{ss ss':List (List β)}{s:List β}{x y:α}{k:Nat}
theorem SH.pendSet(h:SH w0 M K w hp)(j q:Nat)(c:hp j=.eF (bP R Es (hge k) us (L.map N.sub)))(g:hp q=.eF (Mj R k us (L.map N.sub)))(a:j≠q)(f:L[k]? =aj x):
  SH w0 M K w (bV (bV hp q (.eF (Mj R (k+1) (us.set k u) (L.map N.sub)))) j (.eF (bP R Es (hge k) (us.set k u) (L.map N.sub)))):=by
 have d:=h.rdpStep (u:=u) (s:=N.sub x) q g;have l:=h.jO j c;have b:=d.famRe (us':=us.set k u) (ss':=(L.map N.sub).set k (N.sub x)) j (by rw[dZ a];exact c) (by simp[l]) (fun i m=>by
  have:k≠i:=fun e=>m (by subst e;exact bt _);rw[dB this,dB this];exact⟨Z,Z⟩)
 have e:(L.map N.sub).set k (N.sub x)=L.map N.sub:=by rw[<-gE,BM f]
 rw[e]at b;exact b
theorem SH.pendDel(h:SH w0 M K w hp)(j m:Nat)(f:hp j=.eF (bP R Es (hge k) us (L.map N.sub)))(d:hp m=.own R Es u s)(b:j≠m)(n:L[k]? =aj x)(l:us[k]? =aj u)(g:N.sub x=s):
    SH w0 M K w (bV (bV hp m .no) j (.eF (bP R Es (hge (k+1)) us (L.map N.sub)))):=by
  have c:=h.KA j m (k:=k) (u:=u) (s:=s) f d b l (bt k) (hge (k+1)) (fun i=>⟨fun a=>by
    rcases ra (show k<=i from a)with e|e
    · exact .inr e.symm
    · exact .inl e,fun a=>a.elim (fun a=>rB a) (fun e=>by subst e;exact bt _)⟩) (fun a=>absurd a (pN k))
  have e:(L.map N.sub).set k s=L.map N.sub:=by rw[<-g,<-gE,BM n]
  rw[e]at c;exact c
theorem SH.dnOwn{R':lq α}(h:SH w0 M K w hp)(i j:Nat)(p:hp i=.own N.raw E v (L.zip us))(f:hp j=.eF (bP R Es hn us (L.map N.sub)))(o:i≠j)(l:R'.sz=N.sz)(Q:∀w A x u,dm R w A u (N.sub x)->R'.rd w A (N.enc x u) x):SH w0 M K w (bV (bV hp j .no) i (.own R' E v L)):=by
  have C:=h.jO j f;have m:=h.pair i j o;have g:=m.apart i;have y:=m.apM i;have k:=m.ok i;rw[bY]at g y;rw[bY,p,f]at k;have s:=m.step (c:=.own R' E v L) i (bL.refl BE w) (fun _ h=>h.elim) (fun b a _=>by rw[bY,p];exact .inl a) ?_
  · rw[Em]at s;exact s
  · have hno:∀b,(hp j).own' b->¬((M b\/SH.av (bV (bV hp j .no) i<|.two (hp i)<|hp j) i (.own R' E v L) b)\/ob v b):=by
      intro b a d;rcases d with(d|⟨q,n,d⟩|d)|d
      · exact y b (.inr a) d
      · exact g q (fun e=>n e.symm) b (.inr a) d
      · exact k.2.2 b d (by rw[<-f];exact a)
      · exact k.2.2 b d (by rw[<-f];exact a)
    have I:∀b,((M b\/SH.av (bV (bV hp j .no) i<|.two (hp i)<|hp j) i (.own R' E v L) b)\/ob v b)->M b\/iO (bV (bV hp j .no) i<|.two (.own N.raw E v<|L.zip us)<|.eF<|bP R Es hn us<|L.map N.sub) b:=by
      rw[p,f];have t:∀b,ob v b->iO (bV (bV hp j .no) i (.two (.own N.raw E v (L.zip us)) (.eF (bP R Es hn us (L.map N.sub))))) b:=fun b a=>⟨i,by rw[bY];exact .inl a⟩;rintro b((a|a|a)|a)
      · exact .inl a
      · exact .inr<|lu a
      · exact .inr<|t b a
      · exact .inr<|t b a
    obtain⟨xs,B,G⟩:=k.1;refine⟨xs,?_,fun q n=>?_⟩
    · rw[gH C]at B;show w.ownsRow 0 E R'.sz v L.length xs;rw[l];exact B
    · have r:q<(L.zip us).length:=by rw[gH C];exact n
      have z:=G q r;have F:(L.zip us)[q]=(L[q],us[q]'V):=by simp
      rw[F]at z;obtain⟨P,_⟩:=z;have O:((xs.drop<|q*N.sz).take N.sz)=N.enc L[q] (us[q]'V):=P;show R'.rd w _ ((xs.drop<|q*R'.sz).take R'.sz) L[q];rw[l,O];exact Q _ _ _ _ (bZ.rd (k.2.1.2.1 q _ _ (bh V) (by rw[ej,bh n];rfl) (fun h=>h)) (fun b a=>hno b (by rw[f];exact⟨q,_,bh V,fun h=>h,a⟩)) (fun b a _=>.inl (.inl (I b a))))
end
structure fq where
 cos:List Co
 safe:List UInt8
 wait:List UInt8
 up:Bool
def gu:lq fq where
 sz:=4
 rd w A cs x:=∃vcos,∃W9,∃Xa,cs=[vcos,W9,Xa,.bool x.up]/\dm G8 w A vcos x.cos/\dm iK w A W9 x.safe/\dm iK w A Xa x.wait
 len:=by rintro w A cs x ⟨vcos,W9,Xa,rfl,h0,h1,h2⟩;rfl
 one:=by rintro w A cs x ⟨vcos,W9,Xa,rfl,h0,h1,h2⟩ u hu;simp only[bn,df,or_false]at hu;rcases hu with rfl|rfl|rfl|rfl<;>first|rfl|exact h0.one|exact h1.one|exact h2.one
 pos:=by decide
 go:=by rintro w A cs x w2 A2 K ⟨vcos,W9,Xa,rfl,h0,h1,h2⟩ hk hK hA;exact⟨_,_,_,Z,h0.go hk hK hA,h1.go hk hK hA,h2.go hk hK hA⟩
theorem il{w:ao}{A:BS}{cs:List al}{x:fq}(h:gu.rd w A cs x):∃a,∃c,∃b,cs=[a,c,b,.bool x.up]/\dm G8 w A a x.cos/\dm iK w A c x.safe/\dm iK w A b x.wait:=h
structure aZ where
 prog:List bu
 places:List fq
 bR:List fJ
structure ky where
 kind:Int
 place:Int
 co:Int
 n:Int
def rHap:lq ky where
 sz:=4
 rd w A cs x:=cs=[.int .i64 x.kind,.int .i64 x.place,.int .i64 x.co,.int .i64 x.n]
 len:=by rintro w A cs x rfl;rfl
 one:=by rintro w A cs x rfl u hu;simp only[bn,df,or_false]at hu;rcases hu with rfl|rfl|rfl|rfl<;>first|rfl
 pos:=by decide
 go:=fun h _ _ _=>h
open Go Go.RowKit Go.Proofs
section
variable{P:ca}{ops:Array ei}{Q:fi->Act->ao->Prop}{rest:List ei}{n:Nat}{env:Nat->al}{w w0:ao}{M K:BS}{hp:Nat->Chunk}{d:Option Nat}{ty:aT}{pos:String}{af:Array hF}{x y:bo}{T:aT}{v:al}
theorem mI{i:Int}(a:ev n env x=.int .i64 i)(h:WL P ops Q rest n (gq env d (.int .i64 i)) w):WL P ops Q (⟨d,.move x,ty,pos,af,aw⟩::rest) n env w:=J (bK a) h
theorem mB{i:Bool}(a:ev n env x=.bool i)(h:WL P ops Q rest n (gq env d (.bool i)) w):WL P ops Q (⟨d,.move x,ty,pos,af,aw⟩::rest) n env w:=J (bK a) h
theorem mP{i:Option Addr}(a:ev n env x=.pointer i)(h:WL P ops Q rest n (gq env d (.pointer i)) w):WL P ops Q (⟨d,.move x,ty,pos,af,aw⟩::rest) n env w:=J (bK a) h
theorem mV(v:al)(a:ev n env x=v)(h:WL P ops Q rest n (gq env d v) w):WL P ops Q (⟨d,.move x,ty,pos,af,aw⟩::rest) n env w:=J (bK a) h
theorem aI{i:Int}(a:ev n env x=.int .i64 i)(h:WL P ops Q rest n (gq env d (.int .i64 i)) w):WL P ops Q (⟨d,.assign x,ty,pos,af,aw⟩::rest) n env w:=J (eU a) h
theorem aB{i:Bool}(a:ev n env x=.bool i)(h:WL P ops Q rest n (gq env d (.bool i)) w):WL P ops Q (⟨d,.assign x,ty,pos,af,aw⟩::rest) n env w:=J (eU a) h
theorem aP{i:Option Addr}(a:ev n env x=.pointer i)(h:WL P ops Q rest n (gq env d (.pointer i)) w):WL P ops Q (⟨d,.assign x,ty,pos,af,aw⟩::rest) n env w:=J (eU a) h
theorem aV(v:al)(a:ev n env x=v)(h:WL P ops Q rest n (gq env d v) w):WL P ops Q (⟨d,.assign x,ty,pos,af,aw⟩::rest) n env w:=J (eU a) h
theorem lB{z:al}{b o:Nat}{cs:List al}(h:SH w0 M K w hp)(i:Nat)(a:One P T z)(e:(hp i,ev n env x,cs[o]?)=(Chunk.blk b cs,ga (aj ⟨b,o,aw⟩),aj v))(k:WL P ops Q rest n (gq env d v) w):WL P ops Q (⟨d,.load T x,ty,pos,af,aw⟩::rest) n env w:=by
 injection e with e1 e2;injection e2 with e2 e3;exact J (cu h i e1 a e2 e3) k
theorem oK{zs vs:List al}{b o:Nat}{cs:List al}(h:SH w0 M K w hp)(i:Nat)(a:wU P T zs)(e:(hp i,ev n env x,(cs.drop o).take zs.length,vs.length)=(Chunk.blk b cs,ga (aj ⟨b,o,aw⟩),vs,zs.length))(k:WL P ops Q rest n (gq env d (.agg vs.toArray)) w):WL P ops Q (⟨d,.load T x,ty,pos,af,aw⟩::rest) n env w:=by
 injection e with e1 e2;injection e2 with e2 e3;injection e3 with e3 e4;exact J (xe h i e1 a e2 e3 e4) k
theorem dJ{b o k off:Nat}(a:dQ P T k off)(c:ev n env x=.pointer (aj ⟨b,o,aw⟩))(h:WL P ops Q rest n (gq env d (.pointer (aj ⟨b,o+off,aw⟩))) w):WL P ops Q (⟨d,.fieldAddr T x k,ty,pos,af,aw⟩::rest) n env w:=J (aM a c) h
theorem w_stA{zs:List al}{b:Nat}{cs:List al}(h:SH w0 M K w hp)(i:Nat)(vs:List al)(a:wU P T zs)(e:(hp i,ev n env x,ev n env y,vs.length,cs.length)=(Chunk.blk b cs,ga (aj ⟨b,0,aw⟩),rh vs.toArray,zs.length,vs.length))(c:∀v∈vs,v.oneCell'=ba)
  (k:∀w',SH w0 M K w' (bV hp i (.blk b vs))->WL P ops Q rest n (gq env d fR) w'):WL P ops Q (⟨d,.store T x y,ty,pos,af,aw⟩::rest) n env w:=by
 injection e with e1 e2;injection e2 with e2 e3;injection e3 with e3 e4;injection e4 with e4 e5;refine w_stN h i vs e1 a e2 e3 e4 ?_ (by rw[oj];omega) c k;unfold LZ;simp[e5]
theorem bQ{f:fW}{first captured:Array al}{xs:Array bo}{c:Array aT}{args:List al}(h:SH w0 M K w hp)(j:Sk P f)(i:ev n env x=.func (.func f) first captured)
  (a:first.toList++xs.toList.map (ev n env)++captured.toList=args) (b:bC P f args.toArray w (fun e w'=>Grow w w'/\e=.returned v)) (k:∀w',SH w0 M K w' hp->WL P ops Q rest n (gq env d v) w'):
  WL P ops Q (⟨d,.call {callee:=.value x,args:=xs,argTypes:=c},ty,pos,af,aw⟩::rest) n env w:=
 bW j i a b (by rintro _ w' ⟨g,rfl⟩;exact⟨_,Z,k w' (h.grow g)⟩)
theorem XH{α:Type}{R:lq α}{l:List α}{f:fW}{first captured:Array al}{xs:Array bo}{b:Array aT}{args:List al}{F:al->al}(h:SH w0 M K w hp)(i:Nat)(j:Sk P f)(c:ev n env x=.func (.func f) first captured)
  (m:first.toList++xs.toList.map (ev n env)++captured.toList=args) (a:bC P f args.toArray w (fun e w'=>Grow w w'/\∃u,e=.returned (F u)/\dm R w' (SH.A M hp) u l)) (k:∀w' u,SH w0 M K w' (bV hp i (.rd R u l))->WL P ops Q rest n (gq env d (F u)) w'):
  WL P ops Q (⟨d,.call {callee:=.value x,args:=xs,argTypes:=b},ty,pos,af,aw⟩::rest) n env w:=
 bW j c m a (by rintro _ w' ⟨g,u,rfl,g2⟩;exact⟨_,Z,k w' u (h.yI i g g2)⟩)
theorem iW{α:Type}{R:lq α}{E:aT}{l:List α}{f:fW}{first captured:Array al}{xs:Array bo}{c:Array aT}{args:List al}{F:al->al}(h:SH w0 M K w hp)(i:Nat)(m:Sk P f)(j:ev n env x=.func (.func f) first captured)
  (p:first.toList++xs.toList.map (ev n env)++captured.toList=args) (a:bC P f args.toArray w (fun e w'=>Grow w w'/\∃u,e=.returned (F u)/\bZ R E w' (SH.A M hp) u l/\(∀b,ob u b->w.heap.size<=b))) (k:∀w' u,SH w0 M K w' (bV hp i (.own R E u l))->WL P ops Q rest n (gq env d (F u)) w'):
  WL P ops Q (⟨d,.call {callee:=.value x,args:=xs,argTypes:=c},ty,pos,af,aw⟩::rest) n env w:=
 bW m j p a (by rintro _ w' ⟨g,u,rfl,g2,o⟩;exact⟨_,Z,k w' u (h.ui i g g2 o)⟩)
end
section
variable{w w' w0:ao}{M K:BS}{hp:Nat->Chunk}{C:Chunk}
theorem SH.eT(h:SH w0 M K w hp)(i:Nat)(a:(hp i).Sr):(hp i).holds w M (hp i).own'/\bL K w0 w/\(∀b,(hp i).own' b->b<w0.heap.size->K b):=h.outS i Z a
theorem SH.gX(h:SH w0 M K w hp)(i:Nat)(a:(hp i).Sr):(hp i).holds w (fun b=>M b\/rest hp i b) (hp i).own'/\(∀b,(hp i).own' b->¬(M b\/rest hp i b))/\(∀b,(M b\/rest hp i b)->b<w.heap.size):=h.lendS i Z a
theorem SH.kG(h:SH w0 M K w hp)(i:Nat)(a:C.holds w' (fun b=>M b\/rest hp i b) C.own')(d:C.Sr)(c:bL (hp i).own' w w')(hn:∀b,C.own' b->b<w.heap.size->(hp i).own' b):SH w0 M K w' (bV hp i C):=h.back i Z d a c hn
end
section
variable{σ ρ α:Type}{b:Int->σ->(σ->ρ)->ρ}{bx:Int->α->σ->(σ->ρ)->ρ}{be:α->σ->(σ->ρ)->ρ}{K:σ->ρ}{s:σ}{r:ρ}{i c:Int}{k:Nat}{L:List α}
theorem rF(f:i=(k:Int))(e:ab (i<c)=ba)(a:upto b K i (c.toNat-k) s=r):∃d,upto b K (i+1) (c.toNat-(k+1))=d/\b i s d=r:=by
 rw[upto_lt (by have:=of_decide_eq_true e;omega)]at a;exact⟨_,Z,a⟩
theorem yN(d:i=(k:Int))(e:ab (i<c)=aq)(a:upto b K i (c.toNat-k) s=r):K s=r:=by
 rw[upto_ge (by have:=of_decide_eq_false e;omega)]at a;exact a
theorem yO(a:i=(k:Int))(e:ab (i<c)=ba)(b:c<=9223372036854775807):kr (i+1):=by
 have:=of_decide_eq_true e;exact kr.mk V V
theorem Jl(a:i=(k:Int))(e:ab (i<c)=ba):c.toNat-(k+1)<c.toNat-k:=by
 have:=of_decide_eq_true e;omega
theorem lv(a:i=(k:Int))(e:ab (i<(L.length:Int))=ba)(b:each be K (L.drop k) s=r):∃x c,L[k]? =aj x/\each be K (L.drop (k+1))=c/\be x s c=r:=by
 obtain⟨x,d,f⟩:=drop_lt<|a▸e;rw[f,gD]at b;exact⟨x,_,d,Z,b⟩
theorem pY(a:i=(k:Int))(e:ab (i<(L.length:Int))=aq)(b:each be K (L.drop k) s=r):K s=r:=by
 rw[drop_ge (a▸e),qN]at b;exact b
theorem Bu(a:i=(k:Int))(e:ab (i<(L.length:Int))=ba)(b:gW bx K i (L.drop k) s=r):∃x c,L[k]? =aj x/\gW bx K (i+1) (L.drop (k+1))=c/\bx i x s c=r:=by
 obtain⟨x,d,f⟩:=drop_lt<|a▸e;rw[f,yK]at b;exact⟨x,_,d,Z,b⟩
theorem HY(a:i=(k:Int))(e:ab (i<(L.length:Int))=aq)(b:gW bx K i (L.drop k) s=r):K s=r:=by
 rw[drop_ge (a▸e),Uv]at b;exact b
theorem um(a:i=(k:Int))(e:ab (i<(L.length:Int))=ba):L.length-(k+1)<L.length-k:=by
 have:=of_decide_eq_true e;omega
end
abbrev cW(b:Nat)(a v1 v2:al)(l:List fq):Chunk:=.two (.blk b [a,v1,v2]) (.own gu 40 v1 l)
abbrev mH(M:BS)(w:ao):Prop:=∀b,M b->b<w.heap.size
open Go Go.RowKit Go.Proofs
section
variable{P:ca}{ops:Array ei}{Q:fi->Act->ao->Prop}{rest:List ei}{n:Nat}{env:Nat->al}{w w0:ao}{M K:BS}{hp:Nat->Chunk}{d:Option Nat}{ty:aT}{pos:String}{af:Array hF}{x y:bo}{T T2:aT}{v:al}
theorem ow{k:Int}{p:al}(i:IxOk P T v k p)(e:(ev n env x,ev n env y)=(v,dp .i64 k))(h:WL P ops Q rest n (gq env d p) w):WL P ops Q (⟨d,.indexAddr T x y,ty,pos,af,aw⟩::rest) n env w:=by
 injection e with e1 e2;exact J (i _ _ _ _ _ _ _ _ _ e1 e2) h
theorem eD{p q:Int}{k:IntKind}(e:(ev n env x,ev n env y)=(dp k p,dp k q))(h:WL P ops Q rest n (gq env d (.bool (ab (p=q)))) w):WL P ops Q (⟨d,.binOp .eql T x y T2,ty,pos,af,aw⟩::rest) n env w:=by
 injection e with e1 e2;exact J (oF e1 e2) h
theorem jd{p q:Int}{k:IntKind}(e:(ev n env x,ev n env y)=(dp k p,dp k q))(h:WL P ops Q rest n (gq env d (.bool (ab (p≠q)))) w):WL P ops Q (⟨d,.binOp .neq T x y T2,ty,pos,af,aw⟩::rest) n env w:=by
 injection e with e1 e2;exact J (Aj e1 e2) h
theorem fT{p q:Int}(e:(ev n env x,ev n env y)=(dp .i64 p,dp .i64 q))(h:WL P ops Q rest n (gq env d (.bool (ab (p<q)))) w):WL P ops Q (⟨d,.binOp .lss T x y T2,ty,pos,af,aw⟩::rest) n env w:=by
 injection e with e1 e2;exact J (vB e1 e2) h
theorem fK{p q:Int}(e:(ev n env x,ev n env y)=(dp .i64 p,dp .i64 q))(a:kr (p+q))(h:WL P ops Q rest n (gq env d (.int .i64 (p+q))) w):WL P ops Q (⟨d,.binOp .add T x y T2,ty,pos,af,aw⟩::rest) n env w:=by
 injection e with e1 e2;exact J (Kv e1 e2 a) h
theorem fC{i:Nat}{vs:List al}(e:(ev n env x,vs[i]?)=(Value.tuple vs.toArray,aj v))(h:WL P ops Q rest n (gq env d v) w):WL P ops Q (⟨d,.extract x i,ty,pos,af,aw⟩::rest) n env w:=by
 injection e with e1 e2;exact J (dR e1 e2) h
theorem fH{α:Type}{R:lq α}{E:aT}{b:Nat}{l:List α}(h:SH w0 M K w hp)(i:Nat)(a:SliceOf P T E b)(e:(hp i,ev n env x)=(Chunk.sr R v l,v))(k:WL P ops Q rest n (gq env d (.int .i64 l.length)) w):WL P ops Q (⟨d,.call {callee:=.builtin .len,args:= #[x],argTypes:= #[T]},ty,pos,af,aw⟩::rest) n env w:=by
 injection e with e1 e2;exact J (gG a e2<|h.fV i e1) k
theorem qp{α:Type}{R:lq α}{E:aT}{b:Nat}{l:List α}(h:SH w0 M K w hp)(i:Nat)(a:SliceOf P T E b)(e:(hp i,ev n env x)=(Chunk.rd R v l,v))(k:WL P ops Q rest n (gq env d (.int .i64 l.length)) w):WL P ops Q (⟨d,.call {callee:=.builtin .len,args:= #[x],argTypes:= #[T]},ty,pos,af,aw⟩::rest) n env w:=by
 injection e with e1 e2;exact J (gG a e2<|h.kY i e1) k
theorem tC{j dj b' o:Nat}{b a:Bool}{z:al}{cs:List al}(h:SH w0 M K w hp)(i:Nat)(c:One P T z)(e:((ops[j]?).bind (·.dst),ev n env (.tmp dj),hp i,ev n env x,cs[o]?)=(aj dj,dq b,Chunk.blk b' cs,gv (b==a) (.pointer (aj ⟨b',o,aw⟩)),aj v))
    (k:WL P ops Q rest n (gq env d (gv (b==a) v)) w):WL P ops Q (⟨d,.load T x,ty,pos,af,aj (j,a)⟩::rest) n env w:=by
  injection e with e1 e2;injection e2 with e2 e3;injection e3 with e3 e4;injection e4 with e4 e5;exact aQ e1 e2 (fun q=>cu h i e3 c (e4.trans<|eZ q) e5) k
theorem tO{j dj b' o f off:Nat}{b a:Bool}(c:dQ P T f off)(e:((ops[j]?).bind (·.dst),ev n env (.tmp dj),ev n env x)=(aj dj,dq b,ga (aj ⟨b',o,aw⟩)))
    (k:WL P ops Q rest n (gq env d (gv (b==a) (.pointer (aj ⟨b',o+off,aw⟩)))) w):WL P ops Q (⟨d,.fieldAddr T x f,ty,pos,af,aj (j,a)⟩::rest) n env w:=by
  injection e with e1 e2;injection e2 with e2 e3;exact aQ e1 e2 (fun q=>aM c e3) k
end
theorem cst{P:ca}{f:fW}{a:Func}{c:Code}{args:List al}{R:Ending->ao->Prop}{n:Nat}{w:ao}(b:P.funcs[f]? =aj a)(hn:a.ntmps=n)(e:(a.body,la args.length n)=(aj c,ba))
  (h:WC P c (jj P a R) n (Ut args) w):bC P f args.toArray w R:=by
 injection e with e1 e2;exact calls_start b e1 hn (gw e2) h
open Go Go.RowKit Go.Proofs
def fillF(pl:List (Nat×Nat))(cs:List al):List (Nat×al)->Option (List al)
 |[]=>aj cs
 |(i,v)::r=>match pl[i]? with
  |some (off,1)=>if off<cs.length then fillF pl (cs.set off v) r else aw
  |_=>aw
theorem fillF_ok{pl:List (Nat×Nat)}:∀{pv:List (Nat×al)} {cs out:List al},(∀v∈pv.map (·.2),v.oneCell'=ba)->fillF pl cs pv=aj out->FillOk pl cs pv out
  |[],cs,out,_,h=>cQ h
  |(i,v)::r,cs,out,ho,h=>by
    unfold fillF at h;split at h
    · rename_i off e;split at h
      · rename_i a;refine⟨off,1,[v],e,dU<|ho v zq3,Z,by omega,?_⟩;rw[show LZ cs off [v]=cs.set off v by unfold LZ;rw[List.set_eq_take_append_cons_drop,if_pos a];simp];exact fillF_ok (fun x b=>ho x<|List.mem_cons_of_mem _ b) h
      · cases h
    · cases h
section
variable{P:ca}{ops:Array ei}{Q:fi->Act->ao->Prop}{rest:List ei}{n:Nat}{env:Nat->al}{w w0:ao}{M K:BS}{hp:Nat->Chunk}{d:Option Nat}{op:Op}{ty:aT}{pos:String}{af:Array hF}{x y c:bo}{T T2:aT}{v:al}{j dj:Nat}{b b0 r:Bool}{i:Int}
theorem jD{zs out:List al}{pl:List (Nat×Nat)}{a:Array (Nat×bo)}{pv:List (Nat×al)}(b:Struct P T zs pl)(e:(a.toList.map fun p=>(p.1,ev n env p.2),fillF pl zs pv)=(pv,aj out))(ho:∀v∈pv.map (·.2),v.oneCell'=ba)
    (h:WL P ops Q rest n (gq env d (.agg out.toArray)) w):WL P ops Q (⟨d,.build T a,ty,pos,af,aw⟩::rest) n env w:=by
  injection e with e1 e2;exact J (oJ b e1<|fillF_ok ho e2) h
theorem pkT(a:b0=ba)(e:(ev n env c,ev n env x)=(dq b0,dq r))(h:WL P ops Q rest n (gq env d (.bool r)) w):WL P ops Q (⟨d,.pick c x y,ty,pos,af,aw⟩::rest) n env w:=by
 injection e with e1 e2;exact J (mJ (b:=ba) (by rw[e1,a]) e2) h
theorem pkF(a:b0=aq)(e:(ev n env c,ev n env y)=(dq b0,dq r))(h:WL P ops Q rest n (gq env d (.bool r)) w):WL P ops Q (⟨d,.pick c x y,ty,pos,af,aw⟩::rest) n env w:=by
 injection e with e1 e2;exact J (mJ (b:=aq) (by rw[e1,a]) e2) h
theorem Cz(a:b0=aq)(e:((ops[j]?).bind (·.dst),ev n env (.tmp dj),(aq==b))=(aj dj,dq b0,aq))(h:WL P ops Q rest n (gq env d fR) w):WL P ops Q (⟨d,op,ty,pos,af,aj (j,b)⟩::rest) n env w:=by
  injection e with e1 e2;injection e2 with e2 e3;exact jM e1 (by rw[e2,a]) e3 h
theorem NS(a:b0=ba)(e:((ops[j]?).bind (·.dst),ev n env (.tmp dj),(ba==b))=(aj dj,dq b0,aq))(h:WL P ops Q rest n (gq env d fR) w):WL P ops Q (⟨d,op,ty,pos,af,aj (j,b)⟩::rest) n env w:=by
  injection e with e1 e2;injection e2 with e2 e3;exact jM e1 (by rw[e2,a]) e3 h
theorem oN(a:b0=b)(e:((ops[j]?).bind (·.dst),ev n env (.tmp dj))=(aj dj,dq b0))(h:WL P ops Q (⟨d,op,ty,pos,af,aw⟩::rest) n env w):WL P ops Q (⟨d,op,ty,pos,af,aj (j,b)⟩::rest) n env w:=by
  injection e with e1 e2;exact WN e1 (by rw[e2,a]) h
theorem Qu{a:Bool}(e:((ops[j]?).bind (·.dst),ev n env (.tmp dj),ev n env x)=(aj dj,dq b,dp .i64 i))(h:WL P ops Q rest n (gq env d (gv (b==a) (.int .i64 i))) w):WL P ops Q (⟨d,.move x,ty,pos,af,aj (j,a)⟩::rest) n env w:=by
  injection e with e1 e2;injection e2 with e2 e3;exact aQ e1 e2 (fun _=>bK e3) h
theorem g0B'{a:Bool}(e:((ops[j]?).bind (·.dst),ev n env (.tmp dj),ev n env x)=(aj dj,dq b,dq r))(h:WL P ops Q rest n (gq env d (gv (b==a) (.bool r))) w):WL P ops Q (⟨d,.move x,ty,pos,af,aj (j,a)⟩::rest) n env w:=by
  injection e with e1 e2;injection e2 with e2 e3;exact aQ e1 e2 (fun _=>bK e3) h
theorem KI{zs vs:List al}{a o k:Nat}{cs:List al}(h:SH w0 M K w hp)(i:Nat)(b:wU P T zs)(e:(hp i,ev n env x,(cs.drop k).take zs.length,vs.length,la (k+zs.length) cs.length)=(Chunk.pt a o cs,ga (aj ⟨a,o+k,aw⟩),vs,zs.length,ba))(q:WL P ops Q rest n (gq env d (.agg vs.toArray)) w):WL P ops Q (⟨d,.load T x,ty,pos,af,aw⟩::rest) n env w:=by
 injection e with e1 e2;injection e2 with e2 e3;injection e3 with e3 e4;injection e4 with e4 e5;exact J (L9 h i e1 b e2 e3 e4<|gw e5) q
theorem jf{L:BS}{ws:ao}{u:al}(a:bL L ws w)(g:∀b,ob u b->w.heap.size<=b):∀b,ob u b->ws.heap.size<=b:=fun b c=>Nat.le_trans a.size (g b c)
end
section
variable{P:ca}{ops:Array ei}{Q:fi->Act->ao->Prop}{n:Nat}{env:Nat->al}{w ws:ao}{d:Option Nat}{op:Op}{ty:aT}{pos:String}{af:Array hF}{fuel:Nat}{listed:Array Bool}{v:al}{L:BS}
theorem bX(i:Nat)(f:Grow ws w)(e:ops[i]? =aj ⟨d,op,ty,pos,af,aw⟩)(c:∀b,Grow ws b->(bl (ev n env) ⟨d,op,ty,pos,af,aw⟩).run P b=.ok (.value v) b)(h:WH P ops ws Q fuel (listed.setIfInBounds i ba) n (gq env d v) w)(a:(ec ops&&(eS .any ops listed i&&(cR .any ops listed).contains i))=true:=by kernel_rfl):WH P ops ws Q (fuel+1) listed n env w:=by
 simp only[cN]at a;exact Fg i f e bA a.1 a.2.1 a.2.2 c h
theorem aX(i:Nat)(f:bL L ws w)(e:ops[i]? =aj ⟨d,op,ty,pos,af,aw⟩)(c:∀b,bL L ws b->(bl (ev n env) ⟨d,op,ty,pos,af,aw⟩).run P b=.ok (.value v) b)(h:XE P ops L ws Q fuel (listed.setIfInBounds i ba) n (gq env d v) w)(a:(ec ops&&(eS .any ops listed i&&(cR .any ops listed).contains i))=true:=by kernel_rfl):XE P ops L ws Q (fuel+1) listed n env w:=by
 simp only[cN]at a;exact whk_ok i f e bA a.1 a.2.1 a.2.2 c h
end
section
variable{P:ca}{ops:Array ei}{w:ao}{Q1:Act->Prop}{rest:List ei}{n:Nat}{env:Nat->al}{d:Option Nat}{ty:aT}{pos:String}{af:Array hF}{x:bo}
theorem kI{i:Int}(a:ev n env x=.int .i64 i)(h:WK P ops w Q1 rest n (gq env d (.int .i64 i))):WK P ops w Q1 (⟨d,.move x,ty,pos,af,aw⟩::rest) n env:=aG (bK a) h
theorem kB{i:Bool}(a:ev n env x=.bool i)(h:WK P ops w Q1 rest n (gq env d (.bool i))):WK P ops w Q1 (⟨d,.move x,ty,pos,af,aw⟩::rest) n env:=aG (bK a) h
end
abbrev GG(w:ao)(M:BS)(C:Chunk):Prop:=Chunk.holds w M (Chunk.own' C) C
abbrev ApC(C:Chunk)(M:BS):Prop:=∀b,Chunk.own' C b->¬M b
abbrev Yc(C':Chunk)(w:ao)(C:Chunk):Prop:=∀b,Chunk.own' C' b->b<w.heap.size->Chunk.own' C b
abbrev Fj(M:BS)(C:Chunk):BS:=fun b=>M b\/Chunk.own' C b
open Go Go.RowKit Go.Proofs
section
variable{P:ca}{ops:Array ei}{Q:fi->Act->ao->Prop}{n:Nat}{env:Nat->al}{w ws:ao}{d:Option Nat}{ty:aT}{pos:String}{af:Array hF}{fuel:Nat}{listed:Array Bool}{v:al}{L:BS}{T:aT}{x:bo}
theorem GH(i:Nat)(f:Grow ws w){k off b o:Nat}(a:dQ P T k off)(e:(ops[i]?,ev n env x)=(aj ⟨d,.fieldAddr T x k,ty,pos,af,aw⟩,ga (aj ⟨b,o,aw⟩)))(h:WH P ops ws Q fuel (listed.setIfInBounds i ba) n (gq env d (.pointer (aj ⟨b,o+off,aw⟩))) w)(c:(ec ops&&(eS .any ops listed i&&(cR .any ops listed).contains i))=true:=by kernel_rfl):WH P ops ws Q (fuel+1) listed n env w:=by
 injection e with e1 e2;exact bX i f e1 (fun _ _=>aM a e2) h c
theorem dx(i:Nat)(f:bL L ws w){k off b o:Nat}(a:dQ P T k off)(e:(ops[i]?,ev n env x)=(aj ⟨d,.fieldAddr T x k,ty,pos,af,aw⟩,ga (aj ⟨b,o,aw⟩)))(h:XE P ops L ws Q fuel (listed.setIfInBounds i ba) n (gq env d (.pointer (aj ⟨b,o+off,aw⟩))) w)(c:(ec ops&&(eS .any ops listed i&&(cR .any ops listed).contains i))=true:=by kernel_rfl):XE P ops L ws Q (fuel+1) listed n env w:=by
 injection e with e1 e2;exact aX i f e1 (fun _ _=>aM a e2) h c
theorem wW(i:Nat)(b:Grow ws w)(v:al)(e:(ops[i]?,ev n env x)=(aj ⟨d,.move x,ty,pos,af,aw⟩,v))(h:WH P ops ws Q fuel (listed.setIfInBounds i ba) n (gq env d v) w)(a:(ec ops&&(eS .any ops listed i&&(cR .any ops listed).contains i))=true:=by kernel_rfl):WH P ops ws Q (fuel+1) listed n env w:=by
 injection e with e1 e2;exact bX i b e1 (fun _ _=>bK e2) h a
theorem iX(i:Nat)(b:bL L ws w)(v:al)(e:(ops[i]?,ev n env x)=(aj ⟨d,.move x,ty,pos,af,aw⟩,v))(h:XE P ops L ws Q fuel (listed.setIfInBounds i ba) n (gq env d v) w)(a:(ec ops&&(eS .any ops listed i&&(cR .any ops listed).contains i))=true:=by kernel_rfl):XE P ops L ws Q (fuel+1) listed n env w:=by
 injection e with e1 e2;exact aX i b e1 (fun _ _=>bK e2) h a
theorem Jm(i:Nat)(b:Grow ws w)(v:al)(e:(ops[i]?,ev n env x)=(aj ⟨d,.assign x,ty,pos,af,aw⟩,v))(h:WH P ops ws Q fuel (listed.setIfInBounds i ba) n (gq env d v) w)(a:(ec ops&&(eS .any ops listed i&&(cR .any ops listed).contains i))=true:=by kernel_rfl):WH P ops ws Q (fuel+1) listed n env w:=by
 injection e with e1 e2;exact bX i b e1 (fun _ _=>eU e2) h a
theorem vD(i:Nat)(b:bL L ws w)(v:al)(e:(ops[i]?,ev n env x)=(aj ⟨d,.assign x,ty,pos,af,aw⟩,v))(h:XE P ops L ws Q fuel (listed.setIfInBounds i ba) n (gq env d v) w)(a:(ec ops&&(eS .any ops listed i&&(cR .any ops listed).contains i))=true:=by kernel_rfl):XE P ops L ws Q (fuel+1) listed n env w:=by
 injection e with e1 e2;exact aX i b e1 (fun _ _=>eU e2) h a
end
section
variable{P:ca}{ops:Array ei}{Q:fi->Act->ao->Prop}{rest:List ei}{n:Nat}{env:Nat->al}{w w0:ao}{M K:BS}{hp:Nat->Chunk}{d:Option Nat}{ty:aT}{pos:String}{af:Array hF}{x y:bo}{T:aT}
theorem bN{zs vs:List al}{b:Nat}{cs:List al}(h:SH w0 M K w hp)(i:Nat)(a:wU P T zs)(e:(hp i,ev n env x,ev n env y,vs.length,cs.length)=(Chunk.blk b cs,ga (aj ⟨b,0,aw⟩),rh vs.toArray,zs.length,vs.length))(c:∀v∈vs,v.oneCell'=ba)
 (k:∀w',SH w0 M K w' (bV hp i (.blk b vs))->WL P ops Q rest n (gq env d fR) w'):WL P ops Q (⟨d,.store T x y,ty,pos,af,aw⟩::rest) n env w:=w_stA h i vs a e c k
theorem SH.pr(h:SH w0 M K w hp)(i j:Nat)(a:i≠j:=by decide):SH w0 M K w (bV (bV hp j .no) i (.two (hp i) (hp j))):=h.pair i j a
theorem SH.un{a c:Chunk}(h:SH w0 M K w hp)(i j:Nat)(d:hp i=.two a c)(e:hp j=.no)(b:i≠j:=by decide):SH w0 M K w (bV (bV hp i a) j c):=h.unpair i j b d e
end
open Go Go.RowKit Go.Proofs
theorem kR{L:BS}{w:ao}:bL L w w:=bL.refl L w
theorem dE{vs:List al}(e:vs.all Value.oneCell'=ba):∀v∈vs,v.oneCell'=true:=fun v h=>lo.1 e v h
section
variable{P:ca}{ops:Array ei}{Q:fi->Act->ao->Prop}{n:Nat}{env:Nat->al}{w:ao}{fuel:Nat}{listed:Array Bool}{L:BS}
theorem gN(h:∀ws,bL L ws w->XE P ops L ws Q fuel listed n env w):XE P ops L w Q fuel listed n env w:=h w (bL.refl _ _)
theorem p8(h:∀ws,Grow ws w->WH P ops ws Q fuel listed n env w):WH P ops w Q fuel listed n env w:=h w (bL.refl _ _)
end
section
variable{P:ca}{ops:Array ei}{Q:fi->Act->ao->Prop}{rest:List ei}{n:Nat}{env:Nat->al}{w w0:ao}{M K:BS}{hp:Nat->Chunk}{d:Option Nat}{ty:aT}{pos:String}{af:Array hF}{x:bo}{v:al}
theorem CB{f:fW}{first captured:Array al}{xs:Array bo}{c:Array aT}{args:List al}(h:SH w0 M K w hp)(j:Sk P f)(i:ev n env x=.func (.func f) first captured)
  (a:first.toList++xs.toList.map (ev n env)++captured.toList=args) (b:bC P f args.toArray w (fun e w'=>Grow w w'/\e=.returned v)) (k:∀w',Grow w w'->SH w0 M K w' hp->WL P ops Q rest n (gq env d v) w'):
  WL P ops Q (⟨d,.call {callee:=.value x,args:=xs,argTypes:=c},ty,pos,af,aw⟩::rest) n env w:=
 bW j i a b (by rintro _ w' ⟨g,rfl⟩;exact⟨_,Z,k w' g (h.grow g)⟩)
theorem xL{α:Type}{R:lq α}{l:List α}{f:fW}{first captured:Array al}{xs:Array bo}{b:Array aT}{args:List al}{F:al->al}(h:SH w0 M K w hp)(i:Nat)(j:Sk P f)(c:ev n env x=.func (.func f) first captured)
  (m:first.toList++xs.toList.map (ev n env)++captured.toList=args) (a:bC P f args.toArray w (fun e w'=>Grow w w'/\∃u,e=.returned (F u)/\dm R w' (SH.A M hp) u l)) (k:∀w' u,Grow w w'->SH w0 M K w' (bV hp i (.rd R u l))->WL P ops Q rest n (gq env d (F u)) w'):
  WL P ops Q (⟨d,.call {callee:=.value x,args:=xs,argTypes:=b},ty,pos,af,aw⟩::rest) n env w:=
 bW j c m a (by rintro _ w' ⟨g,u,rfl,g2⟩;exact⟨_,Z,k w' u g (h.yI i g g2)⟩)
theorem dH{α:Type}{R:lq α}{E:aT}{l:List α}{f:fW}{first captured:Array al}{xs:Array bo}{j:Array aT}{args:List al}{F:al->al}(h:SH w0 M K w hp)(i:Nat)(o:Sk P f)(m:ev n env x=.func (.func f) first captured)
  (p:first.toList++xs.toList.map (ev n env)++captured.toList=args) (c:bC P f args.toArray w (fun e w'=>Grow w w'/\∃u,e=.returned (F u)/\bZ R E w' (SH.A M hp) u l/\(∀b,ob u b->w.heap.size<=b))) (k:∀w' u,Grow w w'->(∀b,ob u b->w.heap.size<=b)->SH w0 M K w' (bV hp i (.own R E u l))->WL P ops Q rest n (gq env d (F u)) w'):
  WL P ops Q (⟨d,.call {callee:=.value x,args:=xs,argTypes:=j},ty,pos,af,aw⟩::rest) n env w:=
 bW o m p c (by rintro _ w' ⟨g,u,rfl,g2,a⟩;exact⟨_,Z,k w' u g a (h.ui i g g2 a)⟩)
end
open Go Go.RowKit Go.Proofs
abbrev pT(b:Nat):Value:=.pointer (aj ⟨b,0,aw⟩)
abbrev nS:Value:=.slice aw 0 0
def fchk(P:ca)(f:fW):Bool:=match P.funcs[f]? with
 |some fn=> !(fn.name== "runtime.NumGoroutine")&& !fn.body.isNone
 |none=>aq
theorem fo{P:ca}{f:fW}(h:fchk P f=true:=by kernel_rfl):Sk P f:=by
  unfold fchk at h;split at h
  · rename_i a e;simp only[cN,gn]at h;exact⟨a,e,h.1,h.2⟩
  · cases h
section
variable{P:ca}{ops:Array ei}{Q:fi->Act->ao->Prop}{n:Nat}{env:Nat->al}{w ws:ao}{d:Option Nat}{op:Op}{ty:aT}{pos:String}{af:Array hF}{fuel:Nat}{listed:Array Bool}{L:BS}
theorem aW(i:Nat)(a:ops[i]? =aj ⟨d,op,ty,pos,af,aw⟩)(h:WL P ops (Uy P ops L ws Q fuel (listed.setIfInBounds i ba)) [⟨d,op,ty,pos,af,aw⟩] n env w)(b:cR .any ops listed=[i]:=by kernel_rfl):XE P ops L ws Q (fuel+1) listed n env w:=whk_eff i b a bA h
theorem uJ(i:Nat)(a:ops[i]? =aj ⟨d,op,ty,pos,af,aw⟩)(h:WL P ops (after P ops ws Q fuel (listed.setIfInBounds i ba)) [⟨d,op,ty,pos,af,aw⟩] n env w)(b:cR .any ops listed=[i]:=by kernel_rfl):WH P ops ws Q (fuel+1) listed n env w:=wh_eff i b a bA h
theorem iU(h:Q .normal (act n env) w)(a:cR .any ops listed=[]:=by kernel_rfl):XE P ops L ws Q fuel listed n env w:=whk_done a h
theorem Fp(h:Q .normal (act n env) w)(a:cR .any ops listed=[]:=by kernel_rfl):WH P ops ws Q fuel listed n env w:=wh_done a h
end
open Go Go.RowKit Go.Proofs
def zk{α:Type}(L:List (Int×α))(us:List al):List (Int×al):=(L.zip us).map fun p=>(p.1.1,p.2)
def UI{α:Type}(k:Int):List (Int×α)->Option Nat
  |[]=>aw
  |p::r=>if k=p.1 then aj 0 else(UI k r).map (· +1)
def hkey{α:Type}(L:List (Int×α))(k:Int):Nat->Prop:=fun i=>UI k L=aj i
section
variable{α:Type}{k:Int}
theorem Pp(p:Int×α)(r:List (Int×α))(u:al)(us:List al):zk (p::r) (u::us)=(p.1,u)::zk r us:=rfl
theorem UJ:∀{L:List (Int×α)} {us:List al} {z v:al} {a:α},us.length=L.length->UI k L=aw->
    lk k L=aw/\QI z (zk L us) k=z/\Nt (zk L us) k v=zk (L++[(k,a)]) (us++[v])/\yG k a L=L++[(k,a)]
  |[],us,z,v,a,h,_=>by
    cases us with
    |nil=>exact⟨rfl,rfl,rfl,rfl⟩
    |cons u us=>cases h
  |p::r,us,z,v,a,h,e=>by
    cases us with
    |nil=>cases h
    |cons u us=>
      unfold UI at e;by_cases c:k=p.1
      · rw[if_pos c]at e;cases e
      · rw[if_neg c]at e;have i:UI k r=none:=by
          cases q:UI k r with
          |none=>rfl
          |some x=>rw[q]at e;cases e
        obtain⟨f,d,g,b⟩:=UJ (us:=us) (z:=z) (v:=v) (a:=a) (Nat.succ.inj h) i;refine⟨?_,?_,?_,?_⟩
        · unfold lk;rw[if_neg c];exact f
        · rw[Pp];unfold QI;rw[if_neg c];exact d
        · rw[Pp];unfold Nt;rw[if_neg c,g];rfl
        · unfold yG;rw[if_neg c,b];rfl
theorem Pq:∀{L:List (Int×α)} {us:List al} {z v:al} {a:α} {i:Nat},us.length=L.length->UI k L=aj i->
    ∃x u,lk k L=aj x/\us[i]? =aj u/\(L.map dv)[i]? =aj x/\QI z (zk L us) k=u/\Nt (zk L us) k v=zk (yG k a L) (us.set i v)/\(yG k a L).map dv=(L.map dv).set i a
  |[],us,z,v,a,i,h,e=>by cases e
  |p::r,us,z,v,a,i,h,e=>by
    cases us with
    |nil=>cases h
    |cons u us=>
      unfold UI at e;by_cases c:k=p.1
      · rw[if_pos c]at e;cases e;refine⟨p.2,u,?_,Z,Z,?_,?_,?_⟩
        · unfold lk;rw[if_pos c]
        · rw[Pp];unfold QI;rw[if_pos c]
        · rw[Pp];unfold Nt yG;rw[if_pos c,if_pos c];rfl
        · unfold yG;rw[if_pos c];rfl
      · rw[if_neg c]at e;cases q:UI k r with
        |none=>rw[q]at e;cases e
        |some j=>
          rw[q]at e;cases e;obtain⟨x,u',f,d,g,b,m,l⟩:=Pq (us:=us) (z:=z) (v:=v) (a:=a) (Nat.succ.inj h) q;refine⟨x,u',?_,d,g,?_,?_,?_⟩
          · unfold lk;rw[if_neg c];exact f
          · rw[Pp];unfold QI;rw[if_neg c];exact b
          · rw[Pp];unfold Nt yG;rw[if_neg c,if_neg c,m];rfl
          · unfold yG;rw[if_neg c];show p.2::_=_;rw[l];rfl
end
section
variable{β:Type}{R:lq β}{E:aT}{w0 w:ao}{M K:BS}{hp:Nat->Chunk}{L:List (Int×List β)}{us:List al}{k:Int}{u:al}{s:List β}
theorem UK(e:UI k L=aw):hkey L k=hn:=by
 funext i;unfold hkey hn;rw[e];exact propext ⟨fun h=>(by cases h),fun h=>h.elim⟩
theorem SH.msLen(h:SH w0 M K w hp)(j:Nat){ho:Nat->Prop}(a:hp j=.eF (bP R E ho us (L.map dv))):us.length=L.length:=by
 have:=(h.WV j a).1;rw[cG]at this;exact this
theorem SH.msTake(h:SH w0 M K w hp)(j m:Nat)(k:Int)(g:hp j=.eF (bP R E hn us (L.map dv)))(o:hp m=.no)(f:j≠m):
    ∃u,QI (.slice aw 0 0) (zk L us) k=u/\SH w0 M K w (bV (bV hp j (.eF (bP R E (hkey L k) us (L.map dv)))) m (.own R E u ((lk k L).getD []))):=by
  have n:=h.msLen j g;cases e:UI k L with
  |none=>
    obtain⟨d,c,-,-⟩:=UJ (z:=.slice aw 0 0) (v:=.slice aw 0 0) (a:=[]) n e;refine⟨.slice aw 0 0,c,?_⟩;rw[d,UK e];have l:=h.Br (R:=R) (E:=E) m;have b:bV hp j (.eF<|bP R E hn us<|L.map dv)=hp:=by
      funext x;by_cases q:x=j
      · subst q;rw[bY];exact g.symm
      · rw[dZ q]
    rw[b];exact l
  |some i=>
    obtain⟨x,u,d,c,l,b,-,-⟩:=Pq (z:=.slice aw 0 0) (v:=.slice aw 0 0) (a:=[]) n e;refine⟨u,b,?_⟩;rw[d];exact h.famOpen j m g o f c l (fun h=>h) (hkey L k) (fun a=>by unfold hkey hn;rw[e];exact⟨fun h=>.inr (cQ h).symm,fun h=>h.elim (fun h=>h.elim) (fun h=>by rw[h])⟩)
theorem SH.msBack(h:SH w0 M K w hp)(j m:Nat)(d:hp j=.eF (bP R E (hkey L k) us (L.map dv)))(g:hp m=.own R E u ((lk k L).getD []))(b:j≠m)(p:QI (.slice aw 0 0) (zk L us) k=u):
    SH w0 M K w (bV (bV hp m .no) j (.eF (bP R E hn us (L.map dv)))):=by
  have o:=h.msLen j d;cases e:UI k L with
  |none=>
    rw[UK e]at d;have f:=h.gB m;have c:bV (bV hp m .no) j (.eF<|bP R E hn us<|L.map dv)=bV hp m .no:=by
      funext x;by_cases q:x=j
      · subst q;rw[bY,dZ b];exact d.symm
      · rw[dZ q]
    rw[c];exact f
  |some i=>
    obtain⟨x,u',n,l,f,c,-,-⟩:=Pq (z:=.slice aw 0 0) (v:=.slice aw 0 0) (a:=[]) o e;rw[n]at g;rw[p]at c;have:=h.KA (k:=i) j m d g b (c▸l) e hn (fun a=>by unfold hkey hn;rw[e];exact⟨fun h=>.inr (cQ h).symm,fun h=>h.elim (fun h=>h.elim) (fun h=>by rw[h])⟩) (fun h=>h);have q:(L.map dv).set i ((aj x).getD [])=L.map Prod.snd:=BM f;rw[q]at this;exact this
theorem SH.msPut(h:SH w0 M K w hp)(j m:Nat)(c:hp j=.eF (bP R E (hkey L k) us (L.map dv)))(n:hp m=.own R E u s)(b:j≠m):
  ∃us',Nt (zk L us) k u=zk (yG k s L) us'/\SH w0 M K w (bV (bV hp m .no) j (.eF (bP R E hn us' ((yG k s L).map dv)))):=by
 have p:=h.msLen j c;cases e:UI k L with
 |none=>
  rw[UK e]at c;obtain⟨-,-,o,g⟩:=UJ (z:=.slice aw 0 0) (v:=u) (a:=s) p e;refine⟨us++[u],by rw[o,g],?_⟩;have f:=h.famNew m n;have d:=f.GD (us:=us) (ss:=L.map dv) j m (by rw[dZ b];exact c) (by rw[bY]) b;rw[Em]at d;rw[g,cI];exact d
 |some i=>
  have q:hkey L k=hat i:=by
   funext a;unfold hkey hat;rw[e];exact propext ⟨fun h=>(cQ h).symm,fun h=>by rw[h]⟩
  rw[q]at c;obtain⟨x,u',y,r,o,-,f,d⟩:=Pq (z:=.slice aw 0 0) (v:=u) (a:=s) p e;refine⟨us.set i u,f,?_⟩;have t:=h.famU j u c;have l:=t.KA (k:=i) (ho:=hat i) j m (by rw[bY]) (by rw[dZ (Ne.symm b)];exact n) b (UE r) Z hn (fun a=>⟨fun h=>.inr h,fun h=>h.elim (fun h=>h.elim) id⟩) (fun h=>h);rw[d];rw[hupd_comm hp (.eF (bP R E (hat i) (us.set i u) (L.map dv))) .no b,Em]at l;exact l
end
section
variable{P:ca}{w w0:ao}{M K:BS}{hp:Nat->Chunk}{d:Option Nat}{ty:aT}{pos:String}{af:Array hF}{g:Option (Nat×Bool)}{T:aT}{ρ:bo->al}
theorem r_lkS{x y:bo}{z:al}{b:Nat}{k:Int}{jC:List (Int×al)}{u:al}(h:SH w0 M K w hp)(i:Nat)(f:hp i=.mp b jC)(a:MapOf P T z)(j:ρ x=.map (aj b))(c:ρ y=.int .i64 k)(e:QI z jC k=u):
  (bl ρ ⟨d,.lookup T x y aq,ty,pos,af,g⟩).run P w=.ok (.value u) w:=by
 have:=XX (d:=d) (ty:=ty) (pos:=pos) (af:=af) (g:=g) a j c<|h.mpAt i f;rw[e]at this;exact this
theorem w_mapUpdateG{ops:Array ei}{Q:fi->Act->ao->Prop}{n:Nat}{env:Nat->al}{rest:List ei}{v z:al}{x y u:bo}{b:Nat}{k:Int}{jC vC:List (Int×al)}(h:SH w0 M K w hp)(i:Nat)(c:hp i=.mp b jC)(l:MapOf P T z)(f:ev n env x=.map (aj b))(m:ev n env y=.int .i64 k)(o:ev n env u=v)(j:Nt jC k v=vC)
  (e:∀w',SH w0 M K w' (bV hp i (.mp b vC))->bL (fun x=>x=b) w w'->WL P ops Q rest n (gq env d fR) w'):WL P ops Q (⟨d,.mapUpdate T x y u,ty,pos,af,aw⟩::rest) n env w:=
 Sq l f m o (h.mpAt i c) fun w' a g=>e w' (h.mpSet i c a (j▸g)) a
end
open Go Go.RowKit Go.Proofs
structure Arr3(P:ca)(T E:aT):Prop where
  desc:P.underlying T=aj (.array 3 E)
  zero:∃z0 z1 z2,(P.info? T).map (·.zero)=aj (aj (.agg #[z0,z1,z2]))
  size:(P.info? E).map (·.size)=aj 1
  plain:P.underlying E=aj (.int .i64)
  key:P.plainKey E=ba
  cells:P.cellsOf E=1
  guard:P.eqGuardType P.depth T=aq
section
variable{P:ca}{w:ao}{d:Option Nat}{ty:aT}{pos:String}{af:Array hF}{g:Option (Nat×Bool)}{T:aT}{ρ:bo->al}
theorem r_build3{E:aT}{x y z:bo}{p q r:Int}(m:Arr3 P T E)(o:ρ x=.int .i64 p)(n:ρ y=.int .i64 q)(b:ρ z=.int .i64 r):(bl ρ ⟨d,.build T #[(0,x),(1,y),(2,z)],ty,pos,af,g⟩).run P w=.ok (.value (.agg #[.int .i64 p,.int .i64 q,.int .i64 r])) w:=by
 obtain⟨k,l,e,hz⟩:=m.zero;obtain⟨i,a,f⟩:∃i,P.info? T=aj i/\i.zero=aj (.agg #[k,l,e]):=by
  cases a:P.info? T with
  |none=>simp[a]at hz
  |some i=>simp[a]at hz;exact⟨i,Z,hz⟩
 obtain⟨j,t,h⟩:∃j,P.info? E=aj j/\j.size=1:=by
  have:=m.size;cases a:P.info? E with
  |none=>simp[a]at this
  |some i=>simp[a]at this;exact⟨i,Z,this⟩
 have c (p:Int):(dp .i64 p).cells= #[.int .i64 p]:=rfl;simp only[bl,Instr.build,o,n,b,underlying,zeroValue,typeInfo,sizeOf];have s:(rh #[k,l,e]).cells= #[k,l,e]:=rfl;simp[a,f,m.desc,t,h,Instr.fill,c,s,o,n,b]
theorem eq_arr3{E:aT}(d:Arr3 P T E)(a b c a' b' e:Int):(Op.equalIn 10000 T (.agg #[.int .i64 a,.int .i64 b,.int .i64 c]) (.agg #[.int .i64 a',.int .i64 b',.int .i64 e])).run P w=.ok (ab (a=a')&&(ab (b=b')&&ab (c=e))) w:=by
  obtain⟨j,f⟩:∃j,P.info? E=aj j:=by
    have:=d.size;cases hi:P.info? E with
    |none=>simp[hi]at this
    |some i=>exact⟨i,rfl⟩
  rw[show(10000:Nat)=9999+1 from rfl,run_equalIn_array w 9999 _ _ d.desc f,d.cells,show List.range 3=[0,1,2]from rfl];simp only[Op.eqItems,cv,Nat.zero_mul,Nat.one_mul,Nat.mul_one];rw[fN w d.key (xs:= #[.int .i64 a,.int .i64 b,.int .i64 c]) (off:=0) (v:=.int .i64 a) rfl];simp only[bp];rw[fN w d.key (xs:= #[.int .i64 a',.int .i64 b',.int .i64 e]) (off:=0) (v:=.int .i64 a') rfl];simp only[bp];rw[show(9999:Nat)=9998+1 from rfl,oX w 9998 E .i64 .i64 a a' d.plain];simp only[bp,Sem.run_ite,cv];by_cases h:a=a'
  · subst h;simp only[beq_self_eq_true,dI,cM,if_false];rw[fN w d.key (xs:= #[.int .i64 a,.int .i64 b,.int .i64 c]) (off:=1) (v:=.int .i64 b) rfl];simp only[bp];rw[fN w d.key (xs:= #[.int .i64 a,.int .i64 b',.int .i64 e]) (off:=1) (v:=.int .i64 b') rfl];simp only[bp];rw[oX w 9998 E .i64 .i64 b b' d.plain];simp only[bp,Sem.run_ite,cv];by_cases h:b=b'
    · subst h;simp only[beq_self_eq_true,dI,cM,if_false];rw[fN w d.key (xs:= #[.int .i64 a,.int .i64 b,.int .i64 c]) (off:=2) (v:=.int .i64 c) rfl];simp only[bp];rw[fN w d.key (xs:= #[.int .i64 a,.int .i64 b,.int .i64 e]) (off:=2) (v:=.int .i64 e) rfl];simp only[bp];rw[oX w 9998 E .i64 .i64 c e d.plain];by_cases h:c=e<;>simp[h]
    · simp[h]
  · simp[h]
theorem r_neq3{T2 E:aT}{x y:bo}{a b c a' b' e:Int}(f:Arr3 P T E)(i:ρ x=.agg #[.int .i64 a,.int .i64 b,.int .i64 c])(h:ρ y=.agg #[.int .i64 a',.int .i64 b',.int .i64 e]):(bl ρ ⟨d,.binOp .neq T x y T2,ty,pos,af,g⟩).run P w=.ok (.value (.bool (!(ab (a=a')&&(ab (b=b')&&ab (c=e)))))) w:=by
 simp only[bl,i,h,cv,run_eqGuard_agg w .neq T x y _ _ f.guard,bp,run_neq_struct,eq_arr3 f];simp
end
structure T3 where
 a:Int
 b:Int
 c:Int
deriving DecidableEq
def rT3:lq T3 where
 sz:=3
 rd w A cs x:=cs=[.int .i64 x.a,.int .i64 x.b,.int .i64 x.c]
 len:=by rintro w A cs x rfl;rfl
 one:=by rintro w A cs x rfl u hu;simp only[bn,df,or_false]at hu;rcases hu with rfl|rfl|rfl<;>first|rfl
 pos:=by decide
 go:=fun h _ _ _=>h
end Go.LX
namespace Go.Proofs
set_option maxHeartbeats 1000000 in
set_option maxRecDepth 100000 in
theorem Tryz.stringslite_IndexByte(s:ByteArray)(c:Int)(w:ao):
  bC Tryz.prog 210 #[.string s,.int .u8 c] w fun e w'=>e=.returned (.int .i64 (kx s.data.toList c.toNat.toUInt8))/\w'=w:=by
 go_enter Tryz.func210,Tryz.ntmps210
 go_wp2
 rw[run_callFunc_extern Tryz.func225 zq2 zq2 zq2 (e:=Extern.BytealgIndexByte.indexByte) zq2,Lib.run_indexByteString];simp only[Result.andThen];rw[Oper.upon_value]
 go_wp2
 go_ret
 exact⟨Z,Z⟩
set_option maxHeartbeats 2000000 in
set_option maxRecDepth 100000 in
theorem Tryz.stringslite_Index_one(s:ByteArray)(c:UInt8)(w:ao):
    bC Tryz.prog 195 #[.string s,.string ⟨#[c]⟩] w fun e w'=>e=.returned (.int .i64 (kx s.data.toList c))/\w'=w:=by
  go_enter Tryz.func195,Tryz.ntmps195
  go_wp2_with (go_at_call 210;refine(Tryz.stringslite_IndexByte _ _ _).mono ?_;rintro e w'⟨rfl,rfl⟩)
  · have h:([c]==s.toList)=true:=by assumption
    go_ret
    refine⟨?_,Z⟩;have e:s.data.toList=[c]:=by rw[<-Lib.toList_data];exact(beq_iff_eq.1 h).symm
    rw[e];simp[kx]
  · go_ret
    exact⟨Z,Z⟩
set_option maxHeartbeats 1000000 in
theorem Tryz.strings_Index_one(s:ByteArray)(c:UInt8)(w:ao):
  bC Tryz.prog 178 #[.string s,.string ⟨#[c]⟩] w fun e w'=>e=.returned (.int .i64 (kx s.data.toList c))/\w'=w:=by
 go_enter Tryz.func178,Tryz.ntmps178
 go_wp2_with (go_at_call 195;refine(Tryz.stringslite_Index_one _ _ _).mono ?_;rintro e w'⟨rfl,rfl⟩)
 go_ret
 exact⟨Z,Z⟩
set_option maxHeartbeats 1000000 in
theorem Tryz.strings_Contains_one(s:ByteArray)(c:UInt8)(w:ao):
  bC Tryz.prog 188 #[.string s,.string ⟨#[c]⟩] w fun e w'=>e=.returned (.bool (ab (0<=kx s.data.toList c)))/\w'=w:=by
 go_enter Tryz.func188,Tryz.ntmps188
 go_wp2_with (go_at_call 178;refine(Tryz.strings_Index_one _ _ _).mono ?_;rintro e w'⟨rfl,rfl⟩)
 go_ret
 exact⟨Z,Z⟩
open Go.Shelf
def Tryz.lays146_ren:Go.Shelf.Ren:=⟨fun|146=>96|221=>145|268=>176|138=>177|143=>178|195=>197|197=>198|218=>199|219=>195|260=>215|217=>210|225=>211|224=>212|267=>213|266=>225|314=>226|n=>n,fun|9=>9|31=>173|3=>3|4=>4|0=>0|105=>293|21=>21|5=>5|46=>299|119=>242|139=>340|138=>339|146=>336|51=>277|n=>n,fun|1=>4|3=>5|4=>6|n=>n⟩
theorem Tryz.lays146:Go.Proofs.Lays.n146 Tryz.prog Tryz.lays146_ren:={
 mixed:=zq2
 f138:=Tryz.func177.trans (congrArg aj zq2)
 f143:=Tryz.func178.trans (congrArg aj zq2)
 f146:=Tryz.func96.trans (congrArg aj zq2)
 f195:=Tryz.func197.trans (congrArg aj zq2)
 f197:=Tryz.func198.trans (congrArg aj zq2)
 f217:=Tryz.func210.trans (congrArg aj zq2)
 f218:=Tryz.func199.trans (congrArg aj zq2)
 f219:=Tryz.func195.trans (congrArg aj zq2)
 f221:=Tryz.func145.trans (congrArg aj zq2)
 f224:=Tryz.func212.trans (congrArg aj zq2)
 f225:=Tryz.func211.trans (congrArg aj zq2)
 f260:=Tryz.func215.trans (congrArg aj zq2)
 f266:=Tryz.func225.trans (congrArg aj zq2)
 f267:=Tryz.func213.trans (congrArg aj zq2)
 f268:=Tryz.func176.trans (congrArg aj zq2)
 f314:=Tryz.func226.trans (congrArg aj zq2)
 t0:=Tryz.underlying0
 a0:=Tryz.isAgg0
 z0:=Tryz.sizeOf0
 v0:=Tryz.zeroValue0
 t3:=Tryz.underlying3
 a3:=Tryz.isAgg3
 z3:=Tryz.sizeOf3
 v3:=Tryz.zeroValue3
 t4:=Tryz.underlying4
 a4:=Tryz.isAgg4
 z4:=Tryz.sizeOf4
 v4:=Tryz.zeroValue4
 t5:=Tryz.underlying5
 a5:=Tryz.isAgg5
 z5:=Tryz.sizeOf5
 v5:=Tryz.zeroValue5
 t9:=Tryz.underlying9
 a9:=Tryz.isAgg9
 z9:=Tryz.sizeOf9
 v9:=Tryz.zeroValue9
 t21:=Tryz.underlying21
 a21:=Tryz.isAgg21
 z21:=Tryz.sizeOf21
 v21:=Tryz.zeroValue21
 t31:=Tryz.underlying173
 a31:=Tryz.isAgg173
 z31:=Tryz.sizeOf173
 v31:=Tryz.zeroValue173
 t46:=Tryz.underlying299
 a46:=Tryz.isAgg299
 z46:=Tryz.sizeOf299
 v46:=Tryz.zeroValue299
 t51:=Tryz.underlying277
 a51:=Tryz.isAgg277
 z51:=Tryz.sizeOf277
 v51:=Tryz.zeroValue277
 t105:=Tryz.underlying293
 a105:=Tryz.isAgg293
 z105:=Tryz.sizeOf293
 v105:=Tryz.zeroValue293
 t119:=Tryz.underlying242
 a119:=Tryz.isAgg242
 z119:=Tryz.sizeOf242
 t138:=Tryz.underlying339
 a138:=Tryz.isAgg339
 z138:=Tryz.sizeOf339
 v138:=Tryz.zeroValue339
 t139:=Tryz.underlying340
 a139:=Tryz.isAgg340
 z139:=Tryz.sizeOf340
 v139:=Tryz.zeroValue340
 t146:=Tryz.underlying336
 a146:=Tryz.isAgg336
 z146:=Tryz.sizeOf336
 v146:=Tryz.zeroValue336
 g1:=zq2
 g3:=zq2
 g4:=by kernel_rfl}
open Go.RowKit Go.Lib in
theorem Tryz.strings_Split(s a:ByteArray)(m:Int)(w:ao)(d:s.size<4294967281)(c:w.cell? ⟨4,0,aw⟩=aj (.int .i64 m))(b:1<=a.size):
 bC Tryz.prog 96 #[.string s,.string a] w fun e w'=>
  e=.returned (.slice (aj ⟨w.heap.size,0,aw⟩) (gf s a+1) (gf s a+1))/\w'=w.alloc (.cells ((Lib.splitB a 0 (gf s a) s).map lj).toArray 9):=Any.strings_Split Tryz.lays146 zq2 s a m w d c b
def Tryz.laysC172_ren:Go.Shelf.Ren:=⟨fun|172=>97|244=>146|245=>147|247=>179|279=>180|280=>181|281=>182|282=>183|287=>200|316=>201|171=>149|205=>202|321=>216|322=>217|243=>185|246=>203|283=>218|284=>219|285=>220|286=>221|129=>228|317=>227|318=>229|319=>230|320=>231|337=>232|338=>233|n=>n,fun|9=>9|3=>3|75=>176|76=>177|4=>4|5=>5|167=>267|37=>36|0=>0|85=>268|2=>2|168=>270|53=>296|175=>297|46=>299|210=>302|127=>317|145=>323|143=>321|21=>21|171=>324|173=>327|212=>342|51=>277|20=>20|213=>343|232=>346|233=>347|80=>180|n=>n,fun|15=>2|16=>3|17=>7|18=>8|19=>9|n=>n⟩
theorem Tryz.Yd:Go.Proofs.LaysC.n172 Tryz.prog Tryz.laysC172_ren:={
 mixed:=zq2
 f129:=Tryz.func228.trans (congrArg aj zq2)
 f171:=Tryz.func149.trans (congrArg aj zq2)
 f172:=Tryz.func97.trans (congrArg aj zq2)
 f205:=Tryz.func202.trans (congrArg aj zq2)
 f243:=Tryz.func185.trans (congrArg aj zq2)
 f244:=Tryz.func146.trans (congrArg aj zq2)
 f245:=Tryz.func147.trans (congrArg aj zq2)
 f246:=Tryz.func203.trans (congrArg aj zq2)
 f247:=Tryz.func179.trans (congrArg aj zq2)
 f279:=Tryz.func180.trans (congrArg aj zq2)
 f280:=Tryz.func181.trans (congrArg aj zq2)
 f281:=Tryz.func182.trans (congrArg aj zq2)
 f282:=Tryz.func183.trans (congrArg aj zq2)
 f283:=Tryz.func218.trans (congrArg aj zq2)
 f284:=Tryz.func219.trans (congrArg aj zq2)
 f285:=Tryz.func220.trans (congrArg aj zq2)
 f286:=Tryz.func221.trans (congrArg aj zq2)
 f287:=Tryz.func200.trans (congrArg aj zq2)
 f316:=Tryz.func201.trans (congrArg aj zq2)
 f317:=Tryz.func227.trans (congrArg aj zq2)
 f318:=Tryz.func229.trans (congrArg aj zq2)
 f319:=Tryz.func230.trans (congrArg aj zq2)
 f320:=Tryz.func231.trans (congrArg aj zq2)
 f321:=Tryz.func216.trans (congrArg aj zq2)
 f322:=Tryz.func217.trans (congrArg aj zq2)
 f337:=Tryz.func232.trans (congrArg aj zq2)
 f338:=Tryz.func233.trans (congrArg aj zq2)
 t0:=Tryz.underlying0
 a0:=Tryz.isAgg0
 z0:=Tryz.sizeOf0
 v0:=Tryz.zeroValue0
 t2:=Tryz.underlying2
 a2:=Tryz.isAgg2
 z2:=Tryz.sizeOf2
 v2:=Tryz.zeroValue2
 t3:=Tryz.underlying3
 a3:=Tryz.isAgg3
 z3:=Tryz.sizeOf3
 v3:=Tryz.zeroValue3
 t4:=Tryz.underlying4
 a4:=Tryz.isAgg4
 z4:=Tryz.sizeOf4
 v4:=Tryz.zeroValue4
 t5:=Tryz.underlying5
 a5:=Tryz.isAgg5
 z5:=Tryz.sizeOf5
 v5:=Tryz.zeroValue5
 t9:=Tryz.underlying9
 a9:=Tryz.isAgg9
 z9:=Tryz.sizeOf9
 v9:=Tryz.zeroValue9
 t20:=Tryz.underlying20
 a20:=Tryz.isAgg20
 z20:=Tryz.sizeOf20
 v20:=Tryz.zeroValue20
 t21:=Tryz.underlying21
 a21:=Tryz.isAgg21
 z21:=Tryz.sizeOf21
 v21:=Tryz.zeroValue21
 t37:=Tryz.underlying36
 a37:=Tryz.isAgg36
 z37:=Tryz.sizeOf36
 v37:=Tryz.zeroValue36
 t46:=Tryz.underlying299
 a46:=Tryz.isAgg299
 z46:=Tryz.sizeOf299
 v46:=Tryz.zeroValue299
 t51:=Tryz.underlying277
 a51:=Tryz.isAgg277
 z51:=Tryz.sizeOf277
 v51:=Tryz.zeroValue277
 t53:=Tryz.underlying296
 a53:=Tryz.isAgg296
 z53:=Tryz.sizeOf296
 v53:=Tryz.zeroValue296
 t75:=Tryz.underlying176
 a75:=Tryz.isAgg176
 z75:=Tryz.sizeOf176
 v75:=Tryz.zeroValue176
 t76:=Tryz.underlying177
 a76:=Tryz.isAgg177
 z76:=Tryz.sizeOf177
 v76:=Tryz.zeroValue177
 t85:=Tryz.underlying268
 a85:=Tryz.isAgg268
 z85:=Tryz.sizeOf268
 v85:=Tryz.zeroValue268
 t127:=Tryz.underlying317
 a127:=Tryz.isAgg317
 z127:=Tryz.sizeOf317
 v127:=Tryz.zeroValue317
 t143:=Tryz.underlying321
 a143:=Tryz.isAgg321
 z143:=Tryz.sizeOf321
 v143:=Tryz.zeroValue321
 t145:=Tryz.underlying323
 a145:=Tryz.isAgg323
 z145:=Tryz.sizeOf323
 v145:=Tryz.zeroValue323
 t167:=Tryz.underlying267
 a167:=Tryz.isAgg267
 z167:=Tryz.sizeOf267
 v167:=Tryz.zeroValue267
 t168:=Tryz.underlying270
 a168:=Tryz.isAgg270
 z168:=Tryz.sizeOf270
 v168:=Tryz.zeroValue270
 t171:=Tryz.underlying324
 a171:=Tryz.isAgg324
 z171:=Tryz.sizeOf324
 v171:=Tryz.zeroValue324
 t173:=Tryz.underlying327
 a173:=Tryz.isAgg327
 z173:=Tryz.sizeOf327
 v173:=Tryz.zeroValue327
 t175:=Tryz.underlying297
 a175:=Tryz.isAgg297
 z175:=Tryz.sizeOf297
 v175:=Tryz.zeroValue297
 t210:=Tryz.underlying302
 a210:=Tryz.isAgg302
 z210:=Tryz.sizeOf302
 v210:=Tryz.zeroValue302
 t212:=Tryz.underlying342
 a212:=Tryz.isAgg342
 z212:=Tryz.sizeOf342
 v212:=Tryz.zeroValue342
 t213:=Tryz.underlying343
 a213:=Tryz.isAgg343
 z213:=Tryz.sizeOf343
 t232:=Tryz.underlying346
 a232:=Tryz.isAgg346
 z232:=Tryz.sizeOf346
 v232:=Tryz.zeroValue346
 t233:=Tryz.underlying347
 a233:=Tryz.isAgg347
 z233:=Tryz.sizeOf347
 v233:=Tryz.zeroValue347
 g15:=zq2
 g16:=zq2
 g17:=zq2
 g18:=zq2
 g19:=zq2
 t80:=Tryz.underlying180
 a80:=Tryz.isAgg180
 z80:=Tryz.sizeOf180
 v80:=Tryz.zeroValue180
 i0:=zq2
 i2:=zq2
 i3:=zq2
 i4:=zq2
 i5:=zq2
 i9:=zq2
 i20:=zq2
 i21:=zq2
 i37:=zq2
 i46:=zq2
 i51:=zq2
 i53:=zq2
 i75:=zq2
 i76:=zq2
 i80:=zq2
 i85:=zq2
 i127:=zq2
 i143:=zq2
 i145:=zq2
 i167:=zq2
 i168:=zq2
 i171:=zq2
 i173:=zq2
 i175:=zq2
 i210:=zq2
 i212:=zq2
 i232:=zq2
 i233:=zq2
 m15:=zq2
 m16:=zq2
 m17:=zq2
 m18:=zq2
 m19:=zq2
 c0:=zq2
 c2:=zq2
 c3:=zq2
 c4:=zq2
 c5:=zq2
 c9:=zq2
 c20:=zq2
 c21:=zq2
 c37:=zq2
 c46:=zq2
 c51:=zq2
 c53:=zq2
 c75:=zq2
 c76:=zq2
 c80:=zq2
 c85:=zq2
 c127:=zq2
 c143:=zq2
 c145:=zq2
 c167:=zq2
 c168:=zq2
 c171:=zq2
 c173:=zq2
 c175:=zq2
 c210:=zq2
 c212:=zq2
 c213:=zq2
 c232:=zq2
 c233:=by kernel_rfl}
open Go.RowKit in
theorem Tryz.strconv_Atoi_ok(s:ByteArray)(a:s.size<=9223372036854775806)(v:Int)(h:ey s.data.toList=.ok v)(w:ao):
 bC Tryz.prog 97 #[.string s] w fun e w'=>e=.returned (.tuple #[.int .i64 v,.nilIface])/\(w'=w\/∃t,w'=Lib.bytesWorld w 5 t):=Any.strconv_Atoi_ok Tryz.Yd s a v h w
open Go.RowKit in
theorem Tryz.strconv_Atoi_syntax_var(s:ByteArray)(a:s.size<=281474976710656)(e:Lib.NumEnd Int)(h:ey s.data.toList=e)(f:∀v,e≠ .ok v)(d:e≠ .range)(c:aT)(p:al)(w:ao)(b:w.var? Tryz.prog "strconv.ErrSyntax" =aj #[.iface c p]):
 bC Tryz.prog 97 #[.string s] w fun e w'=>∃N,e=.returned (.tuple #[.int .i64 0,.iface 270 (.pointer (aj ⟨N,0,aw⟩))])/\w.heap.size<=N/\w'.heap[N]? =aj (.cells #[.string ⟨#[65,116,111,105]⟩,.string s,.iface c p] 302 (0,0))/\Below w.heap.size w w':=Any.strconv_Atoi_syntax_var Tryz.Yd s a (by cases e with|ok v=>exact absurd Z (f v)|range=>exact absurd Z d|_=>exact h) c p w b
open Go.RowKit in
theorem Tryz.strconv_Atoi_range_var(s:ByteArray)(a:s.size<=281474976710656)(h:ey s.data.toList=.range)(c:aT)(p:al)(w:ao)(b:w.var? Tryz.prog "strconv.ErrRange" =aj #[.iface c p]):
 bC Tryz.prog 97 #[.string s] w fun e w'=>∃N,e=.returned (.tuple #[.int .i64 (Lib.atoiSat s.data.toList),.iface 270 (.pointer (aj ⟨N,0,aw⟩))])/\w.heap.size<=N/\w'.heap[N]? =aj (.cells #[.string ⟨#[65,116,111,105]⟩,.string s,.iface c p] 302 (0,0))/\Below w.heap.size w w':=Any.strconv_Atoi_range_var Tryz.Yd s a h c p w b
def Tryz.laysM171_ren:Go.Shelf.Ren:=⟨fun|171=>149|243=>185|246=>203|283=>218|284=>219|285=>220|286=>221|129=>228|317=>227|318=>229|319=>230|320=>231|337=>232|338=>233|n=>n,fun|3=>3|9=>9|2=>2|4=>4|171=>324|0=>0|53=>296|37=>36|5=>5|173=>327|212=>342|51=>277|20=>20|213=>343|46=>299|232=>346|233=>347|n=>n,fun|17=>7|18=>8|19=>9|n=>n⟩
theorem Tryz.laysM171:Go.Proofs.LaysM.n171 Tryz.prog Tryz.laysM171_ren:={
 mixed:=zq2
 f129:=Tryz.func228.trans (congrArg aj zq2)
 f171:=Tryz.func149.trans (congrArg aj zq2)
 f243:=Tryz.func185.trans (congrArg aj zq2)
 f246:=Tryz.func203.trans (congrArg aj zq2)
 f283:=Tryz.func218.trans (congrArg aj zq2)
 f284:=Tryz.func219.trans (congrArg aj zq2)
 f285:=Tryz.func220.trans (congrArg aj zq2)
 f286:=Tryz.func221.trans (congrArg aj zq2)
 f317:=Tryz.func227.trans (congrArg aj zq2)
 f318:=Tryz.func229.trans (congrArg aj zq2)
 f319:=Tryz.func230.trans (congrArg aj zq2)
 f320:=Tryz.func231.trans (congrArg aj zq2)
 f337:=Tryz.func232.trans (congrArg aj zq2)
 f338:=Tryz.func233.trans (congrArg aj zq2)
 t0:=Tryz.underlying0
 a0:=Tryz.isAgg0
 z0:=Tryz.sizeOf0
 v0:=Tryz.zeroValue0
 t2:=Tryz.underlying2
 a2:=Tryz.isAgg2
 z2:=Tryz.sizeOf2
 v2:=Tryz.zeroValue2
 t3:=Tryz.underlying3
 a3:=Tryz.isAgg3
 z3:=Tryz.sizeOf3
 v3:=Tryz.zeroValue3
 t4:=Tryz.underlying4
 a4:=Tryz.isAgg4
 z4:=Tryz.sizeOf4
 v4:=Tryz.zeroValue4
 t5:=Tryz.underlying5
 a5:=Tryz.isAgg5
 z5:=Tryz.sizeOf5
 v5:=Tryz.zeroValue5
 t9:=Tryz.underlying9
 a9:=Tryz.isAgg9
 z9:=Tryz.sizeOf9
 v9:=Tryz.zeroValue9
 t20:=Tryz.underlying20
 a20:=Tryz.isAgg20
 z20:=Tryz.sizeOf20
 v20:=Tryz.zeroValue20
 t37:=Tryz.underlying36
 a37:=Tryz.isAgg36
 z37:=Tryz.sizeOf36
 v37:=Tryz.zeroValue36
 t46:=Tryz.underlying299
 a46:=Tryz.isAgg299
 z46:=Tryz.sizeOf299
 v46:=Tryz.zeroValue299
 t51:=Tryz.underlying277
 a51:=Tryz.isAgg277
 z51:=Tryz.sizeOf277
 v51:=Tryz.zeroValue277
 t53:=Tryz.underlying296
 a53:=Tryz.isAgg296
 z53:=Tryz.sizeOf296
 v53:=Tryz.zeroValue296
 t171:=Tryz.underlying324
 a171:=Tryz.isAgg324
 z171:=Tryz.sizeOf324
 v171:=Tryz.zeroValue324
 t173:=Tryz.underlying327
 a173:=Tryz.isAgg327
 z173:=Tryz.sizeOf327
 v173:=Tryz.zeroValue327
 t212:=Tryz.underlying342
 a212:=Tryz.isAgg342
 z212:=Tryz.sizeOf342
 v212:=Tryz.zeroValue342
 t213:=Tryz.underlying343
 a213:=Tryz.isAgg343
 z213:=Tryz.sizeOf343
 t232:=Tryz.underlying346
 a232:=Tryz.isAgg346
 z232:=Tryz.sizeOf346
 v232:=Tryz.zeroValue346
 t233:=Tryz.underlying347
 a233:=Tryz.isAgg347
 z233:=Tryz.sizeOf347
 v233:=Tryz.zeroValue347
 g17:=zq2
 g18:=zq2
 g19:=zq2
 i0:=zq2
 i2:=zq2
 i3:=zq2
 i4:=zq2
 i5:=zq2
 i9:=zq2
 i20:=zq2
 i37:=zq2
 i46:=zq2
 i51:=zq2
 i53:=zq2
 i171:=zq2
 i173:=zq2
 i212:=zq2
 i232:=zq2
 i233:=zq2
 m17:=zq2
 m18:=zq2
 m19:=by kernel_rfl}
open Go.RowKit Go.Sort Go.Lib in
theorem Tryz.strconv_Itoa(n:Int)(b: -9223372036854775808<=n)(c:n<=9223372036854775807)(w:ao)(a:oa Tryz.prog w "internal/strconv.uint64pow10" .u64 Lib.pow10Tab):
 bC Tryz.prog 149 #[.int .i64 n] w fun e w'=>e=.returned (.string ⟨(Lib.itoa n).toArray⟩)/\∃k os,w'=grow (w.drewN k) os:=Any.strconv_Itoa Tryz.laysM171 n b c w a
def Tryz.lays157_ren:Go.Shelf.Ren:=⟨fun|157=>107|229=>152|199=>153|261=>186|311=>204|312=>205|n=>n,fun|9=>9|31=>173|3=>3|5=>5|4=>4|119=>242|0=>0|40=>244|152=>274|21=>21|154=>276|51=>277|141=>279|196=>308|193=>305|198=>311|49=>309|194=>306|201=>314|226=>329|46=>299|227=>330|n=>n,fun|0=>0|6=>1|n=>n⟩
theorem Tryz.lays157:Go.Proofs.Lays.n157 Tryz.prog Tryz.lays157_ren:={
 mixed:=zq2
 f157:=Tryz.func107.trans (congrArg aj zq2)
 f199:=Tryz.func153.trans (congrArg aj zq2)
 f229:=Tryz.func152.trans (congrArg aj zq2)
 f261:=Tryz.func186.trans (congrArg aj zq2)
 f311:=Tryz.func204.trans (congrArg aj zq2)
 f312:=Tryz.func205.trans (congrArg aj zq2)
 t0:=Tryz.underlying0
 a0:=Tryz.isAgg0
 z0:=Tryz.sizeOf0
 v0:=Tryz.zeroValue0
 t3:=Tryz.underlying3
 a3:=Tryz.isAgg3
 z3:=Tryz.sizeOf3
 v3:=Tryz.zeroValue3
 t4:=Tryz.underlying4
 a4:=Tryz.isAgg4
 z4:=Tryz.sizeOf4
 v4:=Tryz.zeroValue4
 t5:=Tryz.underlying5
 a5:=Tryz.isAgg5
 z5:=Tryz.sizeOf5
 v5:=Tryz.zeroValue5
 t9:=Tryz.underlying9
 a9:=Tryz.isAgg9
 z9:=Tryz.sizeOf9
 v9:=Tryz.zeroValue9
 t21:=Tryz.underlying21
 a21:=Tryz.isAgg21
 z21:=Tryz.sizeOf21
 v21:=Tryz.zeroValue21
 t31:=Tryz.underlying173
 a31:=Tryz.isAgg173
 z31:=Tryz.sizeOf173
 v31:=Tryz.zeroValue173
 t40:=Tryz.underlying244
 a40:=Tryz.isAgg244
 z40:=Tryz.sizeOf244
 v40:=Tryz.zeroValue244
 t46:=Tryz.underlying299
 a46:=Tryz.isAgg299
 z46:=Tryz.sizeOf299
 v46:=Tryz.zeroValue299
 t49:=Tryz.underlying309
 a49:=Tryz.isAgg309
 z49:=Tryz.sizeOf309
 v49:=Tryz.zeroValue309
 t51:=Tryz.underlying277
 a51:=Tryz.isAgg277
 z51:=Tryz.sizeOf277
 v51:=Tryz.zeroValue277
 t119:=Tryz.underlying242
 a119:=Tryz.isAgg242
 z119:=Tryz.sizeOf242
 t141:=Tryz.underlying279
 a141:=Tryz.isAgg279
 z141:=Tryz.sizeOf279
 v141:=Tryz.zeroValue279
 t152:=Tryz.underlying274
 a152:=Tryz.isAgg274
 z152:=Tryz.sizeOf274
 v152:=Tryz.zeroValue274
 t154:=Tryz.underlying276
 a154:=Tryz.isAgg276
 z154:=Tryz.sizeOf276
 v154:=Tryz.zeroValue276
 t193:=Tryz.underlying305
 a193:=Tryz.isAgg305
 z193:=Tryz.sizeOf305
 v193:=Tryz.zeroValue305
 t194:=Tryz.underlying306
 a194:=Tryz.isAgg306
 z194:=Tryz.sizeOf306
 v194:=Tryz.zeroValue306
 t196:=Tryz.underlying308
 a196:=Tryz.isAgg308
 z196:=Tryz.sizeOf308
 v196:=Tryz.zeroValue308
 t198:=Tryz.underlying311
 a198:=Tryz.isAgg311
 z198:=Tryz.sizeOf311
 v198:=Tryz.zeroValue311
 t201:=Tryz.underlying314
 a201:=Tryz.isAgg314
 z201:=Tryz.sizeOf314
 v201:=Tryz.zeroValue314
 t226:=Tryz.underlying329
 a226:=Tryz.isAgg329
 z226:=Tryz.sizeOf329
 v226:=Tryz.zeroValue329
 t227:=Tryz.underlying330
 a227:=Tryz.isAgg330
 z227:=Tryz.sizeOf330
 v227:=Tryz.zeroValue330
 g0:=zq2
 g6:=by kernel_rfl}
open Go.RowKit Go.Lib in
theorem Tryz.strings_Fields(s:ByteArray)(w:ao)(d:s.size<4294967281)(a:∀(j:Nat) b,s.data.toList[j]? =aj b->b.toNat<128)(c:oa Tryz.prog w "strings.asciiSpace" .u8 rr):
 bC Tryz.prog 107 #[.string s] w fun e w'=>
  e=.returned (.slice (aj ⟨w.heap.size,0,aw⟩) (fh s.data.toList).length (fh s.data.toList).length)/\w'=w.alloc (.cells ((fh s.data.toList).map fun l=>lj ⟨l.toArray⟩).toArray 9):=Any.strings_Fields Tryz.lays157 zq2 zq2 s w d a c
def Tryz.Xb:Go.Shelf.Ren:=⟨fun|156=>157|165=>191|166=>192|169=>193|240=>207|241=>208|276=>222|277=>223|n=>n,fun|31=>173|9=>9|3=>3|4=>4|0=>0|20=>20|72=>287|76=>177|70=>285|37=>36|75=>176|127=>317|164=>331|5=>5|80=>180|n=>n,fun|n=>n⟩
theorem Tryz.lays156:Go.Proofs.Lays.n156 Tryz.prog Tryz.Xb:={
 mixed:=zq2
 f156:=Tryz.func157.trans (congrArg aj zq2)
 f165:=Tryz.func191.trans (congrArg aj zq2)
 f166:=Tryz.func192.trans (congrArg aj zq2)
 f169:=Tryz.func193.trans (congrArg aj zq2)
 f240:=Tryz.func207.trans (congrArg aj zq2)
 f241:=Tryz.func208.trans (congrArg aj zq2)
 f276:=Tryz.func222.trans (congrArg aj zq2)
 f277:=Tryz.func223.trans (congrArg aj zq2)
 t0:=Tryz.underlying0
 a0:=Tryz.isAgg0
 z0:=Tryz.sizeOf0
 v0:=Tryz.zeroValue0
 t3:=Tryz.underlying3
 a3:=Tryz.isAgg3
 z3:=Tryz.sizeOf3
 v3:=Tryz.zeroValue3
 t4:=Tryz.underlying4
 a4:=Tryz.isAgg4
 z4:=Tryz.sizeOf4
 v4:=Tryz.zeroValue4
 t9:=Tryz.underlying9
 a9:=Tryz.isAgg9
 z9:=Tryz.sizeOf9
 v9:=Tryz.zeroValue9
 t20:=Tryz.underlying20
 a20:=Tryz.isAgg20
 z20:=Tryz.sizeOf20
 v20:=Tryz.zeroValue20
 t31:=Tryz.underlying173
 a31:=Tryz.isAgg173
 z31:=Tryz.sizeOf173
 v31:=Tryz.zeroValue173
 t37:=Tryz.underlying36
 a37:=Tryz.isAgg36
 z37:=Tryz.sizeOf36
 v37:=Tryz.zeroValue36
 t70:=Tryz.underlying285
 a70:=Tryz.isAgg285
 z70:=Tryz.sizeOf285
 v70:=Tryz.zeroValue285
 t72:=Tryz.underlying287
 a72:=Tryz.isAgg287
 z72:=Tryz.sizeOf287
 v72:=Tryz.zeroValue287
 t75:=Tryz.underlying176
 a75:=Tryz.isAgg176
 z75:=Tryz.sizeOf176
 v75:=Tryz.zeroValue176
 t76:=Tryz.underlying177
 a76:=Tryz.isAgg177
 z76:=Tryz.sizeOf177
 v76:=Tryz.zeroValue177
 t127:=Tryz.underlying317
 a127:=Tryz.isAgg317
 z127:=Tryz.sizeOf317
 v127:=Tryz.zeroValue317
 t164:=Tryz.underlying331
 a164:=Tryz.isAgg331
 z164:=Tryz.sizeOf331
 v164:=Tryz.zeroValue331}
theorem Tryz.JB:Builder.Extra Tryz.prog Tryz.Xb:={
 sizeBuilder:=zq2
 liesBuilder:=zq2
 t5:=Tryz.underlying5
 a5:=Tryz.isAgg5
 z5:=Tryz.sizeOf5
 v5:=Tryz.zeroValue5
 infoByte:=zq2
 cellsByte:=zq2
 sizeByte:=zq2
 neB5:=by decide}
open Go.RowKit in
theorem Tryz.strings_Join_none(a:Option Addr)(c:Nat)(b:ByteArray)(w:ao):
 bC Tryz.prog 157 #[.slice a 0 c,.string b] w fun e w'=>e=.returned (.string ⟨#[]⟩)/\w'=w:=Any.strings_Join_none Tryz.lays156 Tryz.JB a c b w
open Go.RowKit in
theorem Tryz.strings_Join(g o c:Nat)(xs:List ByteArray)(a:ByteArray)(w:ao)(b:∀(j:Nat) x,xs[j]? =aj x->w.cell? ⟨g,o+j,aw⟩=aj (.string x))(h:g<w.heap.size)(hN:xs.length<=140737488355328)(f:xs.length<=c)(d:(Lib.join (xs.map (·.data.toList)) a.data.toList).length<=140737488355328):
    bC Tryz.prog 157 #[.slice (aj ⟨g,o,aw⟩) xs.length c,.string a] w fun e w'=>e=.returned (.string ⟨(Lib.join (xs.map (·.data.toList)) a.data.toList).toArray⟩)/\Below w.heap.size w w':=Any.strings_Join Tryz.lays156 Tryz.JB g o c xs a w b h hN f d
def Tryz.lays145_ren:Go.Shelf.Ren:=⟨fun|145=>130|220=>171|219=>195|217=>210|225=>211|224=>212|267=>213|266=>225|314=>226|n=>n,fun|9=>9|4=>4|59=>217|3=>3|5=>5|46=>299|146=>336|51=>277|n=>n,fun|1=>4|n=>n⟩
theorem Tryz.lays145:Go.Proofs.Lays.n145 Tryz.prog Tryz.lays145_ren:={
 mixed:=zq2
 f145:=Tryz.func130.trans (congrArg aj zq2)
 f217:=Tryz.func210.trans (congrArg aj zq2)
 f219:=Tryz.func195.trans (congrArg aj zq2)
 f220:=Tryz.func171.trans (congrArg aj zq2)
 f224:=Tryz.func212.trans (congrArg aj zq2)
 f225:=Tryz.func211.trans (congrArg aj zq2)
 f266:=Tryz.func225.trans (congrArg aj zq2)
 f267:=Tryz.func213.trans (congrArg aj zq2)
 f314:=Tryz.func226.trans (congrArg aj zq2)
 t3:=Tryz.underlying3
 a3:=Tryz.isAgg3
 z3:=Tryz.sizeOf3
 v3:=Tryz.zeroValue3
 t4:=Tryz.underlying4
 a4:=Tryz.isAgg4
 z4:=Tryz.sizeOf4
 v4:=Tryz.zeroValue4
 t5:=Tryz.underlying5
 a5:=Tryz.isAgg5
 z5:=Tryz.sizeOf5
 v5:=Tryz.zeroValue5
 t9:=Tryz.underlying9
 a9:=Tryz.isAgg9
 z9:=Tryz.sizeOf9
 v9:=Tryz.zeroValue9
 t46:=Tryz.underlying299
 a46:=Tryz.isAgg299
 z46:=Tryz.sizeOf299
 v46:=Tryz.zeroValue299
 t51:=Tryz.underlying277
 a51:=Tryz.isAgg277
 z51:=Tryz.sizeOf277
 v51:=Tryz.zeroValue277
 t59:=Tryz.underlying217
 a59:=Tryz.isAgg217
 z59:=Tryz.sizeOf217
 v59:=Tryz.zeroValue217
 t146:=Tryz.underlying336
 a146:=Tryz.isAgg336
 z146:=Tryz.sizeOf336
 v146:=Tryz.zeroValue336
 g1:=by kernel_rfl}
open Go.RowKit Go.Lib in
theorem Tryz.strings_Cut(s a:ByteArray)(m:Int)(w:ao)(c:s.size<4294967281)(b:w.cell? ⟨4,0,aw⟩=aj (.int .i64 m)):
 bC Tryz.prog 130 #[.string s,.string a] w fun e w'=>e=.returned (.tuple #[.string ⟨(mN s.data.toList a.data.toList).1.toArray⟩,.string ⟨(mN s.data.toList a.data.toList).2.1.toArray⟩,.bool (mN s.data.toList a.data.toList).2.2])/\∃n,w'=w.drewN n:=Any.strings_Cut Tryz.lays145 s a m w c b
end Go.Proofs