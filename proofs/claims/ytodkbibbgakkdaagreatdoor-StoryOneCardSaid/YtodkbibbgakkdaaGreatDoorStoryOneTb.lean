/-
  What the law StoryOne needs of our own library and of the walks, no more.
-/
import Derived.Shelf.Strings.Builder1
import Derived.Laws.IdiomRangeMap
import Derived.Lib.FieldsLaws
import Derived.KernelRfl
import Derived.Test.YtodkbibbgakkdaaGreatDoorProg
import Derived.Lib.Slices
import Derived.Lib.Walk
import Derived.Shelf.Strings.OnBuilder
import Derived.Shelf.LaysM
import Derived.Shelf.Strconv.Itoa3
import Derived.Shelf.LaysC
import Derived.Shelf.Strconv.AtoiAll
import Derived.Shelf.Strconv.ErrVarAll
import Derived.Shelf.Strings.Cut
import Derived.Shelf.Strings.Split
import Derived.Shelf.Strings.Fields
import Derived.Shelf.Strings.BuilderX
import Derived.Test.YtodkbibbgakkdaaGreatDoorStoryOneTa
set_option linter.unusedSimpArgs false
set_option linter.unusedVariables false
set_option maxRecDepth 10000
open Array renaming filter->th,filter_eq_self->pn,getD_eq_getD_getElem?->cQ,toList_filter->jt
open Bool renaming and_eq_true->cS,false_eq_true->cM,not_eq_true'->gk,not_true->ej,false->ao,true->ba
open Decidable renaming decide->ab
open Go renaming Calls->bE,Edge->hO,Exit->fg,FuncId->fR,Oper->ee,Operand->bo,Program->cc,TypeId->aT,Value->al,World->aq,bodyPost->jj,execOp->bl,getObj->kp,leftOf->kc,madeCells->qt,run_equalIn_int->pa,run_part_plain->fL,step->ld,typeInfo->dt,undef->fW,underlying->cA
open Go.Lib renaming TabIs->oi,asciiSpaceTab->rB,atoiAll->ep,countB->ga,cut->mW,fields->fb,indexByte->lb
open Go.Question renaming forced->mZ
open Go.Region renaming free->fa,noSelect->eg,ready->cR
open Go.Result renaming andThen_ok->bp
open Go.Sem renaming run->kf,run_bind->ct
open Go.Value renaming agg->rj,bool->dp,int->dk,pointer->fX,string->lx
open List renaming all_eq_true->ly,any_cons->ti,append_assoc->ck,eq_nil_of_length_eq_zero->cl,ext_getElem?->df,filter_eq_self->mL,getElem?_append->gw,getElem?_append_left->kh,getElem?_append_right->gx,getElem?_drop->cw,getElem?_eq_getElem->bc,getElem?_eq_none->bt,getElem?_map->ef,getElem?_set->eW,getElem?_set_ne->dB,getElem?_set_self->ir,getElem?_take->cf,getElem?_zipWith->lP,getElem?_zip_eq_some->ox,getElem_set_ne->mF,getElem_set_self->mc,getElem_zip->rE,length_append->bk,length_drop->cL,length_map->cH,length_replicate->js,length_set->cm,length_take->ca,length_zip->eV,map_append->cI,map_cons->cj,map_set->gE,mem_cons->bn,mem_cons_self->eN,nodup_cons->so,not_mem_nil->de,size_toArray->ri,zip_eq_zipWith->my
open List.Perm renaming refl->nf
open Nat renaming add_mul->cg,beq->ft,beq_eq->rb,ble->ll,ble_eq->oy,eq_or_lt_of_le->rh,le_of_ble_eq_true->gn,le_of_succ_le->rF,le_refl->bq,lt_of_lt_of_le->cp,lt_or_ge->cF,mul_le_mul_right->bd,not_succ_le_self->pZ,zero_le->fv
open Option renaming map_some->da,none->aw,some->aj
open Option.some renaming inj->cN,injEq->eA
open Prod renaming snd->dr
namespace Go.LX
open Go.RowKit Go.Proofs
section
variable{P:cc}{ops:Array ee}{Q:fg->Act->aq->Prop}{n:Nat}{env:Nat->al}{w w' w0:aq}{M K:BS}{hp:Nat->Chunk}{rest:List ee}
 {d:Option Nat} {op:Op} {ty:aT} {pos:String} {af:Array hO} {v:al} {g:Option (Nat×Bool)} {T:aT} {ρ:bo->al} {x y:bo} {i fuel:Nat} {listed:Array Bool}
theorem SH.pceAt{S:Pce}(h:SH w0 M K w hp)(i:Nat)(a:hp i=.eX S):S.P w (SH.A M hp):=by
 have:=h.ok i;rw[a]at this;exact this
theorem SH.MN{S S':Pce}(h:SH w0 M K w hp)(i:Nat)(c:hp i=.eX S)(d:S'.P w' (SH.A M hp))(e:bL S.own w w')(hn:∀b,S'.own b->b<w.heap.size->S.own b):SH w0 M K w' (bV hp i (.eX S')):=by
  refine h.step i e (fun b a _=>by rw[c];exact a) (fun b a f=>by rw[c];exact hn b a f) ?_;refine S'.go d (bL.refl BE w') (fun _ h=>h.elim) (fun _ h=>h.elim) fun b a _=>?_;rcases a with a|a|a
  · exact .inl<|.inl a
  · exact .inl<|.inr<|lF a
  · exact .inr a
end
open Go.RowKit Go.Proofs
structure Rm(α β:Type)where
 sz:Nat
 enc:α->al->List al
 sub:α->List β
 put:α->List β->α
 len:∀x u,(enc x u).length=sz
 one:∀x u,u.oneCell'=ba->∀c∈enc x u,c.oneCell'=ba
 pos:0<sz
 TA:∀x s u,enc (put x s) u=enc x u
 TB:∀x s,sub (put x s)=s
def Rm.raw{α β:Type}(N:Rm α β):lD (α×al) where
 sz:=N.sz
 rd _ _ cs p:=cs=N.enc p.1 p.2/\p.2.oneCell'=ba
 len:=by rintro w A cs x ⟨rfl,_⟩;exact N.len _ _
 one:=by rintro w A cs x ⟨rfl,h⟩;exact N.one _ _ h
 pos:=N.pos
 go:=fun h _ _ _=>h
def hn:Nat->Prop:=fun _=>False
def hat(k:Nat):Nat->Prop:=fun i=>i=k
def G5(ho:Nat->Prop)(us:List al):BS:=fun b=>∃i u,us[i]? =aj u/\¬ho i/\ob u b
def FamP{β:Type}(R:lD β)(E:aT)(ho:Nat->Prop)(us:List al)(ss:List (List β))(w:aq)(A:BS):Prop:=
 us.length=ss.length/\
 (∀i u s,us[i]? =aj u->ss[i]? =aj s->¬ho i->cu R E w (fun b=>A b\/G5 ho us b) u s)/\
 (∀i j u v,i≠j->¬ho i->¬ho j->us[i]? =aj u->us[j]? =aj v->∀b,ob u b->¬ob v b)
theorem FamP.at{β:Type}{R:lD β}{E:aT}{ho:Nat->Prop}{us:List al}{ss:List (List β)}{w:aq}{A:BS}(h:FamP R E ho us ss w A){i:Nat}{u:al}(a:us[i]? =aj u):∃s,ss[i]? =aj s:=by
  have:i<us.length:=by
    rcases cF i us.length with h|h
    · exact h
    · rw[bt h]at a;cases a
  exact⟨ss[i]'(h.1▸this),bc _⟩
def bP{β:Type}(R:lD β)(E:aT)(ho:Nat->Prop)(us:List al)(ss:List (List β)):Pce where
  own:=G5 ho us
  P w A:=FamP R E ho us ss w A
  lt:=by
    rintro w A b h⟨i,u,h1,h2,h3⟩;obtain⟨s,hs⟩:=h.at h1;exact(h.2.1 i u s h1 hs h2).lt b h3
  go:=by
    rintro w w' A A' K⟨h1,h2,h3⟩hk hK hKo hA;refine⟨h1,fun i u s hu hs hi=>(h2 i u s hu hs hi).go hk (fun b hb hl=>.inl<|hK b hb hl) (fun b hb ho=>hKo b hb ⟨i,u,hu,hi,ho⟩) fun b hb hl=>?_,h3⟩;rcases hb with hb|hb
    · exact .inl<|hA b hb hl
    · exact .inl<|.inr hb
section
variable{α β:Type}{N:Rm α β}{R:lD β}{E Es T:aT}{w0 w w':aq}{M K A:BS}{hp:Nat->Chunk}{v u u':al}{us us':List al}{L L':List α}{ss ss':List (List β)}{s:List β}{x y:α}{k:Nat}{ho ho':Nat->Prop}
theorem EG(hp:Nat->Chunk)(i:Nat)(a c:Chunk):bV (bV hp i a) i c=bV hp i c:=by
  funext j;by_cases e:j=i
  · subst e;rw[bW,bW]
  · rw[dZ e,dZ e,dZ e]
theorem hupd_comm(hp:Nat->Chunk){i j:Nat}(a c:Chunk)(h:i≠j):bV (bV hp i a) j c=bV (bV hp j c) i a:=by
  funext x;by_cases e:x=i
  · subst e;rw[bW,dZ h,bW]
  · by_cases b:x=j
    · subst b;rw[bW,dZ e,bW]
    · rw[dZ b,dZ e,dZ e,dZ b]
theorem SH.XD(h:SH w0 M K w hp)(j:Nat)(a:hp j=.eX (bP R E ho us ss)):FamP R E ho us ss w (SH.A M hp):=h.pceAt j a
theorem SH.jT(h:SH w0 M K w hp)(j:Nat)(a:hp j=.eX (bP R E ho us (L.map N.sub))):us.length=L.length:=by
 have:=(h.XD j a).1;rw[cH]at this;exact this
theorem gN(h:us.length=L.length):(L.zip us).length=L.length:=by rw[eV];omega
theorem gP(b:L[k]? =aj x)(a:us[k]? =aj u):(L.zip us)[k]? =aj (x,u):=by
 rw[ox];exact⟨b,a⟩
theorem YG(a:us[k]? =aj u):(L.zip us).set k (y,u)=(L.set k y).zip us:=by
  apply df;intro i;rw[eW];by_cases e:k=i
  · subst e;rw[if_pos rfl];by_cases b:k<L.length
    · rw[gP (x:=y) (u:=u) (by rw[ir b]) a];have:k<us.length:=by
        rcases cF k us.length with h|h
        · exact h
        · rw[bt h]at a;cases a
      rw[if_pos (by rw[eV];omega)]
    · rw[if_neg (by rw[eV];omega),bt (by rw[eV,cm];omega)]
  · rw[if_neg e];simp only[my,lP,dB e]
theorem TC(a:L[k]? =aj x):(L.zip us).set k (x,u)=L.zip (us.set k u):=by
  apply df;intro i;rw[eW];by_cases e:k=i
  · subst e;rw[if_pos rfl];by_cases b:k<us.length
    · rw[gP (x:=x) (u:=u) a (by rw[ir b])];have:k<L.length:=by
        rcases cF k L.length with h|h
        · exact h
        · rw[bt h]at a;cases a
      rw[if_pos (by rw[eV];omega)]
    · rw[if_neg (by rw[eV];omega),bt (by rw[eV,cm];omega)]
  · rw[if_neg e];simp only[my,lP,dB e]
theorem Cu(a:L[k]? =aj y):L.set k y=L:=by
  apply df;intro i;rw[eW];by_cases e:k=i
  · subst e;by_cases b:k<L.length
    · rw[if_pos rfl,if_pos b,a]
    · rw[bt V]at a;cases a
  · rw[if_neg e]
theorem oh{z:α}(a:L[k]? =aj x):(L.set k z)[k]? =aj z:=by
  rw[ir];rcases cF k L.length with h|h
  · exact h
  · rw[bt h]at a;cases a
theorem Vh(a:us[k]? =aj u):(us.set k u')[k]? =aj u':=oh a
theorem own_re{l b:List (α×al)}(h:cu N.raw E w A v l)(d:b.length=l.length)(g:∀(i:Nat) (p a:α×al),l[i]? =aj p->b[i]? =aj a->N.enc a.1 a.2=N.enc p.1 p.2/\a.2=p.2):cu N.raw E w A v b:=by
 obtain⟨xs,e,f⟩:=h;refine⟨xs,by rw[d];exact e,fun i c=>?_⟩;obtain⟨j,k⟩:=f i<|d▸c;obtain⟨n,m⟩:=g i _ _ (bc<|d▸c)<|bc c;exact⟨j.trans n.symm,by rw[m];exact k⟩
theorem SH.rawRe(h:SH w0 M K w hp)(i:Nat)(f:hp i=.own N.raw E v (L.zip us))(g:L[k]? =aj x)(n:∀u,N.enc y u=N.enc x u):SH w0 M K w (bV hp i (.own N.raw E v ((L.set k y).zip us))):=by
  refine h.step i (bL.refl BE w) (fun _ h=>h.elim) (fun b d _=>by rw[f];exact d) ?_;have ho:=h.ok i;rw[f]at ho;refine Chunk.sub (O:=iU hp) (c:=.own N.raw E v ((L.set k y).zip us)) ?_ fun b d _=>?_
  · refine own_re ho (by rw[eV,eV,cm]) fun i p q hp a=>?_;rw[ox]at hp a;rw[eW]at a;have l:=cN<|hp.2.symm.trans a.2;by_cases e:k=i
    · subst e;have o:k<L.length:=by
        rcases cF k L.length with h|h
        · exact h
        · rw[bt h]at g;cases g
      rw[if_pos rfl,if_pos o]at a;have j:=cN a.1;have m:=cN<|g.symm.trans hp.1;rw[<-l,<-j,<-m];exact⟨n _,Z⟩
    · rw[if_neg e]at a;have j:=cN<|hp.1.symm.trans a.1;rw[<-l,<-j];exact⟨Z,Z⟩
  · rcases d with d|d
    · exact lF d
    · exact⟨i,by rw[f];exact d⟩
theorem SH.famRe(h:SH w0 M K w hp)(j:Nat)(m:hp j=.eX (bP R E ho us ss))(r:us'.length=ss'.length)(d:∀i,¬ho i->us'[i]? =us[i]? /\ss'[i]? =ss[i]?):SH w0 M K w (bV hp j (.eX (bP R E ho us' ss'))):=by
 have l:=h.XD j m;have a:∀b,G5 ho us' b->G5 ho us b:=fun b⟨i,u,p,n,t⟩=>⟨i,u,(d i n).1▸p,n,t⟩;refine h.MN j m ?_ (bL.refl _ _) fun b f _=>a b f;refine⟨r,fun i u s g o c=>?_,fun i j u v k c e g q=>l.2.2 i j u v k c e ((d i c).1▸g) ((d j e).1▸q)⟩;refine(l.2.1 i u s ((d i c).1▸g) ((d i c).2▸o) c).go (bL.refl BE w) (fun _ h=>h.elim) (fun _ h=>h.elim) fun b f _=>.inl<|f.imp id<|a b
theorem SH.famL(h:SH w0 M K w hp)(j:Nat)(y:α)(a:hp j=.eX (bP R E (hat k) us (L.map N.sub))):SH w0 M K w (bV hp j (.eX (bP R E (hat k) us ((L.set k y).map N.sub)))):=by
  refine h.famRe j a ?_ fun i b=>⟨Z,?_⟩
  · rw[cH,cm];exact h.jT j a
  · rw[gE,dB (fun e=>b e.symm)]
theorem SH.famU(h:SH w0 M K w hp)(j:Nat)(u:al)(a:hp j=.eX (bP R E (hat k) us ss)):SH w0 M K w (bV hp j (.eX (bP R E (hat k) (us.set k u) ss))):=by
  refine h.famRe j a ?_ fun i b=>⟨?_,Z⟩
  · rw[cm];exact(h.XD j a).1
  · rw[dB (fun e=>b e.symm)]
theorem SH.famOpen(h:SH w0 M K w hp)(j m:Nat)(B:hp j=.eX (bP R E ho us ss))(C:hp m=.no)(p:j≠m)(d:us[k]? =aj u)(F:ss[k]? =aj s)(n:¬ho k)(ho':Nat->Prop)(g:∀i,ho' i↔ho i\/i=k):
    SH w0 M K w (bV (bV hp j (.eX (bP R E ho' us ss))) m (.own R E u s)):=by
  have l:=h.XD j B;have c:∀b,G5 ho' us b->G5 ho us b:=fun b⟨i,u,o,f,A⟩=>⟨i,u,o,fun h=>f ((g i).2<|.inl h),A⟩;have x:(Chunk.two (.eX<|bP R E ho' us ss)<|.own R E u s).holds w M (SH.av hp j<|Chunk.two (.eX<|bP R E ho' us ss)<|.own R E u s):=by
    refine⟨⟨l.1,fun i v t z G q=>?_,fun i j u v y q r d z=>l.2.2 i j u v y (fun h=>q ((g i).2<|.inl h)) (fun h=>r ((g j).2<|.inl h)) d z⟩,?_,?_⟩
    · refine(l.2.1 i v t z G fun h=>q ((g i).2<|.inl h)).go (bL.refl BE w) (fun _ h=>h.elim) (fun _ h=>h.elim) fun b a _=>.inl ?_;rcases a with(a|a|a)|a
      · exact .inl<|.inl a
      · exact .inl<|.inr<|lF a
      · rcases a with a|a
        · exact .inr<|c b a
        · exact .inr ⟨k,u,d,n,a⟩
      · exact .inr<|c b a
    · refine(l.2.1 k u s d F n).go (bL.refl BE w) (fun _ h=>h.elim) (fun _ h=>h.elim) fun b a _=>.inl ?_;rcases a with a|a|a
      · exact .inl<|.inl a
      · exact .inl<|.inr<|lF a
      · rcases a with a|a
        · exact .inr<|c b a
        · exact .inr ⟨k,u,d,n,a⟩
    · rintro b⟨i,v,o,f,A⟩a;exact l.2.2 i k v u (fun e=>f ((g i).2<|.inr e)) (fun h=>f ((g i).2<|.inl h)) n o d b A a
  have o:=h.step j (bL.refl BE w) (fun _ h=>h.elim) (fun b a _=>by
    rw[B];rcases a with a|a
    · exact c b a
    · exact⟨k,u,d,n,a⟩) x
  have f:=o.unpair j m p (bW _ _ _) (by rw[dZ (Ne.symm p)];exact C);rw[EG]at f;exact f
theorem SH.La(h:SH w0 M K w hp)(j m:Nat)(O:hp j=.eX (bP R E ho us ss))(P:hp m=.own R E u s)(a0:j≠m)(x:us[k]? =aj u)(hk:ho k)(ho':Nat->Prop)(h':∀i,ho i↔ho' i\/i=k)(X:¬ho' k):
    SH w0 M K w (bV (bV hp m .no) j (.eX (bP R E ho' us (ss.set k s)))):=by
  have n:=h.pair j m a0;have a:∀i,¬ho' i->i=k\/¬ho i:=fun i A=>by
    by_cases e:i=k
    · exact .inl e
    · exact .inr fun h=>((h' i).1 h).elim A e
  have o:∀b,G5 ho' us b->G5 ho us b\/ob u b:=fun b⟨i,v,n,y,N⟩=>by
    rcases a i y with rfl|h4
    · rw[x]at n;cases n;exact .inr N
    · exact .inl ⟨i,v,n,h4,N⟩
  have T:∀b,G5 ho us b\/ob u b->G5 ho' us b:=fun b d=>by
    rcases d with⟨i,v,n,y,N⟩|d
    · exact⟨i,v,n,fun h=>y ((h' i).2<|.inl h),N⟩
    · exact⟨k,u,x,X,d⟩
  have l:=n.ok j;have S:bV (bV hp m .no) j (.two (hp j)<|hp m)=bV (bV hp m .no) j (.two (.eX<|bP R E ho us ss)<|.own R E u s):=by rw[O,P]
  rw[bW,O,P]at l;have y:=n.step (c:=.eX (bP R E ho' us (ss.set k s))) j (bL.refl BE w) (fun _ h=>h.elim) (fun b d _=>by
    rw[bW,O,P];exact o b d) ?_
  · rw[EG]at y;exact y
  · rw[S];have hA:∀b,(M b\/SH.av (bV (bV hp m .no) j<|.two (.eX<|bP R E ho us ss)<|.own R E u s) j (.eX<|bP R E ho' us<|ss.set k s) b)\/G5 ho' us b->(M b\/iU (bV (bV hp m .no) j<|.two (.eX<|bP R E ho us ss)<|.own R E u s) b):=by
      have B:∀b,G5 ho' us b->iU (bV (bV hp m .no) j (.two (.eX (bP R E ho us ss)) (.own R E u s))) b:=fun b d=>⟨j,by rw[bW];exact o b d⟩;rintro b((d|d|d)|d)
      · exact .inl d
      · exact .inr<|lF d
      · exact .inr<|B b d
      · exact .inr<|B b d
    refine⟨by rw[cm];exact l.1.1,fun i v t p I A=>?_,fun i q v v' F A C p g b d r=>?_⟩
    · by_cases e:i=k
      · subst e;rw[x]at p;cases p;have Q:i<ss.length:=by
          obtain⟨s',G⟩:=l.1.at x;rcases cF i ss.length with h|h
          · exact h
          · rw[bt h]at G;cases G
        rw[ir Q]at I;cases I;refine cu.go l.2.1 (bL.refl BE w) (fun _ h=>h.elim) (fun _ h=>h.elim) fun b d _=>.inl<|hA b d
      · rw[dB (fun h=>e h.symm)]at I;have f:¬ho i:=(a i A).resolve_left e;refine(l.1.2.1 i v t p I f).go (bL.refl BE w) (fun _ h=>h.elim) (fun _ h=>h.elim) fun b d _=>.inl<|.inl<|hA b d
    · by_cases e:i=k
      · have L:q≠k:=fun h=>F<|e.trans h.symm;have f:¬ho q:=(a q C).resolve_left L;subst e;rw[x]at p;cases p;exact l.2.2 b ⟨q,v',g,f,r⟩ d
      · have f:¬ho i:=(a i A).resolve_left e;by_cases L:q=k
        · subst L;rw[x]at g;cases g;exact l.2.2 b ⟨i,v,p,f,d⟩ r
        · have z:¬ho q:=(a q C).resolve_left L;exact l.1.2.2 i q v v' F f z p g b d r
end
open Go.RowKit Go.Proofs
section
variable{α β:Type}{N:Rm α β}{R:lD β}{E Es T:aT}{w0 w w':aq}{M K A:BS}{hp:Nat->Chunk}{v u u':al}{us us' wS:List al}{L L':List α}{ss ss' ss2:List (List β)}{s:List β}{x y:α}{k:Nat}{ho ho':Nat->Prop}
theorem MO{a:Type}{l:List a}{z:a}(h:l[k]? =aj z):k<l.length:=by
  rcases cF k l.length with h1|h1
  · exact h1
  · rw[bt h1]at h;cases h
theorem SH.dnOpen(h:SH w0 M K w hp)(j m:Nat)(c:hp j=.eX (bP R Es hn us (L.map N.sub)))(e:hp m=.no)(b:j≠m)(d:L[k]? =aj x):
  ∃u,us[k]? =aj u/\SH w0 M K w (bV (bV hp j (.eX (bP R Es (hat k) us (L.map N.sub)))) m (.own R Es u (N.sub x))):=by
 have f:=h.jT j c;have a:=MO d;exact⟨us[k]'(f▸a),bc _,h.famOpen j m c e b (bc _) (by rw[ef,d];rfl) (fun h=>h) _ (fun i=>⟨.inr,fun h=>h.elim (fun h=>h.elim) id⟩)⟩
theorem SH.BI(h:SH w0 M K w hp)(i j m:Nat)(y:α)(n:hp i=.own N.raw E v (L.zip us))(l:hp j=.eX (bP R Es (hat k) us (L.map N.sub)))(p:hp m=.own R Es u s)(a:i≠j)(b:i≠m)(c:j≠m)(o:L[k]? =aj x)(g:us[k]? =aj u)(d:y=N.put x s):
  SH w0 M K w (bV (bV (bV hp m .no) j (.eX (bP R Es hn us ((L.set k y).map N.sub)))) i (.own N.raw E v ((L.set k y).zip us))):=by
 have q:=h.La j m l p c g Z hn (fun i=>⟨.inr,fun h=>h.elim (fun h=>h.elim) id⟩) fun h=>h;have f:=q.rawRe (N:=N) (x:=x) (y:=y) (k:=k) (E:=E) (v:=v) i (by rw[dZ a,dZ b];exact n) o (fun u=>by rw[d];exact N.TA _ _ _);have e:(L.map N.sub).set k s=(L.set k y).map N.sub:=by rw[gE,d,N.TB]
 rw[e]at f;exact f
theorem SH.l8(h:SH w0 M K w hp)(j m:Nat)(d:hp j=.eX (bP R Es (hat k) us (L.map N.sub)))(l:hp m=.own R Es u s)(a:j≠m)(g:L[k]? =aj x)(c:us[k]? =aj u)(f:N.sub x=s):
  SH w0 M K w (bV (bV hp m .no) j (.eX (bP R Es hn us (L.map N.sub)))):=by
 have b:=h.La j m d l a c Z hn (fun i=>⟨.inr,fun h=>h.elim (fun h=>h.elim) id⟩) fun h=>h;have e:(L.map N.sub).set k s=L.map N.sub:=Cu (by rw[ef,g,<-f];rfl);rw[e]at b;exact b
theorem SH.famNew(h:SH w0 M K w hp)(m:Nat)(g:hp m=.own R Es u s):SH w0 M K w (bV hp m (.eX (bP R Es hn [u] [s]))):=by
  have ho:=h.ok m;rw[g]at ho;have c:∀b,G5 hn [u] b->ob u b:=by
    rintro b⟨i,v,k,_,l⟩;cases i with
    |zero=>cases k;exact l
    |succ i=>cases k
  refine h.step m (bL.refl BE w) (fun _ h=>h.elim) (fun b a _=>by rw[g];exact c b a) ⟨Z,fun i v t d f _=>?_,fun i j v t e _ _ d f=>?_⟩
  · cases i with
    |succ i=>cases d
    |zero=>
      cases d;cases f;refine cu.go ho (bL.refl BE w) (fun _ h=>h.elim) (fun _ h=>h.elim) fun b a _=>?_;rcases a with(a|a|a)|a
      · exact .inl<|.inl a
      · exact .inl<|.inr<|lF a
      · exact .inr<|c b a
      · exact .inr<|c b a
  · cases i with
    |zero=>cases j with
      |zero=>exact absurd Z e
      |succ j=>cases f
    |succ i=>cases d
theorem SH.famNil(h:SH w0 M K w hp)(j:Nat):SH w0 M K w (bV hp j (.eX (bP R Es hn [] []))):=
  h.learn j (bL.refl BE w) (by rintro b ⟨i,u,c,_⟩;cases c) (by
    refine⟨Z,?_,?_⟩
    · intro i v t a;cases a
    · intro i j v t _ _ _ a;cases a)
theorem SH.G6(h:SH w0 M K w hp)(j m:Nat)(A:hp j=.eX (bP R Es hn us ss))(B:hp m=.eX (bP R Es hn wS ss2))(z:j≠m):SH w0 M K w (bV (bV hp m .no) j (.eX (bP R Es hn (us++wS) (ss++ss2)))):=by
  have e:=h.pair j m z;have k:=e.ok j;rw[A,B]at e;rw[bW,A,B]at k;have n:∀b,G5 hn (us++wS) b->G5 hn us b\/G5 hn wS b:=by
    rintro b⟨i,v,e,_,o⟩;rw[gw]at e;split at e
    · exact .inl ⟨i,v,e,fun h=>h,o⟩
    · exact .inr ⟨_,v,e,fun h=>h,o⟩
  have u:∀b,G5 hn us b\/G5 hn wS b->G5 hn (us++wS) b:=by
    rintro b(⟨i,v,e,_,o⟩|⟨i,v,e,_,o⟩)
    · exact⟨i,v,by rw[kh (MO e)];exact e,fun h=>h,o⟩
    · exact⟨us.length+i,v,by rw[gx V,Nat.add_sub_cancel_left];exact e,fun h=>h,o⟩
  have E:=e.step (c:=.eX (bP R Es hn (us++wS) (ss++ss2))) j (bL.refl BE w) (fun _ h=>h.elim) (fun b a _=>by rw[bW];exact n b a) ?_
  · rw[EG]at E;exact E
  · have C:∀b,(M b\/SH.av (bV (bV hp m .no) j<|.two (.eX<|bP R Es hn us ss)<|.eX<|bP R Es hn wS ss2) j (.eX<|bP R Es hn (us++wS)<|ss++ss2) b)\/G5 hn (us++wS) b->(M b\/iU (bV (bV hp m .no) j<|.two (.eX<|bP R Es hn us ss)<|.eX<|bP R Es hn wS ss2) b):=by
      have q:∀b,G5 hn (us++wS) b->iU (bV (bV hp m .no) j (.two (.eX (bP R Es hn us ss)) (.eX (bP R Es hn wS ss2)))) b:=fun b a=>⟨j,by rw[bW];exact n b a⟩;rintro b((a|a|a)|a)
      · exact .inl a
      · exact .inr<|lF a
      · exact .inr<|q b a
      · exact .inr<|q b a
    have F:=k.1.1;have G:=k.2.1.1;refine⟨by simp only[bk];omega,fun i v t f p _=>?_,fun i y v s x _ _ f d b a l=>?_⟩
    · rw[gw]at f p;by_cases r:i<us.length
      · rw[if_pos r]at f;rw[if_pos V]at p;exact(k.1.2.1 i v t f p fun h=>h).go (bL.refl BE w) (fun _ h=>h.elim) (fun _ h=>h.elim) fun b a _=>.inl<|.inl<|C b a
      · rw[if_neg r]at f;rw[if_neg V,<-F]at p;exact(k.2.1.2.1 _ v t f p fun h=>h).go (bL.refl BE w) (fun _ h=>h.elim) (fun _ h=>h.elim) fun b a _=>.inl<|.inl<|C b a
    · rw[gw]at f d;by_cases r:i<us.length
      · rw[if_pos r]at f;by_cases g:y<us.length
        · rw[if_pos g]at d;exact k.1.2.2 i y v s x (fun h=>h) (fun h=>h) f d b a l
        · rw[if_neg g]at d;exact k.2.2 b ⟨_,v,f,fun h=>h,a⟩ ⟨_,s,d,fun h=>h,l⟩
      · rw[if_neg r]at f;by_cases g:y<us.length
        · rw[if_pos g]at d;exact k.2.2 b ⟨_,s,d,fun h=>h,l⟩ ⟨_,v,f,fun h=>h,a⟩
        · rw[if_neg g]at d;exact k.2.1.2.2 _ _ v s V (fun h=>h) (fun h=>h) f d b a l
theorem SH.famTake(h:SH w0 M K w hp)(j n:Nat)(l:hp j=.eX (bP R Es hn us (L.map N.sub))):SH w0 M K w (bV hp j (.eX (bP R Es hn (us.take n) ((L.take n).map N.sub)))):=by
  have f:=h.XD j l;have hat:∀(i:Nat) (u:al),(us.take n)[i]? =aj u->us[i]? =aj u/\i<n:=fun i u a=>by
    rw[cf]at a;split at a
    · exact⟨a,by assumption⟩
    · cases a
  have c:∀b,G5 hn (us.take n) b->G5 hn us b:=fun b⟨i,u,p,q,t⟩=>⟨i,u,(hat i u p).1,q,t⟩;refine h.MN j l ?_ (bL.refl _ _) fun b g _=>c b g;have o:=f.1;rw[cH]at o;refine⟨by rw[ca,cH,ca];omega,fun i u s a m d=>?_,fun i j u v k d e a r=>f.2.2 i j u v k d e (hat i u a).1 (hat j v r).1⟩;rw[List.map_take,cf,if_pos (hat i u a).2]at m;refine(f.2.1 i u s (hat i u a).1 m d).go (bL.refl BE w) (fun _ h=>h.elim) (fun _ h=>h.elim) fun b g _=>.inl<|g.imp id<|c b
theorem zip_take'(n:Nat):(L.zip us).take n=(L.take n).zip (us.take n):=by
 apply df;intro i;simp only[my,cf,lP];split<;>rfl
theorem J6{a:List α}(h:us.length=L.length):(L.zip us)++(a.zip wS)=(L++a).zip (us++wS):=(List.zip_append h.symm).symm
theorem vQ{P:cc}{ρ:bo->al}{d:Option Nat}{ty:aT}{pos:String}{af:Array hO}{g:Option (Nat×Bool)}{a:bo}{e:Nat}{B A:BS}{b:aq}(j:SliceOf P T E e)(c:ρ a=v)(f:eF N.raw b B A v (L.zip us))(i:us.length=L.length):
  (bl ρ ⟨d,.call {callee:=.builtin .len,args:= #[a],argTypes:= #[T]},ty,pos,af,g⟩).run P w=.ok (.value (.int .i64 L.length)) w:=by
 have h:=fV (P:=P) (w:=w) (d:=d) (ty:=ty) (pos:=pos) (af:=af) (g:=g) j c f;rw[gN i]at h;exact h
theorem SH.Lb{R':lD α}(h:SH w0 M K w hp)(i j:Nat)(p:hp i=.own N.raw E v (L.zip us))(l:hp j=.eX (bP R Es hn us (L.map N.sub)))(t:i≠j)(n:R'.sz=N.sz)(br:∀w A x u,di R w A u (N.sub x)->R'.rd w A (N.enc x u) x):SH w0 M K w (bV (bV hp j .no) i (.rd R' v L)):=by
  have r:=h.jT j l;have m:=h.pair i j t;have k:=m.apart i;have z:=m.apM i;have s:=m.ok i;rw[bW]at k z;rw[bW,p,l]at s;have G:=m.step (c:=.rd R' v L) i (bL.refl BE w) (fun _ h=>h.elim) (fun b d _=>d.elim) ?_
  · rw[EG]at G;exact G
  · have hno:∀b,(hp i).own' b\/(hp j).own' b->¬(M b\/SH.av (bV (bV hp j .no) i<|.two (hp i)<|hp j) i (.rd R' v L) b):=by
      intro b d f;rcases f with f|⟨q,g,f⟩|f
      · exact z b d f
      · exact k q (fun e=>g e.symm) b d f
      · exact f
    have y:∀b,(M b\/SH.av (bV (bV hp j .no) i<|.two (hp i)<|hp j) i (.rd R' v L) b)->M b\/iU (bV (bV hp j .no) i<|.two (.own N.raw E v<|L.zip us)<|.eX<|bP R Es hn us<|L.map N.sub) b:=by
      rw[p,l];rintro b(d|d|d)
      · exact .inl d
      · exact .inr<|lF d
      · exact d.elim
    have T:di N.raw w (fun b=>M b\/SH.av (bV (bV hp j .no) i<|.two (hp i)<|hp j) i (.rd R' v L) b) v (L.zip us):=
      cu.rd s.1 (fun b d=>hno b (.inl (by rw[p];exact d))) (fun b d _=>.inl (y b d))
    obtain⟨a,cap,B,I,e3,Q,e5⟩:=T;rw[gN r]at B I;refine⟨a,cap,B,I,e3,Q,fun q g=>?_⟩;obtain⟨b,o,cells,F,S,q1,X,O,C⟩:=e5 q (by rw[gN r];exact g);refine⟨b,o,cells,F,S,q1,X,O,?_⟩;rw[n];have P:(L.zip us)[q]'(by rw[gN r];exact g)=(L[q],us[q]'V):=by simp
    rw[P]at C;obtain⟨q5,_⟩:=C;have q6:((cells.toList.drop<|o+q*N.sz).take N.sz)=N.enc L[q] (us[q]'V):=q5;rw[q6];refine br _ _ _ _ (cu.rd (s.2.1.2.1 q _ _ (bc V) (by rw[ef,bc g];rfl) (fun h=>h)) (fun b d=>hno b (.inr (by rw[l];exact⟨q,_,bc V,fun h=>h,d⟩))) (fun b d _=>.inl (.inl (y b d))))
theorem SH.moveC(h:SH w0 M K w hp)(j i:Nat){c:Chunk}(q:hp j=c)(u:hp i=.no)(t:j≠i):SH w0 M K w (bV (bV hp j .no) i c):=by
  subst q;have f:∀x b,(bV (bV hp j .no) i (hp j) x).own' b->∃y,(hp y).own' b/\(x=i->y=j)/\(x≠i->y=x/\x≠j):=by
    intro x b a;by_cases e:x=i
    · subst e;rw[bW]at a;exact⟨j,a,fun _=>rfl,fun h=>absurd Z h⟩
    · rw[dZ e]at a;by_cases d:x=j
      · subst d;rw[bW]at a;exact a.elim
      · rw[dZ d]at a;exact⟨x,a,fun h=>absurd h e,fun _=>⟨Z,d⟩⟩
  have g:∀b,iU (bV (bV hp j .no) i<|hp j) b->iU hp b:=fun b⟨x,n⟩=>let ⟨y,k,_⟩:=f x b n;⟨y,k⟩;refine⟨h.keep,h.ltM,fun x b a=>let ⟨y,k,_⟩:=f x b a;h.apM y b k,fun x=>?_,fun x y l b n k=>?_,fun x b a=>let ⟨y,k,_⟩:=f x b a;h.old y b k⟩
  · by_cases e:x=i
    · subst e;rw[bW];exact Chunk.sub (h.ok j) fun b a _=>g b a
    · rw[dZ e];by_cases d:x=j
      · subst d;rw[bW];trivial
      · rw[dZ d];exact Chunk.sub (h.ok x) (fun b a _=>g b a)
  · obtain⟨x',r,s,o⟩:=f x b n;obtain⟨p,k1,k2,m⟩:=f y b k;have:x'≠p:=by
      by_cases e:x=i
      · have d:y≠i:=fun h=>l<|e.trans h.symm;rw[s e,(m d).1];exact fun h=>(m d).2 h.symm
      · by_cases d:y=i
        · rw[k2 d,(o e).1];exact(o e).2
        · rw[(o e).1,(m d).1];exact l
    exact h.apart x' p this b r k1
def dn(β:Type):Rm (List β) β where
 sz:=1
 enc _ u:=[u]
 sub x:=x
 put _ s:=s
 len _ _:=rfl
 one:=by intro x u h c hc;simp at hc;subst hc;exact h
 pos:=by decide
 TA _ _ _:=rfl
 TB _ _:=rfl
theorem TD{R:lD β}:∀w A (x:List β) u,di R w A u ((dn β).sub x)->(yJ R).rd w A ((dn β).enc x u) x:=fun _ _ _ u h=>⟨u,rfl,h⟩
end
open Go.RowKit Go.Proofs
section
variable{P:cc}{w:aq}{ρ:bo->al}{d:Option Nat}{ty:aT}{pos:String}{af:Array hO}{g:Option (Nat×Bool)}{T:aT}{x y:bo}
theorem SH.J7{α β:Type}{N:Rm α β}{R:lD β}{E:aT}{w0:aq}{M K:BS}{hp:Nat->Chunk}{u:al}{s:List β}(h:SH w0 M K w hp)(m:Nat)(x:α)(a:hp m=.own R E u s)(b:N.sub x=s):SH w0 M K w (bV hp m (.eX (bP R E hn [u] (List.map N.sub [x])))):=by
 subst b;exact h.famNew m a
theorem us_at{α:Type}{us:List al}{L:List α}{k:Nat}{z:α}(h:us.length=L.length)(a:L[k]? =aj z):∃u,us[k]? =aj u:=by
 have:=MO a;exact⟨us[k]'(h▸this),bc _⟩
end
open Go.RowKit Go.Proofs
section
variable{α:Type}{R:lD α}{E:aT}{w0 w w':aq}{M K:BS}{hp:Nat->Chunk}{C C':Chunk}{v:al}{l:List α}
theorem qW:∀b,iU (bV hno 1 C) b->C.own' b:=by
  rintro b⟨j,a⟩;by_cases e:j=1
  · subst e;rw[bW]at a;exact a
  · rw[dZ e]at a;exact a.elim
theorem iX{i:Nat}(hn:∀b,iU hp b->C.own' b):∀b,iU (bV hp i (.rd R v l)) b->C.own' b:=by
  rintro b⟨j,a⟩;by_cases e:j=i
  · subst e;rw[bW]at a;exact a.elim
  · rw[dZ e]at a;exact hn b ⟨j,a⟩
theorem SH.ku(h:SH w M K w hp)(i:Nat)(ho:di R w (fun b=>M b\/C.own' b) v l)(hn:∀b,iU hp b->C.own' b):SH w M K w (bV hp i (.rd R v l)):=
 h.aK i (ho.sub (fun b a _=>a.imp id (hn b)) (fun b a _=>a.imp id (hn b)))
theorem SH.lendS(h:SH w0 M K w hp)(i:Nat)(c:hp i=C)(a:C.Tv):C.holds w (fun b=>M b\/rest hp i b) C.own'/\(∀b,C.own' b->¬(M b\/rest hp i b))/\(∀b,(M b\/rest hp i b)->b<w.heap.size):=by
 subst c;exact h.lendC i a
theorem SH.yl(h:SH w0 M K w hp)(i j:Nat)(e:hp j=.rd R v l)(d:hp i=C):di R w (fun b=>(M b\/rest hp i b)\/C.own' b) v l:=by
  have c:∀b,(M b\/rest hp i b)\/C.own' b->SH.A M hp b:=by
    rintro b((a|a)|a)
    · exact .inl a
    · exact .inr<|lF a
    · exact .inr ⟨i,by rw[d];exact a⟩
  exact(h.bC j e).sub (fun b a _=>c b a) fun b a _=>c b a
theorem SH.back(h:SH w0 M K w hp)(i:Nat)(a:hp i=C)(c:C'.Tv)(d:C'.holds w' (fun b=>M b\/rest hp i b) C'.own')(e:bL C.own' w w')(hn:∀b,C'.own' b->b<w.heap.size->C.own' b):SH w0 M K w' (bV hp i C'):=by
 subst a;exact h.givenC i c d e hn
theorem fE{i:Nat}(h:di R w (fun b=>(M b\/rest hp i b)\/C.own' b) v l):di R w (SH.A M (bV hp i C)) v l:=by
  have a:∀b,SH.A M (bV hp i C) b->(M b\/rest hp i b)\/C.own' b:=by
    rintro b(c|⟨j,d⟩)
    · exact .inl<|.inl c
    · by_cases e:j=i
      · subst e;rw[bW]at d;exact .inr d
      · rw[dZ e]at d;exact .inl (.inr ⟨j,e,d⟩)
  exact h.sub (fun b c _=>a b c) fun b c _=>a b c
theorem SH.bU(h:SH w0 M K w hp)(i j:Nat)(e:hp j=.rd R v l)(d:hp i=C):di R w (fun b=>M b\/C.own' b) v l:=by
  have c:∀b,M b\/C.own' b->SH.A M hp b:=by
    rintro b(a|a)
    · exact .inl a
    · exact .inr ⟨i,by rw[d];exact a⟩
  exact(h.bC j e).sub (fun b a _=>c b a) fun b a _=>c b a
theorem SH.outS(h:SH w0 M K w hp)(i:Nat)(c:hp i=C)(a:C.Tv):C.holds w M C.own'/\bL K w0 w/\(∀b,C.own' b->b<w0.heap.size->K b):=h.outC i c a
end
section
variable{P:cc}{ops:Array ee}{Q:fg->Act->aq->Prop}{n:Nat}{env:Nat->al}{w:aq}
theorem At.hold{w w':aq}{L:BS}{b o:Nat}{cs:List al}(h:At w b o cs)(d:bL L w w')(hn:¬L b):At w' b o cs:=by
 obtain⟨cells,E,a,e,c⟩:=h;exact⟨cells,E,a,d.blk e hn,c⟩
theorem fin4{g:Func}{R:Ending->aq->Prop}{t u a c:Tmp}{v1 v2 v3 v4:al}(i:g.results= #[.tmp t,.tmp u,.tmp a,.tmp c])(k:ev n env (.tmp t)=v1)(l:ev n env (.tmp u)=v2)(m:ev n env (.tmp a)=v3)(j:ev n env (.tmp c)=v4)(h:R (.returned (.tuple #[v1,v2,v3,v4])) w):jj P g R .ret (act n env) w:=by
 refine⟨Z,_,?_,h⟩;have d:=congrFun (gY n env)<|.tmp t;have f:=congrFun (gY n env)<|.tmp u;have e:=congrFun (gY n env)<|.tmp a;have b:=congrFun (gY n env)<|.tmp c;rw[k]at d;rw[l]at f;rw[m]at e;rw[j]at b;simp only[Act.eval]at d f e b;rw[cQ]at d f e b;unfold results;rw[i];simp[d,f,e,b]
end
structure Ins where
 op:Int
 a:Int
 b:Int
 c:Int
 args:List Int
deriving DecidableEq
def lu:lD Ins where
 sz:=5
 rd w A cs x:=∃XE,cs=[.int .i64 x.op,.int .i64 x.a,.int .i64 x.b,.int .i64 x.c,XE]/\di dh w A XE x.args
 len:=by rintro w A cs x ⟨XE,rfl,h0⟩;rfl
 one:=by rintro w A cs x ⟨XE,rfl,h0⟩ u hu;simp only[bn,de,or_false]at hu;rcases hu with rfl|rfl|rfl|rfl|rfl<;>first|rfl|exact h0.one
 pos:=by decide
 go:=by rintro w A cs x w2 A2 K ⟨XE,rfl,h0⟩ hk hK hA;exact⟨_,Z,h0.go hk hK hA⟩
theorem Lc{w:aq}{A:BS}{cs:List al}{x:Ins}(h:lu.rd w A cs x):∃d,cs=[.int .i64 x.op,.int .i64 x.a,.int .i64 x.b,.int .i64 x.c,d]/\di dh w A d x.args:=h
structure bA where
 params:Int
 regs:Int
 code:List Ins
deriving DecidableEq
def dG:lD bA where
 sz:=3
 rd w A cs x:=∃XF,cs=[.int .i64 x.params,.int .i64 x.regs,XF]/\di lu w A XF x.code
 len:=by rintro w A cs x ⟨XF,rfl,h0⟩;rfl
 one:=by rintro w A cs x ⟨XF,rfl,h0⟩ u hu;simp only[bn,de,or_false]at hu;rcases hu with rfl|rfl|rfl<;>first|rfl|exact h0.one
 pos:=by decide
 go:=by rintro w A cs x w2 A2 K ⟨XF,rfl,h0⟩ hk hK hA;exact⟨_,Z,h0.go hk hK hA⟩
theorem xN{w:aq}{A:BS}{cs:List al}{x:bA}(h:dG.rd w A cs x):∃a,cs=[.int .i64 x.params,.int .i64 x.regs,a]/\di lu w A a x.code:=h
structure Frame where
 proc:Int
 at_:Int
 regs:List Val
 jD:Int
deriving DecidableEq
def jM:lD Frame where
 sz:=4
 rd w A cs x:=∃XG,cs=[.int .i64 x.proc,.int .i64 x.at_,XG,.int .i64 x.jD]/\di bK w A XG x.regs
 len:=by rintro w A cs x ⟨XG,rfl,h0⟩;rfl
 one:=by rintro w A cs x ⟨XG,rfl,h0⟩ u hu;simp only[bn,de,or_false]at hu;rcases hu with rfl|rfl|rfl|rfl<;>first|rfl|exact h0.one
 pos:=by decide
 go:=by rintro w A cs x w2 A2 K ⟨XG,rfl,h0⟩ hk hK hA;exact⟨_,Z,h0.go hk hK hA⟩
theorem FE{w:aq}{A:BS}{cs:List al}{x:Frame}(h:jM.rd w A cs x):∃a,cs=[.int .i64 x.proc,.int .i64 x.at_,a,.int .i64 x.jD]/\di bK w A a x.regs:=h
structure State where
 frames:List Frame
 cells:List (List Val)
 status:Int
 bS:Int
deriving DecidableEq
def Ld:Rm bA Ins where
 sz:=3
 enc x u:=[.int .i64 x.params,.int .i64 x.regs,u]
 sub x:=x.code
 put x s:={x with code:=s}
 len _ _:=rfl
 one:=by intro x u h c hc;simp only[bn,de,or_false]at hc;rcases hc with rfl|rfl|rfl<;>first|rfl|exact h
 pos:=by decide
 TA _ _ _:=rfl
 TB _ _:=rfl
theorem nProc_br:∀w A (x:bA) u,di lu w A u (Ld.sub x)->dG.rd w A (Ld.enc x u) x:=fun _ _ _ u h=>⟨u,rfl,h⟩
def aS:Rm Frame Val where
 sz:=4
 enc x u:=[.int .i64 x.proc,.int .i64 x.at_,u,.int .i64 x.jD]
 sub x:=x.regs
 put x s:={x with regs:=s}
 len _ _:=rfl
 one:=by intro x u h c hc;simp only[bn,de,or_false]at hc;rcases hc with rfl|rfl|rfl|rfl<;>first|rfl|exact h
 pos:=by decide
 TA _ _ _:=rfl
 TB _ _:=rfl
theorem Le:∀w A (x:Frame) u,di bK w A u (aS.sub x)->jM.rd w A (aS.enc x u) x:=fun _ _ _ u h=>⟨u,rfl,h⟩
open Go.RowKit Go.Proofs
section
variable{P:cc}{ops:Array ee}{Q:fg->Act->aq->Prop}{n:Nat}{env:Nat->al}{w w' w0:aq}{M K:BS}{hp:Nat->Chunk}{rest:List ee}
 {d:Option Nat} {op:Op} {ty:aT} {pos:String} {af:Array hO} {v:al} {g:Option (Nat×Bool)} {T:aT} {ρ:bo->al} {x y:bo}
theorem fin_c{e:Func}{R:Ending->aq->Prop}{a:Tmp}{T:aT}{zs vs:List al}{b:Nat}(g:e.results= #[.cell a T])(m:ev n env (.tmp a)=.pointer (aj ⟨b,0,aw⟩))
  (f:SH w0 M K w hp) (i:Nat) (j:hp i=.blk b vs) (l:wH P T zs) (k:vs.length=zs.length) (h:R (.returned (.agg vs.toArray)) w):jj P e R .ret (act n env) w:=by
 refine⟨Z,_,?_,h⟩;have c:=congrFun (gY n env)<|.tmp a;rw[m]at c;simp only[Act.eval]at c;rw[cQ]at c;have d:=Dc (P:=P) f j l k Z;unfold results;rw[g];simp[c,asAddr,d]
end
theorem cutS_free{c:UInt8}{s:Str}(h:c∉s)(a:s.length<4294967281):cutS s [c]=aj (s,[],ao):=by
  unfold cutS;rw[ky a];rcases idx1 c s with⟨h1,h2⟩|⟨x,r,h1,h2,h3⟩
  · unfold mW;rw[h1,if_neg zq1]
  · exact absurd (by rw[h1];simp) h
theorem cutS_hit{c:UInt8}{x r:Str}(h:c∉x)(a:(x++c::r).length<4294967281):cutS (x++c::r) [c]=aj (x,r,ba):=by
  unfold cutS;rw[ky a];rcases idx1 c (x++c::r)with⟨h1,h2⟩|⟨y,q,h1,h2,h3⟩
  · exact absurd zq3 h2
  · have e:x=y/\r=q:=by
      have k1:=BX (r:=r) h;have k2:=BX (r:=q) h2;rw[<-h1,k1]at k2;injection k2 with k2 k3;subst k2;refine⟨Z,?_⟩;have:=List.append_cancel_left h1;injection this
    obtain⟨rfl,rfl⟩:=e;unfold mW;rw[h3,if_pos V];simp only[Int.toNat_natCast];rw[List.take_left,show x.length+[c].length=(x++[c]).length by simp,show x++c::r=(x++[c])++r by simp,List.drop_left]
theorem splitC_cons{c:UInt8}{s x y:Str}{l:List Str}(h:jL c s=x::y::l):∃r,s=x++c::r/\jL c r=y::l/\c∉x:=by
 have b:=(EF c s x (by rw[h];exact eN)).2;have a:=Ct c s;rw[h,zw]at a;refine⟨wR c<|y::l,a.symm,?_,b⟩;rw[<-a,BX b]at h;injection h
theorem splitC_single{c:UInt8}{s x:Str}(h:jL c s=[x]):s=x/\c∉x:=by
 have b:=(EF c s x (by rw[h];exact eN)).2;have a:=Ct c s;rw[h,Cs]at a;exact⟨a.symm,b⟩
open Go.RowKit Go.Proofs
def RngP{α:Type}(f:α->al)(m r:Nat)(c:Option (Int×α))(left:List (Int×α))(w:aq):Prop:=
 m≠r/\∃d a b,w.heap[m]? =aj (.map d a)/\MH d a/\w.heap[r]? =aj (.mapIter (aj m) a b a)/\
  (kc d b).toList.map (fun e=>(e.key,e.val))=left.map (fun p=>(dk .i64 p.1,f p.2))/\
  ∀p,c=aj p->∃e∈d.toList,b.back?=aj e.born/\e.key=.int .i64 p.1/\e.val=f p.2
def rngS{α:Type}(f:α->al)(m r:Nat)(last:Option (Int×α))(left:List (Int×α)):Pce where
  own x:=x=m\/x=r
  P w _:=RngP f m r last left w
  lt:=by
    rintro w A x⟨_,es,clock,seen,h1,_,h2,_⟩(rfl|rfl)
    · exact iT h1
    · exact iT h2
  go:=by
    rintro w w' A A' K⟨h0,es,clock,seen,h1,h2,h3,h4⟩hk hK hKo hA;exact⟨h0,es,clock,seen,hk.blk h1 fun h=>hKo m h<|.inl Z,h2,hk.blk h3 fun h=>hKo r h<|.inr Z,h4⟩
section
variable{P:cc}{ops:Array ee}{Q:fg->Act->aq->Prop}{n:Nat}{env:Nat->al}{w w' w0:aq}{M K:BS}{hp:Nat->Chunk}{rest:List ee}
 {d:Option Nat} {op:Op} {ty:aT} {pos:String} {af:Array hO} {v:al} {g:Option (Nat×Bool)} {T:aT} {ρ:bo->al} {x y:bo} {α:Type} {f:α->al}
theorem w_range{z:al}{m:Nat}{jG:List (Int×al)}(l:List (Int×α))(h:SH w0 M K w hp)(i:Nat)(t:hp i=.mp m jG)(v:MapOf P T z)(y:ev n env x=.map (aj m))(B:jG=l.map fun p=>(p.1,f p.2))
    (k:∀w' r,SH w0 M K w' (bV hp i (.eX (rngS f m r aw l)))->WL P ops Q rest n (gD env d (.pointer (aj ⟨r,0,aw⟩))) w'):WL P ops Q (⟨d,.range T x,ty,pos,af,aw⟩::rest) n env w:=by
  obtain⟨C,E,A,F,G⟩:=v.desc;obtain⟨e,a,o,q,j⟩:=h.mpAt i t;have c:(bl (ev n env) ⟨d,.range T x,ty,pos,af,aw⟩).run P w=.ok (.value<|.pointer<|some ⟨w.heap.size,0,aw⟩) (w.alloc<|.mapIter (aj m) a #[] a):=by
    simp only[bl,y];simp[run_range_map w T C E m e a A o]
  refine J c<|k _ _ ?_;have g:=iT o;refine h.step i (N:=BE) (Grow.alloc _ _) (fun _ h=>h.elim) (fun b s u=>?_) ?_
  · rw[t];rcases s with rfl|rfl
    · rfl
    · exact absurd u<|Nat.lt_irrefl _
  · refine⟨Nat.ne_of_lt g,e,a,#[],by rw[(Grow.alloc _ _).blk o],j,heap_alloc_new _ _,?_,fun p h=>by cases h⟩;have:kc e #[]=e:=by unfold kc;exact pn.2 (fun x _=>by simp)
    rw[this,q,B,List.map_map];rfl
theorem XX{r:Nat}{a:Option Nat}{s c:Nat}{d:Array Nat}(o:Obj)(b:w.heap[r]? =aj (.mapIter a s d c)):(setObj r o).run P w=.ok () (xH w r o):=by
 simp only[setObj,kf,b];rfl
theorem run_next_any(ty:aT){m r a:Nat}{f:Array MapEntry}{b:Array Nat}(y:w.heap[m]? =aj (.map f a))(t:w.heap[r]? =aj (.mapIter (aj m) a b a))(i:∀e∈f.toList,e.born<a):
    ((kc f b).size=0/\(Instr.next (.pointer (aj ⟨r,0,aw⟩)) ao ty).run P w=.ok (.tuple #[.bool ao]) w)\/
    ∃e∈(kc f b).toList,∃d:aq,(d=w\/d=w.drew)/\(Instr.next (.pointer (aj ⟨r,0,aw⟩)) ao ty).run P w=.ok (.tuple #[.bool ba,e.key,e.val]) (xH d r (.mapIter (aj m) a (b.push e.born) a)):=by
  have l:(kp r).run P w=.ok (.mapIter (aj m) a b a) w:=by simp[kp,kf,t]
  have n:(kp m).run P w=.ok (.map f a) w:=by simp[kp,kf,y]
  simp only[Instr.next,ct,l,n,bp,next_test_false b f a a i (bq _),cM,if_false];unfold kc;have c:∀x∈(th (fun e=> !b.contains e.born) f).toList,x.born<a:=fun x g=>i x (by simp at g⊢;exact g.1);generalize th (fun e=> !b.contains e.born) f=L at c⊢;have z:L.filter (fun x=>decide<|x.born<a)=L:=pn.2 (fun x g=>by simpa using c x (by simpa using g));have A:L.filter (fun x=>decide<|x.born≥a)= #[]:=by
    rw[Array.filter_eq_empty_iff];intro x g;have:=c x (by simpa using g);simp;omega
  simp only[z,A,Array.append_empty];by_cases s:L.size=0
  · left;have:L= #[]:=Array.eq_empty_of_size_eq_zero s;subst this;refine⟨Z,?_⟩;simp[choose,kf,mZ]
  · right;have o:L.isEmpty=false:=by simp[Array.isEmpty,s]
    simp only[o,cM,if_false,Array.empty_append,Array.size_map];have p:∃(j:Nat) (d:aq),j<L.size/\(d=w\/d=w.drew)/\(choose<|Question.mapNext L.size).run P w=.ok j d:=by
      by_cases u:L.size<=1
      · exact⟨0,w,by omega,.inl Z,by simp[choose,kf,mZ,u]⟩
      · exact⟨_,w.drew,Nat.mod_lt _ V,.inr Z,by
          simp only[choose,kf,mZ,decide_eq_true_eq,u,if_false,Question.cut];rfl⟩
    obtain⟨j,d,v,k,h⟩:=p;refine⟨L[j],by simp,d,k,?_⟩;have q:d.heap[r]? =aj (.mapIter (aj m) a b a):=by rcases k with rfl|rfl<;>exact t
    simp only[h,Array.getElem?_map,Array.getElem?_eq_getElem v,da,ct,XX _ q,bp];rfl
theorem leftOf_push(c:Array MapEntry)(a:Array Nat)(b:Nat):(kc c (a.push b)).toList=(kc c a).toList.filter (fun x=>x.born !=b):=by
 unfold kc;rw[jt,jt,List.filter_filter];apply List.filter_congr;intro x _;have:(a.push b).contains x.born=(a.contains x.born||(x.born==b)):=by
  rw[Bool.eq_iff_iff];simp[Array.contains_iff_mem]
 rw[this];cases a.contains x.born<;>cases hq:(x.born==b)<;>simp[bne,hq]
theorem w_next{m r:Nat}{t:Option (Int×α)}{left:List (Int×α)}(h:SH w0 M K w hp)(i:Nat)(N:hp i=.eX (rngS f m r t left))(k:ev n env x=.pointer (aj ⟨r,0,aw⟩))
    (k0:left=[]->WL P ops Q rest n (gD env d (.tuple #[.bool ao])) w)
    (k1:∀p g w',left.Perm (p::g)->SH w0 M K w' (bV hp i (.eX (rngS f m r (aj p) g)))->WL P ops Q rest n (gD env d (.tuple #[.bool ba,.int .i64 p.1,f p.2])) w'):
    WL P ops Q (⟨d,.next x ao,ty,pos,af,aw⟩::rest) n env w:=by
  have R:=h.ok i;rw[N]at R;obtain⟨u,q,a,c,F,G,T,C,h5⟩:=R;rcases run_next_any (P:=P) ty F T G.1 with⟨g1,g2⟩|⟨e,he,w1,hw1,g2⟩
  · have hl:left=[]:=by
      have:(kc q c).toList=[]:=cl (by simpa using g1);rw[this]at C;cases left with
      |nil=>rfl
      |cons p l=>cases C
    refine J (v:=.tuple #[.bool ao]) (w':=w) ?_<|k0 hl;simp only[bl,k];simp[g2]
  · obtain⟨A,B,o⟩:=List.append_of_mem he;rw[o,cI,cj]at C;obtain⟨S,l2,rfl,q1,q2⟩:=List.map_eq_append_iff.1 C.symm;obtain⟨p,O,rfl,s,q4⟩:=List.map_eq_cons_iff.1 q2;simp only[Prod.mk.injEq]at s;have z:=iT T;have j:Grow w w1:=by
      rcases hw1 with rfl|rfl
      · exact bL.refl _ _
      · exact⟨Z,Z,Z,bq _,fun _ _ _=>rfl⟩
    have hk:bL (fun x=>x=m\/x=r) w (xH w1 r<|.mapIter (aj m) a (c.push e.born) a):=bL.step (j.weaken fun _ h _=>h.elim) (bL.xH _ _ _) fun x k _=>.inr k;have L:(xH w1 r<|.mapIter (aj m) a (c.push e.born) a).heap[m]? =aj (.map q a):=by
      rw[(bL.xH w1 r _).block m u (cp (iT F) j.size),j.blk F]
    refine J (v:=.tuple #[.bool ba,.int .i64 p.1,f p.2]) (w':=xH w1 r<|.mapIter (aj m) a (c.push e.born) a) ?_<|k1 p (S++O) _ (List.perm_middle) ?_
    · rw[s.1,s.2];simp only[bl,k];simp[g2]
    · refine h.MN (S':=rngS f m r (aj p)<|S++O) i N ?_ hk fun b hb _=>hb;refine⟨u,q,a,c.push e.born,L,G,wK<|cp z j.size,?_,fun p' E=>?_⟩
      · rw[leftOf_push,o];have y:((kc q c).toList.map (·.born)).Nodup:=by
          unfold kc;rw[jt];exact(G.2.sublist ((List.filter_sublist (l:=q.toList)).map _))
        rw[o,cI,cj,List.nodup_append]at y;obtain⟨n1,n2,X⟩:=y;rw[List.filter_append,List.filter_cons_of_neg zq3,mL.2 (fun x k=>?_),mL.2 (fun x k=>?_),cI,cI,<-q1,<-q4]
        · have:=(so.1 n2).1;simp only[bne_iff_ne,ne_eq,decide_not,gk,beq_eq_false_iff_ne];intro I;exact this (by rw[<-I];exact List.mem_map.2 ⟨x,k,Z⟩)
        · simp only[bne_iff_ne,ne_eq,decide_not,gk,beq_eq_false_iff_ne];intro I;exact X x.born (List.mem_map.2 ⟨x,k,Z⟩) e.born zq3 I
      · cases E;refine⟨e,?_,by simp,s.1.symm,s.2.symm⟩;have:e∈(kc q c).toList:=he;unfold kc at this;rw[jt]at this;exact(List.mem_filter.1 this).1
theorem r_entry{m r:Nat}{p:Int×α}{left:List (Int×α)}(h:SH w0 M K w hp)(i:Nat)(t:hp i=.eX (rngS f m r (aj p) left))(q:ρ x=.pointer (aj ⟨r,0,aw⟩)):
    (bl ρ ⟨d,.entry x,ty,pos,af,g⟩).run P w=.ok (.value (.tuple #[.int .i64 p.1,f p.2])) w:=by
  have l:=h.ok i;rw[t]at l;obtain⟨z,k,a,b,v,y,C,E,s⟩:=l;obtain⟨e,A,o,u,B⟩:=s p Z;have c:(kp r).run P w=.ok (.mapIter (aj m) a b a) w:=by simp[kp,kf,C]
  have j:(kp m).run P w=.ok (.map k a) w:=by simp[kp,kf,v]
  have n:k.find? (·.born==e.born)=aj e:=by rw[<-Array.find?_toList];exact find_born e k.toList y.2 A
  simp only[bl,q];have:(Instr.entry<|.pointer<|some ⟨r,0,aw⟩).run P w=.ok (.tuple #[.int .i64 p.1,f p.2]) w:=by
    simp only[Instr.entry,ct,c,j,bp,o,bne_self_eq_false,cM,if_false,n];rw[u,B];rfl
  simp[this]
theorem SH.rngForget{m r:Nat}{c:Option (Int×α)}{left:List (Int×α)}(h:SH w0 M K w hp)(i:Nat)(j:hp i=.eX (rngS f m r c left)):SH w0 M K w (bV hp i (.eX (rngS f m r aw left))):=by
 have g:=h.ok i;rw[j]at g;obtain⟨e,q,a,d,l,n,s,o,t⟩:=g;exact h.MN (S':=rngS f m r aw left) i j ⟨e,q,a,d,l,n,s,o,fun p h=>by cases h⟩ (bL.refl _ _) fun b k _=>k
end
def YH{α σ:Type}(ld:α->σ->Option σ):List α->σ->Option σ
 |[],s=>aj s
 |a::l,s=>(ld a s).bind (YH ld l)
def BJ{α σ:Type}(ld:α->σ->Option σ)(L:List α)(s a:σ):Prop:=∀p,p.Perm L->YH ld p s=aj a
open Classical in
noncomputable def J8{α σ:Type}(ld:α->σ->Option σ)(L:List α)(s:σ):Option σ:=if h:∃a,BJ ld L s a then aj h.choose else aw
theorem o_fold{α σ:Type}{ld:α->σ->Option σ}{L:List α}{s a:σ}(h:J8 ld L s=aj a):BJ ld L s a:=by
  unfold J8 at h;split at h
  · rename_i b;cases h;exact b.choose_spec
  · cases h
theorem foldAny_eq{α σ:Type}{ld:α->σ->Option σ}{L:List α}{s a:σ}(h:BJ ld L s a):J8 ld L s=aj a:=by
 have b:∃a,BJ ld L s a:=⟨a,h⟩;unfold J8;rw[dif_pos b];have c:=b.choose_spec L<|nf _;rw[h L (nf _)]at c;exact c.symm
theorem BJ.nil{α σ:Type}{ld:α->σ->Option σ}{s a:σ}(h:BJ ld [] s a):s=a:=by
 have:=h []<|nf _;exact cN this
theorem BJ.cons{α σ:Type}{ld:α->σ->Option σ}{L L':List α}{p:α}{s a:σ}(h:BJ ld L s a)(hp:L.Perm (p::L')):∃b,ld p s=aj b/\BJ ld L' b a:=by
 have d:=h (p::L') hp.symm;obtain⟨b,c,f⟩:=aC d;refine⟨b,c,fun q e=>?_⟩;have:=h (p::q) ((e.cons p).trans hp.symm);unfold YH at this;rw[c]at this;exact this
open Go.RowKit Go.Proofs
section
variable{w0 w w':aq}{M K:BS}{hp:Nat->Chunk}{C:Chunk}
theorem SH.MP{b:Nat}{cs:List al}(h:SH w M K w hp)(i:Nat)(ho:∃E,w.heap[b]? =aj (.cells cs.toArray E (0,0)))(a:¬C.own' b)(hn:∀b,iU hp b->C.own' b):SH w M K w (bV hp i (.pt b 0 cs)):=by
 obtain⟨E,c⟩:=ho;exact h.pt i (fun h=>a<|hn b h) ⟨_,E,_,c,by simp⟩
theorem Aq{i b o:Nat}{cs:List al}(hn:∀b,iU hp b->C.own' b):∀x,iU (bV hp i (.pt b o cs)) x->C.own' x:=by
  rintro x⟨j,a⟩;by_cases e:j=i
  · subst e;rw[bW]at a;exact a.elim
  · rw[dZ e]at a;exact hn x ⟨j,a⟩
theorem SH.loseC3{c e f:Chunk}(h:SH w0 M K w hp)(i j k:Nat)(l:i≠j)(d:i≠k)(m:j≠k)(o:hp i=c)(n:hp j=e)(g:hp k=f)(p:bL (fun b=>c.own' b\/e.own' b\/f.own' b) w w'):
    SH w0 M K w' (bV (bV (bV (bV (bV hp j .no) i (.two (hp i) (hp j))) k .no) i (.two ((bV (bV hp j .no) i (.two (hp i) (hp j))) i) ((bV (bV hp j .no) i (.two (hp i) (hp j))) k))) i .no):=by
  have q:=h.pair i j l;have r:=q.pair i k d;refine r.l7 i (bW _ _ _) ?_;rw[bW,dZ (fun e=>d e.symm),dZ (fun e=>m e.symm),o,n,g];refine p.weaken fun b a _=>?_;rcases a with a|a|a
  · exact .inl<|.inl a
  · exact .inl<|.inr a
  · exact .inr a
end
section
variable{α:Type}{R:lD α}{E:aT}{w0 w w':aq}{M K A:BS}{hp:Nat->Chunk}{C:Chunk}{v:al}{l:List α}
theorem cu.srcB{B:BS}(h:cu R E w A v l)(u:∀b,ob v b->¬B b):eF R w B A v l:=by
  have m:=h.src;obtain⟨xs,q,y⟩:=h;rcases q.2 with⟨rfl,hn⟩|⟨g,cap,cur,rfl,e1,e2,e3,e4,e5,e6⟩
  · have:l=[]:=cl hn;subst this;exact eF.nil
  · obtain⟨a,c,d,t,n,f,r⟩:=m;refine⟨a,c,d,t,n,f,fun i j=>?_⟩;obtain⟨b,o,cells,F,k,e,x,p,s⟩:=r i j;refine⟨b,o,cells,F,k,e,?_,p,s⟩;subst e;simp only[Value.slice.injEq,eA,Addr.mk.injEq]at d;exact u b (by simp[ob,d.1.1])
theorem J9{i:Nat}(hn:∀b,iU hp b->C.own' b):∀b,iU (bV hp i (.sr R v l)) b->C.own' b:=by
  rintro b⟨j,a⟩;by_cases e:j=i
  · subst e;rw[bW]at a;exact a.elim
  · rw[dZ e]at a;exact hn b ⟨j,a⟩
theorem SH.argSrC(h:SH w M K w hp)(i:Nat)(ho:eF R w C.own' (fun b=>M b\/C.own' b) v l)(hn:∀b,iU hp b->C.own' b):SH w M K w (bV hp i (.sr R v l)):=
 h.know i (fun _ h=>h) (ho.sub (fun b a _=>hn b a) (fun b a _=>a.imp id (hn b)))
theorem av_all{i:Nat}(c:hp i=C):∀b,(M b\/rest hp i b)\/C.own' b->SH.A M hp b:=by
  rintro b((a|a)|a)
  · exact .inl a
  · exact .inr<|lF a
  · exact .inr ⟨i,by rw[c];exact a⟩
theorem SH.ownSr(h:SH w0 M K w hp)(i j:Nat)(c:i≠j)(d:hp j=.own R E v l)(e:hp i=C):eF R w C.own' (fun b=>(M b\/rest hp i b)\/C.own' b) v l:=
 ((h.bJ j d).srcB (B:=C.own') (fun b a f=>h.apart i j c b (by rw[e];exact f) (by rw[d];exact a))).sub (fun _ h _=>h) (fun b a _=>av_all e b a)
theorem SH.srSr(h:SH w0 M K w hp)(i j:Nat)(d:hp j=.sr R v l)(c:hp i=C):eF R w C.own' (fun b=>(M b\/rest hp i b)\/C.own' b) v l:=
 (h.srAt j d).sub (fun b a _=>⟨i,by rw[c];exact a⟩) (fun b a _=>av_all c b a)
end
def TE(s:Str):Option (List Str):=iF (s.length<4294967281/\(s.all fun b=>ab (b.toNat<128))=ba/\(fb s).length<=4294967281) (aj (fb s))
theorem fields_w{P:cc}{f:fR}{E:aT}{g q:Nat}{w0:aq}{M:BS}(c:∀(s:ByteArray) (w:aq),s.size<4294967281->(∀(j:Nat) b,s.data.toList[j]? =aj b->b.toNat<128)->oi P w "strings.asciiSpace" .u8 rB->
    bE P f #[.string s] w fun e w'=>e=.returned (.slice (aj ⟨w.heap.size,0,aw⟩) (fb s.data.toList).length (fb s.data.toList).length)/\w'=w.alloc (.cells ((fb s.data.toList).map fun l=>lx ⟨l.toArray⟩).toArray E))
    (i:P.globalNamed "strings.asciiSpace" =aj q) (m:∀b,M b->b<w0.heap.size) (n:qV P g w0) {s:Str} {r:List Str} (a:TE s=aj r):bE P f #[bH s] w0 (fun e w'=>Grow w0 w'/\∃u,e=.returned u/\di vv w' M u r):=by
  obtain⟨⟨h,k,p⟩,a⟩:=bF a;cases a;refine(c ⟨s.toArray⟩ w0 (by rw[wQ];exact h) (fun j b d=>?_) (n.asc q i)).mono ?_
  · have:=ly.1 k b<|List.mem_of_getElem? (by simpa using d);simpa using this
  · rintro e w'⟨rfl,rfl⟩;refine⟨Grow.alloc _ _,_,Z,?_⟩;have:=strs_rd (E:=E) (l:=(fb s).map fun l=>(⟨l.toArray⟩:ByteArray)) (cap:=(fb s).length) (cells:=((fb s).map fun l=>lx ⟨l.toArray⟩).toArray) w0 m (by rw[cH];exact bq _) (by unfold maxLen;omega) (fun j o=>by simp);rw[cH,List.map_map]at this;have e:(List.map (((fun x=>x.data.toList):ByteArray->Str)∘fun l=>⟨l.toArray⟩)<|fb s)=fb s:=by simp[Function.comp_def]
    simpa[Function.comp_def]using this
open Go.RowKit Go.Proofs Go.ChangeShapes
def QZ(b o:Nat)(r:Nat×Nat×Nat):Bool:=ft r.1 b&&(ll r.2.1 o&&Nat.blt o (r.2.1+r.2.2))
def Vi(b o:Nat):List (Nat×Nat×Nat)->List (Nat×Nat×Nat)
 |[]=>[(b,o,1)]
 |(c,s,l)::r=>bif ft c b&&ft (o+1) s then(b,o,l+1)::r else(b,o,1)::(c,s,l)::r
def runsOf:List MemPlace->Option (List (Nat×Nat×Nat))
 |[]=>aj []
 | .cell b o::r=>(runsOf r).bind fun rs=>bif rs.any (QZ b o)then aw else aj (Vi b o rs)
 |_::_=>aw
theorem addRun_old{b o c q:Nat}{rs:List (Nat×Nat×Nat)}(h:rs.any (QZ c q)=ba):(Vi b o rs).any (QZ c q)=true:=by
  cases rs with
  |nil=>cases h
  |cons r rs=>
    obtain⟨d,s,l⟩:=r;have e:Vi b o ((d,s,l)::rs)=bif ft d b&&ft (o+1) s then(b,o,l+1)::rs else(b,o,1)::(d,s,l)::rs:=rfl;rw[e];cases hc:(ft d b&&ft (o+1) s)with
    |false=>rw[cond_false,ti,h,Bool.or_true]
    |true=>
      rw[cond_true];simp only[cS,rb]at hc;obtain⟨rfl,rfl⟩:=hc;rw[ti]at h⊢;rcases Bool.or_eq_true_iff.1 h with h|h
      · unfold QZ at h⊢;simp only[cS,rb,oy,Nat.blt_eq]at h;have:(ft d c&&(ll o q&&Nat.blt q (o+(l+1))))=true:=by
          simp only[cS,rb,oy,Nat.blt_eq];omega
        rw[this,Bool.true_or]
      · rw[h,Bool.or_true]
theorem addRun_new{b o:Nat}{rs:List (Nat×Nat×Nat)}:(Vi b o rs).any (QZ b o)=true:=by
 cases rs with
 |nil=>simp[Vi,QZ]
 |cons r rs=>
  obtain⟨d,s,l⟩:=r;have e:Vi b o ((d,s,l)::rs)=bif ft d b&&ft (o+1) s then(b,o,l+1)::rs else(b,o,1)::(d,s,l)::rs:=rfl;rw[e];cases (ft d b&&ft (o+1) s)with
  |false=>simp[QZ]
  |true=>simp[QZ]
theorem TF:∀{d:List MemPlace} {rs:List (Nat×Nat×Nat)},runsOf d=aj rs->d.Nodup/\∀b o,MemPlace.cell b o∈d->rs.any (QZ b o)=ba
  |[],rs,h=>⟨List.nodup_nil,fun _ _ a=>by cases a⟩
  | .cell b o::r,rs,h=>by
    unfold runsOf at h;obtain⟨q,i,h⟩:=Option.bind_eq_some_iff.1 h;obtain⟨g,f⟩:=TF i;cases hc:q.any (QZ b o)with
    |true=>rw[hc]at h;cases h
    |false=>
      rw[hc,cond_false]at h;cases h;refine⟨so.2 ⟨fun a=>(by rw[f b o a]at hc;cases hc),g⟩,fun c p a=>?_⟩;rcases bn.1 a with e|a
      · cases e;exact addRun_new
      · exact addRun_old<|f c p a
  | .map _::_,rs,h=>by cases h
theorem XY{P:cc}{w:aq}{l:List (String×DataW Unit)}(fuel:Nat)(h:(DataW.laidRun P w fuel (l.map (·.1))).map (·.1)=aj l)
    (a:(DataW.laidRun P w fuel (l.map (·.1))).map (fun x=>(runsOf x.2).isSome&&laidRowsB P w x.2)=aj ba):laidMet P l w:=by
  cases hx:DataW.laidRun P w fuel (l.map (·.1))with
  |none=>simp[hx]at h
  |some x=>
    obtain⟨c,d⟩:=x;simp only[hx,da,eA]at h a;subst h;simp only[cS]at a;obtain⟨rs,b⟩:=Option.isSome_iff_exists.1 a.1;exact laidMet_of_run fuel hx (decide_eq_true (TF b).1) a.2
structure gL where
 at_:Int
 ok:Bool
deriving DecidableEq
open Go.RowKit Go.Proofs
section
variable{α β:Type}{N:Rm α β}{R:lD β}{E Es T:aT}{w0 w w':aq}{M K A:BS}{hp:Nat->Chunk}{v u u':al}{us us':List al}{L L':List α}{ss ss':List (List β)}{s:List β}{x y:α}{k:Nat}{ho ho':Nat->Prop}{C:Chunk}
theorem XH{a:Type}(P:Nat->a->Prop):∀(n:Nat),(∀i,i<n->∃u,P i u)->∃us:List a,us.length=n/\∀i u,us[i]? =aj u->P i u
  |0,_=>⟨[],rfl,fun i u h=>by cases h⟩
  |n+1,h=>by
    obtain⟨us,d,c⟩:=XH P n fun i e=>h i V;obtain⟨u,b⟩:=h n V;refine⟨us++[u],by simp[d],fun i z hz=>?_⟩;rw[gw]at hz;split at hz
    · exact c i z hz
    · rename_i f;have:i-us.length=0:=by
        rcases Nat.eq_zero_or_pos (i-us.length)with h0|h0
        · exact h0
        · rw[bt (by simp;omega)]at hz;cases hz
      rw[this]at hz;cases hz;obtain rfl:i=n:=by omega
      exact b
def hge(k:Nat):Nat->Prop:=fun i=>k<=i
def MQ{β:Type}(R:lD β)(k:Nat)(us:List al)(ss:List (List β)):Pce where
 own:=BE
 P w A:=∀i u s,k<=i->us[i]? =aj u->ss[i]? =aj s->di R w A u s
 lt:=fun _ h=>h.elim
 go:=fun h hk hK hKo hA i u s hi hu hs=>di.go (h i u s hi hu hs) hk hK (fun b hb hl=>(hA b hb hl).elim id (fun h=>h.elim))
theorem SH.famHo(h:SH w0 M K w hp)(j:Nat)(ho':Nat->Prop)(a:hp j=.eX (bP R E ho us ss))(d:∀i,ho i↔ho' i):SH w0 M K w (bV hp j (.eX (bP R E ho' us ss))):=by
 have e:ho=ho':=funext fun i=>propext<|d i;subst e;exact h.MN (S':=bP R E ho us ss) j a (h.XD j a) (bL.refl _ _) fun b c _=>c
theorem SH.thaw{R':lD α}(h:SH w0 M K w hp)(i j q:Nat)(k:hp i=.own R' E v L)(T:i≠j)(P:i≠q)(I:j≠q)(m:R'.sz=N.sz)(op:∀w A cs x,R'.rd w A cs x->∃u,cs=N.enc x u/\di R w A u (N.sub x)):
    ∃us,us.length=L.length/\SH w0 M K w (bV (bV (bV hp i (.own N.raw E v (L.zip us))) j (.eX (bP R Es (hge 0) us (L.map N.sub)))) q (.eX (MQ R 0 us (L.map N.sub)))):=by
  have ho:=h.bJ i k;have a0:=ho;obtain⟨xs,Q,S⟩:=ho;obtain⟨us,r,l⟩:=XH (fun i u=>∃k:i<L.length,(xs.drop (i*R'.sz)).take R'.sz=N.enc L[i] u/\di R w (fun b=>SH.A M hp b\/ob v b) u (N.sub L[i])) L.length (fun i k=>by
    obtain⟨u,o,n⟩:=op _ _ _ _<|S i k;exact⟨u,k,o,n⟩)
  refine⟨us,r,?_⟩;have X:SH w0 M K w (bV hp i<|.own N.raw E v<|L.zip us):=by
    refine h.step i (bL.refl BE w) (fun _ h=>h.elim) (fun b a _=>by rw[k];exact a) ⟨xs,?_,?_⟩
    · rw[gN r];show w.ownsRow 0 E N.sz v L.length xs;rw[<-m];exact Q
    · intro q C;have G:q<L.length:=by rw[gN r]at C;exact C
      have t:q<us.length:=by omega
      obtain⟨_,o,n⟩:=l q us[q]<|bc t;refine⟨?_,?_⟩
      · show(xs.drop<|q*N.sz).take N.sz=N.enc ((L.zip us)[q]).1 ((L.zip us)[q]).2;rw[rE,<-m];exact o
      · rw[rE];exact n.one
  have d:∀b,¬G5 (hge 0) us b:=fun b⟨i,u,_,hn,_⟩=>hn<|fv i;have O:SH w0 M K w (bV (bV hp i<|.own N.raw E v<|L.zip us) j<|.eX<|bP R Es (hge 0) us<|L.map N.sub):=
    X.know j (c:=.eX (bP R Es (hge 0) us (L.map N.sub))) (fun b a=>d b a) ⟨by rw[cH];exact r,fun i u s _ _ hn=>absurd (fv i) hn,fun i j u v _ hn=>absurd (fv i) hn⟩
  refine O.know q (c:=.eX<|MQ R 0 us<|L.map N.sub) (fun b a=>a) ?_;intro p u s _ F z;obtain⟨y,o,n⟩:=l p u F;rw[ef,bc y]at z;cases z;have f:∀b,(M b\/iU (bV (bV hp i<|.own N.raw E v<|L.zip us) j<|.eX<|bP R Es (hge 0) us<|L.map N.sub) b)->SH.A M hp b\/ob v b:=by
    rintro b(a|⟨c,g⟩)
    · exact .inl<|.inl a
    · by_cases e:c=j
      · subst e;rw[bW]at g;exact absurd g (d b)
      · rw[dZ e]at g;by_cases B:c=i
        · subst B;rw[bW]at g;exact .inr g
        · rw[dZ B]at g;exact .inl (.inr ⟨c,g⟩)
  exact n.sub (fun b a _=>f b a) fun b a _=>f b a
theorem SH.rdpAt(h:SH w0 M K w hp)(q:Nat)(d:hp q=.eX (MQ R k us (L.map N.sub)))(c:us.length=L.length)(b:L[k]? =aj x):∃u,us[k]? =aj u/\di R w (SH.A M hp) u (N.sub x):=by
 obtain⟨u,a⟩:=us_at c b;exact⟨u,a,h.pceAt q d k u _ (bq _) a (by rw[ef,b];rfl)⟩
theorem SH.rdpStep(h:SH w0 M K w hp)(q:Nat)(c:hp q=.eX (MQ R k us ss)):SH w0 M K w (bV hp q (.eX (MQ R (k+1) (us.set k u) (ss.set k s)))):=by
 have d:=h.pceAt q c;refine h.MN (S':=MQ R (k+1) (us.set k u)<|ss.set k s) q c ?_ (bL.refl _ _) fun b e _=>e;intro i z t f hz a;rw[dB V]at hz a;exact d i z t V hz a
theorem SH.pendPut(h:SH w0 M K w hp)(j q m:Nat)(y:α)(g:hp j=.eX (bP R Es (hge k) us (L.map N.sub)))(A:hp q=.eX (MQ R k us (L.map N.sub)))(n:hp m=.own R Es u s)(d:j≠q)(b:j≠m)(c:q≠m)(r:L[k]? =aj x)(f:us[k]? =aj u')(o:N.sub y=s):
    SH w0 M K w (bV (bV (bV (bV (bV hp q (.eX (MQ R (k+1) (us.set k u) ((L.map N.sub).set k s)))) j (.eX (bP R Es (hge k) (us.set k u) ((L.map N.sub).set k s)))) m .no) j (.eX (bP R Es (hge (k+1)) (us.set k u) (((L.map N.sub).set k s).set k s)))) j (.eX (bP R Es (hge (k+1)) (us.set k u) ((L.set k y).map N.sub)))):=by
  have v:=h.rdpStep (u:=u) (s:=s) q A;have l:=h.jT j g;have z:=v.famRe (us':=us.set k u) (ss':=(L.map N.sub).set k s) j (by rw[dZ d];exact g) (by simp[l]) (fun i a=>by
    have:k≠i:=fun e=>a (by subst e;exact bq _);rw[dB this,dB this];exact⟨Z,Z⟩)
  have t:=MO r;have B:=z.La j m (k:=k) (u:=u) (s:=s) (bW _ _ _) (by rw[dZ (fun e=>b e.symm),dZ (fun e=>c e.symm)];exact n) b (Vh f) (bq k) (hge (k+1)) (fun i=>⟨fun a=>by
    rcases rh (show k<=i from a)with e|e
    · exact .inr e.symm
    · exact .inl e,fun a=>a.elim (fun a=>rF a) (fun e=>by subst e;exact bq _)⟩) (fun a=>absurd a (pZ k))
  have e:((L.map N.sub).set k s).set k s=(L.set k y).map N.sub:=by rw[List.set_set,gE,o]
  have p:=B.famRe (us':=us.set k u) (ss':=(L.set k y).map N.sub) j (bW _ _ _) (by simp[l]) (fun i a=>⟨Z,by rw[e]⟩);exact p
theorem SH.famAll(h:SH w0 M K w hp)(j:Nat)(d:hp j=.eX (bP R Es (hge k) us (L.map N.sub)))(q:L.length<=k):SH w0 M K w (bV hp j (.eX (bP R Es hn us (L.map N.sub)))):=by
  have p:=h.jT j d;have e:=h.XD j d;have a:∀i (z:al),us[i]? =aj z->¬hge k i:=fun i z hz n=>by
    have:=MO hz;have:k<=i:=n;omega
  refine h.MN (S':=bP R Es hn us<|L.map N.sub) j d ⟨e.1,fun i z t hz o _=>?_,fun i j z v g _ _ hz m=>e.2.2 i j z v g (a i z hz) (a j v m) hz m⟩ (bL.refl _ _) fun b⟨i,z,c,_,l⟩_=>⟨i,z,c,a i z c,l⟩;refine(e.2.1 i z t hz o<|a i z hz).go (bL.refl BE w) (fun _ h=>h.elim) (fun _ h=>h.elim) fun b f _=>?_;rcases f with f|⟨i,z,c,_,l⟩
  · exact .inl<|.inl f
  · exact .inl<|.inr ⟨i,z,c,a i z c,l⟩
def hmv(a:List Int):Nat->Prop:=fun i=>(i:Int)∈a
theorem SH.famMv0(h:SH w0 M K w hp)(j:Nat)(a:hp j=.eX (bP R Es hn us ss)):SH w0 M K w (bV hp j (.eX (bP R Es (hmv []) us ss))):=
 h.famHo j (hmv []) a (fun i=>⟨fun h=>h.elim,fun h=>by cases h⟩)
theorem SH.mvOpen{b:List Int}{kk:Int}(h:SH w0 M K w hp)(j m:Nat)(f:hp j=.eX (bP R Es (hmv b) us (L.map N.sub)))(n:hp m=.no)(c:j≠m)(k:0<=kk)(g:L[kk.toNat]? =aj x)(a:kk∉b):
    ∃u,us[kk.toNat]? =aj u/\SH w0 M K w (bV (bV hp j (.eX (bP R Es (hmv (b++[kk])) us (L.map N.sub)))) m (.own R Es u (N.sub x))):=by
  have l:=h.jT j f;obtain⟨u,d⟩:=us_at l g;have e:((kk.toNat:Nat):Int)=kk:=Int.toNat_of_nonneg k;refine⟨u,d,h.famOpen j m f n c d (by rw[ef,g];rfl) (fun h=>a (by rw[<-e];exact h)) (hmv (b++[kk])) (fun i=>?_)⟩;unfold hmv;rw[List.mem_append,List.mem_singleton];constructor
  · rintro(h|h)
    · exact .inl h
    · exact .inr V
  · rintro(h|h)
    · exact .inl h
    · exact .inr (by rw[h];exact e)
theorem SH.gotC(h:SH w0 M K w hp)(i:Nat)(e:Grow w w')(c:C.Tv)(d:C.holds w' (SH.A M hp) C.own')(hn:∀b,C.own' b->w.heap.size<=b):SH w0 M K w' (bV hp i C):=
  h.learn i e hn (Chunk.re c d (fun b a _=>by
    rcases a with a|a|a
    · exact .inl<|.inl a
    · exact .inl<|.inr a
    · exact .inr a))
theorem new_own(ho:∀b,C.own' b->b<w0.heap.size->BE b):∀b,C.own' b->w0.heap.size<=b:=fun b c=>Nat.le_of_not_lt (fun a=>ho b c a)
theorem nLst_op{R:lD β}:∀(w:aq) (A:BS) cs (x:List β),(yJ R).rd w A cs x->∃u,cs=(dn β).enc x u/\di R w A u ((dn β).sub x):=fun _ _ _ _ h=>h
end
theorem Vj:∀(w:aq) (A:BS) cs (x:Frame),jM.rd w A cs x->∃u,cs=aS.enc x u/\di bK w A u (aS.sub x):=fun _ _ _ _ h=>h
def Bi{α:Type}(k:Int)(v:α):List (Int×α)->List (Int×α)
 |[]=>[(k,v)]
 |p::r=>if k=p.1 then(p.1,v)::r else p::Bi k v r
theorem P9{α:Type}{f:α->al}{k:Int}{v:α}:∀(l:List (Int×α)),NU (l.map fun p=>(p.1,f p.2)) k (f v)=(Bi k v l).map fun p=>(p.1,f p.2)
  |[]=>rfl
  |p::r=>by
    show(if k=p.1 then(p.1,f v)::_ else(p.1,f p.2)::NU _ k (f v))=_;unfold Bi;split
    · rfl
    · rw[P9 r];rfl
theorem JY.keep{w w':aq}{K:BS}{b:Nat}{jG:List (Int×al)}(h:JY w b jG)(a:bL K w w')(hn:¬K b):JY w' b jG:=by
 obtain⟨f,c,d,e,g⟩:=h;exact⟨f,c,a.blk d hn,e,g⟩
section
variable{P:cc}{w:aq}{ρ:bo->al}{d:Option Nat}{ty:aT}{pos:String}{af:Array hO}{g:Option (Nat×Bool)}{T:aT}
theorem r_lk1M{α:Type}{f:α->al}{zz:α}{z:al}{x y:bo}{b:Nat}{k:Int}(l:List (Int×α))(e:JY w b (l.map fun p=>(p.1,f p.2)))(h:MapOf P T z)(a:ρ x=.map (aj b))(c:ρ y=.int .i64 k)(hz:z=f zz):
  (bl ρ ⟨d,.lookup T x y ao,ty,pos,af,g⟩).run P w=.ok (.value (f ((lk k l).getD zz))) w:=by
 have:=Yx (d:=d) (ty:=ty) (pos:=pos) (af:=af) (g:=g) h a c e;rw[hz,Yb]at this;exact this
end
open Go.RowKit Go.Proofs Go.MapKept
section
variable{P:cc}{ops:Array ee}{Q:fg->Act->aq->Prop}{n:Nat}{env:Nat->al}{w w' w0:aq}{M K:BS}{hp:Nat->Chunk}{rest:List ee}
 {d:Option Nat} {op:Op} {ty:aT} {pos:String} {af:Array hO} {v:al} {g:Option (Nat×Bool)} {T:aT} {ρ:bo->al}
theorem made_drop(zs:List al)(m q:Nat)(d:q<m):((qt zs.toArray (m*zs.length)).toList.drop (q*zs.length)).take zs.length=zs:=by
  apply df;intro i;rw[cf];split
  · rename_i a;rw[cw];have b:q*zs.length+i<m*zs.length:=by
      have:=bd zs.length (show q+1<=m from d);rw[Nat.succ_mul]at this;omega
    have c:(q*zs.length+i)%zs.length=i:=by rw[Nat.mul_comm,Nat.mul_add_mod];exact Nat.mod_eq_of_lt a
    simp[qt,b,c,a]
  · rename_i a;rw[bt V]
theorem Lf{α:Type}{R:lD α}{E:aT}{c l:Nat}{k:Int}{zs:List al}{x y:bo}{a:α}(h:SH w0 M K w hp)(i:Nat)(C:kD P T E l c)(hz:wH P E zs)(F:R.sz=l)(t:0<c)(hx:ev n env x=.int .i64 k)(X:ev n env y=.int .i64 k)
    (hk:0<=k/\k*c<=140737488355328) (hl:zs.length=l) (I:∀w A,R.rd w A zs a)
    (kk:∀w' u,SH w0 M K w' (bV hp i (.own R E u (List.replicate k.toNat a)))->Grow w w'->(∀b,ob u b->w.heap.size<=b)->WL P ops Q rest n (gD env d u) w'):
    WL P ops Q (⟨d,.makeSlice T x y,ty,pos,af,aw⟩::rest) n env w:=by
  obtain⟨S,O⟩:=hk;obtain⟨m,rfl⟩:=Int.eq_ofNat_of_zero_le S;obtain⟨j,z',B,N,r,s,a0⟩:=C.info;have g:=hz.info;rw[B]at g;simp only[da,eA,Prod.mk.injEq]at g;have a1:m<=m*c:=Nat.le_mul_of_pos_right _ t;have a2:m*c<=140737488355328:=by
    have:((m*c:Nat):Int)<=140737488355328:=by rw[Int.natCast_mul];exact O
    omega
  obtain⟨w',L,ho,hg⟩:=run_make_full (P:=P) w 0 T E j _ l C.desc B g.1 r .i64 .i64 m (by rw[s,Nat.mul_comm];omega) (by unfold maxLen;omega) (fv _);have o:Grow w w':=(BG (v:=.slice aw 0 0) hg).weaken fun _ h _=>h.elim;have p:(bl (ev n env) ⟨d,.makeSlice T x y,ty,pos,af,aw⟩).run P w=.ok (.value<|.slice (aj ⟨w.heap.size,0,aw⟩) m m) w':=by
    simp only[bl,ct,Sem.run_pure,bp,hx,X,L]
  have f:∀b,ob (.slice (aj ⟨w.heap.size,0,aw⟩) m m) b->w.heap.size<=b:=fun b t=>by
    have:b=w.heap.size:=t;omega
  refine J p<|kk w' _ (h.wJ i o ⟨(qt zs.toArray<|m*l).toList,?_,?_⟩ f) o f
  · rw[F];rw[js];exact ho
  · intro q G;simp only[js]at G;have z:q<m:=G;have e:((qt zs.toArray<|m*l).toList.drop<|q*R.sz).take R.sz=zs:=by rw[F,<-hl];exact made_drop zs m q z
    rw[e];simp only[List.getElem_replicate];exact I _ _
end
open Go.RowKit Go.Proofs
section
variable{α β:Type}{N:Rm α β}{R:lD β}{E Es T:aT}{w0 w w':aq}{M K A:BS}{hp:Nat->Chunk}{u u':al}{us:List al}{L:List α}{s:List β}{x:α}{k:Nat}
theorem Lg{a:Type}{l:List a}{z:a}{i:Int}(b:i=(k:Int))(h:l[i.toNat]? =aj z):l[k]? =aj z:=by subst b;simpa using h
theorem at_pd{a:Type}{l:List a}{z:a}{i:Int}(b:i=(k:Int))(h:l[k]? =aj z):l[i.toNat]? =aj z:=by subst b;simpa using h
theorem YI{i:Int}(a:i=(k:Int)):i.toNat=k:=by subst a;simp
theorem SH.YJ(h:SH w0 M K w hp)(j q m:Nat)(l:hp j=.eX (bP R Es (hge k) us (L.map N.sub)))(o:hp q=.eX (MQ R k us (L.map N.sub)))(n:hp m=.own R Es u s)(b:j≠q)(a:j≠m)(c:q≠m)(d:L[k]? =aj x)(f:us[k]? =aj u')(g:N.sub x=s):
  SH w0 M K w (bV (bV (bV (bV (bV hp q (.eX (MQ R (k+1) (us.set k u) (L.map N.sub)))) j (.eX (bP R Es (hge k) (us.set k u) (L.map N.sub)))) m .no) j (.eX (bP R Es (hge (k+1)) (us.set k u) (L.map N.sub)))) j (.eX (bP R Es (hge (k+1)) (us.set k u) (L.map N.sub)))):=by
 have i:=h.pendPut (y:=x) j q m l o n b a c d f g;have e:(L.map N.sub).set k s=L.map N.sub:=by rw[<-g,<-gE,Cu d]
 rw[e,e,Cu d]at i;exact i
end
theorem Df{α:Type}{b:Nat}{a r:List α}(h:clone b a=aj r):a=r:=by
 unfold clone at h;obtain⟨_,h⟩:=bF h;exact cN h
theorem YK{α β:Type}{N:Rm α β}{w:aq}{B A:BS}{v:al}{L:List α}{us:List al}(h:eF N.raw w B A v (L.zip us))(a:us.length=L.length):L.length<=9223372036854775807:=by
 have:=h.bG;rwa[gN a]at this
theorem r_mul{P:cc}{w:aq}{ρ:bo->al}{d:Option Nat}{ty:aT}{pos:String}{af:Array hO}{g:Option (Nat×Bool)}{x y:bo}{T T2:aT}{p q:Int}(a:ρ x=.int .i64 p)(b:ρ y=.int .i64 q)(h: -9223372036854775808<=p*q/\p*q<=9223372036854775807):
  (bl ρ ⟨d,.binOp .mul T x y T2,ty,pos,af,g⟩).run P w=.ok (.value (.int .i64 (p*q))) w:=by
 simp[bl,a,b,eqGuard,binOp,Op.intArith,wrap_in h.1 h.2]
open Go.RowKit Go.Proofs
theorem Qa{cs vs:List al}{o:Nat}(h:o+vs.length<=cs.length)(j:Nat):(MF cs o vs)[j]? =if j<o then cs[j]? else if j<o+vs.length then vs[j-o]? else cs[j]? :=by
  unfold MF;have a:(cs.take o).length=o:=by rw[ca];omega
  by_cases b:j<o
  · rw[if_pos b,ck,kh V,cf,if_pos b]
  · rw[if_neg b];by_cases c:j<o+vs.length
    · rw[if_pos c,ck,gx V,a,kh V]
    · rw[if_neg c,gx (by rw[bk,a];omega),bk,a,cw];congr 1;omega
theorem Ye{cs vs:List al}{o:Nat}(h:o+vs.length<=cs.length):(MF cs o vs).length=cs.length:=by
 unfold MF;simp only[bk,ca,cL];omega
theorem spl_take{cs vs:List al}{o n:Nat}(h:o+vs.length<=n)(hn:n<=cs.length):(MF cs o vs).take n=MF (cs.take n) o vs:=by
  apply df;intro j;have b:(cs.take n).length=n:=by rw[ca];omega
  rw[cf,Qa V,Qa V,cf];by_cases a:j<n
  · rw[if_pos a,if_pos a]
  · rw[if_neg a,if_neg V,if_neg V,if_neg a]
theorem spl_self{cs vs:List al}{o:Nat}(h:o+vs.length<=cs.length):((MF cs o vs).drop o).take vs.length=vs:=by
  apply df;intro j;rw[cf,cw,Qa h];by_cases a:j<vs.length
  · rw[if_pos a,if_neg V,if_pos V];congr 1;omega
  · rw[if_neg a,bt V]
theorem spl_other{cs vs:List al}{o p s:Nat}(h:o+vs.length<=cs.length)(hp:p+s<=o\/o+vs.length<=p):((MF cs o vs).drop p).take s=(cs.drop p).take s:=by
  apply df;intro j;rw[cf,cw,Qa h,cf,cw];by_cases a:j<s
  · rw[if_pos a,if_pos a];by_cases b:p+j<o
    · rw[if_pos b]
    · rw[if_neg b,if_neg V]
  · rw[if_neg a,if_neg a]
section
variable{P:cc}{ops:Array ee}{Q:fg->Act->aq->Prop}{n:Nat}{env:Nat->al}{w w' w0:aq}{M K:BS}{hp:Nat->Chunk}{rest:List ee}
 {d:Option Nat} {op:Op} {ty:aT} {pos:String} {af:Array hO} {v:al} {g:Option (Nat×Bool)} {T:aT} {ρ:bo->al} {x y:bo}
theorem EH{α:Type}{R:lD α}{E:aT}{z:Nat}{l:List α}{k:Int}{a a':α}{b:Nat}{zs vs:List al}{u:al}(h:SH w0 M K w hp)(i:Nat)(t:hp i=.own R E u l)(C:ob u b)(hs:R.sz=z)(hk:l[k.toNat]? =aj a)(hT:wH P T zs)(c:ev n env x=.pointer (aj ⟨b,k.toNat*z,aw⟩))
    (hy:ev n env y=.agg vs.toArray) (hl:vs.length=zs.length) (O:zs.length=z) (hset:R.rd w (SH.A M hp) vs a')
    (kk:∀w',SH w0 M K w' (bV hp i (.own R E u (l.set k.toNat a')))->bL (ob u) w w'->WL P ops Q rest n (gD env d fW) w'):
    WL P ops Q (⟨d,.store T x y,ty,pos,af,aw⟩::rest) n env w:=by
  subst hs;have L:k.toNat<l.length:=MO hk;generalize k.toNat=k at*;have f:∀b,ob u b->SH.A M hp b:=fun b C=>.inr ⟨i,by rw[t];exact C⟩;obtain⟨xs,S,q3⟩:=h.bJ i t;rcases S.2 with⟨rfl,hn⟩|⟨g',cap,cur,rfl,e1,e2,e3,e4,e5,e6⟩
  · omega
  have v:b=g':=C;subst v;have I:(k+1)*R.sz<=l.length*R.sz:=bd _ L;have a1:l.length*R.sz<=cap*R.sz:=bd _ e3;rw[cg]at I;have F:vs.length=R.sz:=hl.trans O;have X:cur.toList.length=cap*R.sz:=by simpa using e5
  have a0:xs.length=l.length*R.sz:=S.1;have s:k*R.sz+vs.length<=cur.toList.length:=by omega
  have o:k*R.sz+vs.length<=xs.length:=by omega
  have m:=bL.xH w b<|.cells (MF cur.toList (k*R.sz) vs).toArray E (0,0);have G:=Tm (P:=P) (w:=w) (ρ:=ev n env) (d:=d) (ty:=ty) (pos:=pos) (af:=af) (g:=aw) (cs:=cur.toList) (E:=E) hT c (by simpa using e2) hy hl s<|R.one hset;refine BF G (kk _ (h.step i m (fun x c _=>by rw[t];exact c) (fun x c _=>by rw[t];exact c) ⟨MF xs (k*R.sz) vs,⟨?_,.inr ⟨b,cap,(MF cur.toList (k*R.sz) vs).toArray,?_,e1,?_,?_,e4,?_,?_⟩⟩,?_⟩) (m.weaken (fun x c _=>c)))
  · rw[Ye o,cm];exact S.1
  · rw[cm]
  · rw[wK (iT e2)]
  · rw[cm];exact e3
  · rw[ri,Ye s];exact X
  · rw[cm];show(MF cur.toList (k*R.sz) vs).take (l.length*R.sz)=MF xs (k*R.sz) vs;rw[spl_take V V,e6]
  · intro p B;have N:p<l.length:=by rwa[cm]at B
    have q:=fun cs a(h:R.rd w (SH.A M hp) cs a)=>R.go (A':=fun x=>(M x\/(SH.av hp i (.own R E (.slice (aj ⟨b,0,aw⟩) l.length cap) (l.set k a'))) x)\/ob (.slice (aj ⟨b,0,aw⟩) l.length cap) x) h m (fun x c _=>f x c) (fun x c _=>by
      rcases c with(c|c|c)|c
      · exact .inl c
      · exact .inr<|lF c
      · exact f x c
      · exact f x c)
    have hq:=fun j(hj:j<l.length)=>R.go (A':=SH.A M hp) (q3 j hj) (bL.refl BE w) (fun _ h=>h.elim) fun x c _=>.inl c;by_cases r:p=k
    · subst r;rw[mc];have e:=spl_self o;rw[F]at e;rw[e];exact q _ _ hset
    · rw[mF (Ne.symm r),spl_other o]
      · exact q _ _<|hq p N
      · rcases cF k p with h5|h5
        · right;have:(k+1)*R.sz<=p*R.sz:=bd _ h5;rw[cg]at this;omega
        · left;have:(p+1)*R.sz<=k*R.sz:=bd _ V;rw[cg]at this;omega
end
section
variable{α β:Type}{N:Rm α β}{R:lD β}{E Es T:aT}{w0 w w':aq}{M K A:BS}{hp:Nat->Chunk}{us:List al}{L:List α}{x:α}{k:Nat}
theorem SH.zf(h:SH w0 M K w hp)(j m:Nat)(s:List β)(b:hp j=.eX (bP R Es hn us (L.map N.sub)))(e:hp m=.no)(a:j≠m)(d:L[k]? =aj x)(c:N.sub x=s):
 ∃u,us[k]? =aj u/\SH w0 M K w (bV (bV hp j (.eX (bP R Es (hat k) us (L.map N.sub)))) m (.own R Es u s)):=by subst c;exact h.dnOpen j m b e a d
theorem SH.mvOpenL{c:List Int}{kk:Int}(h:SH w0 M K w hp)(j m:Nat)(s:List β)(e:hp j=.eX (bP R Es (hmv c) us (L.map N.sub)))(i:hp m=.no)(b:j≠m)(d:0<=kk)(g:L[kk.toNat]? =aj x)(a:kk∉c)(f:N.sub x=s):
 ∃u,us[kk.toNat]? =aj u/\SH w0 M K w (bV (bV hp j (.eX (bP R Es (hmv (c++[kk])) us (L.map N.sub)))) m (.own R Es u s)):=by subst f;exact h.mvOpen j m e i b d g a
theorem SH.rdpAtL(h:SH w0 M K w hp)(q:Nat)(s:List β)(d:hp q=.eX (MQ R k us (L.map N.sub)))(a:us.length=L.length)(c:L[k]? =aj x)(b:N.sub x=s):∃u,us[k]? =aj u/\di R w (SH.A M hp) u s:=by subst b;exact h.rdpAt q d a c
end
open Go.RowKit Go.Proofs
def Chunk.flat:Chunk->Prop
 | .no=>True
 | .own R _ _ _=>∀w A A' cs x,R.rd w A cs x->R.rd w A' cs x
 | .two a b=>a.flat/\b.flat
 | .eX S=>∀w A A',S.P w A->S.P w A'
 |_=>False
theorem cu.flat{α:Type}{R:lD α}{E:aT}{w:aq}{A A':BS}{v:al}{l:List α}(b:∀w A A' cs x,R.rd w A cs x->R.rd w A' cs x)(h:cu R E w A v l):cu R E w A' v l:=by
 obtain⟨xs,c,a⟩:=h;exact⟨xs,c,fun i d=>b _ _ _ _ _<|a i d⟩
theorem Chunk.flatten{c:Chunk}{w:aq}{M O e f:BS}(d:c.flat)(h:c.holds w M O):c.holds w e f:=by
 induction c with
 |no=>trivial
 |own R E v l=>exact cu.flat d h
 |two a b ha hb=>exact⟨ha d.1 h.1,hb d.2 h.2.1,h.2.2⟩
 |eX S=>exact d _ _ _ h
 |_=>exact d.elim
theorem Qb{β:Type}{R:lD β}{E:aT}{ho:Nat->Prop}{us:List al}{ss:List (List β)}(f:∀w A A' cs x,R.rd w A cs x->R.rd w A' cs x):∀w A A',(bP R E ho us ss).P w A->(bP R E ho us ss).P w A':=by
 rintro w A A'⟨c,d,g⟩;exact⟨c,fun i u s e a b=>cu.flat f<|d i u s e a b,g⟩
theorem eF.toBE{α:Type}{R:lD α}{w:aq}{B A:BS}{v:al}{l:List α}(h:eF R w B A v l):eF R w BE BE v l:=
 eF.go h (bL.refl BE w) (fun _ h=>h.elim) (fun _ h=>h.elim) (fun _ h=>h.elim) (fun _ h=>h.elim)
section
variable{α β:Type}{N:Rm α β}{R:lD β}{E Es T:aT}{w0 w w':aq}{M K A:BS}{hp:Nat->Chunk}{v u u':al}{us us':List al}{L L':List α}
theorem SH.Vk{R':lD α}(h:SH w0 M K w hp)(i j:Nat)(e:hp i=.own N.raw E v (L.zip us))(c:hp j=.eX (bP R Es hn us (L.map N.sub)))(a:i≠j)(b:R'.sz=N.sz)(d:∀w A x u,di R w A u (N.sub x)->R'.rd w A (N.enc x u) x):eF R' w BE BE v L:=
 eF.toBE ((h.Lb i j e c a b d).bC i (bW _ _ _))
theorem SH.gotCF{C:Chunk}{O:BS}(h:SH w0 M K w hp)(i:Nat)(e:Grow w w')(c:C.Tv)(a:C.flat)(d:C.holds w' BE O)(hn:∀b,C.own' b->w.heap.size<=b):SH w0 M K w' (bV hp i C):=
 h.gotC i e c (Chunk.flatten a d) hn
end
section
variable{P:cc}{Q:fg->Act->aq->Prop}{n:Nat}{env:Nat->al}{w w' w0:aq}{M K:BS}{hp:Nat->Chunk}
theorem TG{k:Func}{R:Ending->aq->Prop}{t u j a:Tmp}{T:aT}{v2 v3 v4:al}{zs vs:List al}{b:Nat}(s:k.results= #[.cell a T,.tmp t,.tmp u,.tmp j])(q:ev n env (.tmp a)=.pointer (aj ⟨b,0,aw⟩))(m:ev n env (.tmp t)=v2)(p:ev n env (.tmp u)=v3)(x:ev n env (.tmp j)=v4)
  (r:SH w0 M K w hp) (i:Nat) (l:hp i=.blk b vs) (o:wH P T zs) (v:vs.length=zs.length) (h:R (.returned (.tuple #[.agg vs.toArray,v2,v3,v4])) w):jj P k R .ret (act n env) w:=by
 refine⟨Z,_,?_,h⟩;have e:=congrFun (gY n env)<|.tmp t;have f:=congrFun (gY n env)<|.tmp u;have d:=congrFun (gY n env)<|.tmp j;have c:=congrFun (gY n env)<|.tmp a;rw[m]at e;rw[p]at f;rw[x]at d;rw[q]at c;simp only[Act.eval]at e f c d;rw[cQ]at e f c d;have g:=Dc (P:=P) r l o v Z;unfold results;rw[s];simp[e,f,c,d,asAddr,g]
end
section
variable{α β:Type}{R:lD α}{E:aT}{w0 w:aq}{M K:BS}{hp:Nat->Chunk}{v:al}{l:List α}{C:Chunk}
theorem SH.ownSrB(h:SH w0 M K w hp)(i j:Nat)(c:i≠j)(d:hp j=.own R E v l)(f:hp i=C):di R w (fun b=>BE b\/C.own' b) v l:=
 (h.ownSr i j c d f).sub (fun b a _=>a.elim (fun e=>e.elim) id) (fun b a _=>a.elim (fun e=>e.elim) .inr)
theorem ap_BE{C:Chunk}:∀b,C.own' b->¬BE b:=fun _ _ h=>h
end
structure Rn where
 said:Bool
 n:Int
 paused:Bool
structure om where
 l:List Int
 bad:Bool
open Go.RowKit Go.Proofs
theorem spl_mid{xs vs:List al}{p s off:Nat}(h:off+vs.length<=s)(hp:p+s<=xs.length):((MF xs (p+off) vs).drop p).take s=MF ((xs.drop p).take s) off vs:=by
  apply df;intro j;have d:((xs.drop p).take s).length=s:=by rw[ca,cL];omega
  rw[Qa V,cf];by_cases a:j<s
  · rw[if_pos a,cw,Qa V,cf,if_pos a,cw];by_cases b:j<off
    · rw[if_pos b,if_pos V]
    · rw[if_neg b,if_neg V];by_cases c:j<off+vs.length
      · rw[if_pos c,if_pos V,show p+j-(p+off)=j-off by omega]
      · rw[if_neg c,if_neg V]
  · rw[if_neg a,if_neg V,if_neg V,cf,if_neg a]
section
variable{P:cc}{ops:Array ee}{Q:fg->Act->aq->Prop}{n:Nat}{env:Nat->al}{w w' w0:aq}{M K:BS}{hp:Nat->Chunk}{rest:List ee}
 {d:Option Nat} {op:Op} {ty:aT} {pos:String} {af:Array hO} {v:al} {g:Option (Nat×Bool)} {T:aT} {ρ:bo->al} {x y:bo}
theorem w_stOP{α:Type}{R:lD α}{E:aT}{F:Nat}{l:List α}{k:Int}{a a':α}{b off:Nat}{zs vs:List al}{u:al}(h:SH w0 M K w hp)(i:Nat)(z:hp i=.own R E u l)(I:ob u b)(hs:R.sz=F)(O:l[k.toNat]? =aj a)(hT:wH P T zs)(c:ev n env x=.pointer (aj ⟨b,k.toNat*F+off,aw⟩))
    (hy:ev n env y=.agg vs.toArray) (hl:vs.length=zs.length) (v:ll (off+vs.length) F=ba) (t:∀u∈vs,u.oneCell'=ba) (hset:∀cs,R.rd w (SH.A M hp) cs a->R.rd w (SH.A M hp) (MF cs off vs) a')
    (kk:∀w',SH w0 M K w' (bV hp i (.own R E u (l.set k.toNat a')))->bL (ob u) w w'->WL P ops Q rest n (gD env d fW) w'):
    WL P ops Q (⟨d,.store T x y,ty,pos,af,aw⟩::rest) n env w:=by
  subst hs;rw[oy]at v;have o:k.toNat<l.length:=MO O;have C:l[k.toNat]=a:=by rw[bc o]at O;exact cN O
  generalize k.toNat=k at*;have e:∀b,ob u b->SH.A M hp b:=fun b I=>.inr ⟨i,by rw[z];exact I⟩;obtain⟨xs,X,q3⟩:=h.bJ i z;rcases X.2 with⟨rfl,hn⟩|⟨g',cap,cur,rfl,e1,e2,e3,e4,e5,e6⟩
  · omega
  have B:b=g':=I;subst B;have N:(k+1)*R.sz<=l.length*R.sz:=bd _ o;have a2:l.length*R.sz<=cap*R.sz:=bd _ e3;rw[cg]at N;have a0:cur.toList.length=cap*R.sz:=by simpa using e5
  have a1:xs.length=l.length*R.sz:=X.1;have r:k*R.sz+off+vs.length<=cur.toList.length:=by omega
  have s:k*R.sz+off+vs.length<=xs.length:=by omega
  have m:=bL.xH w b<|.cells (MF cur.toList (k*R.sz+off) vs).toArray E (0,0);have L:=Tm (P:=P) (w:=w) (ρ:=ev n env) (d:=d) (ty:=ty) (pos:=pos) (af:=af) (g:=aw) (cs:=cur.toList) (E:=E) hT c (by simpa using e2) hy hl r t;refine BF L (kk _ (h.step i m (fun x c _=>by rw[z];exact c) (fun x c _=>by rw[z];exact c) ⟨MF xs (k*R.sz+off) vs,⟨?_,.inr ⟨b,cap,(MF cur.toList (k*R.sz+off) vs).toArray,?_,e1,?_,?_,e4,?_,?_⟩⟩,?_⟩) (m.weaken (fun x c _=>c)))
  · rw[Ye s,cm];exact X.1
  · rw[cm]
  · rw[wK (iT e2)]
  · rw[cm];exact e3
  · rw[ri,Ye r];exact a0
  · rw[cm];show(MF cur.toList (k*R.sz+off) vs).take (l.length*R.sz)=MF xs (k*R.sz+off) vs;rw[spl_take V V,e6]
  · intro f G;have S:f<l.length:=by rwa[cm]at G
    have p:=fun cs a(h:R.rd w (SH.A M hp) cs a)=>R.go (A':=fun x=>(M x\/(SH.av hp i (.own R E (.slice (aj ⟨b,0,aw⟩) l.length cap) (l.set k a'))) x)\/ob (.slice (aj ⟨b,0,aw⟩) l.length cap) x) h m (fun x c _=>e x c) (fun x c _=>by
      rcases c with(c|c|c)|c
      · exact .inl c
      · exact .inr<|lF c
      · exact e x c
      · exact e x c)
    have hq:=fun j(hj:j<l.length)=>R.go (A':=SH.A M hp) (q3 j hj) (bL.refl BE w) (fun _ h=>h.elim) fun x c _=>.inl c;by_cases q:f=k
    · subst q;rw[mc];rw[spl_mid v V];exact p _ _<|hset _<|C▸hq f o
    · rw[mF (Ne.symm q),spl_other s]
      · exact p _ _<|hq f S
      · rcases cF k f with h5|h5
        · right;have:(k+1)*R.sz<=f*R.sz:=bd _ h5;rw[cg]at this;omega
        · left;have:(f+1)*R.sz<=k*R.sz:=bd _ V;rw[cg]at this;omega
end
open Go.RowKit Go.Proofs
def nIns:Rm Ins Int where
 sz:=5
 enc x u:=[.int .i64 x.op,.int .i64 x.a,.int .i64 x.b,.int .i64 x.c,u]
 sub x:=x.args
 put x s:={x with args:=s}
 len _ _:=rfl
 one:=by intro x u h c hc;simp only[bn,de,or_false]at hc;rcases hc with rfl|rfl|rfl|rfl|rfl<;>first|rfl|exact h
 pos:=by decide
 TA _ _ _:=rfl
 TB _ _:=rfl
theorem nIns_br:∀w A (x:Ins) u,di dh w A u (nIns.sub x)->lu.rd w A (nIns.enc x u) x:=fun _ _ _ u h=>⟨u,rfl,h⟩
theorem nIns_op:∀(w:aq) (A:BS) cs (x:Ins),lu.rd w A cs x->∃u,cs=nIns.enc x u/\di dh w A u (nIns.sub x):=fun _ _ _ _ h=>h
theorem nProc_op:∀(w:aq) (A:BS) cs (x:bA),dG.rd w A cs x->∃u,cs=Ld.enc x u/\di lu w A u (Ld.sub x):=fun _ _ _ _ h=>h
section
variable{α β:Type}{N:Rm α β}{R:lD β}{E Es T:aT}{w0 w w':aq}{M K A:BS}{hp:Nat->Chunk}{v u u':al}{us us':List al}{L L':List α}{ss ss':List (List β)}{s:List β}{x y:α}{k:Nat}
theorem SH.pendSet(h:SH w0 M K w hp)(j q:Nat)(b:hp j=.eX (bP R Es (hge k) us (L.map N.sub)))(l:hp q=.eX (MQ R k us (L.map N.sub)))(a:j≠q)(d:L[k]? =aj x):
  SH w0 M K w (bV (bV hp q (.eX (MQ R (k+1) (us.set k u) (L.map N.sub)))) j (.eX (bP R Es (hge k) (us.set k u) (L.map N.sub)))):=by
 have g:=h.rdpStep (u:=u) (s:=N.sub x) q l;have m:=h.jT j b;have c:=g.famRe (us':=us.set k u) (ss':=(L.map N.sub).set k (N.sub x)) j (by rw[dZ a];exact b) (by simp[m]) (fun i f=>by
  have:k≠i:=fun e=>f (by subst e;exact bq _);rw[dB this,dB this];exact⟨Z,Z⟩)
 have e:(L.map N.sub).set k (N.sub x)=L.map N.sub:=by rw[<-gE,Cu d]
 rw[e]at c;exact c
theorem SH.pendDel(h:SH w0 M K w hp)(j m:Nat)(f:hp j=.eX (bP R Es (hge k) us (L.map N.sub)))(n:hp m=.own R Es u s)(b:j≠m)(g:L[k]? =aj x)(d:us[k]? =aj u)(l:N.sub x=s):
    SH w0 M K w (bV (bV hp m .no) j (.eX (bP R Es (hge (k+1)) us (L.map N.sub)))):=by
  have c:=h.La j m (k:=k) (u:=u) (s:=s) f n b d (bq k) (hge (k+1)) (fun i=>⟨fun a=>by
    rcases rh (show k<=i from a)with e|e
    · exact .inr e.symm
    · exact .inl e,fun a=>a.elim (fun a=>rF a) (fun e=>by subst e;exact bq _)⟩) (fun a=>absurd a (pZ k))
  have e:(L.map N.sub).set k s=L.map N.sub:=by rw[<-l,<-gE,Cu g]
  rw[e]at c;exact c
theorem SH.dnOwn{R':lD α}(h:SH w0 M K w hp)(i j:Nat)(o:hp i=.own N.raw E v (L.zip us))(f:hp j=.eX (bP R Es hn us (L.map N.sub)))(r:i≠j)(g:R'.sz=N.sz)(O:∀w A x u,di R w A u (N.sub x)->R'.rd w A (N.enc x u) x):SH w0 M K w (bV (bV hp j .no) i (.own R' E v L)):=by
  have y:=h.jT j f;have m:=h.pair i j r;have l:=m.apart i;have s:=m.apM i;have k:=m.ok i;rw[bW]at l s;rw[bW,o,f]at k;have B:=m.step (c:=.own R' E v L) i (bL.refl BE w) (fun _ h=>h.elim) (fun b a _=>by rw[bW,o];exact .inl a) ?_
  · rw[EG]at B;exact B
  · have hno:∀b,(hp j).own' b->¬((M b\/SH.av (bV (bV hp j .no) i<|.two (hp i)<|hp j) i (.own R' E v L) b)\/ob v b):=by
      intro b a d;rcases d with(d|⟨q,n,d⟩|d)|d
      · exact s b (.inr a) d
      · exact l q (fun e=>n e.symm) b (.inr a) d
      · exact k.2.2 b d (by rw[<-f];exact a)
      · exact k.2.2 b d (by rw[<-f];exact a)
    have G:∀b,((M b\/SH.av (bV (bV hp j .no) i<|.two (hp i)<|hp j) i (.own R' E v L) b)\/ob v b)->M b\/iU (bV (bV hp j .no) i<|.two (.own N.raw E v<|L.zip us)<|.eX<|bP R Es hn us<|L.map N.sub) b:=by
      rw[o,f];have C:∀b,ob v b->iU (bV (bV hp j .no) i (.two (.own N.raw E v (L.zip us)) (.eX (bP R Es hn us (L.map N.sub))))) b:=fun b a=>⟨i,by rw[bW];exact .inl a⟩;rintro b((a|a|a)|a)
      · exact .inl a
      · exact .inr<|lF a
      · exact .inr<|C b a
      · exact .inr<|C b a
    obtain⟨xs,t,P⟩:=k.1;refine⟨xs,?_,fun q n=>?_⟩
    · rw[gN y]at t;show w.ownsRow 0 E R'.sz v L.length xs;rw[g];exact t
    · have p:q<(L.zip us).length:=by rw[gN y];exact n
      have z:=P q p;have F:(L.zip us)[q]=(L[q],us[q]'V):=by simp
      rw[F]at z;obtain⟨I,_⟩:=z;have Q:((xs.drop<|q*N.sz).take N.sz)=N.enc L[q] (us[q]'V):=I;show R'.rd w _ ((xs.drop<|q*R'.sz).take R'.sz) L[q];rw[g,Q];exact O _ _ _ _ (cu.rd (k.2.1.2.1 q _ _ (bc V) (by rw[ef,bc n];rfl) (fun h=>h)) (fun b a=>hno b (by rw[f];exact⟨q,_,bc V,fun h=>h,a⟩)) (fun b a _=>.inl (.inl (G b a))))
end
structure eG where
 cos:List Co
 safe:List UInt8
 wait:List UInt8
 up:Bool
def fF:lD eG where
 sz:=4
 rd w A cs x:=∃vcos,∃XI,∃XJ,cs=[vcos,XI,XJ,.bool x.up]/\di Ib w A vcos x.cos/\di iO w A XI x.safe/\di iO w A XJ x.wait
 len:=by rintro w A cs x ⟨vcos,XI,XJ,rfl,h0,h1,h2⟩;rfl
 one:=by rintro w A cs x ⟨vcos,XI,XJ,rfl,h0,h1,h2⟩ u hu;simp only[bn,de,or_false]at hu;rcases hu with rfl|rfl|rfl|rfl<;>first|rfl|exact h0.one|exact h1.one|exact h2.one
 pos:=by decide
 go:=by rintro w A cs x w2 A2 K ⟨vcos,XI,XJ,rfl,h0,h1,h2⟩ hk hK hA;exact⟨_,_,_,Z,h0.go hk hK hA,h1.go hk hK hA,h2.go hk hK hA⟩
theorem iD{w:aq}{A:BS}{cs:List al}{x:eG}(h:fF.rd w A cs x):∃a,∃b,∃c,cs=[a,b,c,.bool x.up]/\di Ib w A a x.cos/\di iO w A b x.safe/\di iO w A c x.wait:=h
structure aX where
 prog:List bA
 places:List eG
 bO:List fI
structure iW where
 kind:Int
 place:Int
 co:Int
 n:Int
def IC:lD iW where
 sz:=4
 rd w A cs x:=cs=[.int .i64 x.kind,.int .i64 x.place,.int .i64 x.co,.int .i64 x.n]
 len:=by rintro w A cs x rfl;rfl
 one:=by rintro w A cs x rfl u hu;simp only[bn,de,or_false]at hu;rcases hu with rfl|rfl|rfl|rfl<;>first|rfl
 pos:=by decide
 go:=fun h _ _ _=>h
open Go Go.RowKit Go.Proofs
section
variable{P:cc}{ops:Array ee}{Q:fg->Act->aq->Prop}{rest:List ee}{n:Nat}{env:Nat->al}{w w0:aq}{M K:BS}{hp:Nat->Chunk}{d:Option Nat}{ty:aT}{pos:String}{af:Array hO}{x y:bo}{T:aT}{v:al}
theorem mI{i:Int}(a:ev n env x=.int .i64 i)(h:WL P ops Q rest n (gD env d (.int .i64 i)) w):WL P ops Q (⟨d,.move x,ty,pos,af,aw⟩::rest) n env w:=J (bB a) h
theorem mB{i:Bool}(a:ev n env x=.bool i)(h:WL P ops Q rest n (gD env d (.bool i)) w):WL P ops Q (⟨d,.move x,ty,pos,af,aw⟩::rest) n env w:=J (bB a) h
theorem mP{i:Option Addr}(a:ev n env x=.pointer i)(h:WL P ops Q rest n (gD env d (.pointer i)) w):WL P ops Q (⟨d,.move x,ty,pos,af,aw⟩::rest) n env w:=J (bB a) h
theorem mV(v:al)(a:ev n env x=v)(h:WL P ops Q rest n (gD env d v) w):WL P ops Q (⟨d,.move x,ty,pos,af,aw⟩::rest) n env w:=J (bB a) h
theorem aI{i:Int}(a:ev n env x=.int .i64 i)(h:WL P ops Q rest n (gD env d (.int .i64 i)) w):WL P ops Q (⟨d,.assign x,ty,pos,af,aw⟩::rest) n env w:=J (fw a) h
theorem aB{i:Bool}(a:ev n env x=.bool i)(h:WL P ops Q rest n (gD env d (.bool i)) w):WL P ops Q (⟨d,.assign x,ty,pos,af,aw⟩::rest) n env w:=J (fw a) h
theorem aP{i:Option Addr}(a:ev n env x=.pointer i)(h:WL P ops Q rest n (gD env d (.pointer i)) w):WL P ops Q (⟨d,.assign x,ty,pos,af,aw⟩::rest) n env w:=J (fw a) h
theorem aV(v:al)(a:ev n env x=v)(h:WL P ops Q rest n (gD env d v) w):WL P ops Q (⟨d,.assign x,ty,pos,af,aw⟩::rest) n env w:=J (fw a) h
theorem lB{z:al}{b o:Nat}{cs:List al}(h:SH w0 M K w hp)(i:Nat)(a:One P T z)(e:(hp i,ev n env x,cs[o]?)=(Chunk.blk b cs,fX (aj ⟨b,o,aw⟩),aj v))(k:WL P ops Q rest n (gD env d v) w):WL P ops Q (⟨d,.load T x,ty,pos,af,aw⟩::rest) n env w:=by
 injection e with e1 e2;injection e2 with e2 e3;exact J (bZ h i e1 a e2 e3) k
theorem pF{zs vs:List al}{b o:Nat}{cs:List al}(h:SH w0 M K w hp)(i:Nat)(a:wH P T zs)(e:(hp i,ev n env x,(cs.drop o).take zs.length,vs.length)=(Chunk.blk b cs,fX (aj ⟨b,o,aw⟩),vs,zs.length))(k:WL P ops Q rest n (gD env d (.agg vs.toArray)) w):WL P ops Q (⟨d,.load T x,ty,pos,af,aw⟩::rest) n env w:=by
 injection e with e1 e2;injection e2 with e2 e3;injection e3 with e3 e4;exact J (yR h i e1 a e2 e3 e4) k
theorem dK{b o k off:Nat}(c:dR P T k off)(a:ev n env x=.pointer (aj ⟨b,o,aw⟩))(h:WL P ops Q rest n (gD env d (.pointer (aj ⟨b,o+off,aw⟩))) w):WL P ops Q (⟨d,.fieldAddr T x k,ty,pos,af,aw⟩::rest) n env w:=J (aM c a) h
theorem w_stA{zs:List al}{b:Nat}{cs:List al}(h:SH w0 M K w hp)(i:Nat)(vs:List al)(c:wH P T zs)(e:(hp i,ev n env x,ev n env y,vs.length,cs.length)=(Chunk.blk b cs,fX (aj ⟨b,0,aw⟩),rj vs.toArray,zs.length,vs.length))(a:∀v∈vs,v.oneCell'=ba)
  (k:∀w',SH w0 M K w' (bV hp i (.blk b vs))->WL P ops Q rest n (gD env d fW) w'):WL P ops Q (⟨d,.store T x y,ty,pos,af,aw⟩::rest) n env w:=by
 injection e with e1 e2;injection e2 with e2 e3;injection e3 with e3 e4;injection e4 with e4 e5;refine w_stN h i vs e1 c e2 e3 e4 ?_ (by rw[oy];omega) a k;unfold MF;simp[e5]
theorem bR{f:fR}{first captured:Array al}{xs:Array bo}{a:Array aT}{args:List al}(h:SH w0 M K w hp)(b:Tn P f)(i:ev n env x=.func (.func f) first captured)
  (j:first.toList++xs.toList.map (ev n env)++captured.toList=args) (c:bE P f args.toArray w (fun e w'=>Grow w w'/\e=.returned v)) (k:∀w',SH w0 M K w' hp->WL P ops Q rest n (gD env d v) w'):
  WL P ops Q (⟨d,.call {callee:=.value x,args:=xs,argTypes:=a},ty,pos,af,aw⟩::rest) n env w:=
 bX b i j c (by rintro _ w' ⟨g,rfl⟩;exact⟨_,Z,k w' (h.grow g)⟩)
theorem Yf{α:Type}{R:lD α}{l:List α}{f:fR}{first captured:Array al}{xs:Array bo}{a:Array aT}{args:List al}{F:al->al}(h:SH w0 M K w hp)(i:Nat)(j:Tn P f)(m:ev n env x=.func (.func f) first captured)
  (b:first.toList++xs.toList.map (ev n env)++captured.toList=args) (c:bE P f args.toArray w (fun e w'=>Grow w w'/\∃u,e=.returned (F u)/\di R w' (SH.A M hp) u l)) (k:∀w' u,SH w0 M K w' (bV hp i (.rd R u l))->WL P ops Q rest n (gD env d (F u)) w'):
  WL P ops Q (⟨d,.call {callee:=.value x,args:=xs,argTypes:=a},ty,pos,af,aw⟩::rest) n env w:=
 bX j m b c (by rintro _ w' ⟨g,u,rfl,g2⟩;exact⟨_,Z,k w' u (h.AZ i g g2)⟩)
theorem iK{α:Type}{R:lD α}{E:aT}{l:List α}{f:fR}{first captured:Array al}{xs:Array bo}{a:Array aT}{args:List al}{F:al->al}(h:SH w0 M K w hp)(i:Nat)(m:Tn P f)(o:ev n env x=.func (.func f) first captured)
  (c:first.toList++xs.toList.map (ev n env)++captured.toList=args) (j:bE P f args.toArray w (fun e w'=>Grow w w'/\∃u,e=.returned (F u)/\cu R E w' (SH.A M hp) u l/\(∀b,ob u b->w.heap.size<=b))) (k:∀w' u,SH w0 M K w' (bV hp i (.own R E u l))->WL P ops Q rest n (gD env d (F u)) w'):
  WL P ops Q (⟨d,.call {callee:=.value x,args:=xs,argTypes:=a},ty,pos,af,aw⟩::rest) n env w:=
 bX m o c j (by rintro _ w' ⟨g,u,rfl,g2,p⟩;exact⟨_,Z,k w' u (h.wJ i g g2 p)⟩)
end
section
variable{w w' w0:aq}{M K:BS}{hp:Nat->Chunk}{C:Chunk}
theorem SH.fe(h:SH w0 M K w hp)(i:Nat)(a:(hp i).Tv):(hp i).holds w M (hp i).own'/\bL K w0 w/\(∀b,(hp i).own' b->b<w0.heap.size->K b):=h.outS i Z a
theorem SH.iq(h:SH w0 M K w hp)(i:Nat)(a:(hp i).Tv):(hp i).holds w (fun b=>M b\/rest hp i b) (hp i).own'/\(∀b,(hp i).own' b->¬(M b\/rest hp i b))/\(∀b,(M b\/rest hp i b)->b<w.heap.size):=h.lendS i Z a
theorem SH.kN(h:SH w0 M K w hp)(i:Nat)(c:C.holds w' (fun b=>M b\/rest hp i b) C.own')(a:C.Tv)(d:bL (hp i).own' w w')(hn:∀b,C.own' b->b<w.heap.size->(hp i).own' b):SH w0 M K w' (bV hp i C):=h.back i Z a c d hn
end
section
variable{σ ρ α:Type}{b:Int->σ->(σ->ρ)->ρ}{bx:Int->α->σ->(σ->ρ)->ρ}{be:α->σ->(σ->ρ)->ρ}{K:σ->ρ}{s:σ}{r:ρ}{i c:Int}{k:Nat}{L:List α}
theorem oo(f:i=(k:Int))(e:ab (i<c)=ba)(a:upto b K i (c.toNat-k) s=r):∃d,upto b K (i+1) (c.toNat-(k+1))=d/\b i s d=r:=by
 rw[upto_lt (by have:=of_decide_eq_true e;omega)]at a;exact⟨_,Z,a⟩
theorem vw(d:i=(k:Int))(e:ab (i<c)=ao)(a:upto b K i (c.toNat-k) s=r):K s=r:=by
 rw[upto_ge (by have:=of_decide_eq_false e;omega)]at a;exact a
theorem vz(a:i=(k:Int))(e:ab (i<c)=ba)(b:c<=9223372036854775807):kv (i+1):=by
 have:=of_decide_eq_true e;exact kv.mk V V
theorem Gr(a:i=(k:Int))(e:ab (i<c)=ba):c.toNat-(k+1)<c.toNat-k:=by
 have:=of_decide_eq_true e;omega
theorem kH(a:i=(k:Int))(e:ab (i<(L.length:Int))=ba)(b:each be K (L.drop k) s=r):∃x c,L[k]? =aj x/\each be K (L.drop (k+1))=c/\be x s c=r:=by
 obtain⟨x,d,f⟩:=drop_lt<|a▸e;rw[f,gW]at b;exact⟨x,_,d,Z,b⟩
theorem o8(a:i=(k:Int))(e:ab (i<(L.length:Int))=ao)(b:each be K (L.drop k) s=r):K s=r:=by
 rw[drop_ge (a▸e),rz]at b;exact b
theorem BZ(a:i=(k:Int))(e:ab (i<(L.length:Int))=ba)(b:gU bx K i (L.drop k) s=r):∃x c,L[k]? =aj x/\gU bx K (i+1) (L.drop (k+1))=c/\bx i x s c=r:=by
 obtain⟨x,d,f⟩:=drop_lt<|a▸e;rw[f,qU]at b;exact⟨x,_,d,Z,b⟩
theorem IE(a:i=(k:Int))(e:ab (i<(L.length:Int))=ao)(b:gU bx K i (L.drop k) s=r):K s=r:=by
 rw[drop_ge (a▸e),U9]at b;exact b
theorem sI(a:i=(k:Int))(e:ab (i<(L.length:Int))=ba):L.length-(k+1)<L.length-k:=by
 have:=of_decide_eq_true e;omega
end
abbrev cW(b:Nat)(a v1 v2:al)(l:List eG):Chunk:=.two (.blk b [a,v1,v2]) (.own fF 40 v1 l)
abbrev mK(M:BS)(w:aq):Prop:=∀b,M b->b<w.heap.size
open Go Go.RowKit Go.Proofs
section
variable{P:cc}{ops:Array ee}{Q:fg->Act->aq->Prop}{rest:List ee}{n:Nat}{env:Nat->al}{w w0:aq}{M K:BS}{hp:Nat->Chunk}{d:Option Nat}{ty:aT}{pos:String}{af:Array hO}{x y:bo}{T T2:aT}{v:al}
theorem mO{k:Int}{p:al}(i:IxOk P T v k p)(e:(ev n env x,ev n env y)=(v,dk .i64 k))(h:WL P ops Q rest n (gD env d p) w):WL P ops Q (⟨d,.indexAddr T x y,ty,pos,af,aw⟩::rest) n env w:=by
 injection e with e1 e2;exact J (i _ _ _ _ _ _ _ _ _ e1 e2) h
theorem eH{p q:Int}{k:IntKind}(e:(ev n env x,ev n env y)=(dk k p,dk k q))(h:WL P ops Q rest n (gD env d (.bool (ab (p=q)))) w):WL P ops Q (⟨d,.binOp .eql T x y T2,ty,pos,af,aw⟩::rest) n env w:=by
 injection e with e1 e2;exact J (mg e1 e2) h
theorem ji{p q:Int}{k:IntKind}(e:(ev n env x,ev n env y)=(dk k p,dk k q))(h:WL P ops Q rest n (gD env d (.bool (ab (p≠q)))) w):WL P ops Q (⟨d,.binOp .neq T x y T2,ty,pos,af,aw⟩::rest) n env w:=by
 injection e with e1 e2;exact J (za e1 e2) h
theorem fJ{p q:Int}(e:(ev n env x,ev n env y)=(dk .i64 p,dk .i64 q))(h:WL P ops Q rest n (gD env d (.bool (ab (p<q)))) w):WL P ops Q (⟨d,.binOp .lss T x y T2,ty,pos,af,aw⟩::rest) n env w:=by
 injection e with e1 e2;exact J (wI e1 e2) h
theorem fB{p q:Int}(e:(ev n env x,ev n env y)=(dk .i64 p,dk .i64 q))(a:kv (p+q))(h:WL P ops Q rest n (gD env d (.int .i64 (p+q))) w):WL P ops Q (⟨d,.binOp .add T x y T2,ty,pos,af,aw⟩::rest) n env w:=by
 injection e with e1 e2;exact J (GL e1 e2 a) h
theorem fM{i:Nat}{vs:List al}(e:(ev n env x,vs[i]?)=(Value.tuple vs.toArray,aj v))(h:WL P ops Q rest n (gD env d v) w):WL P ops Q (⟨d,.extract x i,ty,pos,af,aw⟩::rest) n env w:=by
 injection e with e1 e2;exact J (dS e1 e2) h
theorem fQ{α:Type}{R:lD α}{E:aT}{a:Nat}{l:List α}(h:SH w0 M K w hp)(i:Nat)(b:SliceOf P T E a)(e:(hp i,ev n env x)=(Chunk.sr R v l,v))(k:WL P ops Q rest n (gD env d (.int .i64 l.length)) w):WL P ops Q (⟨d,.call {callee:=.builtin .len,args:= #[x],argTypes:= #[T]},ty,pos,af,aw⟩::rest) n env w:=by
 injection e with e1 e2;exact J (fV b e2<|h.gm i e1) k
theorem pJ{α:Type}{R:lD α}{E:aT}{a:Nat}{l:List α}(h:SH w0 M K w hp)(i:Nat)(b:SliceOf P T E a)(e:(hp i,ev n env x)=(Chunk.rd R v l,v))(k:WL P ops Q rest n (gD env d (.int .i64 l.length)) w):WL P ops Q (⟨d,.call {callee:=.builtin .len,args:= #[x],argTypes:= #[T]},ty,pos,af,aw⟩::rest) n env w:=by
 injection e with e1 e2;exact J (fV b e2<|h.kT i e1) k
theorem sJ{j dj b' o:Nat}{b a:Bool}{z:al}{cs:List al}(h:SH w0 M K w hp)(i:Nat)(c:One P T z)(e:((ops[j]?).bind (·.dst),ev n env (.tmp dj),hp i,ev n env x,cs[o]?)=(aj dj,dp b,Chunk.blk b' cs,gv (b==a) (.pointer (aj ⟨b',o,aw⟩)),aj v))
    (k:WL P ops Q rest n (gD env d (gv (b==a) v)) w):WL P ops Q (⟨d,.load T x,ty,pos,af,aj (j,a)⟩::rest) n env w:=by
  injection e with e1 e2;injection e2 with e2 e3;injection e3 with e3 e4;injection e4 with e4 e5;exact aO e1 e2 (fun q=>bZ h i e3 c (e4.trans<|eB q) e5) k
theorem uH{j dj b' o f off:Nat}{b a:Bool}(c:dR P T f off)(e:((ops[j]?).bind (·.dst),ev n env (.tmp dj),ev n env x)=(aj dj,dp b,fX (aj ⟨b',o,aw⟩)))
    (k:WL P ops Q rest n (gD env d (gv (b==a) (.pointer (aj ⟨b',o+off,aw⟩)))) w):WL P ops Q (⟨d,.fieldAddr T x f,ty,pos,af,aj (j,a)⟩::rest) n env w:=by
  injection e with e1 e2;injection e2 with e2 e3;exact aO e1 e2 (fun q=>aM c e3) k
end
theorem cst{P:cc}{f:fR}{a:Func}{c:Code}{args:List al}{R:Ending->aq->Prop}{n:Nat}{w:aq}(b:P.funcs[f]? =aj a)(hn:a.ntmps=n)(e:(a.body,ll args.length n)=(aj c,ba))
  (h:WC P c (jj P a R) n (U7 args) w):bE P f args.toArray w R:=by
 injection e with e1 e2;exact calls_start b e1 hn (gn e2) h
open Go Go.RowKit Go.Proofs
def fillF(pl:List (Nat×Nat))(cs:List al):List (Nat×al)->Option (List al)
 |[]=>aj cs
 |(i,v)::r=>match pl[i]? with
  |some (off,1)=>if off<cs.length then fillF pl (cs.set off v) r else aw
  |_=>aw
theorem fillF_ok{pl:List (Nat×Nat)}:∀{pv:List (Nat×al)} {cs out:List al},(∀v∈pv.map (·.2),v.oneCell'=ba)->fillF pl cs pv=aj out->FillOk pl cs pv out
  |[],cs,out,_,h=>cN h
  |(i,v)::r,cs,out,ho,h=>by
    unfold fillF at h;split at h
    · rename_i off e;split at h
      · rename_i b;refine⟨off,1,[v],e,dU<|ho v zq3,Z,by omega,?_⟩;rw[show MF cs off [v]=cs.set off v by unfold MF;rw[List.set_eq_take_append_cons_drop,if_pos b];simp];exact fillF_ok (fun x a=>ho x<|List.mem_cons_of_mem _ a) h
      · cases h
    · cases h
section
variable{P:cc}{ops:Array ee}{Q:fg->Act->aq->Prop}{rest:List ee}{n:Nat}{env:Nat->al}{w w0:aq}{M K:BS}{hp:Nat->Chunk}{d:Option Nat}{op:Op}{ty:aT}{pos:String}{af:Array hO}{x y c:bo}{T T2:aT}{v:al}{j dj:Nat}{b b0 r:Bool}{i:Int}
theorem jU{zs out:List al}{pl:List (Nat×Nat)}{a:Array (Nat×bo)}{pv:List (Nat×al)}(b:Struct P T zs pl)(e:(a.toList.map fun p=>(p.1,ev n env p.2),fillF pl zs pv)=(pv,aj out))(ho:∀v∈pv.map (·.2),v.oneCell'=ba)
    (h:WL P ops Q rest n (gD env d (.agg out.toArray)) w):WL P ops Q (⟨d,.build T a,ty,pos,af,aw⟩::rest) n env w:=by
  injection e with e1 e2;exact J (pI b e1<|fillF_ok ho e2) h
theorem pkT(a:b0=ba)(e:(ev n env c,ev n env x)=(dp b0,dp r))(h:WL P ops Q rest n (gD env d (.bool r)) w):WL P ops Q (⟨d,.pick c x y,ty,pos,af,aw⟩::rest) n env w:=by
 injection e with e1 e2;exact J (og (b:=ba) (by rw[e1,a]) e2) h
theorem pkF(a:b0=ao)(e:(ev n env c,ev n env y)=(dp b0,dp r))(h:WL P ops Q rest n (gD env d (.bool r)) w):WL P ops Q (⟨d,.pick c x y,ty,pos,af,aw⟩::rest) n env w:=by
 injection e with e1 e2;exact J (og (b:=ao) (by rw[e1,a]) e2) h
theorem Dh(a:b0=ao)(e:((ops[j]?).bind (·.dst),ev n env (.tmp dj),(ao==b))=(aj dj,dp b0,ao))(h:WL P ops Q rest n (gD env d fW) w):WL P ops Q (⟨d,op,ty,pos,af,aj (j,b)⟩::rest) n env w:=by
  injection e with e1 e2;injection e2 with e2 e3;exact jS e1 (by rw[e2,a]) e3 h
theorem Ot(a:b0=ba)(e:((ops[j]?).bind (·.dst),ev n env (.tmp dj),(ba==b))=(aj dj,dp b0,ao))(h:WL P ops Q rest n (gD env d fW) w):WL P ops Q (⟨d,op,ty,pos,af,aj (j,b)⟩::rest) n env w:=by
  injection e with e1 e2;injection e2 with e2 e3;exact jS e1 (by rw[e2,a]) e3 h
theorem oN(a:b0=b)(e:((ops[j]?).bind (·.dst),ev n env (.tmp dj))=(aj dj,dp b0))(h:WL P ops Q (⟨d,op,ty,pos,af,aw⟩::rest) n env w):WL P ops Q (⟨d,op,ty,pos,af,aj (j,b)⟩::rest) n env w:=by
  injection e with e1 e2;exact Xw e1 (by rw[e2,a]) h
theorem Ou{a:Bool}(e:((ops[j]?).bind (·.dst),ev n env (.tmp dj),ev n env x)=(aj dj,dp b,dk .i64 i))(h:WL P ops Q rest n (gD env d (gv (b==a) (.int .i64 i))) w):WL P ops Q (⟨d,.move x,ty,pos,af,aj (j,a)⟩::rest) n env w:=by
  injection e with e1 e2;injection e2 with e2 e3;exact aO e1 e2 (fun _=>bB e3) h
theorem g0B'{a:Bool}(e:((ops[j]?).bind (·.dst),ev n env (.tmp dj),ev n env x)=(aj dj,dp b,dp r))(h:WL P ops Q rest n (gD env d (gv (b==a) (.bool r))) w):WL P ops Q (⟨d,.move x,ty,pos,af,aj (j,a)⟩::rest) n env w:=by
  injection e with e1 e2;injection e2 with e2 e3;exact aO e1 e2 (fun _=>bB e3) h
theorem IG{zs vs:List al}{a o k:Nat}{cs:List al}(h:SH w0 M K w hp)(i:Nat)(b:wH P T zs)(e:(hp i,ev n env x,(cs.drop k).take zs.length,vs.length,ll (k+zs.length) cs.length)=(Chunk.pt a o cs,fX (aj ⟨a,o+k,aw⟩),vs,zs.length,ba))(q:WL P ops Q rest n (gD env d (.agg vs.toArray)) w):WL P ops Q (⟨d,.load T x,ty,pos,af,aw⟩::rest) n env w:=by
 injection e with e1 e2;injection e2 with e2 e3;injection e3 with e3 e4;injection e4 with e4 e5;exact J (MI h i e1 b e2 e3 e4<|gn e5) q
theorem jk{L:BS}{ws:aq}{u:al}(a:bL L ws w)(g:∀b,ob u b->w.heap.size<=b):∀b,ob u b->ws.heap.size<=b:=fun b c=>Nat.le_trans a.size (g b c)
end
section
variable{P:cc}{ops:Array ee}{Q:fg->Act->aq->Prop}{n:Nat}{env:Nat->al}{w ws:aq}{d:Option Nat}{op:Op}{ty:aT}{pos:String}{af:Array hO}{fuel:Nat}{listed:Array Bool}{v:al}{L:BS}
theorem bY(i:Nat)(e:Grow ws w)(f:ops[i]? =aj ⟨d,op,ty,pos,af,aw⟩)(c:∀b,Grow ws b->(bl (ev n env) ⟨d,op,ty,pos,af,aw⟩).run P b=.ok (.value v) b)(h:WH P ops ws Q fuel (listed.setIfInBounds i ba) n (gD env d v) w)(a:(eg ops&&(fa .any ops listed i&&(cR .any ops listed).contains i))=true:=by kernel_rfl):WH P ops ws Q (fuel+1) listed n env w:=by
 simp only[cS]at a;exact wh_ok i e f bz a.1 a.2.1 a.2.2 c h
theorem aZ(i:Nat)(e:bL L ws w)(f:ops[i]? =aj ⟨d,op,ty,pos,af,aw⟩)(c:∀b,bL L ws b->(bl (ev n env) ⟨d,op,ty,pos,af,aw⟩).run P b=.ok (.value v) b)(h:Yc P ops L ws Q fuel (listed.setIfInBounds i ba) n (gD env d v) w)(a:(eg ops&&(fa .any ops listed i&&(cR .any ops listed).contains i))=true:=by kernel_rfl):Yc P ops L ws Q (fuel+1) listed n env w:=by
 simp only[cS]at a;exact whk_ok i e f bz a.1 a.2.1 a.2.2 c h
end
section
variable{P:cc}{ops:Array ee}{w:aq}{Q1:Act->Prop}{rest:List ee}{n:Nat}{env:Nat->al}{d:Option Nat}{ty:aT}{pos:String}{af:Array hO}{x:bo}
theorem kI{i:Int}(a:ev n env x=.int .i64 i)(h:WK P ops w Q1 rest n (gD env d (.int .i64 i))):WK P ops w Q1 (⟨d,.move x,ty,pos,af,aw⟩::rest) n env:=aH (bB a) h
theorem kB{i:Bool}(a:ev n env x=.bool i)(h:WK P ops w Q1 rest n (gD env d (.bool i))):WK P ops w Q1 (⟨d,.move x,ty,pos,af,aw⟩::rest) n env:=aH (bB a) h
end
abbrev G7(w:aq)(M:BS)(C:Chunk):Prop:=Chunk.holds w M (Chunk.own' C) C
abbrev ApC(C:Chunk)(M:BS):Prop:=∀b,Chunk.own' C b->¬M b
abbrev YL(C':Chunk)(w:aq)(C:Chunk):Prop:=∀b,Chunk.own' C' b->b<w.heap.size->Chunk.own' C b
abbrev FH(M:BS)(C:Chunk):BS:=fun b=>M b\/Chunk.own' C b
open Go Go.RowKit Go.Proofs
section
variable{P:cc}{ops:Array ee}{Q:fg->Act->aq->Prop}{n:Nat}{env:Nat->al}{w ws:aq}{d:Option Nat}{ty:aT}{pos:String}{af:Array hO}{fuel:Nat}{listed:Array Bool}{v:al}{L:BS}{T:aT}{x:bo}
theorem G8(i:Nat)(a:Grow ws w){k off b o:Nat}(c:dR P T k off)(e:(ops[i]?,ev n env x)=(aj ⟨d,.fieldAddr T x k,ty,pos,af,aw⟩,fX (aj ⟨b,o,aw⟩)))(h:WH P ops ws Q fuel (listed.setIfInBounds i ba) n (gD env d (.pointer (aj ⟨b,o+off,aw⟩))) w)(f:(eg ops&&(fa .any ops listed i&&(cR .any ops listed).contains i))=true:=by kernel_rfl):WH P ops ws Q (fuel+1) listed n env w:=by
 injection e with e1 e2;exact bY i a e1 (fun _ _=>aM c e2) h f
theorem dz(i:Nat)(a:bL L ws w){k off b o:Nat}(c:dR P T k off)(e:(ops[i]?,ev n env x)=(aj ⟨d,.fieldAddr T x k,ty,pos,af,aw⟩,fX (aj ⟨b,o,aw⟩)))(h:Yc P ops L ws Q fuel (listed.setIfInBounds i ba) n (gD env d (.pointer (aj ⟨b,o+off,aw⟩))) w)(f:(eg ops&&(fa .any ops listed i&&(cR .any ops listed).contains i))=true:=by kernel_rfl):Yc P ops L ws Q (fuel+1) listed n env w:=by
 injection e with e1 e2;exact aZ i a e1 (fun _ _=>aM c e2) h f
theorem yn(i:Nat)(a:Grow ws w)(v:al)(e:(ops[i]?,ev n env x)=(aj ⟨d,.move x,ty,pos,af,aw⟩,v))(h:WH P ops ws Q fuel (listed.setIfInBounds i ba) n (gD env d v) w)(b:(eg ops&&(fa .any ops listed i&&(cR .any ops listed).contains i))=true:=by kernel_rfl):WH P ops ws Q (fuel+1) listed n env w:=by
 injection e with e1 e2;exact bY i a e1 (fun _ _=>bB e2) h b
theorem jc(i:Nat)(a:bL L ws w)(v:al)(e:(ops[i]?,ev n env x)=(aj ⟨d,.move x,ty,pos,af,aw⟩,v))(h:Yc P ops L ws Q fuel (listed.setIfInBounds i ba) n (gD env d v) w)(b:(eg ops&&(fa .any ops listed i&&(cR .any ops listed).contains i))=true:=by kernel_rfl):Yc P ops L ws Q (fuel+1) listed n env w:=by
 injection e with e1 e2;exact aZ i a e1 (fun _ _=>bB e2) h b
theorem JV(i:Nat)(a:Grow ws w)(v:al)(e:(ops[i]?,ev n env x)=(aj ⟨d,.assign x,ty,pos,af,aw⟩,v))(h:WH P ops ws Q fuel (listed.setIfInBounds i ba) n (gD env d v) w)(b:(eg ops&&(fa .any ops listed i&&(cR .any ops listed).contains i))=true:=by kernel_rfl):WH P ops ws Q (fuel+1) listed n env w:=by
 injection e with e1 e2;exact bY i a e1 (fun _ _=>fw e2) h b
theorem wm(i:Nat)(a:bL L ws w)(v:al)(e:(ops[i]?,ev n env x)=(aj ⟨d,.assign x,ty,pos,af,aw⟩,v))(h:Yc P ops L ws Q fuel (listed.setIfInBounds i ba) n (gD env d v) w)(b:(eg ops&&(fa .any ops listed i&&(cR .any ops listed).contains i))=true:=by kernel_rfl):Yc P ops L ws Q (fuel+1) listed n env w:=by
 injection e with e1 e2;exact aZ i a e1 (fun _ _=>fw e2) h b
end
section
variable{P:cc}{ops:Array ee}{Q:fg->Act->aq->Prop}{rest:List ee}{n:Nat}{env:Nat->al}{w w0:aq}{M K:BS}{hp:Nat->Chunk}{d:Option Nat}{ty:aT}{pos:String}{af:Array hO}{x y:bo}{T:aT}
theorem bN{zs vs:List al}{b:Nat}{cs:List al}(h:SH w0 M K w hp)(i:Nat)(c:wH P T zs)(e:(hp i,ev n env x,ev n env y,vs.length,cs.length)=(Chunk.blk b cs,fX (aj ⟨b,0,aw⟩),rj vs.toArray,zs.length,vs.length))(a:∀v∈vs,v.oneCell'=ba)
 (k:∀w',SH w0 M K w' (bV hp i (.blk b vs))->WL P ops Q rest n (gD env d fW) w'):WL P ops Q (⟨d,.store T x y,ty,pos,af,aw⟩::rest) n env w:=w_stA h i vs c e a k
theorem SH.pr(h:SH w0 M K w hp)(i j:Nat)(a:i≠j:=by decide):SH w0 M K w (bV (bV hp j .no) i (.two (hp i) (hp j))):=h.pair i j a
theorem SH.un{a c:Chunk}(h:SH w0 M K w hp)(i j:Nat)(d:hp i=.two a c)(e:hp j=.no)(b:i≠j:=by decide):SH w0 M K w (bV (bV hp i a) j c):=h.unpair i j b d e
end
open Go Go.RowKit Go.Proofs
theorem kR{L:BS}{w:aq}:bL L w w:=bL.refl L w
theorem dA{vs:List al}(e:vs.all Value.oneCell'=ba):∀v∈vs,v.oneCell'=true:=fun v h=>ly.1 e v h
section
variable{P:cc}{ops:Array ee}{Q:fg->Act->aq->Prop}{n:Nat}{env:Nat->al}{w:aq}{fuel:Nat}{listed:Array Bool}{L:BS}
theorem gX(h:∀ws,bL L ws w->Yc P ops L ws Q fuel listed n env w):Yc P ops L w Q fuel listed n env w:=h w (bL.refl _ _)
theorem rA(h:∀ws,Grow ws w->WH P ops ws Q fuel listed n env w):WH P ops w Q fuel listed n env w:=h w (bL.refl _ _)
end
section
variable{P:cc}{ops:Array ee}{Q:fg->Act->aq->Prop}{rest:List ee}{n:Nat}{env:Nat->al}{w w0:aq}{M K:BS}{hp:Nat->Chunk}{d:Option Nat}{ty:aT}{pos:String}{af:Array hO}{x:bo}{v:al}
theorem FI{f:fR}{first captured:Array al}{xs:Array bo}{a:Array aT}{args:List al}(h:SH w0 M K w hp)(b:Tn P f)(i:ev n env x=.func (.func f) first captured)
  (j:first.toList++xs.toList.map (ev n env)++captured.toList=args) (c:bE P f args.toArray w (fun e w'=>Grow w w'/\e=.returned v)) (k:∀w',Grow w w'->SH w0 M K w' hp->WL P ops Q rest n (gD env d v) w'):
  WL P ops Q (⟨d,.call {callee:=.value x,args:=xs,argTypes:=a},ty,pos,af,aw⟩::rest) n env w:=
 bX b i j c (by rintro _ w' ⟨g,rfl⟩;exact⟨_,Z,k w' g (h.grow g)⟩)
theorem yo{α:Type}{R:lD α}{l:List α}{f:fR}{first captured:Array al}{xs:Array bo}{a:Array aT}{args:List al}{F:al->al}(h:SH w0 M K w hp)(i:Nat)(j:Tn P f)(m:ev n env x=.func (.func f) first captured)
  (b:first.toList++xs.toList.map (ev n env)++captured.toList=args) (c:bE P f args.toArray w (fun e w'=>Grow w w'/\∃u,e=.returned (F u)/\di R w' (SH.A M hp) u l)) (k:∀w' u,Grow w w'->SH w0 M K w' (bV hp i (.rd R u l))->WL P ops Q rest n (gD env d (F u)) w'):
  WL P ops Q (⟨d,.call {callee:=.value x,args:=xs,argTypes:=a},ty,pos,af,aw⟩::rest) n env w:=
 bX j m b c (by rintro _ w' ⟨g,u,rfl,g2⟩;exact⟨_,Z,k w' u g (h.AZ i g g2)⟩)
theorem dH{α:Type}{R:lD α}{E:aT}{l:List α}{f:fR}{first captured:Array al}{xs:Array bo}{c:Array aT}{args:List al}{F:al->al}(h:SH w0 M K w hp)(i:Nat)(o:Tn P f)(p:ev n env x=.func (.func f) first captured)
  (j:first.toList++xs.toList.map (ev n env)++captured.toList=args) (m:bE P f args.toArray w (fun e w'=>Grow w w'/\∃u,e=.returned (F u)/\cu R E w' (SH.A M hp) u l/\(∀b,ob u b->w.heap.size<=b))) (k:∀w' u,Grow w w'->(∀b,ob u b->w.heap.size<=b)->SH w0 M K w' (bV hp i (.own R E u l))->WL P ops Q rest n (gD env d (F u)) w'):
  WL P ops Q (⟨d,.call {callee:=.value x,args:=xs,argTypes:=c},ty,pos,af,aw⟩::rest) n env w:=
 bX o p j m (by rintro _ w' ⟨g,u,rfl,g2,a⟩;exact⟨_,Z,k w' u g a (h.wJ i g g2 a)⟩)
end
open Go Go.RowKit Go.Proofs
abbrev pT(b:Nat):Value:=.pointer (aj ⟨b,0,aw⟩)
abbrev nS:Value:=.slice aw 0 0
def fchk(P:cc)(f:fR):Bool:=match P.funcs[f]? with
 |some fn=> !(fn.name== "runtime.NumGoroutine")&& !fn.body.isNone
 |none=>ao
theorem fo{P:cc}{f:fR}(h:fchk P f=true:=by kernel_rfl):Tn P f:=by
  unfold fchk at h;split at h
  · rename_i a e;simp only[cS,gk]at h;exact⟨a,e,h.1,h.2⟩
  · cases h
section
variable{P:cc}{ops:Array ee}{Q:fg->Act->aq->Prop}{n:Nat}{env:Nat->al}{w ws:aq}{d:Option Nat}{op:Op}{ty:aT}{pos:String}{af:Array hO}{fuel:Nat}{listed:Array Bool}{L:BS}
theorem aY(i:Nat)(a:ops[i]? =aj ⟨d,op,ty,pos,af,aw⟩)(h:WL P ops (Vd P ops L ws Q fuel (listed.setIfInBounds i ba)) [⟨d,op,ty,pos,af,aw⟩] n env w)(b:cR .any ops listed=[i]:=by kernel_rfl):Yc P ops L ws Q (fuel+1) listed n env w:=whk_eff i b a bz h
theorem vB(i:Nat)(a:ops[i]? =aj ⟨d,op,ty,pos,af,aw⟩)(h:WL P ops (after P ops ws Q fuel (listed.setIfInBounds i ba)) [⟨d,op,ty,pos,af,aw⟩] n env w)(b:cR .any ops listed=[i]:=by kernel_rfl):WH P ops ws Q (fuel+1) listed n env w:=wh_eff i b a bz h
theorem ja(h:Q .normal (act n env) w)(a:cR .any ops listed=[]:=by kernel_rfl):Yc P ops L ws Q fuel listed n env w:=whk_done a h
theorem G9(h:Q .normal (act n env) w)(a:cR .any ops listed=[]:=by kernel_rfl):WH P ops ws Q fuel listed n env w:=wh_done a h
end
open Go Go.RowKit Go.Proofs
def zk{α:Type}(L:List (Int×α))(us:List al):List (Int×al):=(L.zip us).map fun p=>(p.1.1,p.2)
def Vl{α:Type}(k:Int):List (Int×α)->Option Nat
  |[]=>aw
  |p::r=>if k=p.1 then aj 0 else(Vl k r).map (· +1)
def hkey{α:Type}(L:List (Int×α))(k:Int):Nat->Prop:=fun i=>Vl k L=aj i
section
variable{α:Type}{k:Int}
theorem Qc(p:Int×α)(r:List (Int×α))(u:al)(us:List al):zk (p::r) (u::us)=(p.1,u)::zk r us:=rfl
theorem Vm:∀{L:List (Int×α)} {us:List al} {z v:al} {a:α},us.length=L.length->Vl k L=aw->
    lk k L=aw/\Rh z (zk L us) k=z/\NU (zk L us) k v=zk (L++[(k,a)]) (us++[v])/\Bi k a L=L++[(k,a)]
  |[],us,z,v,a,h,_=>by
    cases us with
    |nil=>exact⟨rfl,rfl,rfl,rfl⟩
    |cons u us=>cases h
  |p::r,us,z,v,a,h,e=>by
    cases us with
    |nil=>cases h
    |cons u us=>
      unfold Vl at e;by_cases c:k=p.1
      · rw[if_pos c]at e;cases e
      · rw[if_neg c]at e;have f:Vl k r=none:=by
          cases q:Vl k r with
          |none=>rfl
          |some x=>rw[q]at e;cases e
        obtain⟨b,d,i,g⟩:=Vm (us:=us) (z:=z) (v:=v) (a:=a) (Nat.succ.inj h) f;refine⟨?_,?_,?_,?_⟩
        · unfold lk;rw[if_neg c];exact b
        · rw[Qc];unfold Rh;rw[if_neg c];exact d
        · rw[Qc];unfold NU;rw[if_neg c,i];rfl
        · unfold Bi;rw[if_neg c,g];rfl
theorem Qd:∀{L:List (Int×α)} {us:List al} {z v:al} {a:α} {i:Nat},us.length=L.length->Vl k L=aj i->
    ∃x u,lk k L=aj x/\us[i]? =aj u/\(L.map dr)[i]? =aj x/\Rh z (zk L us) k=u/\NU (zk L us) k v=zk (Bi k a L) (us.set i v)/\(Bi k a L).map dr=(L.map dr).set i a
  |[],us,z,v,a,i,h,e=>by cases e
  |p::r,us,z,v,a,i,h,e=>by
    cases us with
    |nil=>cases h
    |cons u us=>
      unfold Vl at e;by_cases c:k=p.1
      · rw[if_pos c]at e;cases e;refine⟨p.2,u,?_,Z,Z,?_,?_,?_⟩
        · unfold lk;rw[if_pos c]
        · rw[Qc];unfold Rh;rw[if_pos c]
        · rw[Qc];unfold NU Bi;rw[if_pos c,if_pos c];rfl
        · unfold Bi;rw[if_pos c];rfl
      · rw[if_neg c]at e;cases q:Vl k r with
        |none=>rw[q]at e;cases e
        |some j=>
          rw[q]at e;cases e;obtain⟨x,u',b,d,m,f,g,l⟩:=Qd (us:=us) (z:=z) (v:=v) (a:=a) (Nat.succ.inj h) q;refine⟨x,u',?_,d,m,?_,?_,?_⟩
          · unfold lk;rw[if_neg c];exact b
          · rw[Qc];unfold Rh;rw[if_neg c];exact f
          · rw[Qc];unfold NU Bi;rw[if_neg c,if_neg c,g];rfl
          · unfold Bi;rw[if_neg c];show p.2::_=_;rw[l];rfl
end
section
variable{β:Type}{R:lD β}{E:aT}{w0 w:aq}{M K:BS}{hp:Nat->Chunk}{L:List (Int×List β)}{us:List al}{k:Int}{u:al}{s:List β}
theorem Vn(e:Vl k L=aw):hkey L k=hn:=by
 funext i;unfold hkey hn;rw[e];exact propext ⟨fun h=>(by cases h),fun h=>h.elim⟩
theorem SH.msLen(h:SH w0 M K w hp)(j:Nat){ho:Nat->Prop}(a:hp j=.eX (bP R E ho us (L.map dr))):us.length=L.length:=by
 have:=(h.XD j a).1;rw[cH]at this;exact this
theorem SH.msTake(h:SH w0 M K w hp)(j m:Nat)(k:Int)(b:hp j=.eX (bP R E hn us (L.map dr)))(o:hp m=.no)(l:j≠m):
    ∃u,Rh (.slice aw 0 0) (zk L us) k=u/\SH w0 M K w (bV (bV hp j (.eX (bP R E (hkey L k) us (L.map dr)))) m (.own R E u ((lk k L).getD []))):=by
  have n:=h.msLen j b;cases e:Vl k L with
  |none=>
    obtain⟨c,d,-,-⟩:=Vm (z:=.slice aw 0 0) (v:=.slice aw 0 0) (a:=[]) n e;refine⟨.slice aw 0 0,d,?_⟩;rw[c,Vn e];have g:=h.C9 (R:=R) (E:=E) m;have f:bV hp j (.eX<|bP R E hn us<|L.map dr)=hp:=by
      funext x;by_cases q:x=j
      · subst q;rw[bW];exact b.symm
      · rw[dZ q]
    rw[f];exact g
  |some i=>
    obtain⟨x,u,c,d,g,f,-,-⟩:=Qd (z:=.slice aw 0 0) (v:=.slice aw 0 0) (a:=[]) n e;refine⟨u,f,?_⟩;rw[c];exact h.famOpen j m b o l d g (fun h=>h) (hkey L k) (fun a=>by unfold hkey hn;rw[e];exact⟨fun h=>.inr (cN h).symm,fun h=>h.elim (fun h=>h.elim) (fun h=>by rw[h])⟩)
theorem SH.msBack(h:SH w0 M K w hp)(j m:Nat)(c:hp j=.eX (bP R E (hkey L k) us (L.map dr)))(g:hp m=.own R E u ((lk k L).getD []))(b:j≠m)(o:Rh (.slice aw 0 0) (zk L us) k=u):
    SH w0 M K w (bV (bV hp m .no) j (.eX (bP R E hn us (L.map dr)))):=by
  have p:=h.msLen j c;cases e:Vl k L with
  |none=>
    rw[Vn e]at c;have f:=h.gV m;have d:bV (bV hp m .no) j (.eX<|bP R E hn us<|L.map dr)=bV hp m .no:=by
      funext x;by_cases q:x=j
      · subst q;rw[bW,dZ b];exact c.symm
      · rw[dZ q]
    rw[d];exact f
  |some i=>
    obtain⟨x,u',l,n,f,d,-,-⟩:=Qd (z:=.slice aw 0 0) (v:=.slice aw 0 0) (a:=[]) p e;rw[l]at g;rw[o]at d;have:=h.La (k:=i) j m c g b (d▸n) e hn (fun a=>by unfold hkey hn;rw[e];exact⟨fun h=>.inr (cN h).symm,fun h=>h.elim (fun h=>h.elim) (fun h=>by rw[h])⟩) (fun h=>h);have q:(L.map dr).set i ((aj x).getD [])=L.map Prod.snd:=Cu f;rw[q]at this;exact this
theorem SH.msPut(h:SH w0 M K w hp)(j m:Nat)(c:hp j=.eX (bP R E (hkey L k) us (L.map dr)))(l:hp m=.own R E u s)(b:j≠m):
  ∃us',NU (zk L us) k u=zk (Bi k s L) us'/\SH w0 M K w (bV (bV hp m .no) j (.eX (bP R E hn us' ((Bi k s L).map dr)))):=by
 have n:=h.msLen j c;cases e:Vl k L with
 |none=>
  rw[Vn e]at c;obtain⟨-,-,p,o⟩:=Vm (z:=.slice aw 0 0) (v:=u) (a:=s) n e;refine⟨us++[u],by rw[p,o],?_⟩;have f:=h.famNew m l;have d:=f.G6 (us:=us) (ss:=L.map dr) j m (by rw[dZ b];exact c) (by rw[bW]) b;rw[EG]at d;rw[o,cI];exact d
 |some i=>
  have q:hkey L k=hat i:=by
   funext a;unfold hkey hat;rw[e];exact propext ⟨fun h=>(cN h).symm,fun h=>by rw[h]⟩
  rw[q]at c;obtain⟨x,u',y,r,p,-,f,d⟩:=Qd (z:=.slice aw 0 0) (v:=u) (a:=s) n e;refine⟨us.set i u,f,?_⟩;have t:=h.famU j u c;have g:=t.La (k:=i) (ho:=hat i) j m (by rw[bW]) (by rw[dZ (Ne.symm b)];exact l) b (Vh r) Z hn (fun a=>⟨fun h=>.inr h,fun h=>h.elim (fun h=>h.elim) id⟩) (fun h=>h);rw[d];rw[hupd_comm hp (.eX (bP R E (hat i) (us.set i u) (L.map dr))) .no b,EG]at g;exact g
end
section
variable{P:cc}{w w0:aq}{M K:BS}{hp:Nat->Chunk}{d:Option Nat}{ty:aT}{pos:String}{af:Array hO}{g:Option (Nat×Bool)}{T:aT}{ρ:bo->al}
theorem r_lkS{x y:bo}{z:al}{b:Nat}{k:Int}{jG:List (Int×al)}{u:al}(h:SH w0 M K w hp)(i:Nat)(f:hp i=.mp b jG)(j:MapOf P T z)(c:ρ x=.map (aj b))(e:ρ y=.int .i64 k)(a:Rh z jG k=u):
  (bl ρ ⟨d,.lookup T x y ao,ty,pos,af,g⟩).run P w=.ok (.value u) w:=by
 have:=Yx (d:=d) (ty:=ty) (pos:=pos) (af:=af) (g:=g) j c e<|h.mpAt i f;rw[a]at this;exact this
theorem w_mapUpdateG{ops:Array ee}{Q:fg->Act->aq->Prop}{n:Nat}{env:Nat->al}{rest:List ee}{v z:al}{x y u:bo}{b:Nat}{k:Int}{jG vZ:List (Int×al)}(h:SH w0 M K w hp)(i:Nat)(a:hp i=.mp b jG)(m:MapOf P T z)(e:ev n env x=.map (aj b))(l:ev n env y=.int .i64 k)(g:ev n env u=v)(j:NU jG k v=vZ)
  (kk:∀w',SH w0 M K w' (bV hp i (.mp b vZ))->bL (fun x=>x=b) w w'->WL P ops Q rest n (gD env d fW) w'):WL P ops Q (⟨d,.mapUpdate T x y u,ty,pos,af,aw⟩::rest) n env w:=
 Tu m e l g (h.mpAt i a) fun w' c f=>kk w' (h.mpSet i a c (j▸f)) c
end
open Go Go.RowKit Go.Proofs
structure Arr3(P:cc)(T E:aT):Prop where
  desc:P.underlying T=aj (.array 3 E)
  zero:∃z0 z1 z2,(P.info? T).map (·.zero)=aj (aj (.agg #[z0,z1,z2]))
  size:(P.info? E).map (·.size)=aj 1
  plain:P.underlying E=aj (.int .i64)
  key:P.plainKey E=ba
  cells:P.cellsOf E=1
  guard:P.eqGuardType P.depth T=ao
structure ArrA(P:cc)(T E:aT):Prop where
  desc:P.underlying T=aj (.array 3 E)
  size:(P.info? E).map (·.size)=aj 1
section
variable{P:cc}{w:aq}{d:Option Nat}{ty:aT}{pos:String}{af:Array hO}{g:Option (Nat×Bool)}{T:aT}{ρ:bo->al}
theorem r_build3{E:aT}{x y z:bo}{p q r:Int}(h:Arr3 P T E)(o:ρ x=.int .i64 p)(n:ρ y=.int .i64 q)(b:ρ z=.int .i64 r):(bl ρ ⟨d,.build T #[(0,x),(1,y),(2,z)],ty,pos,af,g⟩).run P w=.ok (.value (.agg #[.int .i64 p,.int .i64 q,.int .i64 r])) w:=by
 obtain⟨k,m,l,hz⟩:=h.zero;obtain⟨i,a,f⟩:∃i,P.info? T=aj i/\i.zero=aj (.agg #[k,m,l]):=by
  cases a:P.info? T with
  |none=>simp[a]at hz
  |some i=>simp[a]at hz;exact⟨i,Z,hz⟩
 obtain⟨j,s,e⟩:∃j,P.info? E=aj j/\j.size=1:=by
  have:=h.size;cases a:P.info? E with
  |none=>simp[a]at this
  |some i=>simp[a]at this;exact⟨i,Z,this⟩
 have c (p:Int):(dk .i64 p).cells= #[.int .i64 p]:=rfl;simp only[bl,Instr.build,o,n,b,cA,zeroValue,dt,sizeOf];have t:(rj #[k,m,l]).cells= #[k,m,l]:=rfl;simp[a,f,h.desc,s,e,Instr.fill,c,t,o,n,b]
theorem nk{E:aT}{x y:bo}{b o k:Nat}(c:ArrA P T E)(n:k<3)(h:ρ x=.pointer (aj ⟨b,o,aw⟩))(l:ρ y=.int .i64 k):(bl ρ ⟨d,.indexAddr T x y,ty,pos,af,g⟩).run P w=.ok (.value (.pointer (aj ⟨b,o+k,aw⟩))) w:=by
 obtain⟨j,f,a⟩:∃j,P.info? E=aj j/\j.size=1:=by
  have:=c.size;cases hi:P.info? E with
  |none=>simp[hi]at this
  |some i=>simp[hi]at this;exact⟨i,Z,this⟩
 have m:((k:Int)<3):=by omega
 simp only[bl,Instr.indexAt,h,l,cA,asIntOf,Instr.sureAddr,sizeOf,dt];by_cases e:k=0<;>simp[c.desc,f,a,n,Addr.add,e]
theorem r_build0{E:aT}{z:Array al}(e:ArrA P T E)(c:(P.info? T).map (·.zero)=aj (aj (.agg z))):(bl ρ ⟨d,.build T #[],ty,pos,af,g⟩).run P w=.ok (.value (.agg z)) w:=by
  obtain⟨i,a,hz⟩:∃i,P.info? T=aj i/\i.zero=aj (.agg z):=by
    cases a:P.info? T with
    |none=>simp[a]at c
    |some i=>simp[a]at c;exact⟨i,Z,c⟩
  simp only[bl,Instr.build,cA,zeroValue,dt];obtain⟨j,f,b⟩:∃j,P.info? E=aj j/\j.size=1:=by
    have:=e.size;cases a:P.info? E with
    |none=>simp[a]at this
    |some i=>simp[a]at this;exact⟨i,Z,this⟩
  simp[e.desc,a,hz,f,b,Instr.fill,Value.cells,sizeOf,dt]
theorem eq_arr3{E:aT}(d:Arr3 P T E)(a b c a' b' e:Int):(Op.equalIn 10000 T (.agg #[.int .i64 a,.int .i64 b,.int .i64 c]) (.agg #[.int .i64 a',.int .i64 b',.int .i64 e])).run P w=.ok (ab (a=a')&&(ab (b=b')&&ab (c=e))) w:=by
  obtain⟨j,f⟩:∃j,P.info? E=aj j:=by
    have:=d.size;cases hi:P.info? E with
    |none=>simp[hi]at this
    |some i=>exact⟨i,rfl⟩
  rw[show(10000:Nat)=9999+1 from rfl,run_equalIn_array w 9999 _ _ d.desc f,d.cells,show List.range 3=[0,1,2]from rfl];simp only[Op.eqItems,ct,Nat.zero_mul,Nat.one_mul,Nat.mul_one];rw[fL w d.key (xs:= #[.int .i64 a,.int .i64 b,.int .i64 c]) (off:=0) (v:=.int .i64 a) rfl];simp only[bp];rw[fL w d.key (xs:= #[.int .i64 a',.int .i64 b',.int .i64 e]) (off:=0) (v:=.int .i64 a') rfl];simp only[bp];rw[show(9999:Nat)=9998+1 from rfl,pa w 9998 E .i64 .i64 a a' d.plain];simp only[bp,Sem.run_ite,ct];by_cases h:a=a'
  · subst h;simp only[beq_self_eq_true,ej,cM,if_false];rw[fL w d.key (xs:= #[.int .i64 a,.int .i64 b,.int .i64 c]) (off:=1) (v:=.int .i64 b) rfl];simp only[bp];rw[fL w d.key (xs:= #[.int .i64 a,.int .i64 b',.int .i64 e]) (off:=1) (v:=.int .i64 b') rfl];simp only[bp];rw[pa w 9998 E .i64 .i64 b b' d.plain];simp only[bp,Sem.run_ite,ct];by_cases h:b=b'
    · subst h;simp only[beq_self_eq_true,ej,cM,if_false];rw[fL w d.key (xs:= #[.int .i64 a,.int .i64 b,.int .i64 c]) (off:=2) (v:=.int .i64 c) rfl];simp only[bp];rw[fL w d.key (xs:= #[.int .i64 a,.int .i64 b,.int .i64 e]) (off:=2) (v:=.int .i64 e) rfl];simp only[bp];rw[pa w 9998 E .i64 .i64 c e d.plain];by_cases h:c=e<;>simp[h]
    · simp[h]
  · simp[h]
theorem r_neq3{T2 E:aT}{x y:bo}{a b c a' b' e:Int}(f:Arr3 P T E)(h:ρ x=.agg #[.int .i64 a,.int .i64 b,.int .i64 c])(i:ρ y=.agg #[.int .i64 a',.int .i64 b',.int .i64 e]):(bl ρ ⟨d,.binOp .neq T x y T2,ty,pos,af,g⟩).run P w=.ok (.value (.bool (!(ab (a=a')&&(ab (b=b')&&ab (c=e)))))) w:=by
 simp only[bl,h,i,ct,run_eqGuard_agg w .neq T x y _ _ f.guard,bp,run_neq_struct,eq_arr3 f];simp
end
structure T3 where
 a:Int
 b:Int
 c:Int
deriving DecidableEq
def Og:lD T3 where
 sz:=3
 rd w A cs x:=cs=[.int .i64 x.a,.int .i64 x.b,.int .i64 x.c]
 len:=by rintro w A cs x rfl;rfl
 one:=by rintro w A cs x rfl u hu;simp only[bn,de,or_false]at hu;rcases hu with rfl|rfl|rfl<;>first|rfl
 pos:=by decide
 go:=fun h _ _ _=>h
end Go.LX
namespace Go.Proofs
set_option maxHeartbeats 1000000 in
set_option maxRecDepth 100000 in
theorem Tryz.stringslite_IndexByte(s:ByteArray)(c:Int)(w:aq):
  bE Tryz.prog 210 #[.string s,.int .u8 c] w fun e w'=>e=.returned (.int .i64 (lb s.data.toList c.toNat.toUInt8))/\w'=w:=by
 go_enter Tryz.func210,Tryz.ntmps210
 go_wp2
 rw[run_callFunc_extern Tryz.func225 zq2 zq2 zq2 (e:=Extern.BytealgIndexByte.indexByte) zq2,Lib.run_indexByteString];simp only[Result.andThen];rw[Oper.upon_value]
 go_wp2
 go_ret
 exact⟨Z,Z⟩
set_option maxHeartbeats 2000000 in
set_option maxRecDepth 100000 in
theorem Tryz.stringslite_Index_one(s:ByteArray)(c:UInt8)(w:aq):
    bE Tryz.prog 195 #[.string s,.string ⟨#[c]⟩] w fun e w'=>e=.returned (.int .i64 (lb s.data.toList c))/\w'=w:=by
  go_enter Tryz.func195,Tryz.ntmps195
  go_wp2_with (go_at_call 210;refine(Tryz.stringslite_IndexByte _ _ _).mono ?_;rintro e w'⟨rfl,rfl⟩)
  · have h:([c]==s.toList)=true:=by assumption
    go_ret
    refine⟨?_,Z⟩;have e:s.data.toList=[c]:=by rw[<-Lib.toList_data];exact(beq_iff_eq.1 h).symm
    rw[e];simp[lb]
  · go_ret
    exact⟨Z,Z⟩
set_option maxHeartbeats 1000000 in
theorem Tryz.strings_Index_one(s:ByteArray)(c:UInt8)(w:aq):
  bE Tryz.prog 178 #[.string s,.string ⟨#[c]⟩] w fun e w'=>e=.returned (.int .i64 (lb s.data.toList c))/\w'=w:=by
 go_enter Tryz.func178,Tryz.ntmps178
 go_wp2_with (go_at_call 195;refine(Tryz.stringslite_Index_one _ _ _).mono ?_;rintro e w'⟨rfl,rfl⟩)
 go_ret
 exact⟨Z,Z⟩
set_option maxHeartbeats 1000000 in
theorem Tryz.strings_Contains_one(s:ByteArray)(c:UInt8)(w:aq):
  bE Tryz.prog 188 #[.string s,.string ⟨#[c]⟩] w fun e w'=>e=.returned (.bool (ab (0<=lb s.data.toList c)))/\w'=w:=by
 go_enter Tryz.func188,Tryz.ntmps188
 go_wp2_with (go_at_call 178;refine(Tryz.strings_Index_one _ _ _).mono ?_;rintro e w'⟨rfl,rfl⟩)
 go_ret
 exact⟨Z,Z⟩
open Go.Shelf
def Tryz.lays146_ren:Go.Shelf.Ren:=⟨fun|146=>96|221=>145|268=>176|138=>177|143=>178|195=>197|197=>198|218=>199|219=>195|260=>215|217=>210|225=>211|224=>212|267=>213|266=>225|314=>226|n=>n,fun|9=>9|31=>173|3=>3|4=>4|0=>0|105=>293|21=>21|5=>5|46=>299|119=>242|139=>340|138=>339|146=>336|51=>277|n=>n,fun|1=>4|3=>5|4=>6|n=>n⟩
theorem Tryz.lays146:Go.Proofs.Lays.n146 Tryz.prog Tryz.lays146_ren:={
 mixed:=zq2
 f138:=Tryz.func177.trans (congrArg aj zq2)
 f143:=Tryz.func178.trans (congrArg aj zq2)
 f146:=Tryz.func96.trans (congrArg aj zq2)
 f195:=Tryz.func197.trans (congrArg aj zq2)
 f197:=Tryz.func198.trans (congrArg aj zq2)
 f217:=Tryz.func210.trans (congrArg aj zq2)
 f218:=Tryz.func199.trans (congrArg aj zq2)
 f219:=Tryz.func195.trans (congrArg aj zq2)
 f221:=Tryz.func145.trans (congrArg aj zq2)
 f224:=Tryz.func212.trans (congrArg aj zq2)
 f225:=Tryz.func211.trans (congrArg aj zq2)
 f260:=Tryz.func215.trans (congrArg aj zq2)
 f266:=Tryz.func225.trans (congrArg aj zq2)
 f267:=Tryz.func213.trans (congrArg aj zq2)
 f268:=Tryz.func176.trans (congrArg aj zq2)
 f314:=Tryz.func226.trans (congrArg aj zq2)
 t0:=Tryz.underlying0
 a0:=Tryz.isAgg0
 z0:=Tryz.sizeOf0
 v0:=Tryz.zeroValue0
 t3:=Tryz.underlying3
 a3:=Tryz.isAgg3
 z3:=Tryz.sizeOf3
 v3:=Tryz.zeroValue3
 t4:=Tryz.underlying4
 a4:=Tryz.isAgg4
 z4:=Tryz.sizeOf4
 v4:=Tryz.zeroValue4
 t5:=Tryz.underlying5
 a5:=Tryz.isAgg5
 z5:=Tryz.sizeOf5
 v5:=Tryz.zeroValue5
 t9:=Tryz.underlying9
 a9:=Tryz.isAgg9
 z9:=Tryz.sizeOf9
 v9:=Tryz.zeroValue9
 t21:=Tryz.underlying21
 a21:=Tryz.isAgg21
 z21:=Tryz.sizeOf21
 v21:=Tryz.zeroValue21
 t31:=Tryz.underlying173
 a31:=Tryz.isAgg173
 z31:=Tryz.sizeOf173
 v31:=Tryz.zeroValue173
 t46:=Tryz.underlying299
 a46:=Tryz.isAgg299
 z46:=Tryz.sizeOf299
 v46:=Tryz.zeroValue299
 t51:=Tryz.underlying277
 a51:=Tryz.isAgg277
 z51:=Tryz.sizeOf277
 v51:=Tryz.zeroValue277
 t105:=Tryz.underlying293
 a105:=Tryz.isAgg293
 z105:=Tryz.sizeOf293
 v105:=Tryz.zeroValue293
 t119:=Tryz.underlying242
 a119:=Tryz.isAgg242
 z119:=Tryz.sizeOf242
 t138:=Tryz.underlying339
 a138:=Tryz.isAgg339
 z138:=Tryz.sizeOf339
 v138:=Tryz.zeroValue339
 t139:=Tryz.underlying340
 a139:=Tryz.isAgg340
 z139:=Tryz.sizeOf340
 v139:=Tryz.zeroValue340
 t146:=Tryz.underlying336
 a146:=Tryz.isAgg336
 z146:=Tryz.sizeOf336
 v146:=Tryz.zeroValue336
 g1:=zq2
 g3:=zq2
 g4:=by kernel_rfl}
open Go.RowKit Go.Lib in
theorem Tryz.strings_Split(s a:ByteArray)(m:Int)(w:aq)(b:s.size<4294967281)(d:w.cell? ⟨4,0,aw⟩=aj (.int .i64 m))(c:1<=a.size):
 bE Tryz.prog 96 #[.string s,.string a] w fun e w'=>
  e=.returned (.slice (aj ⟨w.heap.size,0,aw⟩) (ga s a+1) (ga s a+1))/\w'=w.alloc (.cells ((Lib.splitB a 0 (ga s a) s).map lx).toArray 9):=Any.strings_Split Tryz.lays146 zq2 s a m w b d c
def Tryz.laysC172_ren:Go.Shelf.Ren:=⟨fun|172=>97|244=>146|245=>147|247=>179|279=>180|280=>181|281=>182|282=>183|287=>200|316=>201|171=>149|205=>202|321=>216|322=>217|243=>185|246=>203|283=>218|284=>219|285=>220|286=>221|129=>228|317=>227|318=>229|319=>230|320=>231|337=>232|338=>233|n=>n,fun|9=>9|3=>3|75=>176|76=>177|4=>4|5=>5|167=>267|37=>36|0=>0|85=>268|2=>2|168=>270|53=>296|175=>297|46=>299|210=>302|127=>317|145=>323|143=>321|21=>21|171=>324|173=>327|212=>342|51=>277|20=>20|213=>343|232=>346|233=>347|80=>180|n=>n,fun|15=>2|16=>3|17=>7|18=>8|19=>9|n=>n⟩
theorem Tryz.YM:Go.Proofs.LaysC.n172 Tryz.prog Tryz.laysC172_ren:={
 mixed:=zq2
 f129:=Tryz.func228.trans (congrArg aj zq2)
 f171:=Tryz.func149.trans (congrArg aj zq2)
 f172:=Tryz.func97.trans (congrArg aj zq2)
 f205:=Tryz.func202.trans (congrArg aj zq2)
 f243:=Tryz.func185.trans (congrArg aj zq2)
 f244:=Tryz.func146.trans (congrArg aj zq2)
 f245:=Tryz.func147.trans (congrArg aj zq2)
 f246:=Tryz.func203.trans (congrArg aj zq2)
 f247:=Tryz.func179.trans (congrArg aj zq2)
 f279:=Tryz.func180.trans (congrArg aj zq2)
 f280:=Tryz.func181.trans (congrArg aj zq2)
 f281:=Tryz.func182.trans (congrArg aj zq2)
 f282:=Tryz.func183.trans (congrArg aj zq2)
 f283:=Tryz.func218.trans (congrArg aj zq2)
 f284:=Tryz.func219.trans (congrArg aj zq2)
 f285:=Tryz.func220.trans (congrArg aj zq2)
 f286:=Tryz.func221.trans (congrArg aj zq2)
 f287:=Tryz.func200.trans (congrArg aj zq2)
 f316:=Tryz.func201.trans (congrArg aj zq2)
 f317:=Tryz.func227.trans (congrArg aj zq2)
 f318:=Tryz.func229.trans (congrArg aj zq2)
 f319:=Tryz.func230.trans (congrArg aj zq2)
 f320:=Tryz.func231.trans (congrArg aj zq2)
 f321:=Tryz.func216.trans (congrArg aj zq2)
 f322:=Tryz.func217.trans (congrArg aj zq2)
 f337:=Tryz.func232.trans (congrArg aj zq2)
 f338:=Tryz.func233.trans (congrArg aj zq2)
 t0:=Tryz.underlying0
 a0:=Tryz.isAgg0
 z0:=Tryz.sizeOf0
 v0:=Tryz.zeroValue0
 t2:=Tryz.underlying2
 a2:=Tryz.isAgg2
 z2:=Tryz.sizeOf2
 v2:=Tryz.zeroValue2
 t3:=Tryz.underlying3
 a3:=Tryz.isAgg3
 z3:=Tryz.sizeOf3
 v3:=Tryz.zeroValue3
 t4:=Tryz.underlying4
 a4:=Tryz.isAgg4
 z4:=Tryz.sizeOf4
 v4:=Tryz.zeroValue4
 t5:=Tryz.underlying5
 a5:=Tryz.isAgg5
 z5:=Tryz.sizeOf5
 v5:=Tryz.zeroValue5
 t9:=Tryz.underlying9
 a9:=Tryz.isAgg9
 z9:=Tryz.sizeOf9
 v9:=Tryz.zeroValue9
 t20:=Tryz.underlying20
 a20:=Tryz.isAgg20
 z20:=Tryz.sizeOf20
 v20:=Tryz.zeroValue20
 t21:=Tryz.underlying21
 a21:=Tryz.isAgg21
 z21:=Tryz.sizeOf21
 v21:=Tryz.zeroValue21
 t37:=Tryz.underlying36
 a37:=Tryz.isAgg36
 z37:=Tryz.sizeOf36
 v37:=Tryz.zeroValue36
 t46:=Tryz.underlying299
 a46:=Tryz.isAgg299
 z46:=Tryz.sizeOf299
 v46:=Tryz.zeroValue299
 t51:=Tryz.underlying277
 a51:=Tryz.isAgg277
 z51:=Tryz.sizeOf277
 v51:=Tryz.zeroValue277
 t53:=Tryz.underlying296
 a53:=Tryz.isAgg296
 z53:=Tryz.sizeOf296
 v53:=Tryz.zeroValue296
 t75:=Tryz.underlying176
 a75:=Tryz.isAgg176
 z75:=Tryz.sizeOf176
 v75:=Tryz.zeroValue176
 t76:=Tryz.underlying177
 a76:=Tryz.isAgg177
 z76:=Tryz.sizeOf177
 v76:=Tryz.zeroValue177
 t85:=Tryz.underlying268
 a85:=Tryz.isAgg268
 z85:=Tryz.sizeOf268
 v85:=Tryz.zeroValue268
 t127:=Tryz.underlying317
 a127:=Tryz.isAgg317
 z127:=Tryz.sizeOf317
 v127:=Tryz.zeroValue317
 t143:=Tryz.underlying321
 a143:=Tryz.isAgg321
 z143:=Tryz.sizeOf321
 v143:=Tryz.zeroValue321
 t145:=Tryz.underlying323
 a145:=Tryz.isAgg323
 z145:=Tryz.sizeOf323
 v145:=Tryz.zeroValue323
 t167:=Tryz.underlying267
 a167:=Tryz.isAgg267
 z167:=Tryz.sizeOf267
 v167:=Tryz.zeroValue267
 t168:=Tryz.underlying270
 a168:=Tryz.isAgg270
 z168:=Tryz.sizeOf270
 v168:=Tryz.zeroValue270
 t171:=Tryz.underlying324
 a171:=Tryz.isAgg324
 z171:=Tryz.sizeOf324
 v171:=Tryz.zeroValue324
 t173:=Tryz.underlying327
 a173:=Tryz.isAgg327
 z173:=Tryz.sizeOf327
 v173:=Tryz.zeroValue327
 t175:=Tryz.underlying297
 a175:=Tryz.isAgg297
 z175:=Tryz.sizeOf297
 v175:=Tryz.zeroValue297
 t210:=Tryz.underlying302
 a210:=Tryz.isAgg302
 z210:=Tryz.sizeOf302
 v210:=Tryz.zeroValue302
 t212:=Tryz.underlying342
 a212:=Tryz.isAgg342
 z212:=Tryz.sizeOf342
 v212:=Tryz.zeroValue342
 t213:=Tryz.underlying343
 a213:=Tryz.isAgg343
 z213:=Tryz.sizeOf343
 t232:=Tryz.underlying346
 a232:=Tryz.isAgg346
 z232:=Tryz.sizeOf346
 v232:=Tryz.zeroValue346
 t233:=Tryz.underlying347
 a233:=Tryz.isAgg347
 z233:=Tryz.sizeOf347
 v233:=Tryz.zeroValue347
 g15:=zq2
 g16:=zq2
 g17:=zq2
 g18:=zq2
 g19:=zq2
 t80:=Tryz.underlying180
 a80:=Tryz.isAgg180
 z80:=Tryz.sizeOf180
 v80:=Tryz.zeroValue180
 i0:=zq2
 i2:=zq2
 i3:=zq2
 i4:=zq2
 i5:=zq2
 i9:=zq2
 i20:=zq2
 i21:=zq2
 i37:=zq2
 i46:=zq2
 i51:=zq2
 i53:=zq2
 i75:=zq2
 i76:=zq2
 i80:=zq2
 i85:=zq2
 i127:=zq2
 i143:=zq2
 i145:=zq2
 i167:=zq2
 i168:=zq2
 i171:=zq2
 i173:=zq2
 i175:=zq2
 i210:=zq2
 i212:=zq2
 i232:=zq2
 i233:=zq2
 m15:=zq2
 m16:=zq2
 m17:=zq2
 m18:=zq2
 m19:=zq2
 c0:=zq2
 c2:=zq2
 c3:=zq2
 c4:=zq2
 c5:=zq2
 c9:=zq2
 c20:=zq2
 c21:=zq2
 c37:=zq2
 c46:=zq2
 c51:=zq2
 c53:=zq2
 c75:=zq2
 c76:=zq2
 c80:=zq2
 c85:=zq2
 c127:=zq2
 c143:=zq2
 c145:=zq2
 c167:=zq2
 c168:=zq2
 c171:=zq2
 c173:=zq2
 c175:=zq2
 c210:=zq2
 c212:=zq2
 c213:=zq2
 c232:=zq2
 c233:=by kernel_rfl}
open Go.RowKit in
theorem Tryz.strconv_Atoi_ok(s:ByteArray)(a:s.size<=9223372036854775806)(v:Int)(h:ep s.data.toList=.ok v)(w:aq):
 bE Tryz.prog 97 #[.string s] w fun e w'=>e=.returned (.tuple #[.int .i64 v,.nilIface])/\(w'=w\/∃t,w'=Lib.bytesWorld w 5 t):=Any.strconv_Atoi_ok Tryz.YM s a v h w
open Go.RowKit in
theorem Tryz.strconv_Atoi_syntax_var(s:ByteArray)(b:s.size<=281474976710656)(e:Lib.NumEnd Int)(h:ep s.data.toList=e)(d:∀v,e≠ .ok v)(f:e≠ .range)(c:aT)(p:al)(w:aq)(a:w.var? Tryz.prog "strconv.ErrSyntax" =aj #[.iface c p]):
 bE Tryz.prog 97 #[.string s] w fun e w'=>∃N,e=.returned (.tuple #[.int .i64 0,.iface 270 (.pointer (aj ⟨N,0,aw⟩))])/\w.heap.size<=N/\w'.heap[N]? =aj (.cells #[.string ⟨#[65,116,111,105]⟩,.string s,.iface c p] 302 (0,0))/\Below w.heap.size w w':=Any.strconv_Atoi_syntax_var Tryz.YM s b (by cases e with|ok v=>exact absurd Z (d v)|range=>exact absurd Z f|_=>exact h) c p w a
open Go.RowKit in
theorem Tryz.strconv_Atoi_range_var(s:ByteArray)(a:s.size<=281474976710656)(h:ep s.data.toList=.range)(c:aT)(p:al)(w:aq)(b:w.var? Tryz.prog "strconv.ErrRange" =aj #[.iface c p]):
 bE Tryz.prog 97 #[.string s] w fun e w'=>∃N,e=.returned (.tuple #[.int .i64 (Lib.atoiSat s.data.toList),.iface 270 (.pointer (aj ⟨N,0,aw⟩))])/\w.heap.size<=N/\w'.heap[N]? =aj (.cells #[.string ⟨#[65,116,111,105]⟩,.string s,.iface c p] 302 (0,0))/\Below w.heap.size w w':=Any.strconv_Atoi_range_var Tryz.YM s a h c p w b
def Tryz.laysM171_ren:Go.Shelf.Ren:=⟨fun|171=>149|243=>185|246=>203|283=>218|284=>219|285=>220|286=>221|129=>228|317=>227|318=>229|319=>230|320=>231|337=>232|338=>233|n=>n,fun|3=>3|9=>9|2=>2|4=>4|171=>324|0=>0|53=>296|37=>36|5=>5|173=>327|212=>342|51=>277|20=>20|213=>343|46=>299|232=>346|233=>347|n=>n,fun|17=>7|18=>8|19=>9|n=>n⟩
theorem Tryz.laysM171:Go.Proofs.LaysM.n171 Tryz.prog Tryz.laysM171_ren:={
 mixed:=zq2
 f129:=Tryz.func228.trans (congrArg aj zq2)
 f171:=Tryz.func149.trans (congrArg aj zq2)
 f243:=Tryz.func185.trans (congrArg aj zq2)
 f246:=Tryz.func203.trans (congrArg aj zq2)
 f283:=Tryz.func218.trans (congrArg aj zq2)
 f284:=Tryz.func219.trans (congrArg aj zq2)
 f285:=Tryz.func220.trans (congrArg aj zq2)
 f286:=Tryz.func221.trans (congrArg aj zq2)
 f317:=Tryz.func227.trans (congrArg aj zq2)
 f318:=Tryz.func229.trans (congrArg aj zq2)
 f319:=Tryz.func230.trans (congrArg aj zq2)
 f320:=Tryz.func231.trans (congrArg aj zq2)
 f337:=Tryz.func232.trans (congrArg aj zq2)
 f338:=Tryz.func233.trans (congrArg aj zq2)
 t0:=Tryz.underlying0
 a0:=Tryz.isAgg0
 z0:=Tryz.sizeOf0
 v0:=Tryz.zeroValue0
 t2:=Tryz.underlying2
 a2:=Tryz.isAgg2
 z2:=Tryz.sizeOf2
 v2:=Tryz.zeroValue2
 t3:=Tryz.underlying3
 a3:=Tryz.isAgg3
 z3:=Tryz.sizeOf3
 v3:=Tryz.zeroValue3
 t4:=Tryz.underlying4
 a4:=Tryz.isAgg4
 z4:=Tryz.sizeOf4
 v4:=Tryz.zeroValue4
 t5:=Tryz.underlying5
 a5:=Tryz.isAgg5
 z5:=Tryz.sizeOf5
 v5:=Tryz.zeroValue5
 t9:=Tryz.underlying9
 a9:=Tryz.isAgg9
 z9:=Tryz.sizeOf9
 v9:=Tryz.zeroValue9
 t20:=Tryz.underlying20
 a20:=Tryz.isAgg20
 z20:=Tryz.sizeOf20
 v20:=Tryz.zeroValue20
 t37:=Tryz.underlying36
 a37:=Tryz.isAgg36
 z37:=Tryz.sizeOf36
 v37:=Tryz.zeroValue36
 t46:=Tryz.underlying299
 a46:=Tryz.isAgg299
 z46:=Tryz.sizeOf299
 v46:=Tryz.zeroValue299
 t51:=Tryz.underlying277
 a51:=Tryz.isAgg277
 z51:=Tryz.sizeOf277
 v51:=Tryz.zeroValue277
 t53:=Tryz.underlying296
 a53:=Tryz.isAgg296
 z53:=Tryz.sizeOf296
 v53:=Tryz.zeroValue296
 t171:=Tryz.underlying324
 a171:=Tryz.isAgg324
 z171:=Tryz.sizeOf324
 v171:=Tryz.zeroValue324
 t173:=Tryz.underlying327
 a173:=Tryz.isAgg327
 z173:=Tryz.sizeOf327
 v173:=Tryz.zeroValue327
 t212:=Tryz.underlying342
 a212:=Tryz.isAgg342
 z212:=Tryz.sizeOf342
 v212:=Tryz.zeroValue342
 t213:=Tryz.underlying343
 a213:=Tryz.isAgg343
 z213:=Tryz.sizeOf343
 t232:=Tryz.underlying346
 a232:=Tryz.isAgg346
 z232:=Tryz.sizeOf346
 v232:=Tryz.zeroValue346
 t233:=Tryz.underlying347
 a233:=Tryz.isAgg347
 z233:=Tryz.sizeOf347
 v233:=Tryz.zeroValue347
 g17:=zq2
 g18:=zq2
 g19:=zq2
 i0:=zq2
 i2:=zq2
 i3:=zq2
 i4:=zq2
 i5:=zq2
 i9:=zq2
 i20:=zq2
 i37:=zq2
 i46:=zq2
 i51:=zq2
 i53:=zq2
 i171:=zq2
 i173:=zq2
 i212:=zq2
 i232:=zq2
 i233:=zq2
 m17:=zq2
 m18:=zq2
 m19:=by kernel_rfl}
open Go.RowKit Go.Sort Go.Lib in
theorem Tryz.strconv_Itoa(n:Int)(c: -9223372036854775808<=n)(b:n<=9223372036854775807)(w:aq)(a:oi Tryz.prog w "internal/strconv.uint64pow10" .u64 Lib.pow10Tab):
 bE Tryz.prog 149 #[.int .i64 n] w fun e w'=>e=.returned (.string ⟨(Lib.itoa n).toArray⟩)/\∃k os,w'=grow (w.drewN k) os:=Any.strconv_Itoa Tryz.laysM171 n c b w a
def Tryz.lays157_ren:Go.Shelf.Ren:=⟨fun|157=>107|229=>152|199=>153|261=>186|311=>204|312=>205|n=>n,fun|9=>9|31=>173|3=>3|5=>5|4=>4|119=>242|0=>0|40=>244|152=>274|21=>21|154=>276|51=>277|141=>279|196=>308|193=>305|198=>311|49=>309|194=>306|201=>314|226=>329|46=>299|227=>330|n=>n,fun|0=>0|6=>1|n=>n⟩
theorem Tryz.lays157:Go.Proofs.Lays.n157 Tryz.prog Tryz.lays157_ren:={
 mixed:=zq2
 f157:=Tryz.func107.trans (congrArg aj zq2)
 f199:=Tryz.func153.trans (congrArg aj zq2)
 f229:=Tryz.func152.trans (congrArg aj zq2)
 f261:=Tryz.func186.trans (congrArg aj zq2)
 f311:=Tryz.func204.trans (congrArg aj zq2)
 f312:=Tryz.func205.trans (congrArg aj zq2)
 t0:=Tryz.underlying0
 a0:=Tryz.isAgg0
 z0:=Tryz.sizeOf0
 v0:=Tryz.zeroValue0
 t3:=Tryz.underlying3
 a3:=Tryz.isAgg3
 z3:=Tryz.sizeOf3
 v3:=Tryz.zeroValue3
 t4:=Tryz.underlying4
 a4:=Tryz.isAgg4
 z4:=Tryz.sizeOf4
 v4:=Tryz.zeroValue4
 t5:=Tryz.underlying5
 a5:=Tryz.isAgg5
 z5:=Tryz.sizeOf5
 v5:=Tryz.zeroValue5
 t9:=Tryz.underlying9
 a9:=Tryz.isAgg9
 z9:=Tryz.sizeOf9
 v9:=Tryz.zeroValue9
 t21:=Tryz.underlying21
 a21:=Tryz.isAgg21
 z21:=Tryz.sizeOf21
 v21:=Tryz.zeroValue21
 t31:=Tryz.underlying173
 a31:=Tryz.isAgg173
 z31:=Tryz.sizeOf173
 v31:=Tryz.zeroValue173
 t40:=Tryz.underlying244
 a40:=Tryz.isAgg244
 z40:=Tryz.sizeOf244
 v40:=Tryz.zeroValue244
 t46:=Tryz.underlying299
 a46:=Tryz.isAgg299
 z46:=Tryz.sizeOf299
 v46:=Tryz.zeroValue299
 t49:=Tryz.underlying309
 a49:=Tryz.isAgg309
 z49:=Tryz.sizeOf309
 v49:=Tryz.zeroValue309
 t51:=Tryz.underlying277
 a51:=Tryz.isAgg277
 z51:=Tryz.sizeOf277
 v51:=Tryz.zeroValue277
 t119:=Tryz.underlying242
 a119:=Tryz.isAgg242
 z119:=Tryz.sizeOf242
 t141:=Tryz.underlying279
 a141:=Tryz.isAgg279
 z141:=Tryz.sizeOf279
 v141:=Tryz.zeroValue279
 t152:=Tryz.underlying274
 a152:=Tryz.isAgg274
 z152:=Tryz.sizeOf274
 v152:=Tryz.zeroValue274
 t154:=Tryz.underlying276
 a154:=Tryz.isAgg276
 z154:=Tryz.sizeOf276
 v154:=Tryz.zeroValue276
 t193:=Tryz.underlying305
 a193:=Tryz.isAgg305
 z193:=Tryz.sizeOf305
 v193:=Tryz.zeroValue305
 t194:=Tryz.underlying306
 a194:=Tryz.isAgg306
 z194:=Tryz.sizeOf306
 v194:=Tryz.zeroValue306
 t196:=Tryz.underlying308
 a196:=Tryz.isAgg308
 z196:=Tryz.sizeOf308
 v196:=Tryz.zeroValue308
 t198:=Tryz.underlying311
 a198:=Tryz.isAgg311
 z198:=Tryz.sizeOf311
 v198:=Tryz.zeroValue311
 t201:=Tryz.underlying314
 a201:=Tryz.isAgg314
 z201:=Tryz.sizeOf314
 v201:=Tryz.zeroValue314
 t226:=Tryz.underlying329
 a226:=Tryz.isAgg329
 z226:=Tryz.sizeOf329
 v226:=Tryz.zeroValue329
 t227:=Tryz.underlying330
 a227:=Tryz.isAgg330
 z227:=Tryz.sizeOf330
 v227:=Tryz.zeroValue330
 g0:=zq2
 g6:=by kernel_rfl}
open Go.RowKit Go.Lib in
theorem Tryz.strings_Fields(s:ByteArray)(w:aq)(d:s.size<4294967281)(a:∀(j:Nat) b,s.data.toList[j]? =aj b->b.toNat<128)(c:oi Tryz.prog w "strings.asciiSpace" .u8 rB):
 bE Tryz.prog 107 #[.string s] w fun e w'=>
  e=.returned (.slice (aj ⟨w.heap.size,0,aw⟩) (fb s.data.toList).length (fb s.data.toList).length)/\w'=w.alloc (.cells ((fb s.data.toList).map fun l=>lx ⟨l.toArray⟩).toArray 9):=Any.strings_Fields Tryz.lays157 zq2 zq2 s w d a c
def Tryz.XK:Go.Shelf.Ren:=⟨fun|156=>157|165=>191|166=>192|169=>193|240=>207|241=>208|276=>222|277=>223|n=>n,fun|31=>173|9=>9|3=>3|4=>4|0=>0|20=>20|72=>287|76=>177|70=>285|37=>36|75=>176|127=>317|164=>331|5=>5|80=>180|n=>n,fun|n=>n⟩
theorem Tryz.lays156:Go.Proofs.Lays.n156 Tryz.prog Tryz.XK:={
 mixed:=zq2
 f156:=Tryz.func157.trans (congrArg aj zq2)
 f165:=Tryz.func191.trans (congrArg aj zq2)
 f166:=Tryz.func192.trans (congrArg aj zq2)
 f169:=Tryz.func193.trans (congrArg aj zq2)
 f240:=Tryz.func207.trans (congrArg aj zq2)
 f241:=Tryz.func208.trans (congrArg aj zq2)
 f276:=Tryz.func222.trans (congrArg aj zq2)
 f277:=Tryz.func223.trans (congrArg aj zq2)
 t0:=Tryz.underlying0
 a0:=Tryz.isAgg0
 z0:=Tryz.sizeOf0
 v0:=Tryz.zeroValue0
 t3:=Tryz.underlying3
 a3:=Tryz.isAgg3
 z3:=Tryz.sizeOf3
 v3:=Tryz.zeroValue3
 t4:=Tryz.underlying4
 a4:=Tryz.isAgg4
 z4:=Tryz.sizeOf4
 v4:=Tryz.zeroValue4
 t9:=Tryz.underlying9
 a9:=Tryz.isAgg9
 z9:=Tryz.sizeOf9
 v9:=Tryz.zeroValue9
 t20:=Tryz.underlying20
 a20:=Tryz.isAgg20
 z20:=Tryz.sizeOf20
 v20:=Tryz.zeroValue20
 t31:=Tryz.underlying173
 a31:=Tryz.isAgg173
 z31:=Tryz.sizeOf173
 v31:=Tryz.zeroValue173
 t37:=Tryz.underlying36
 a37:=Tryz.isAgg36
 z37:=Tryz.sizeOf36
 v37:=Tryz.zeroValue36
 t70:=Tryz.underlying285
 a70:=Tryz.isAgg285
 z70:=Tryz.sizeOf285
 v70:=Tryz.zeroValue285
 t72:=Tryz.underlying287
 a72:=Tryz.isAgg287
 z72:=Tryz.sizeOf287
 v72:=Tryz.zeroValue287
 t75:=Tryz.underlying176
 a75:=Tryz.isAgg176
 z75:=Tryz.sizeOf176
 v75:=Tryz.zeroValue176
 t76:=Tryz.underlying177
 a76:=Tryz.isAgg177
 z76:=Tryz.sizeOf177
 v76:=Tryz.zeroValue177
 t127:=Tryz.underlying317
 a127:=Tryz.isAgg317
 z127:=Tryz.sizeOf317
 v127:=Tryz.zeroValue317
 t164:=Tryz.underlying331
 a164:=Tryz.isAgg331
 z164:=Tryz.sizeOf331
 v164:=Tryz.zeroValue331}
theorem Tryz.Ka:Builder.Extra Tryz.prog Tryz.XK:={
 sizeBuilder:=zq2
 liesBuilder:=zq2
 t5:=Tryz.underlying5
 a5:=Tryz.isAgg5
 z5:=Tryz.sizeOf5
 v5:=Tryz.zeroValue5
 infoByte:=zq2
 cellsByte:=zq2
 sizeByte:=zq2
 neB5:=by decide}
open Go.RowKit in
theorem Tryz.strings_Join_none(a:Option Addr)(c:Nat)(b:ByteArray)(w:aq):
 bE Tryz.prog 157 #[.slice a 0 c,.string b] w fun e w'=>e=.returned (.string ⟨#[]⟩)/\w'=w:=Any.strings_Join_none Tryz.lays156 Tryz.Ka a c b w
open Go.RowKit in
theorem Tryz.strings_Join(g o c:Nat)(xs:List ByteArray)(b:ByteArray)(w:aq)(a:∀(j:Nat) x,xs[j]? =aj x->w.cell? ⟨g,o+j,aw⟩=aj (.string x))(h:g<w.heap.size)(hN:xs.length<=140737488355328)(f:xs.length<=c)(d:(Lib.join (xs.map (·.data.toList)) b.data.toList).length<=140737488355328):
    bE Tryz.prog 157 #[.slice (aj ⟨g,o,aw⟩) xs.length c,.string b] w fun e w'=>e=.returned (.string ⟨(Lib.join (xs.map (·.data.toList)) b.data.toList).toArray⟩)/\Below w.heap.size w w':=Any.strings_Join Tryz.lays156 Tryz.Ka g o c xs b w a h hN f d
def Tryz.lays145_ren:Go.Shelf.Ren:=⟨fun|145=>130|220=>171|219=>195|217=>210|225=>211|224=>212|267=>213|266=>225|314=>226|n=>n,fun|9=>9|4=>4|59=>217|3=>3|5=>5|46=>299|146=>336|51=>277|n=>n,fun|1=>4|n=>n⟩
theorem Tryz.lays145:Go.Proofs.Lays.n145 Tryz.prog Tryz.lays145_ren:={
 mixed:=zq2
 f145:=Tryz.func130.trans (congrArg aj zq2)
 f217:=Tryz.func210.trans (congrArg aj zq2)
 f219:=Tryz.func195.trans (congrArg aj zq2)
 f220:=Tryz.func171.trans (congrArg aj zq2)
 f224:=Tryz.func212.trans (congrArg aj zq2)
 f225:=Tryz.func211.trans (congrArg aj zq2)
 f266:=Tryz.func225.trans (congrArg aj zq2)
 f267:=Tryz.func213.trans (congrArg aj zq2)
 f314:=Tryz.func226.trans (congrArg aj zq2)
 t3:=Tryz.underlying3
 a3:=Tryz.isAgg3
 z3:=Tryz.sizeOf3
 v3:=Tryz.zeroValue3
 t4:=Tryz.underlying4
 a4:=Tryz.isAgg4
 z4:=Tryz.sizeOf4
 v4:=Tryz.zeroValue4
 t5:=Tryz.underlying5
 a5:=Tryz.isAgg5
 z5:=Tryz.sizeOf5
 v5:=Tryz.zeroValue5
 t9:=Tryz.underlying9
 a9:=Tryz.isAgg9
 z9:=Tryz.sizeOf9
 v9:=Tryz.zeroValue9
 t46:=Tryz.underlying299
 a46:=Tryz.isAgg299
 z46:=Tryz.sizeOf299
 v46:=Tryz.zeroValue299
 t51:=Tryz.underlying277
 a51:=Tryz.isAgg277
 z51:=Tryz.sizeOf277
 v51:=Tryz.zeroValue277
 t59:=Tryz.underlying217
 a59:=Tryz.isAgg217
 z59:=Tryz.sizeOf217
 v59:=Tryz.zeroValue217
 t146:=Tryz.underlying336
 a146:=Tryz.isAgg336
 z146:=Tryz.sizeOf336
 v146:=Tryz.zeroValue336
 g1:=by kernel_rfl}
open Go.RowKit Go.Lib in
theorem Tryz.strings_Cut(s a:ByteArray)(m:Int)(w:aq)(b:s.size<4294967281)(c:w.cell? ⟨4,0,aw⟩=aj (.int .i64 m)):
 bE Tryz.prog 130 #[.string s,.string a] w fun e w'=>e=.returned (.tuple #[.string ⟨(mW s.data.toList a.data.toList).1.toArray⟩,.string ⟨(mW s.data.toList a.data.toList).2.1.toArray⟩,.bool (mW s.data.toList a.data.toList).2.2])/\∃n,w'=w.drewN n:=Any.strings_Cut Tryz.lays145 s a m w b c
end Go.Proofs