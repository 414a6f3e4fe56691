/-
  What the law StoryGrows needs of our own library and of the walks, no more.
-/
import Derived.Shelf.Strings.Builder1
import Derived.Laws.IdiomRangeMap
import Derived.Lib.FieldsLaws
import Derived.KernelRfl
import Derived.Test.YtodkbibbgakkdaaGreatDoorProg
import Derived.Lib.Slices
import Derived.Lib.Walk
import Derived.Shelf.Strings.OnBuilder
import Derived.Shelf.LaysM
import Derived.Shelf.Strconv.Itoa3
import Derived.Shelf.LaysC
import Derived.Shelf.Strconv.AtoiAll
import Derived.Shelf.Strconv.ErrVarAll
import Derived.Shelf.Strings.Cut
import Derived.Shelf.Strings.Split
import Derived.Shelf.Strings.Fields
import Derived.Shelf.Strings.BuilderX
import Derived.Test.YtodkbibbgakkdaaGreatDoorStoryGrowsTa
set_option linter.unusedSimpArgs false
set_option linter.unusedVariables false
set_option maxRecDepth 10000
open Array renaming filter->ti,filter_eq_self->pn,getD_eq_getD_getElem?->cV,toList_filter->ju
open Bool renaming and_eq_true->cL,false_eq_true->cJ,not_eq_true'->gk,not_true->eo,false->aq,true->ar
open Decidable renaming decide->ab
open Go renaming Calls->bD,Edge->hH,Exit->fh,FuncId->fS,Oper->ef,Operand->bo,Program->ca,TypeId->ba,Value->al,World->ao,bodyPost->jn,execOp->bl,getObj->kn,leftOf->kd,madeCells->qs,run_equalIn_int->pa,run_part_plain->fN,step->kA,undef->fO
open Go.Lib renaming TabIs->oc,asciiSpaceTab->rI,atoiAll->ew,countB->gd,cut->mR,fields->fg,indexByte->kx
open Go.Question renaming forced->mT
open Go.Region renaming free->eR,noSelect->ea,ready->cN
open Go.Result renaming andThen_ok->bp
open Go.Sem renaming run->kh,run_bind->cv
open Go.Value renaming agg->rk,bool->dq,int->dp,pointer->fY,string->lp
open List renaming all_eq_true->lr,any_cons->tj,append_assoc->cg,eq_nil_of_length_eq_zero->cm,ext_getElem?->dk,filter_eq_self->mC,getElem?_append->gw,getElem?_append_left->ki,getElem?_append_right->gx,getElem?_drop->cw,getElem?_eq_getElem->bh,getElem?_eq_none->bw,getElem?_map->eg,getElem?_set->ff,getElem?_set_ne->dC,getElem?_set_self->ij,getElem?_take->cf,getElem?_zipWith->lF,getElem?_zip_eq_some->oj,getElem_set_ne->mz,getElem_set_self->lX,getElem_zip->rK,length_append->bc,length_drop->cI,length_map->cF,length_replicate->jt,length_set->cq,length_take->cd,length_zip->fc,map_append->cG,map_cons->ck,map_set->gB,mem_cons->bn,mem_cons_self->eW,nodup_cons->sx,not_mem_nil->dh,size_toArray->rj,zip_eq_zipWith->mv
open List.Perm renaming refl->nf
open Nat renaming add_mul->cj,beq->fu,beq_eq->rh,ble->ld,ble_eq->ot,eq_or_lt_of_le->ri,le_of_ble_eq_true->gn,le_of_succ_le->rL,le_refl->bt,lt_of_lt_of_le->cr,lt_or_ge->cD,mul_le_mul_right->bd,not_succ_le_self->pW,zero_le->fv
open Option renaming map_some->db,none->aE,some->aj
open Option.some renaming inj->cM,injEq->eI
open Prod renaming snd->du
namespace Go.LX
open Go.RowKit Go.Proofs
section
variable{P:ca}{ops:Array ef}{Q:fh->Act->ao->Prop}{n:Nat}{env:Nat->al}{w w' w0:ao}{M K:BS}{hp:Nat->Chunk}{rest:List ef}
 {d:Option Nat} {op:Op} {ty:ba} {pos:String} {af:Array hH} {v:al} {g:Option (Nat×Bool)} {T:ba} {ρ:bo->al} {x y:bo} {i fuel:Nat} {listed:Array Bool}
theorem SH.pceAt{S:Pce}(h:SH w0 M K w hp)(i:Nat)(a:hp i=.eO S):S.P w (SH.A M hp):=by
 have:=h.ok i;rw[a]at this;exact this
theorem SH.Mk{S S':Pce}(h:SH w0 M K w hp)(i:Nat)(c:hp i=.eO S)(d:S'.P w' (SH.A M hp))(e:bL S.own w w')(hn:∀b,S'.own b->b<w.heap.size->S.own b):SH w0 M K w' (bW hp i (.eO S')):=by
  refine h.step i e (fun b a _=>by rw[c];exact a) (fun b a f=>by rw[c];exact hn b a f) ?_;refine S'.go d (bL.refl BE w') (fun _ h=>h.elim) (fun _ h=>h.elim) fun b a _=>?_;rcases a with a|a|a
  · exact .inl<|.inl a
  · exact .inl<|.inr<|lM a
  · exact .inr a
end
open Go.RowKit Go.Proofs
structure QX(α β:Type)where
 sz:Nat
 enc:α->al->List al
 sub:α->List β
 put:α->List β->α
 len:∀x u,(enc x u).length=sz
 one:∀x u,u.oneCell'=ar->∀c∈enc x u,c.oneCell'=ar
 pos:0<sz
 SY:∀x s u,enc (put x s) u=enc x u
 S9:∀x s,sub (put x s)=s
def QX.raw{α β:Type}(N:QX α β):lL (α×al) where
 sz:=N.sz
 rd _ _ cs p:=cs=N.enc p.1 p.2/\p.2.oneCell'=ar
 len:=by rintro w A cs x ⟨rfl,_⟩;exact N.len _ _
 one:=by rintro w A cs x ⟨rfl,h⟩;exact N.one _ _ h
 pos:=N.pos
 go:=fun h _ _ _=>h
def hn:Nat->Prop:=fun _=>False
def hat(k:Nat):Nat->Prop:=fun i=>i=k
def GJ(ho:Nat->Prop)(us:List al):BS:=fun b=>∃i u,us[i]? =aj u/\¬ho i/\ob u b
def FamP{β:Type}(R:lL β)(E:ba)(ho:Nat->Prop)(us:List al)(ss:List (List β))(w:ao)(A:BS):Prop:=
 us.length=ss.length/\
 (∀i u s,us[i]? =aj u->ss[i]? =aj s->¬ho i->cO R E w (fun b=>A b\/GJ ho us b) u s)/\
 (∀i j u v,i≠j->¬ho i->¬ho j->us[i]? =aj u->us[j]? =aj v->∀b,ob u b->¬ob v b)
theorem FamP.at{β:Type}{R:lL β}{E:ba}{ho:Nat->Prop}{us:List al}{ss:List (List β)}{w:ao}{A:BS}(h:FamP R E ho us ss w A){i:Nat}{u:al}(a:us[i]? =aj u):∃s,ss[i]? =aj s:=by
  have:i<us.length:=by
    rcases cD i us.length with h|h
    · exact h
    · rw[bw h]at a;cases a
  exact⟨ss[i]'(h.1▸this),bh _⟩
def bP{β:Type}(R:lL β)(E:ba)(ho:Nat->Prop)(us:List al)(ss:List (List β)):Pce where
  own:=GJ ho us
  P w A:=FamP R E ho us ss w A
  lt:=by
    rintro w A b h⟨i,u,h1,h2,h3⟩;obtain⟨s,hs⟩:=h.at h1;exact(h.2.1 i u s h1 hs h2).lt b h3
  go:=by
    rintro w w' A A' K⟨h1,h2,h3⟩hk hK hKo hA;refine⟨h1,fun i u s hu hs hi=>(h2 i u s hu hs hi).go hk (fun b hb hl=>.inl<|hK b hb hl) (fun b hb ho=>hKo b hb ⟨i,u,hu,hi,ho⟩) fun b hb hl=>?_,h3⟩;rcases hb with hb|hb
    · exact .inl<|hA b hb hl
    · exact .inl<|.inr hb
section
variable{α β:Type}{N:QX α β}{R:lL β}{E Es T:ba}{w0 w w':ao}{M K A:BS}{hp:Nat->Chunk}{v u u':al}{us us':List al}{L L':List α}{ss ss':List (List β)}{s:List β}{x y:α}{k:Nat}{ho ho':Nat->Prop}
theorem Er(hp:Nat->Chunk)(i:Nat)(a c:Chunk):bW (bW hp i a) i c=bW hp i c:=by
  funext j;by_cases e:j=i
  · subst e;rw[cu,cu]
  · rw[ek e,ek e,ek e]
theorem hupd_comm(hp:Nat->Chunk){i j:Nat}(a c:Chunk)(h:i≠j):bW (bW hp i a) j c=bW (bW hp j c) i a:=by
  funext x;by_cases e:x=i
  · subst e;rw[cu,ek h,cu]
  · by_cases b:x=j
    · subst b;rw[cu,ek e,cu]
    · rw[ek b,ek e,ek e,ek b]
theorem SH.Xh(h:SH w0 M K w hp)(j:Nat)(a:hp j=.eO (bP R E ho us ss)):FamP R E ho us ss w (SH.A M hp):=h.pceAt j a
theorem SH.j4(h:SH w0 M K w hp)(j:Nat)(a:hp j=.eO (bP R E ho us (L.map N.sub))):us.length=L.length:=by
 have:=(h.Xh j a).1;rw[cF]at this;exact this
theorem gP(h:us.length=L.length):(L.zip us).length=L.length:=by rw[fc];omega
theorem gQ(a:L[k]? =aj x)(b:us[k]? =aj u):(L.zip us)[k]? =aj (x,u):=by
 rw[oj];exact⟨a,b⟩
theorem Yn(a:us[k]? =aj u):(L.zip us).set k (y,u)=(L.set k y).zip us:=by
  apply dk;intro i;rw[ff];by_cases e:k=i
  · subst e;rw[if_pos rfl];by_cases b:k<L.length
    · rw[gQ (x:=y) (u:=u) (by rw[ij b]) a];have:k<us.length:=by
        rcases cD k us.length with h|h
        · exact h
        · rw[bw h]at a;cases a
      rw[if_pos (by rw[fc];omega)]
    · rw[if_neg (by rw[fc];omega),bw (by rw[fc,cq];omega)]
  · rw[if_neg e];simp only[mv,lF,dC e]
theorem Ta(a:L[k]? =aj x):(L.zip us).set k (x,u)=L.zip (us.set k u):=by
  apply dk;intro i;rw[ff];by_cases e:k=i
  · subst e;rw[if_pos rfl];by_cases b:k<us.length
    · rw[gQ (x:=x) (u:=u) a (by rw[ij b])];have:k<L.length:=by
        rcases cD k L.length with h|h
        · exact h
        · rw[bw h]at a;cases a
      rw[if_pos (by rw[fc];omega)]
    · rw[if_neg (by rw[fc];omega),bw (by rw[fc,cq];omega)]
  · rw[if_neg e];simp only[mv,lF,dC e]
theorem BZ(a:L[k]? =aj y):L.set k y=L:=by
  apply dk;intro i;rw[ff];by_cases e:k=i
  · subst e;by_cases b:k<L.length
    · rw[if_pos rfl,if_pos b,a]
    · rw[bw V]at a;cases a
  · rw[if_neg e]
theorem nT{z:α}(a:L[k]? =aj x):(L.set k z)[k]? =aj z:=by
  rw[ij];rcases cD k L.length with h|h
  · exact h
  · rw[bw h]at a;cases a
theorem UW(a:us[k]? =aj u):(us.set k u')[k]? =aj u':=nT a
theorem own_re{l c:List (α×al)}(h:cO N.raw E w A v l)(d:c.length=l.length)(e:∀(i:Nat) (p a:α×al),l[i]? =aj p->c[i]? =aj a->N.enc a.1 a.2=N.enc p.1 p.2/\a.2=p.2):cO N.raw E w A v c:=by
 obtain⟨xs,m,g⟩:=h;refine⟨xs,by rw[d];exact m,fun i b=>?_⟩;obtain⟨j,k⟩:=g i<|d▸b;obtain⟨f,n⟩:=e i _ _ (bh<|d▸b)<|bh b;exact⟨j.trans f.symm,by rw[n];exact k⟩
theorem SH.rawRe(h:SH w0 M K w hp)(i:Nat)(j:hp i=.own N.raw E v (L.zip us))(g:L[k]? =aj x)(n:∀u,N.enc y u=N.enc x u):SH w0 M K w (bW hp i (.own N.raw E v ((L.set k y).zip us))):=by
  refine h.step i (bL.refl BE w) (fun _ h=>h.elim) (fun b d _=>by rw[j];exact d) ?_;have ho:=h.ok i;rw[j]at ho;refine Chunk.sub (O:=iX hp) (c:=.own N.raw E v ((L.set k y).zip us)) ?_ fun b d _=>?_
  · refine own_re ho (by rw[fc,fc,cq]) fun i p q hp a=>?_;rw[oj]at hp a;rw[ff]at a;have l:=cM<|hp.2.symm.trans a.2;by_cases e:k=i
    · subst e;have o:k<L.length:=by
        rcases cD k L.length with h|h
        · exact h
        · rw[bw h]at g;cases g
      rw[if_pos rfl,if_pos o]at a;have f:=cM a.1;have m:=cM<|g.symm.trans hp.1;rw[<-l,<-f,<-m];exact⟨n _,Z⟩
    · rw[if_neg e]at a;have f:=cM<|hp.1.symm.trans a.1;rw[<-l,<-f];exact⟨Z,Z⟩
  · rcases d with d|d
    · exact lM d
    · exact⟨i,by rw[j];exact d⟩
theorem SH.famRe(h:SH w0 M K w hp)(j:Nat)(l:hp j=.eO (bP R E ho us ss))(t:us'.length=ss'.length)(d:∀i,¬ho i->us'[i]? =us[i]? /\ss'[i]? =ss[i]?):SH w0 M K w (bW hp j (.eO (bP R E ho us' ss'))):=by
 have n:=h.Xh j l;have a:∀b,GJ ho us' b->GJ ho us b:=fun b⟨i,u,p,m,q⟩=>⟨i,u,(d i m).1▸p,m,q⟩;refine h.Mk j l ?_ (bL.refl _ _) fun b g _=>a b g;refine⟨t,fun i u s f o c=>?_,fun i j u v k c e f r=>n.2.2 i j u v k c e ((d i c).1▸f) ((d j e).1▸r)⟩;refine(n.2.1 i u s ((d i c).1▸f) ((d i c).2▸o) c).go (bL.refl BE w) (fun _ h=>h.elim) (fun _ h=>h.elim) fun b g _=>.inl<|g.imp id<|a b
theorem SH.famL(h:SH w0 M K w hp)(j:Nat)(y:α)(a:hp j=.eO (bP R E (hat k) us (L.map N.sub))):SH w0 M K w (bW hp j (.eO (bP R E (hat k) us ((L.set k y).map N.sub)))):=by
  refine h.famRe j a ?_ fun i b=>⟨Z,?_⟩
  · rw[cF,cq];exact h.j4 j a
  · rw[gB,dC (fun e=>b e.symm)]
theorem SH.famU(h:SH w0 M K w hp)(j:Nat)(u:al)(a:hp j=.eO (bP R E (hat k) us ss)):SH w0 M K w (bW hp j (.eO (bP R E (hat k) (us.set k u) ss))):=by
  refine h.famRe j a ?_ fun i b=>⟨?_,Z⟩
  · rw[cq];exact(h.Xh j a).1
  · rw[dC (fun e=>b e.symm)]
theorem SH.famOpen(h:SH w0 M K w hp)(j m:Nat)(B:hp j=.eO (bP R E ho us ss))(C:hp m=.no)(n:j≠m)(d:us[k]? =aj u)(G:ss[k]? =aj s)(o:¬ho k)(ho':Nat->Prop)(g:∀i,ho' i↔ho i\/i=k):
    SH w0 M K w (bW (bW hp j (.eO (bP R E ho' us ss))) m (.own R E u s)):=by
  have p:=h.Xh j B;have c:∀b,GJ ho' us b->GJ ho us b:=fun b⟨i,u,l,f,A⟩=>⟨i,u,l,fun h=>f ((g i).2<|.inl h),A⟩;have q:(Chunk.two (.eO<|bP R E ho' us ss)<|.own R E u s).holds w M (SH.av hp j<|Chunk.two (.eO<|bP R E ho' us ss)<|.own R E u s):=by
    refine⟨⟨p.1,fun i v t z F r=>?_,fun i j u v x r y d z=>p.2.2 i j u v x (fun h=>r ((g i).2<|.inl h)) (fun h=>y ((g j).2<|.inl h)) d z⟩,?_,?_⟩
    · refine(p.2.1 i v t z F fun h=>r ((g i).2<|.inl h)).go (bL.refl BE w) (fun _ h=>h.elim) (fun _ h=>h.elim) fun b a _=>.inl ?_;rcases a with(a|a|a)|a
      · exact .inl<|.inl a
      · exact .inl<|.inr<|lM a
      · rcases a with a|a
        · exact .inr<|c b a
        · exact .inr ⟨k,u,d,o,a⟩
      · exact .inr<|c b a
    · refine(p.2.1 k u s d G o).go (bL.refl BE w) (fun _ h=>h.elim) (fun _ h=>h.elim) fun b a _=>.inl ?_;rcases a with a|a|a
      · exact .inl<|.inl a
      · exact .inl<|.inr<|lM a
      · rcases a with a|a
        · exact .inr<|c b a
        · exact .inr ⟨k,u,d,o,a⟩
    · rintro b⟨i,v,l,f,A⟩a;exact p.2.2 i k v u (fun e=>f ((g i).2<|.inr e)) (fun h=>f ((g i).2<|.inl h)) o l d b A a
  have l:=h.step j (bL.refl BE w) (fun _ h=>h.elim) (fun b a _=>by
    rw[B];rcases a with a|a
    · exact c b a
    · exact⟨k,u,d,o,a⟩) q
  have f:=l.unpair j m n (cu _ _ _) (by rw[ek (Ne.symm n)];exact C);rw[Er]at f;exact f
theorem SH.KI(h:SH w0 M K w hp)(j m:Nat)(S:hp j=.eO (bP R E ho us ss))(O:hp m=.own R E u s)(X:j≠m)(x:us[k]? =aj u)(hk:ho k)(ho':Nat->Prop)(h':∀i,ho i↔ho' i\/i=k)(P:¬ho' k):
    SH w0 M K w (bW (bW hp m .no) j (.eO (bP R E ho' us (ss.set k s)))):=by
  have o:=h.pair j m X;have d:∀i,¬ho' i->i=k\/¬ho i:=fun i C=>by
    by_cases e:i=k
    · exact .inl e
    · exact .inr fun h=>((h' i).1 h).elim C e
  have l:∀b,GJ ho' us b->GJ ho us b\/ob u b:=fun b⟨i,v,o,y,N⟩=>by
    rcases d i y with rfl|h4
    · rw[x]at o;cases o;exact .inr N
    · exact .inl ⟨i,v,o,h4,N⟩
  have Q:∀b,GJ ho us b\/ob u b->GJ ho' us b:=fun b a=>by
    rcases a with⟨i,v,o,y,N⟩|a
    · exact⟨i,v,o,fun h=>y ((h' i).2<|.inl h),N⟩
    · exact⟨k,u,x,P,a⟩
  have p:=o.ok j;have a0:bW (bW hp m .no) j (.two (hp j)<|hp m)=bW (bW hp m .no) j (.two (.eO<|bP R E ho us ss)<|.own R E u s):=by rw[S,O]
  rw[cu,S,O]at p;have y:=o.step (c:=.eO (bP R E ho' us (ss.set k s))) j (bL.refl BE w) (fun _ h=>h.elim) (fun b a _=>by
    rw[cu,S,O];exact l b a) ?_
  · rw[Er]at y;exact y
  · rw[a0];have hA:∀b,(M b\/SH.av (bW (bW hp m .no) j<|.two (.eO<|bP R E ho us ss)<|.own R E u s) j (.eO<|bP R E ho' us<|ss.set k s) b)\/GJ ho' us b->(M b\/iX (bW (bW hp m .no) j<|.two (.eO<|bP R E ho us ss)<|.own R E u s) b):=by
      have G:∀b,GJ ho' us b->iX (bW (bW hp m .no) j (.two (.eO (bP R E ho us ss)) (.own R E u s))) b:=fun b a=>⟨j,by rw[cu];exact l b a⟩;rintro b((a|a|a)|a)
      · exact .inl a
      · exact .inr<|lM a
      · exact .inr<|G b a
      · exact .inr<|G b a
    refine⟨by rw[cq];exact p.1.1,fun i v t q I C=>?_,fun i n v v' z C A q g b a r=>?_⟩
    · by_cases e:i=k
      · subst e;rw[x]at q;cases q;have T:i<ss.length:=by
          obtain⟨s',F⟩:=p.1.at x;rcases cD i ss.length with h|h
          · exact h
          · rw[bw h]at F;cases F
        rw[ij T]at I;cases I;refine cO.go p.2.1 (bL.refl BE w) (fun _ h=>h.elim) (fun _ h=>h.elim) fun b a _=>.inl<|hA b a
      · rw[dC (fun h=>e h.symm)]at I;have f:¬ho i:=(d i C).resolve_left e;refine(p.1.2.1 i v t q I f).go (bL.refl BE w) (fun _ h=>h.elim) (fun _ h=>h.elim) fun b a _=>.inl<|.inl<|hA b a
    · by_cases e:i=k
      · have L:n≠k:=fun h=>z<|e.trans h.symm;have f:¬ho n:=(d n A).resolve_left L;subst e;rw[x]at q;cases q;exact p.2.2 b ⟨n,v',g,f,r⟩ a
      · have f:¬ho i:=(d i C).resolve_left e;by_cases L:n=k
        · subst L;rw[x]at g;cases g;exact p.2.2 b ⟨i,v,q,f,a⟩ r
        · have B:¬ho n:=(d n A).resolve_left L;exact p.1.2.2 i n v v' z f B q g b a r
end
open Go.RowKit Go.Proofs
section
variable{α β:Type}{N:QX α β}{R:lL β}{E Es T:ba}{w0 w w':ao}{M K A:BS}{hp:Nat->Chunk}{v u u':al}{us us' vX:List al}{L L':List α}{ss ss' ss2:List (List β)}{s:List β}{x y:α}{k:Nat}{ho ho':Nat->Prop}
theorem Ml{a:Type}{l:List a}{z:a}(h:l[k]? =aj z):k<l.length:=by
  rcases cD k l.length with h1|h1
  · exact h1
  · rw[bw h1]at h;cases h
theorem SH.dnOpen(h:SH w0 M K w hp)(j m:Nat)(c:hp j=.eO (bP R Es hn us (L.map N.sub)))(e:hp m=.no)(a:j≠m)(d:L[k]? =aj x):
  ∃u,us[k]? =aj u/\SH w0 M K w (bW (bW hp j (.eO (bP R Es (hat k) us (L.map N.sub)))) m (.own R Es u (N.sub x))):=by
 have f:=h.j4 j c;have b:=Ml d;exact⟨us[k]'(f▸b),bh _,h.famOpen j m c e a (bh _) (by rw[eg,d];rfl) (fun h=>h) _ (fun i=>⟨.inr,fun h=>h.elim (fun h=>h.elim) id⟩)⟩
theorem SH.Bj(h:SH w0 M K w hp)(i j m:Nat)(y:α)(p:hp i=.own N.raw E v (L.zip us))(o:hp j=.eO (bP R Es (hat k) us (L.map N.sub)))(n:hp m=.own R Es u s)(b:i≠j)(c:i≠m)(a:j≠m)(g:L[k]? =aj x)(l:us[k]? =aj u)(d:y=N.put x s):
  SH w0 M K w (bW (bW (bW hp m .no) j (.eO (bP R Es hn us ((L.set k y).map N.sub)))) i (.own N.raw E v ((L.set k y).zip us))):=by
 have q:=h.KI j m o n a l Z hn (fun i=>⟨.inr,fun h=>h.elim (fun h=>h.elim) id⟩) fun h=>h;have f:=q.rawRe (N:=N) (x:=x) (y:=y) (k:=k) (E:=E) (v:=v) i (by rw[ek b,ek c];exact p) g (fun u=>by rw[d];exact N.SY _ _ _);have e:(L.map N.sub).set k s=(L.set k y).map N.sub:=by rw[gB,d,N.S9]
 rw[e]at f;exact f
theorem SH.mo(h:SH w0 M K w hp)(j m:Nat)(g:hp j=.eO (bP R Es (hat k) us (L.map N.sub)))(f:hp m=.own R Es u s)(a:j≠m)(c:L[k]? =aj x)(d:us[k]? =aj u)(l:N.sub x=s):
  SH w0 M K w (bW (bW hp m .no) j (.eO (bP R Es hn us (L.map N.sub)))):=by
 have b:=h.KI j m g f a d Z hn (fun i=>⟨.inr,fun h=>h.elim (fun h=>h.elim) id⟩) fun h=>h;have e:(L.map N.sub).set k s=L.map N.sub:=BZ (by rw[eg,c,<-l];rfl);rw[e]at b;exact b
theorem SH.famNew(h:SH w0 M K w hp)(m:Nat)(g:hp m=.own R Es u s):SH w0 M K w (bW hp m (.eO (bP R Es hn [u] [s]))):=by
  have ho:=h.ok m;rw[g]at ho;have a:∀b,GJ hn [u] b->ob u b:=by
    rintro b⟨i,v,k,_,l⟩;cases i with
    |zero=>cases k;exact l
    |succ i=>cases k
  refine h.step m (bL.refl BE w) (fun _ h=>h.elim) (fun b c _=>by rw[g];exact a b c) ⟨Z,fun i v t d f _=>?_,fun i j v t e _ _ d f=>?_⟩
  · cases i with
    |succ i=>cases d
    |zero=>
      cases d;cases f;refine cO.go ho (bL.refl BE w) (fun _ h=>h.elim) (fun _ h=>h.elim) fun b c _=>?_;rcases c with(c|c|c)|c
      · exact .inl<|.inl c
      · exact .inl<|.inr<|lM c
      · exact .inr<|a b c
      · exact .inr<|a b c
  · cases i with
    |zero=>cases j with
      |zero=>exact absurd Z e
      |succ j=>cases f
    |succ i=>cases d
theorem SH.famNil(h:SH w0 M K w hp)(j:Nat):SH w0 M K w (bW hp j (.eO (bP R Es hn [] []))):=
  h.learn j (bL.refl BE w) (by rintro b ⟨i,u,c,_⟩;cases c) (by
    refine⟨Z,?_,?_⟩
    · intro i v t a;cases a
    · intro i j v t _ _ _ a;cases a)
theorem SH.GK(h:SH w0 M K w hp)(j m:Nat)(B:hp j=.eO (bP R Es hn us ss))(A:hp m=.eO (bP R Es hn vX ss2))(u:j≠m):SH w0 M K w (bW (bW hp m .no) j (.eO (bP R Es hn (us++vX) (ss++ss2)))):=by
  have e:=h.pair j m u;have k:=e.ok j;rw[B,A]at e;rw[cu,B,A]at k;have n:∀b,GJ hn (us++vX) b->GJ hn us b\/GJ hn vX b:=by
    rintro b⟨i,v,e,_,o⟩;rw[gw]at e;split at e
    · exact .inl ⟨i,v,e,fun h=>h,o⟩
    · exact .inr ⟨_,v,e,fun h=>h,o⟩
  have z:∀b,GJ hn us b\/GJ hn vX b->GJ hn (us++vX) b:=by
    rintro b(⟨i,v,e,_,o⟩|⟨i,v,e,_,o⟩)
    · exact⟨i,v,by rw[ki (Ml e)];exact e,fun h=>h,o⟩
    · exact⟨us.length+i,v,by rw[gx V,Nat.add_sub_cancel_left];exact e,fun h=>h,o⟩
  have E:=e.step (c:=.eO (bP R Es hn (us++vX) (ss++ss2))) j (bL.refl BE w) (fun _ h=>h.elim) (fun b a _=>by rw[cu];exact n b a) ?_
  · rw[Er]at E;exact E
  · have C:∀b,(M b\/SH.av (bW (bW hp m .no) j<|.two (.eO<|bP R Es hn us ss)<|.eO<|bP R Es hn vX ss2) j (.eO<|bP R Es hn (us++vX)<|ss++ss2) b)\/GJ hn (us++vX) b->(M b\/iX (bW (bW hp m .no) j<|.two (.eO<|bP R Es hn us ss)<|.eO<|bP R Es hn vX ss2) b):=by
      have q:∀b,GJ hn (us++vX) b->iX (bW (bW hp m .no) j (.two (.eO (bP R Es hn us ss)) (.eO (bP R Es hn vX ss2)))) b:=fun b a=>⟨j,by rw[cu];exact n b a⟩;rintro b((a|a|a)|a)
      · exact .inl a
      · exact .inr<|lM a
      · exact .inr<|q b a
      · exact .inr<|q b a
    have F:=k.1.1;have G:=k.2.1.1;refine⟨by simp only[bc];omega,fun i v t f r _=>?_,fun i x v s y _ _ f d b a l=>?_⟩
    · rw[gw]at f r;by_cases p:i<us.length
      · rw[if_pos p]at f;rw[if_pos V]at r;exact(k.1.2.1 i v t f r fun h=>h).go (bL.refl BE w) (fun _ h=>h.elim) (fun _ h=>h.elim) fun b a _=>.inl<|.inl<|C b a
      · rw[if_neg p]at f;rw[if_neg V,<-F]at r;exact(k.2.1.2.1 _ v t f r fun h=>h).go (bL.refl BE w) (fun _ h=>h.elim) (fun _ h=>h.elim) fun b a _=>.inl<|.inl<|C b a
    · rw[gw]at f d;by_cases p:i<us.length
      · rw[if_pos p]at f;by_cases g:x<us.length
        · rw[if_pos g]at d;exact k.1.2.2 i x v s y (fun h=>h) (fun h=>h) f d b a l
        · rw[if_neg g]at d;exact k.2.2 b ⟨_,v,f,fun h=>h,a⟩ ⟨_,s,d,fun h=>h,l⟩
      · rw[if_neg p]at f;by_cases g:x<us.length
        · rw[if_pos g]at d;exact k.2.2 b ⟨_,s,d,fun h=>h,l⟩ ⟨_,v,f,fun h=>h,a⟩
        · rw[if_neg g]at d;exact k.2.1.2.2 _ _ v s V (fun h=>h) (fun h=>h) f d b a l
theorem SH.famTake(h:SH w0 M K w hp)(j n:Nat)(l:hp j=.eO (bP R Es hn us (L.map N.sub))):SH w0 M K w (bW hp j (.eO (bP R Es hn (us.take n) ((L.take n).map N.sub)))):=by
  have k:=h.Xh j l;have hat:∀(i:Nat) (u:al),(us.take n)[i]? =aj u->us[i]? =aj u/\i<n:=fun i u a=>by
    rw[cf]at a;split at a
    · exact⟨a,by assumption⟩
    · cases a
  have c:∀b,GJ hn (us.take n) b->GJ hn us b:=fun b⟨i,u,o,t,r⟩=>⟨i,u,(hat i u o).1,t,r⟩;refine h.Mk j l ?_ (bL.refl _ _) fun b e _=>c b e;have p:=k.1;rw[cF]at p;refine⟨by rw[cd,cF,cd];omega,fun i u s a m d=>?_,fun i j u v f d g a q=>k.2.2 i j u v f d g (hat i u a).1 (hat j v q).1⟩;rw[List.map_take,cf,if_pos (hat i u a).2]at m;refine(k.2.1 i u s (hat i u a).1 m d).go (bL.refl BE w) (fun _ h=>h.elim) (fun _ h=>h.elim) fun b e _=>.inl<|e.imp id<|c b
theorem zip_take'(n:Nat):(L.zip us).take n=(L.take n).zip (us.take n):=by
 apply dk;intro i;simp only[mv,cf,lF];split<;>rfl
theorem JF{a:List α}(h:us.length=L.length):(L.zip us)++(a.zip vX)=(L++a).zip (us++vX):=(List.zip_append h.symm).symm
theorem uZ{P:ca}{ρ:bo->al}{d:Option Nat}{ty:ba}{pos:String}{af:Array hH}{g:Option (Nat×Bool)}{a:bo}{f:Nat}{B A:BS}{j:ao}(b:SliceOf P T E f)(c:ρ a=v)(e:eD N.raw j B A v (L.zip us))(i:us.length=L.length):
  (bl ρ ⟨d,.call {callee:=.builtin .len,args:= #[a],argTypes:= #[T]},ty,pos,af,g⟩).run P w=.ok (.value (.int .i64 L.length)) w:=by
 have h:=gm (P:=P) (w:=w) (d:=d) (ty:=ty) (pos:=pos) (af:=af) (g:=g) b c e;rw[gP i]at h;exact h
theorem SH.KJ{R':lL α}(h:SH w0 M K w hp)(i j:Nat)(p:hp i=.own N.raw E v (L.zip us))(m:hp j=.eO (bP R Es hn us (L.map N.sub)))(n:i≠j)(r:R'.sz=N.sz)(br:∀w A x u,dn R w A u (N.sub x)->R'.rd w A (N.enc x u) x):SH w0 M K w (bW (bW hp j .no) i (.rd R' v L)):=by
  have s:=h.j4 j m;have l:=h.pair i j n;have g:=l.apart i;have C:=l.apM i;have t:=l.ok i;rw[cu]at g C;rw[cu,p,m]at t;have I:=l.step (c:=.rd R' v L) i (bL.refl BE w) (fun _ h=>h.elim) (fun b d _=>d.elim) ?_
  · rw[Er]at I;exact I
  · have hno:∀b,(hp i).own' b\/(hp j).own' b->¬(M b\/SH.av (bW (bW hp j .no) i<|.two (hp i)<|hp j) i (.rd R' v L) b):=by
      intro b d f;rcases f with f|⟨q,k,f⟩|f
      · exact C b d f
      · exact g q (fun e=>k e.symm) b d f
      · exact f
    have y:∀b,(M b\/SH.av (bW (bW hp j .no) i<|.two (hp i)<|hp j) i (.rd R' v L) b)->M b\/iX (bW (bW hp j .no) i<|.two (.own N.raw E v<|L.zip us)<|.eO<|bP R Es hn us<|L.map N.sub) b:=by
      rw[p,m];rintro b(d|d|d)
      · exact .inl d
      · exact .inr<|lM d
      · exact d.elim
    have T:dn N.raw w (fun b=>M b\/SH.av (bW (bW hp j .no) i<|.two (hp i)<|hp j) i (.rd R' v L) b) v (L.zip us):=
      cO.rd t.1 (fun b d=>hno b (.inl (by rw[p];exact d))) (fun b d _=>.inl (y b d))
    obtain⟨a,cap,z,G,e3,P,e5⟩:=T;rw[gP s]at z G;refine⟨a,cap,z,G,e3,P,fun q k=>?_⟩;obtain⟨b,o,cells,F,O,q1,X,Q,B⟩:=e5 q (by rw[gP s];exact k);refine⟨b,o,cells,F,O,q1,X,Q,?_⟩;rw[r];have S:(L.zip us)[q]'(by rw[gP s];exact k)=(L[q],us[q]'V):=by simp
    rw[S]at B;obtain⟨q5,_⟩:=B;have q6:((cells.toList.drop<|o+q*N.sz).take N.sz)=N.enc L[q] (us[q]'V):=q5;rw[q6];refine br _ _ _ _ (cO.rd (t.2.1.2.1 q _ _ (bh V) (by rw[eg,bh k];rfl) (fun h=>h)) (fun b d=>hno b (.inr (by rw[m];exact⟨q,_,bh V,fun h=>h,d⟩))) (fun b d _=>.inl (.inl (y b d))))
theorem SH.moveC(h:SH w0 M K w hp)(j i:Nat){c:Chunk}(q:hp j=c)(u:hp i=.no)(r:j≠i):SH w0 M K w (bW (bW hp j .no) i c):=by
  subst q;have f:∀x b,(bW (bW hp j .no) i (hp j) x).own' b->∃y,(hp y).own' b/\(x=i->y=j)/\(x≠i->y=x/\x≠j):=by
    intro x b a;by_cases e:x=i
    · subst e;rw[cu]at a;exact⟨j,a,fun _=>rfl,fun h=>absurd Z h⟩
    · rw[ek e]at a;by_cases d:x=j
      · subst d;rw[cu]at a;exact a.elim
      · rw[ek d]at a;exact⟨x,a,fun h=>absurd h e,fun _=>⟨Z,d⟩⟩
  have g:∀b,iX (bW (bW hp j .no) i<|hp j) b->iX hp b:=fun b⟨x,n⟩=>let ⟨y,k,_⟩:=f x b n;⟨y,k⟩;refine⟨h.keep,h.ltM,fun x b a=>let ⟨y,k,_⟩:=f x b a;h.apM y b k,fun x=>?_,fun x y l b n k=>?_,fun x b a=>let ⟨y,k,_⟩:=f x b a;h.old y b k⟩
  · by_cases e:x=i
    · subst e;rw[cu];exact Chunk.sub (h.ok j) fun b a _=>g b a
    · rw[ek e];by_cases d:x=j
      · subst d;rw[cu];trivial
      · rw[ek d];exact Chunk.sub (h.ok x) (fun b a _=>g b a)
  · obtain⟨x',s,t,o⟩:=f x b n;obtain⟨p,k1,k2,m⟩:=f y b k;have:x'≠p:=by
      by_cases e:x=i
      · have d:y≠i:=fun h=>l<|e.trans h.symm;rw[t e,(m d).1];exact fun h=>(m d).2 h.symm
      · by_cases d:y=i
        · rw[k2 d,(o e).1];exact(o e).2
        · rw[(o e).1,(m d).1];exact l
    exact h.apart x' p this b s k1
def dz(β:Type):QX (List β) β where
 sz:=1
 enc _ u:=[u]
 sub x:=x
 put _ s:=s
 len _ _:=rfl
 one:=by intro x u h c hc;simp at hc;subst hc;exact h
 pos:=by decide
 SY _ _ _:=rfl
 S9 _ _:=rfl
theorem Tc{R:lL β}:∀w A (x:List β) u,dn R w A u ((dz β).sub x)->(yf R).rd w A ((dz β).enc x u) x:=fun _ _ _ u h=>⟨u,rfl,h⟩
end
open Go.RowKit Go.Proofs
section
variable{P:ca}{w:ao}{ρ:bo->al}{d:Option Nat}{ty:ba}{pos:String}{af:Array hH}{g:Option (Nat×Bool)}{T:ba}{x y:bo}
theorem SH.JG{α β:Type}{N:QX α β}{R:lL β}{E:ba}{w0:ao}{M K:BS}{hp:Nat->Chunk}{u:al}{s:List β}(h:SH w0 M K w hp)(m:Nat)(x:α)(a:hp m=.own R E u s)(b:N.sub x=s):SH w0 M K w (bW hp m (.eO (bP R E hn [u] (List.map N.sub [x])))):=by
 subst b;exact h.famNew m a
theorem us_at{α:Type}{us:List al}{L:List α}{k:Nat}{z:α}(h:us.length=L.length)(a:L[k]? =aj z):∃u,us[k]? =aj u:=by
 have:=Ml a;exact⟨us[k]'(h▸this),bh _⟩
end
open Go.RowKit Go.Proofs
section
variable{α:Type}{R:lL α}{E:ba}{w0 w w':ao}{M K:BS}{hp:Nat->Chunk}{C C':Chunk}{v:al}{l:List α}
theorem qI:∀b,iX (bW hno 1 C) b->C.own' b:=by
  rintro b⟨j,a⟩;by_cases e:j=1
  · subst e;rw[cu]at a;exact a
  · rw[ek e]at a;exact a.elim
theorem ja{i:Nat}(hn:∀b,iX hp b->C.own' b):∀b,iX (bW hp i (.rd R v l)) b->C.own' b:=by
  rintro b⟨j,a⟩;by_cases e:j=i
  · subst e;rw[cu]at a;exact a.elim
  · rw[ek e]at a;exact hn b ⟨j,a⟩
theorem SH.kF(h:SH w M K w hp)(i:Nat)(ho:dn R w (fun b=>M b\/C.own' b) v l)(hn:∀b,iX hp b->C.own' b):SH w M K w (bW hp i (.rd R v l)):=
 h.aK i (ho.sub (fun b a _=>a.imp id (hn b)) (fun b a _=>a.imp id (hn b)))
theorem SH.lendS(h:SH w0 M K w hp)(i:Nat)(c:hp i=C)(a:C.SN):C.holds w (fun b=>M b\/rest hp i b) C.own'/\(∀b,C.own' b->¬(M b\/rest hp i b))/\(∀b,(M b\/rest hp i b)->b<w.heap.size):=by
 subst c;exact h.lendC i a
theorem SH.xK(h:SH w0 M K w hp)(i j:Nat)(d:hp j=.rd R v l)(e:hp i=C):dn R w (fun b=>(M b\/rest hp i b)\/C.own' b) v l:=by
  have c:∀b,(M b\/rest hp i b)\/C.own' b->SH.A M hp b:=by
    rintro b((a|a)|a)
    · exact .inl a
    · exact .inr<|lM a
    · exact .inr ⟨i,by rw[e];exact a⟩
  exact(h.bC j d).sub (fun b a _=>c b a) fun b a _=>c b a
theorem SH.back(h:SH w0 M K w hp)(i:Nat)(e:hp i=C)(c:C'.SN)(d:C'.holds w' (fun b=>M b\/rest hp i b) C'.own')(a:bL C.own' w w')(hn:∀b,C'.own' b->b<w.heap.size->C.own' b):SH w0 M K w' (bW hp i C'):=by
 subst e;exact h.givenC i c d a hn
theorem fB{i:Nat}(h:dn R w (fun b=>(M b\/rest hp i b)\/C.own' b) v l):dn R w (SH.A M (bW hp i C)) v l:=by
  have a:∀b,SH.A M (bW hp i C) b->(M b\/rest hp i b)\/C.own' b:=by
    rintro b(c|⟨j,d⟩)
    · exact .inl<|.inl c
    · by_cases e:j=i
      · subst e;rw[cu]at d;exact .inr d
      · rw[ek e]at d;exact .inl (.inr ⟨j,e,d⟩)
  exact h.sub (fun b c _=>a b c) fun b c _=>a b c
theorem SH.bV(h:SH w0 M K w hp)(i j:Nat)(d:hp j=.rd R v l)(e:hp i=C):dn R w (fun b=>M b\/C.own' b) v l:=by
  have c:∀b,M b\/C.own' b->SH.A M hp b:=by
    rintro b(a|a)
    · exact .inl a
    · exact .inr ⟨i,by rw[e];exact a⟩
  exact(h.bC j d).sub (fun b a _=>c b a) fun b a _=>c b a
theorem SH.outS(h:SH w0 M K w hp)(i:Nat)(c:hp i=C)(a:C.SN):C.holds w M C.own'/\bL K w0 w/\(∀b,C.own' b->b<w0.heap.size->K b):=h.outC i c a
end
section
variable{P:ca}{ops:Array ef}{Q:fh->Act->ao->Prop}{n:Nat}{env:Nat->al}{w:ao}
theorem At.hold{w w':ao}{L:BS}{b o:Nat}{cs:List al}(h:At w b o cs)(a:bL L w w')(hn:¬L b):At w' b o cs:=by
 obtain⟨cells,E,d,c,e⟩:=h;exact⟨cells,E,d,a.blk c hn,e⟩
theorem fin4{g:Func}{R:Ending->ao->Prop}{t u a c:Tmp}{v1 v2 v3 v4:al}(i:g.results= #[.tmp t,.tmp u,.tmp a,.tmp c])(j:ev n env (.tmp t)=v1)(m:ev n env (.tmp u)=v2)(l:ev n env (.tmp a)=v3)(k:ev n env (.tmp c)=v4)(h:R (.returned (.tuple #[v1,v2,v3,v4])) w):jn P g R .ret (act n env) w:=by
 refine⟨Z,_,?_,h⟩;have e:=congrFun (gX n env)<|.tmp t;have f:=congrFun (gX n env)<|.tmp u;have d:=congrFun (gX n env)<|.tmp a;have b:=congrFun (gX n env)<|.tmp c;rw[j]at e;rw[m]at f;rw[l]at d;rw[k]at b;simp only[Act.eval]at e f d b;rw[cV]at e f d b;unfold results;rw[i];simp[e,f,d,b]
end
structure Ins where
 op:Int
 a:Int
 b:Int
 c:Int
 args:List Int
deriving DecidableEq
def lH:lL Ins where
 sz:=5
 rd w A cs x:=∃Xi,cs=[.int .i64 x.op,.int .i64 x.a,.int .i64 x.b,.int .i64 x.c,Xi]/\dn bZ w A Xi x.args
 len:=by rintro w A cs x ⟨Xi,rfl,h0⟩;rfl
 one:=by rintro w A cs x ⟨Xi,rfl,h0⟩ u hu;simp only[bn,dh,or_false]at hu;rcases hu with rfl|rfl|rfl|rfl|rfl<;>first|rfl|exact h0.one
 pos:=by decide
 go:=by rintro w A cs x w2 A2 K ⟨Xi,rfl,h0⟩ hk hK hA;exact⟨_,Z,h0.go hk hK hA⟩
theorem KL{w:ao}{A:BS}{cs:List al}{x:Ins}(h:lH.rd w A cs x):∃d,cs=[.int .i64 x.op,.int .i64 x.a,.int .i64 x.b,.int .i64 x.c,d]/\dn bZ w A d x.args:=h
structure bA where
 params:Int
 regs:Int
 code:List Ins
deriving DecidableEq
def dH:lL bA where
 sz:=3
 rd w A cs x:=∃Xj,cs=[.int .i64 x.params,.int .i64 x.regs,Xj]/\dn lH w A Xj x.code
 len:=by rintro w A cs x ⟨Xj,rfl,h0⟩;rfl
 one:=by rintro w A cs x ⟨Xj,rfl,h0⟩ u hu;simp only[bn,dh,or_false]at hu;rcases hu with rfl|rfl|rfl<;>first|rfl|exact h0.one
 pos:=by decide
 go:=by rintro w A cs x w2 A2 K ⟨Xj,rfl,h0⟩ hk hK hA;exact⟨_,Z,h0.go hk hK hA⟩
theorem xk{w:ao}{A:BS}{cs:List al}{x:bA}(h:dH.rd w A cs x):∃a,cs=[.int .i64 x.params,.int .i64 x.regs,a]/\dn lH w A a x.code:=h
structure Frame where
 proc:Int
 at_:Int
 regs:List Val
 jK:Int
deriving DecidableEq
def jU:lL Frame where
 sz:=4
 rd w A cs x:=∃Xk,cs=[.int .i64 x.proc,.int .i64 x.at_,Xk,.int .i64 x.jK]/\dn bJ w A Xk x.regs
 len:=by rintro w A cs x ⟨Xk,rfl,h0⟩;rfl
 one:=by rintro w A cs x ⟨Xk,rfl,h0⟩ u hu;simp only[bn,dh,or_false]at hu;rcases hu with rfl|rfl|rfl|rfl<;>first|rfl|exact h0.one
 pos:=by decide
 go:=by rintro w A cs x w2 A2 K ⟨Xk,rfl,h0⟩ hk hK hA;exact⟨_,Z,h0.go hk hK hA⟩
theorem Fq{w:ao}{A:BS}{cs:List al}{x:Frame}(h:jU.rd w A cs x):∃a,cs=[.int .i64 x.proc,.int .i64 x.at_,a,.int .i64 x.jK]/\dn bJ w A a x.regs:=h
structure State where
 frames:List Frame
 cells:List (List Val)
 status:Int
 bT:Int
deriving DecidableEq
def KM:QX bA Ins where
 sz:=3
 enc x u:=[.int .i64 x.params,.int .i64 x.regs,u]
 sub x:=x.code
 put x s:={x with code:=s}
 len _ _:=rfl
 one:=by intro x u h c hc;simp only[bn,dh,or_false]at hc;rcases hc with rfl|rfl|rfl<;>first|rfl|exact h
 pos:=by decide
 SY _ _ _:=rfl
 S9 _ _:=rfl
theorem nProc_br:∀w A (x:bA) u,dn lH w A u (KM.sub x)->dH.rd w A (KM.enc x u) x:=fun _ _ _ u h=>⟨u,rfl,h⟩
def aS:QX Frame Val where
 sz:=4
 enc x u:=[.int .i64 x.proc,.int .i64 x.at_,u,.int .i64 x.jK]
 sub x:=x.regs
 put x s:={x with regs:=s}
 len _ _:=rfl
 one:=by intro x u h c hc;simp only[bn,dh,or_false]at hc;rcases hc with rfl|rfl|rfl|rfl<;>first|rfl|exact h
 pos:=by decide
 SY _ _ _:=rfl
 S9 _ _:=rfl
theorem KN:∀w A (x:Frame) u,dn bJ w A u (aS.sub x)->jU.rd w A (aS.enc x u) x:=fun _ _ _ u h=>⟨u,rfl,h⟩
open Go.RowKit Go.Proofs
section
variable{P:ca}{ops:Array ef}{Q:fh->Act->ao->Prop}{n:Nat}{env:Nat->al}{w w' w0:ao}{M K:BS}{hp:Nat->Chunk}{rest:List ef}
 {d:Option Nat} {op:Op} {ty:ba} {pos:String} {af:Array hH} {v:al} {g:Option (Nat×Bool)} {T:ba} {ρ:bo->al} {x y:bo}
theorem fin_c{e:Func}{R:Ending->ao->Prop}{a:Tmp}{T:ba}{zs vs:List al}{b:Nat}(m:e.results= #[.cell a T])(g:ev n env (.tmp a)=.pointer (aj ⟨b,0,aE⟩))
  (l:SH w0 M K w hp) (i:Nat) (j:hp i=.blk b vs) (f:vN P T zs) (k:vs.length=zs.length) (h:R (.returned (.agg vs.toArray)) w):jn P e R .ret (act n env) w:=by
 refine⟨Z,_,?_,h⟩;have c:=congrFun (gX n env)<|.tmp a;rw[g]at c;simp only[Act.eval]at c;rw[cV]at c;have d:=CJ (P:=P) l j f k Z;unfold results;rw[m];simp[c,asAddr,d]
end
theorem cutS_free{c:UInt8}{s:Str}(h:c∉s)(a:s.length<4294967281):cutS s [c]=aj (s,[],aq):=by
  unfold cutS;rw[kC a];rcases idx1 c s with⟨h1,h2⟩|⟨x,r,h1,h2,h3⟩
  · unfold mR;rw[h1,if_neg zq1]
  · exact absurd (by rw[h1];simp) h
theorem cutS_hit{c:UInt8}{x r:Str}(h:c∉x)(a:(x++c::r).length<4294967281):cutS (x++c::r) [c]=aj (x,r,ar):=by
  unfold cutS;rw[kC a];rcases idx1 c (x++c::r)with⟨h1,h2⟩|⟨y,q,h1,h2,h3⟩
  · exact absurd zq3 h2
  · have e:x=y/\r=q:=by
      have k1:=BC (r:=r) h;have k2:=BC (r:=q) h2;rw[<-h1,k1]at k2;injection k2 with k2 k3;subst k2;refine⟨Z,?_⟩;have:=List.append_cancel_left h1;injection this
    obtain⟨rfl,rfl⟩:=e;unfold mR;rw[h3,if_pos V];simp only[Int.toNat_natCast];rw[List.take_left,show x.length+[c].length=(x++[c]).length by simp,show x++c::r=(x++[c])++r by simp,List.drop_left]
theorem splitC_cons{c:UInt8}{s x y:Str}{l:List Str}(h:jT c s=x::y::l):∃r,s=x++c::r/\jT c r=y::l/\c∉x:=by
 have b:=(Ep c s x (by rw[h];exact eW)).2;have a:=BX c s;rw[h,yR]at a;refine⟨vV c<|y::l,a.symm,?_,b⟩;rw[<-a,BC b]at h;injection h
theorem splitC_single{c:UInt8}{s x:Str}(h:jT c s=[x]):s=x/\c∉x:=by
 have b:=(Ep c s x (by rw[h];exact eW)).2;have a:=BX c s;rw[h,BV]at a;exact⟨a.symm,b⟩
open Go.RowKit Go.Proofs
def RngP{α:Type}(f:α->al)(m r:Nat)(c:Option (Int×α))(left:List (Int×α))(w:ao):Prop:=
 m≠r/\∃d a b,w.heap[m]? =aj (.map d a)/\Mc d a/\w.heap[r]? =aj (.mapIter (aj m) a b a)/\
  (kd d b).toList.map (fun e=>(e.key,e.val))=left.map (fun p=>(dp .i64 p.1,f p.2))/\
  ∀p,c=aj p->∃e∈d.toList,b.back?=aj e.born/\e.key=.int .i64 p.1/\e.val=f p.2
def rngS{α:Type}(f:α->al)(m r:Nat)(last:Option (Int×α))(left:List (Int×α)):Pce where
  own x:=x=m\/x=r
  P w _:=RngP f m r last left w
  lt:=by
    rintro w A x⟨_,es,clock,seen,h1,_,h2,_⟩(rfl|rfl)
    · exact iW h1
    · exact iW h2
  go:=by
    rintro w w' A A' K⟨h0,es,clock,seen,h1,h2,h3,h4⟩hk hK hKo hA;exact⟨h0,es,clock,seen,hk.blk h1 fun h=>hKo m h<|.inl Z,h2,hk.blk h3 fun h=>hKo r h<|.inr Z,h4⟩
section
variable{P:ca}{ops:Array ef}{Q:fh->Act->ao->Prop}{n:Nat}{env:Nat->al}{w w' w0:ao}{M K:BS}{hp:Nat->Chunk}{rest:List ef}
 {d:Option Nat} {op:Op} {ty:ba} {pos:String} {af:Array hH} {v:al} {g:Option (Nat×Bool)} {T:ba} {ρ:bo->al} {x y:bo} {α:Type} {f:α->al}
theorem w_range{z:al}{m:Nat}{jO:List (Int×al)}(l:List (Int×α))(h:SH w0 M K w hp)(i:Nat)(t:hp i=.mp m jO)(B:MapOf P T z)(C:ev n env x=.map (aj m))(A:jO=l.map fun p=>(p.1,f p.2))
    (k:∀w' r,SH w0 M K w' (bW hp i (.eO (rngS f m r aE l)))->WL P ops Q rest n (gG env d (.pointer (aj ⟨r,0,aE⟩))) w'):WL P ops Q (⟨d,.range T x,ty,pos,af,aE⟩::rest) n env w:=by
  obtain⟨y,E,u,G,F⟩:=B.desc;obtain⟨e,a,g,j,o⟩:=h.mpAt i t;have c:(bl (ev n env) ⟨d,.range T x,ty,pos,af,aE⟩).run P w=.ok (.value<|.pointer<|some ⟨w.heap.size,0,aE⟩) (w.alloc<|.mapIter (aj m) a #[] a):=by
    simp only[bl,C];simp[run_range_map w T y E m e a u g]
  refine J c<|k _ _ ?_;have q:=iW g;refine h.step i (N:=BE) (Grow.alloc _ _) (fun _ h=>h.elim) (fun b s v=>?_) ?_
  · rw[t];rcases s with rfl|rfl
    · rfl
    · exact absurd v<|Nat.lt_irrefl _
  · refine⟨Nat.ne_of_lt q,e,a,#[],by rw[(Grow.alloc _ _).blk g],o,heap_alloc_new _ _,?_,fun p h=>by cases h⟩;have:kd e #[]=e:=by unfold kd;exact pn.2 (fun x _=>by simp)
    rw[this,j,A,List.map_map];rfl
theorem XD{r:Nat}{a:Option Nat}{s c:Nat}{b:Array Nat}(o:Obj)(d:w.heap[r]? =aj (.mapIter a s b c)):(setObj r o).run P w=.ok () (wW w r o):=by
 simp only[setObj,kh,d];rfl
theorem run_next_any(ty:ba){m r a:Nat}{f:Array MapEntry}{b:Array Nat}(v:w.heap[m]? =aj (.map f a))(t:w.heap[r]? =aj (.mapIter (aj m) a b a))(i:∀e∈f.toList,e.born<a):
    ((kd f b).size=0/\(Instr.next (.pointer (aj ⟨r,0,aE⟩)) aq ty).run P w=.ok (.tuple #[.bool aq]) w)\/
    ∃e∈(kd f b).toList,∃d:ao,(d=w\/d=w.drew)/\(Instr.next (.pointer (aj ⟨r,0,aE⟩)) aq ty).run P w=.ok (.tuple #[.bool ar,e.key,e.val]) (wW d r (.mapIter (aj m) a (b.push e.born) a)):=by
  have o:(kn r).run P w=.ok (.mapIter (aj m) a b a) w:=by simp[kn,kh,t]
  have n:(kn m).run P w=.ok (.map f a) w:=by simp[kn,kh,v]
  simp only[Instr.next,cv,o,n,bp,next_test_false b f a a i (bt _),cJ,if_false];unfold kd;have c:∀x∈(ti (fun e=> !b.contains e.born) f).toList,x.born<a:=fun x g=>i x (by simp at g⊢;exact g.1);generalize ti (fun e=> !b.contains e.born) f=L at c⊢;have z:L.filter (fun x=>decide<|x.born<a)=L:=pn.2 (fun x g=>by simpa using c x (by simpa using g));have A:L.filter (fun x=>decide<|x.born≥a)= #[]:=by
    rw[Array.filter_eq_empty_iff];intro x g;have:=c x (by simpa using g);simp;omega
  simp only[z,A,Array.append_empty];by_cases s:L.size=0
  · left;have:L= #[]:=Array.eq_empty_of_size_eq_zero s;subst this;refine⟨Z,?_⟩;simp[choose,kh,mT]
  · right;have q:L.isEmpty=false:=by simp[Array.isEmpty,s]
    simp only[q,cJ,if_false,Array.empty_append,Array.size_map];have p:∃(j:Nat) (d:ao),j<L.size/\(d=w\/d=w.drew)/\(choose<|Question.mapNext L.size).run P w=.ok j d:=by
      by_cases u:L.size<=1
      · exact⟨0,w,by omega,.inl Z,by simp[choose,kh,mT,u]⟩
      · exact⟨_,w.drew,Nat.mod_lt _ V,.inr Z,by
          simp only[choose,kh,mT,decide_eq_true_eq,u,if_false,Question.cut];rfl⟩
    obtain⟨j,d,y,h,k⟩:=p;refine⟨L[j],by simp,d,h,?_⟩;have l:d.heap[r]? =aj (.mapIter (aj m) a b a):=by rcases h with rfl|rfl<;>exact t
    simp only[k,Array.getElem?_map,Array.getElem?_eq_getElem y,db,cv,XD _ l,bp];rfl
theorem leftOf_push(c:Array MapEntry)(a:Array Nat)(b:Nat):(kd c (a.push b)).toList=(kd c a).toList.filter (fun x=>x.born !=b):=by
 unfold kd;rw[ju,ju,List.filter_filter];apply List.filter_congr;intro x _;have:(a.push b).contains x.born=(a.contains x.born||(x.born==b)):=by
  rw[Bool.eq_iff_iff];simp[Array.contains_iff_mem]
 rw[this];cases a.contains x.born<;>cases hq:(x.born==b)<;>simp[bne,hq]
theorem w_next{m r:Nat}{s:Option (Int×α)}{left:List (Int×α)}(h:SH w0 M K w hp)(i:Nat)(R:hp i=.eO (rngS f m r s left))(k:ev n env x=.pointer (aj ⟨r,0,aE⟩))
    (k0:left=[]->WL P ops Q rest n (gG env d (.tuple #[.bool aq])) w)
    (k1:∀p g w',left.Perm (p::g)->SH w0 M K w' (bW hp i (.eO (rngS f m r (aj p) g)))->WL P ops Q rest n (gG env d (.tuple #[.bool ar,.int .i64 p.1,f p.2])) w'):
    WL P ops Q (⟨d,.next x aq,ty,pos,af,aE⟩::rest) n env w:=by
  have T:=h.ok i;rw[R]at T;obtain⟨y,q,a,c,E,L,S,C,h5⟩:=T;rcases run_next_any (P:=P) ty E S L.1 with⟨g1,g2⟩|⟨e,he,w1,hw1,g2⟩
  · have hl:left=[]:=by
      have:(kd q c).toList=[]:=cm (by simpa using g1);rw[this]at C;cases left with
      |nil=>rfl
      |cons p l=>cases C
    refine J (v:=.tuple #[.bool aq]) (w':=w) ?_<|k0 hl;simp only[bl,k];simp[g2]
  · obtain⟨A,B,o⟩:=List.append_of_mem he;rw[o,cG,ck]at C;obtain⟨O,l2,rfl,q1,q2⟩:=List.map_eq_append_iff.1 C.symm;obtain⟨p,N,rfl,t,q4⟩:=List.map_eq_cons_iff.1 q2;simp only[Prod.mk.injEq]at t;have z:=iW S;have j:Grow w w1:=by
      rcases hw1 with rfl|rfl
      · exact bL.refl _ _
      · exact⟨Z,Z,Z,bt _,fun _ _ _=>rfl⟩
    have hk:bL (fun x=>x=m\/x=r) w (wW w1 r<|.mapIter (aj m) a (c.push e.born) a):=bL.step (j.weaken fun _ h _=>h.elim) (bL.wW _ _ _) fun x k _=>.inr k;have I:(wW w1 r<|.mapIter (aj m) a (c.push e.born) a).heap[m]? =aj (.map q a):=by
      rw[(bL.wW w1 r _).block m y (cr (iW E) j.size),j.blk E]
    refine J (v:=.tuple #[.bool ar,.int .i64 p.1,f p.2]) (w':=wW w1 r<|.mapIter (aj m) a (c.push e.born) a) ?_<|k1 p (O++N) _ (List.perm_middle) ?_
    · rw[t.1,t.2];simp only[bl,k];simp[g2]
    · refine h.Mk (S':=rngS f m r (aj p)<|O++N) i R ?_ hk fun b hb _=>hb;refine⟨y,q,a,c.push e.born,I,L,vP<|cr z j.size,?_,fun p' G=>?_⟩
      · rw[leftOf_push,o];have u:((kd q c).toList.map (·.born)).Nodup:=by
          unfold kd;rw[ju];exact(L.2.sublist ((List.filter_sublist (l:=q.toList)).map _))
        rw[o,cG,ck,List.nodup_append]at u;obtain⟨n1,X,n3⟩:=u;rw[List.filter_append,List.filter_cons_of_neg zq3,mC.2 (fun x k=>?_),mC.2 (fun x k=>?_),cG,cG,<-q1,<-q4]
        · have:=(sx.1 X).1;simp only[bne_iff_ne,ne_eq,decide_not,gk,beq_eq_false_iff_ne];intro F;exact this (by rw[<-F];exact List.mem_map.2 ⟨x,k,Z⟩)
        · simp only[bne_iff_ne,ne_eq,decide_not,gk,beq_eq_false_iff_ne];intro F;exact n3 x.born (List.mem_map.2 ⟨x,k,Z⟩) e.born zq3 F
      · cases G;refine⟨e,?_,by simp,t.1.symm,t.2.symm⟩;have:e∈(kd q c).toList:=he;unfold kd at this;rw[ju]at this;exact(List.mem_filter.1 this).1
theorem r_entry{m r:Nat}{p:Int×α}{left:List (Int×α)}(h:SH w0 M K w hp)(i:Nat)(u:hp i=.eO (rngS f m r (aj p) left))(q:ρ x=.pointer (aj ⟨r,0,aE⟩)):
    (bl ρ ⟨d,.entry x,ty,pos,af,g⟩).run P w=.ok (.value (.tuple #[.int .i64 p.1,f p.2])) w:=by
  have l:=h.ok i;rw[u]at l;obtain⟨A,k,a,b,v,C,z,E,B⟩:=l;obtain⟨e,n,s,o,y⟩:=B p Z;have j:(kn r).run P w=.ok (.mapIter (aj m) a b a) w:=by simp[kn,kh,z]
  have c:(kn m).run P w=.ok (.map k a) w:=by simp[kn,kh,v]
  have t:k.find? (·.born==e.born)=aj e:=by rw[<-Array.find?_toList];exact find_born e k.toList C.2 n
  simp only[bl,q];have:(Instr.entry<|.pointer<|some ⟨r,0,aE⟩).run P w=.ok (.tuple #[.int .i64 p.1,f p.2]) w:=by
    simp only[Instr.entry,cv,j,c,bp,s,bne_self_eq_false,cJ,if_false,t];rw[o,y];rfl
  simp[this]
theorem SH.rngForget{m r:Nat}{c:Option (Int×α)}{left:List (Int×α)}(h:SH w0 M K w hp)(i:Nat)(g:hp i=.eO (rngS f m r c left)):SH w0 M K w (bW hp i (.eO (rngS f m r aE left))):=by
 have j:=h.ok i;rw[g]at j;obtain⟨e,l,a,d,n,s,q,k,t⟩:=j;exact h.Mk (S':=rngS f m r aE left) i g ⟨e,l,a,d,n,s,q,k,fun p h=>by cases h⟩ (bL.refl _ _) fun b o _=>o
end
def Yo{α σ:Type}(kA:α->σ->Option σ):List α->σ->Option σ
 |[],s=>aj s
 |a::l,s=>(kA a s).bind (Yo kA l)
def Bl{α σ:Type}(kA:α->σ->Option σ)(L:List α)(s a:σ):Prop:=∀p,p.Perm L->Yo kA p s=aj a
open Classical in
noncomputable def JH{α σ:Type}(kA:α->σ->Option σ)(L:List α)(s:σ):Option σ:=if h:∃a,Bl kA L s a then aj h.choose else aE
theorem o_fold{α σ:Type}{kA:α->σ->Option σ}{L:List α}{s a:σ}(h:JH kA L s=aj a):Bl kA L s a:=by
  unfold JH at h;split at h
  · rename_i b;cases h;exact b.choose_spec
  · cases h
theorem foldAny_eq{α σ:Type}{kA:α->σ->Option σ}{L:List α}{s a:σ}(h:Bl kA L s a):JH kA L s=aj a:=by
 have b:∃a,Bl kA L s a:=⟨a,h⟩;unfold JH;rw[dif_pos b];have c:=b.choose_spec L<|nf _;rw[h L (nf _)]at c;exact c.symm
theorem Bl.nil{α σ:Type}{kA:α->σ->Option σ}{s a:σ}(h:Bl kA [] s a):s=a:=by
 have:=h []<|nf _;exact cM this
theorem Bl.cons{α σ:Type}{kA:α->σ->Option σ}{L L':List α}{p:α}{s a:σ}(h:Bl kA L s a)(hp:L.Perm (p::L')):∃b,kA p s=aj b/\Bl kA L' b a:=by
 have e:=h (p::L') hp.symm;obtain⟨b,c,f⟩:=az e;refine⟨b,c,fun q d=>?_⟩;have:=h (p::q) ((d.cons p).trans hp.symm);unfold Yo at this;rw[c]at this;exact this
open Go.RowKit Go.Proofs
section
variable{w0 w w':ao}{M K:BS}{hp:Nat->Chunk}{C:Chunk}
theorem SH.Mm{b:Nat}{cs:List al}(h:SH w M K w hp)(i:Nat)(ho:∃E,w.heap[b]? =aj (.cells cs.toArray E (0,0)))(c:¬C.own' b)(hn:∀b,iX hp b->C.own' b):SH w M K w (bW hp i (.pt b 0 cs)):=by
 obtain⟨E,a⟩:=ho;exact h.pt i (fun h=>c<|hn b h) ⟨_,E,_,a,by simp⟩
theorem zZ{i b o:Nat}{cs:List al}(hn:∀b,iX hp b->C.own' b):∀x,iX (bW hp i (.pt b o cs)) x->C.own' x:=by
  rintro x⟨j,a⟩;by_cases e:j=i
  · subst e;rw[cu]at a;exact a.elim
  · rw[ek e]at a;exact hn x ⟨j,a⟩
theorem SH.loseC3{c e f:Chunk}(h:SH w0 M K w hp)(i j k:Nat)(l:i≠j)(d:i≠k)(g:j≠k)(p:hp i=c)(o:hp j=e)(m:hp k=f)(n:bL (fun b=>c.own' b\/e.own' b\/f.own' b) w w'):
    SH w0 M K w' (bW (bW (bW (bW (bW hp j .no) i (.two (hp i) (hp j))) k .no) i (.two ((bW (bW hp j .no) i (.two (hp i) (hp j))) i) ((bW (bW hp j .no) i (.two (hp i) (hp j))) k))) i .no):=by
  have q:=h.pair i j l;have r:=q.pair i k d;refine r.mi i (cu _ _ _) ?_;rw[cu,ek (fun e=>d e.symm),ek (fun e=>g e.symm),p,o,m];refine n.weaken fun b a _=>?_;rcases a with a|a|a
  · exact .inl<|.inl a
  · exact .inl<|.inr a
  · exact .inr a
end
section
variable{α:Type}{R:lL α}{E:ba}{w0 w w':ao}{M K A:BS}{hp:Nat->Chunk}{C:Chunk}{v:al}{l:List α}
theorem cO.srcB{B:BS}(h:cO R E w A v l)(u:∀b,ob v b->¬B b):eD R w B A v l:=by
  have j:=h.src;obtain⟨xs,m,y⟩:=h;rcases m.2 with⟨rfl,hn⟩|⟨g,cap,cur,rfl,e1,e2,e3,e4,e5,e6⟩
  · have:l=[]:=cm hn;subst this;exact eD.nil
  · obtain⟨a,c,d,q,n,f,t⟩:=j;refine⟨a,c,d,q,n,f,fun i k=>?_⟩;obtain⟨b,o,cells,F,s,e,x,p,r⟩:=t i k;refine⟨b,o,cells,F,s,e,?_,p,r⟩;subst e;simp only[Value.slice.injEq,eI,Addr.mk.injEq]at d;exact u b (by simp[ob,d.1.1])
theorem JI{i:Nat}(hn:∀b,iX hp b->C.own' b):∀b,iX (bW hp i (.sr R v l)) b->C.own' b:=by
  rintro b⟨j,a⟩;by_cases e:j=i
  · subst e;rw[cu]at a;exact a.elim
  · rw[ek e]at a;exact hn b ⟨j,a⟩
theorem SH.argSrC(h:SH w M K w hp)(i:Nat)(ho:eD R w C.own' (fun b=>M b\/C.own' b) v l)(hn:∀b,iX hp b->C.own' b):SH w M K w (bW hp i (.sr R v l)):=
 h.know i (fun _ h=>h) (ho.sub (fun b a _=>hn b a) (fun b a _=>a.imp id (hn b)))
theorem av_all{i:Nat}(c:hp i=C):∀b,(M b\/rest hp i b)\/C.own' b->SH.A M hp b:=by
  rintro b((a|a)|a)
  · exact .inl a
  · exact .inr<|lM a
  · exact .inr ⟨i,by rw[c];exact a⟩
theorem SH.ownSr(h:SH w0 M K w hp)(i j:Nat)(c:i≠j)(d:hp j=.own R E v l)(e:hp i=C):eD R w C.own' (fun b=>(M b\/rest hp i b)\/C.own' b) v l:=
 ((h.bH j d).srcB (B:=C.own') (fun b a f=>h.apart i j c b (by rw[e];exact f) (by rw[d];exact a))).sub (fun _ h _=>h) (fun b a _=>av_all e b a)
theorem SH.srSr(h:SH w0 M K w hp)(i j:Nat)(d:hp j=.sr R v l)(c:hp i=C):eD R w C.own' (fun b=>(M b\/rest hp i b)\/C.own' b) v l:=
 (h.srAt j d).sub (fun b a _=>⟨i,by rw[c];exact a⟩) (fun b a _=>av_all c b a)
end
def Td(s:Str):Option (List Str):=iK (s.length<4294967281/\(s.all fun b=>ab (b.toNat<128))=ar/\(fg s).length<=4294967281) (aj (fg s))
theorem fields_w{P:ca}{f:fS}{E:ba}{g q:Nat}{w0:ao}{M:BS}(h:∀(s:ByteArray) (w:ao),s.size<4294967281->(∀(j:Nat) b,s.data.toList[j]? =aj b->b.toNat<128)->oc P w "strings.asciiSpace" .u8 rI->
    bD P f #[.string s] w fun e w'=>e=.returned (.slice (aj ⟨w.heap.size,0,aE⟩) (fg s.data.toList).length (fg s.data.toList).length)/\w'=w.alloc (.cells ((fg s.data.toList).map fun l=>lp ⟨l.toArray⟩).toArray E))
    (n:P.globalNamed "strings.asciiSpace" =aj q) (k:∀b,M b->b<w0.heap.size) (d:qH P g w0) {s:Str} {r:List Str} (a:Td s=aj r):bD P f #[bF s] w0 (fun e w'=>Grow w0 w'/\∃u,e=.returned u/\dn uK w' M u r):=by
  obtain⟨⟨i,c,p⟩,a⟩:=bG a;cases a;refine(h ⟨s.toArray⟩ w0 (by rw[vU];exact i) (fun j b m=>?_) (d.asc q n)).mono ?_
  · have:=lr.1 c b<|List.mem_of_getElem? (by simpa using m);simpa using this
  · rintro e w'⟨rfl,rfl⟩;refine⟨Grow.alloc _ _,_,Z,?_⟩;have:=strs_rd (E:=E) (l:=(fg s).map fun l=>(⟨l.toArray⟩:ByteArray)) (cap:=(fg s).length) (cells:=((fg s).map fun l=>lp ⟨l.toArray⟩).toArray) w0 k (by rw[cF];exact bt _) (by unfold maxLen;omega) (fun j o=>by simp);rw[cF,List.map_map]at this;have e:(List.map (((fun x=>x.data.toList):ByteArray->Str)∘fun l=>⟨l.toArray⟩)<|fg s)=fg s:=by simp[Function.comp_def]
    simpa[Function.comp_def]using this
open Go.RowKit Go.Proofs Go.ChangeShapes
def QE(b o:Nat)(r:Nat×Nat×Nat):Bool:=fu r.1 b&&(ld r.2.1 o&&Nat.blt o (r.2.1+r.2.2))
def UX(b o:Nat):List (Nat×Nat×Nat)->List (Nat×Nat×Nat)
 |[]=>[(b,o,1)]
 |(c,s,l)::r=>bif fu c b&&fu (o+1) s then(b,o,l+1)::r else(b,o,1)::(c,s,l)::r
def runsOf:List MemPlace->Option (List (Nat×Nat×Nat))
 |[]=>aj []
 | .cell b o::r=>(runsOf r).bind fun rs=>bif rs.any (QE b o)then aE else aj (UX b o rs)
 |_::_=>aE
theorem addRun_old{b o c q:Nat}{rs:List (Nat×Nat×Nat)}(h:rs.any (QE c q)=ar):(UX b o rs).any (QE c q)=true:=by
  cases rs with
  |nil=>cases h
  |cons r rs=>
    obtain⟨d,s,l⟩:=r;have e:UX b o ((d,s,l)::rs)=bif fu d b&&fu (o+1) s then(b,o,l+1)::rs else(b,o,1)::(d,s,l)::rs:=rfl;rw[e];cases hc:(fu d b&&fu (o+1) s)with
    |false=>rw[cond_false,tj,h,Bool.or_true]
    |true=>
      rw[cond_true];simp only[cL,rh]at hc;obtain⟨rfl,rfl⟩:=hc;rw[tj]at h⊢;rcases Bool.or_eq_true_iff.1 h with h|h
      · unfold QE at h⊢;simp only[cL,rh,ot,Nat.blt_eq]at h;have:(fu d c&&(ld o q&&Nat.blt q (o+(l+1))))=true:=by
          simp only[cL,rh,ot,Nat.blt_eq];omega
        rw[this,Bool.true_or]
      · rw[h,Bool.or_true]
theorem addRun_new{b o:Nat}{rs:List (Nat×Nat×Nat)}:(UX b o rs).any (QE b o)=true:=by
 cases rs with
 |nil=>simp[UX,QE]
 |cons r rs=>
  obtain⟨d,s,l⟩:=r;have e:UX b o ((d,s,l)::rs)=bif fu d b&&fu (o+1) s then(b,o,l+1)::rs else(b,o,1)::(d,s,l)::rs:=rfl;rw[e];cases (fu d b&&fu (o+1) s)with
  |false=>simp[QE]
  |true=>simp[QE]
theorem Te:∀{d:List MemPlace} {rs:List (Nat×Nat×Nat)},runsOf d=aj rs->d.Nodup/\∀b o,MemPlace.cell b o∈d->rs.any (QE b o)=ar
  |[],rs,h=>⟨List.nodup_nil,fun _ _ a=>by cases a⟩
  | .cell b o::r,rs,h=>by
    unfold runsOf at h;obtain⟨q,i,h⟩:=Option.bind_eq_some_iff.1 h;obtain⟨g,f⟩:=Te i;cases hc:q.any (QE b o)with
    |true=>rw[hc]at h;cases h
    |false=>
      rw[hc,cond_false]at h;cases h;refine⟨sx.2 ⟨fun a=>(by rw[f b o a]at hc;cases hc),g⟩,fun c p a=>?_⟩;rcases bn.1 a with e|a
      · cases e;exact addRun_new
      · exact addRun_old<|f c p a
  | .map _::_,rs,h=>by cases h
theorem XE{P:ca}{w:ao}{l:List (String×DataW Unit)}(fuel:Nat)(h:(DataW.laidRun P w fuel (l.map (·.1))).map (·.1)=aj l)
    (a:(DataW.laidRun P w fuel (l.map (·.1))).map (fun x=>(runsOf x.2).isSome&&laidRowsB P w x.2)=aj ar):laidMet P l w:=by
  cases hx:DataW.laidRun P w fuel (l.map (·.1))with
  |none=>simp[hx]at h
  |some x=>
    obtain⟨d,c⟩:=x;simp only[hx,db,eI]at h a;subst h;simp only[cL]at a;obtain⟨rs,b⟩:=Option.isSome_iff_exists.1 a.1;exact laidMet_of_run fuel hx (decide_eq_true (Te b).1) a.2
structure gM where
 at_:Int
 ok:Bool
deriving DecidableEq
open Go.RowKit Go.Proofs
section
variable{α β:Type}{N:QX α β}{R:lL β}{E Es T:ba}{w0 w w':ao}{M K A:BS}{hp:Nat->Chunk}{v u u':al}{us us':List al}{L L':List α}{ss ss':List (List β)}{s:List β}{x y:α}{k:Nat}{ho ho':Nat->Prop}{C:Chunk}
theorem Xl{a:Type}(P:Nat->a->Prop):∀(n:Nat),(∀i,i<n->∃u,P i u)->∃us:List a,us.length=n/\∀i u,us[i]? =aj u->P i u
  |0,_=>⟨[],rfl,fun i u h=>by cases h⟩
  |n+1,h=>by
    obtain⟨us,d,c⟩:=Xl P n fun i e=>h i V;obtain⟨u,b⟩:=h n V;refine⟨us++[u],by simp[d],fun i z hz=>?_⟩;rw[gw]at hz;split at hz
    · exact c i z hz
    · rename_i f;have:i-us.length=0:=by
        rcases Nat.eq_zero_or_pos (i-us.length)with h0|h0
        · exact h0
        · rw[bw (by simp;omega)]at hz;cases hz
      rw[this]at hz;cases hz;obtain rfl:i=n:=by omega
      exact b
def hge(k:Nat):Nat->Prop:=fun i=>k<=i
def Mo{β:Type}(R:lL β)(k:Nat)(us:List al)(ss:List (List β)):Pce where
 own:=BE
 P w A:=∀i u s,k<=i->us[i]? =aj u->ss[i]? =aj s->dn R w A u s
 lt:=fun _ h=>h.elim
 go:=fun h hk hK hKo hA i u s hi hu hs=>dn.go (h i u s hi hu hs) hk hK (fun b hb hl=>(hA b hb hl).elim id (fun h=>h.elim))
theorem SH.famHo(h:SH w0 M K w hp)(j:Nat)(ho':Nat->Prop)(a:hp j=.eO (bP R E ho us ss))(d:∀i,ho i↔ho' i):SH w0 M K w (bW hp j (.eO (bP R E ho' us ss))):=by
 have e:ho=ho':=funext fun i=>propext<|d i;subst e;exact h.Mk (S':=bP R E ho us ss) j a (h.Xh j a) (bL.refl _ _) fun b c _=>c
theorem SH.thaw{R':lL α}(h:SH w0 M K w hp)(i j q:Nat)(k:hp i=.own R' E v L)(I:i≠j)(S:i≠q)(Q:j≠q)(l:R'.sz=N.sz)(op:∀w A cs x,R'.rd w A cs x->∃u,cs=N.enc x u/\dn R w A u (N.sub x)):
    ∃us,us.length=L.length/\SH w0 M K w (bW (bW (bW hp i (.own N.raw E v (L.zip us))) j (.eO (bP R Es (hge 0) us (L.map N.sub)))) q (.eO (Mo R 0 us (L.map N.sub)))):=by
  have ho:=h.bH i k;have X:=ho;obtain⟨xs,O,h2⟩:=ho;obtain⟨us,o,m⟩:=Xl (fun i u=>∃k:i<L.length,(xs.drop (i*R'.sz)).take R'.sz=N.enc L[i] u/\dn R w (fun b=>SH.A M hp b\/ob v b) u (N.sub L[i])) L.length (fun i k=>by
    obtain⟨u,r,n⟩:=op _ _ _ _<|h2 i k;exact⟨u,k,r,n⟩)
  refine⟨us,o,?_⟩;have F:SH w0 M K w (bW hp i<|.own N.raw E v<|L.zip us):=by
    refine h.step i (bL.refl BE w) (fun _ h=>h.elim) (fun b a _=>by rw[k];exact a) ⟨xs,?_,?_⟩
    · rw[gP o];show w.ownsRow 0 E N.sz v L.length xs;rw[<-l];exact O
    · intro q C;have T:q<L.length:=by rw[gP o]at C;exact C
      have y:q<us.length:=by omega
      obtain⟨_,r,n⟩:=m q us[q]<|bh y;refine⟨?_,?_⟩
      · show(xs.drop<|q*N.sz).take N.sz=N.enc ((L.zip us)[q]).1 ((L.zip us)[q]).2;rw[rK,<-l];exact r
      · rw[rK];exact n.one
  have d:∀b,¬GJ (hge 0) us b:=fun b⟨i,u,_,hn,_⟩=>hn<|fv i;have G:SH w0 M K w (bW (bW hp i<|.own N.raw E v<|L.zip us) j<|.eO<|bP R Es (hge 0) us<|L.map N.sub):=
    F.know j (c:=.eO (bP R Es (hge 0) us (L.map N.sub))) (fun b a=>d b a) ⟨by rw[cF];exact o,fun i u s _ _ hn=>absurd (fv i) hn,fun i j u v _ hn=>absurd (fv i) hn⟩
  refine G.know q (c:=.eO<|Mo R 0 us<|L.map N.sub) (fun b a=>a) ?_;intro p u s _ P B;obtain⟨t,r,n⟩:=m p u P;rw[eg,bh t]at B;cases B;have f:∀b,(M b\/iX (bW (bW hp i<|.own N.raw E v<|L.zip us) j<|.eO<|bP R Es (hge 0) us<|L.map N.sub) b)->SH.A M hp b\/ob v b:=by
    rintro b(a|⟨c,g⟩)
    · exact .inl<|.inl a
    · by_cases e:c=j
      · subst e;rw[cu]at g;exact absurd g (d b)
      · rw[ek e]at g;by_cases z:c=i
        · subst z;rw[cu]at g;exact .inr g
        · rw[ek z]at g;exact .inl (.inr ⟨c,g⟩)
  exact n.sub (fun b a _=>f b a) fun b a _=>f b a
theorem SH.rdpAt(h:SH w0 M K w hp)(q:Nat)(d:hp q=.eO (Mo R k us (L.map N.sub)))(c:us.length=L.length)(b:L[k]? =aj x):∃u,us[k]? =aj u/\dn R w (SH.A M hp) u (N.sub x):=by
 obtain⟨u,a⟩:=us_at c b;exact⟨u,a,h.pceAt q d k u _ (bt _) a (by rw[eg,b];rfl)⟩
theorem SH.rdpStep(h:SH w0 M K w hp)(q:Nat)(c:hp q=.eO (Mo R k us ss)):SH w0 M K w (bW hp q (.eO (Mo R (k+1) (us.set k u) (ss.set k s)))):=by
 have e:=h.pceAt q c;refine h.Mk (S':=Mo R (k+1) (us.set k u)<|ss.set k s) q c ?_ (bL.refl _ _) fun b d _=>d;intro i z t f hz a;rw[dC V]at hz a;exact e i z t V hz a
theorem SH.pendPut(h:SH w0 M K w hp)(j q m:Nat)(y:α)(l:hp j=.eO (bP R Es (hge k) us (L.map N.sub)))(B:hp q=.eO (Mo R k us (L.map N.sub)))(n:hp m=.own R Es u s)(f:j≠q)(b:j≠m)(c:q≠m)(t:L[k]? =aj x)(d:us[k]? =aj u')(r:N.sub y=s):
    SH w0 M K w (bW (bW (bW (bW (bW hp q (.eO (Mo R (k+1) (us.set k u) ((L.map N.sub).set k s)))) j (.eO (bP R Es (hge k) (us.set k u) ((L.map N.sub).set k s)))) m .no) j (.eO (bP R Es (hge (k+1)) (us.set k u) (((L.map N.sub).set k s).set k s)))) j (.eO (bP R Es (hge (k+1)) (us.set k u) ((L.set k y).map N.sub)))):=by
  have o:=h.rdpStep (u:=u) (s:=s) q B;have g:=h.j4 j l;have A:=o.famRe (us':=us.set k u) (ss':=(L.map N.sub).set k s) j (by rw[ek f];exact l) (by simp[g]) (fun i a=>by
    have:k≠i:=fun e=>a (by subst e;exact bt _);rw[dC this,dC this];exact⟨Z,Z⟩)
  have z:=Ml t;have v:=A.KI j m (k:=k) (u:=u) (s:=s) (cu _ _ _) (by rw[ek (fun e=>b e.symm),ek (fun e=>c e.symm)];exact n) b (UW d) (bt k) (hge (k+1)) (fun i=>⟨fun a=>by
    rcases ri (show k<=i from a)with e|e
    · exact .inr e.symm
    · exact .inl e,fun a=>a.elim (fun a=>rL a) (fun e=>by subst e;exact bt _)⟩) (fun a=>absurd a (pW k))
  have e:((L.map N.sub).set k s).set k s=(L.set k y).map N.sub:=by rw[List.set_set,gB,r]
  have p:=v.famRe (us':=us.set k u) (ss':=(L.set k y).map N.sub) j (cu _ _ _) (by simp[g]) (fun i a=>⟨Z,by rw[e]⟩);exact p
theorem SH.famAll(h:SH w0 M K w hp)(j:Nat)(f:hp j=.eO (bP R Es (hge k) us (L.map N.sub)))(q:L.length<=k):SH w0 M K w (bW hp j (.eO (bP R Es hn us (L.map N.sub)))):=by
  have p:=h.j4 j f;have g:=h.Xh j f;have a:∀i (z:al),us[i]? =aj z->¬hge k i:=fun i z hz o=>by
    have:=Ml hz;have:k<=i:=o;omega
  refine h.Mk (S':=bP R Es hn us<|L.map N.sub) j f ⟨g.1,fun i z t hz n _=>?_,fun i j z v d _ _ hz m=>g.2.2 i j z v d (a i z hz) (a j v m) hz m⟩ (bL.refl _ _) fun b⟨i,z,c,_,l⟩_=>⟨i,z,c,a i z c,l⟩;refine(g.2.1 i z t hz n<|a i z hz).go (bL.refl BE w) (fun _ h=>h.elim) (fun _ h=>h.elim) fun b e _=>?_;rcases e with e|⟨i,z,c,_,l⟩
  · exact .inl<|.inl e
  · exact .inl<|.inr ⟨i,z,c,a i z c,l⟩
def hmv(a:List Int):Nat->Prop:=fun i=>(i:Int)∈a
theorem SH.famMv0(h:SH w0 M K w hp)(j:Nat)(a:hp j=.eO (bP R Es hn us ss)):SH w0 M K w (bW hp j (.eO (bP R Es (hmv []) us ss))):=
 h.famHo j (hmv []) a (fun i=>⟨fun h=>h.elim,fun h=>by cases h⟩)
theorem SH.mvOpen{c:List Int}{a:Int}(h:SH w0 M K w hp)(j m:Nat)(k:hp j=.eO (bP R Es (hmv c) us (L.map N.sub)))(l:hp m=.no)(d:j≠m)(o:0<=a)(f:L[a.toNat]? =aj x)(b:a∉c):
    ∃u,us[a.toNat]? =aj u/\SH w0 M K w (bW (bW hp j (.eO (bP R Es (hmv (c++[a])) us (L.map N.sub)))) m (.own R Es u (N.sub x))):=by
  have n:=h.j4 j k;obtain⟨u,g⟩:=us_at n f;have e:((a.toNat:Nat):Int)=a:=Int.toNat_of_nonneg o;refine⟨u,g,h.famOpen j m k l d g (by rw[eg,f];rfl) (fun h=>b (by rw[<-e];exact h)) (hmv (c++[a])) (fun i=>?_)⟩;unfold hmv;rw[List.mem_append,List.mem_singleton];constructor
  · rintro(h|h)
    · exact .inl h
    · exact .inr V
  · rintro(h|h)
    · exact .inl h
    · exact .inr (by rw[h];exact e)
theorem SH.gotC(h:SH w0 M K w hp)(i:Nat)(c:Grow w w')(d:C.SN)(e:C.holds w' (SH.A M hp) C.own')(hn:∀b,C.own' b->w.heap.size<=b):SH w0 M K w' (bW hp i C):=
  h.learn i c hn (Chunk.re d e (fun b a _=>by
    rcases a with a|a|a
    · exact .inl<|.inl a
    · exact .inl<|.inr a
    · exact .inr a))
theorem new_own(ho:∀b,C.own' b->b<w0.heap.size->BE b):∀b,C.own' b->w0.heap.size<=b:=fun b c=>Nat.le_of_not_lt (fun a=>ho b c a)
theorem nLst_op{R:lL β}:∀(w:ao) (A:BS) cs (x:List β),(yf R).rd w A cs x->∃u,cs=(dz β).enc x u/\dn R w A u ((dz β).sub x):=fun _ _ _ _ h=>h
end
theorem UY:∀(w:ao) (A:BS) cs (x:Frame),jU.rd w A cs x->∃u,cs=aS.enc x u/\dn bJ w A u (aS.sub x):=fun _ _ _ _ h=>h
def yL{α:Type}(k:Int)(v:α):List (Int×α)->List (Int×α)
 |[]=>[(k,v)]
 |p::r=>if k=p.1 then(p.1,v)::r else p::yL k v r
theorem PH{α:Type}{f:α->al}{k:Int}{v:α}:∀(l:List (Int×α)),NH (l.map fun p=>(p.1,f p.2)) k (f v)=(yL k v l).map fun p=>(p.1,f p.2)
  |[]=>rfl
  |p::r=>by
    show(if k=p.1 then(p.1,f v)::_ else(p.1,f p.2)::NH _ k (f v))=_;unfold yL;split
    · rfl
    · rw[PH r];rfl
theorem Jz.keep{w w':ao}{K:BS}{b:Nat}{jO:List (Int×al)}(h:Jz w b jO)(a:bL K w w')(hn:¬K b):Jz w' b jO:=by
 obtain⟨d,c,e,g,f⟩:=h;exact⟨d,c,a.blk e hn,g,f⟩
section
variable{P:ca}{w:ao}{ρ:bo->al}{d:Option Nat}{ty:ba}{pos:String}{af:Array hH}{g:Option (Nat×Bool)}{T:ba}
theorem r_lk1M{α:Type}{f:α->al}{zz:α}{z:al}{x y:bo}{b:Nat}{k:Int}(l:List (Int×α))(h:Jz w b (l.map fun p=>(p.1,f p.2)))(c:MapOf P T z)(e:ρ x=.map (aj b))(a:ρ y=.int .i64 k)(hz:z=f zz):
  (bl ρ ⟨d,.lookup T x y aq,ty,pos,af,g⟩).run P w=.ok (.value (f ((lk k l).getD zz))) w:=by
 have:=Yf (d:=d) (ty:=ty) (pos:=pos) (af:=af) (g:=g) c e a h;rw[hz,XR]at this;exact this
end
open Go.RowKit Go.Proofs Go.MapKept
section
variable{P:ca}{ops:Array ef}{Q:fh->Act->ao->Prop}{n:Nat}{env:Nat->al}{w w' w0:ao}{M K:BS}{hp:Nat->Chunk}{rest:List ef}
 {d:Option Nat} {op:Op} {ty:ba} {pos:String} {af:Array hH} {v:al} {g:Option (Nat×Bool)} {T:ba} {ρ:bo->al}
theorem made_drop(zs:List al)(m q:Nat)(d:q<m):((qs zs.toArray (m*zs.length)).toList.drop (q*zs.length)).take zs.length=zs:=by
  apply dk;intro i;rw[cf];split
  · rename_i a;rw[cw];have b:q*zs.length+i<m*zs.length:=by
      have:=bd zs.length (show q+1<=m from d);rw[Nat.succ_mul]at this;omega
    have c:(q*zs.length+i)%zs.length=i:=by rw[Nat.mul_comm,Nat.mul_add_mod];exact Nat.mod_eq_of_lt a
    simp[qs,b,c,a]
  · rename_i a;rw[bw V]
theorem KO{α:Type}{R:lL α}{E:ba}{c l:Nat}{k:Int}{zs:List al}{x y:bo}{a:α}(h:SH w0 M K w hp)(i:Nat)(F:kJ P T E l c)(hz:vN P E zs)(C:R.sz=l)(t:0<c)(hx:ev n env x=.int .i64 k)(hy:ev n env y=.int .i64 k)
    (hk:0<=k/\k*c<=140737488355328) (X:zs.length=l) (L:∀w A,R.rd w A zs a)
    (kk:∀w' u,SH w0 M K w' (bW hp i (.own R E u (List.replicate k.toNat a)))->Grow w w'->(∀b,ob u b->w.heap.size<=b)->WL P ops Q rest n (gG env d u) w'):
    WL P ops Q (⟨d,.makeSlice T x y,ty,pos,af,aE⟩::rest) n env w:=by
  obtain⟨I,h1⟩:=hk;obtain⟨m,rfl⟩:=Int.eq_ofNat_of_zero_le I;obtain⟨j,z',B,a0,z,r,N⟩:=F.info;have g:=hz.info;rw[B]at g;simp only[db,eI,Prod.mk.injEq]at g;have a1:m<=m*c:=Nat.le_mul_of_pos_right _ t;have S:m*c<=140737488355328:=by
    have:((m*c:Nat):Int)<=140737488355328:=by rw[Int.natCast_mul];exact h1
    omega
  obtain⟨w',hr,ho,O⟩:=run_make_full (P:=P) w 0 T E j _ l F.desc B g.1 z .i64 .i64 m (by rw[r,Nat.mul_comm];omega) (by unfold maxLen;omega) (fv _);have p:Grow w w':=(Bh (v:=.slice aE 0 0) O).weaken fun _ h _=>h.elim;have o:(bl (ev n env) ⟨d,.makeSlice T x y,ty,pos,af,aE⟩).run P w=.ok (.value<|.slice (aj ⟨w.heap.size,0,aE⟩) m m) w':=by
    simp only[bl,cv,Sem.run_pure,bp,hx,hy,hr]
  have f:∀b,ob (.slice (aj ⟨w.heap.size,0,aE⟩) m m) b->w.heap.size<=b:=fun b t=>by
    have:b=w.heap.size:=t;omega
  refine J o<|kk w' _ (h.vO i p ⟨(qs zs.toArray<|m*l).toList,?_,?_⟩ f) p f
  · rw[C];rw[jt];exact ho
  · intro q G;simp only[jt]at G;have s:q<m:=G;have e:((qs zs.toArray<|m*l).toList.drop<|q*R.sz).take R.sz=zs:=by rw[C,<-X];exact made_drop zs m q s
    rw[e];simp only[List.getElem_replicate];exact L _ _
end
open Go.RowKit Go.Proofs
section
variable{α β:Type}{N:QX α β}{R:lL β}{E Es T:ba}{w0 w w':ao}{M K A:BS}{hp:Nat->Chunk}{u u':al}{us:List al}{L:List α}{s:List β}{x:α}{k:Nat}
theorem KP{a:Type}{l:List a}{z:a}{i:Int}(b:i=(k:Int))(h:l[i.toNat]? =aj z):l[k]? =aj z:=by subst b;simpa using h
theorem at_pd{a:Type}{l:List a}{z:a}{i:Int}(b:i=(k:Int))(h:l[k]? =aj z):l[i.toNat]? =aj z:=by subst b;simpa using h
theorem Yp{i:Int}(a:i=(k:Int)):i.toNat=k:=by subst a;simp
theorem SH.Yq(h:SH w0 M K w hp)(j q m:Nat)(n:hp j=.eO (bP R Es (hge k) us (L.map N.sub)))(o:hp q=.eO (Mo R k us (L.map N.sub)))(l:hp m=.own R Es u s)(f:j≠q)(d:j≠m)(c:q≠m)(a:L[k]? =aj x)(b:us[k]? =aj u')(g:N.sub x=s):
  SH w0 M K w (bW (bW (bW (bW (bW hp q (.eO (Mo R (k+1) (us.set k u) (L.map N.sub)))) j (.eO (bP R Es (hge k) (us.set k u) (L.map N.sub)))) m .no) j (.eO (bP R Es (hge (k+1)) (us.set k u) (L.map N.sub)))) j (.eO (bP R Es (hge (k+1)) (us.set k u) (L.map N.sub)))):=by
 have i:=h.pendPut (y:=x) j q m n o l f d c a b g;have e:(L.map N.sub).set k s=L.map N.sub:=by rw[<-g,<-gB,BZ a]
 rw[e,e,BZ a]at i;exact i
end
theorem CL{α:Type}{b:Nat}{a r:List α}(h:clone b a=aj r):a=r:=by
 unfold clone at h;obtain⟨_,h⟩:=bG h;exact cM h
theorem Yr{α β:Type}{N:QX α β}{w:ao}{B A:BS}{v:al}{L:List α}{us:List al}(h:eD N.raw w B A v (L.zip us))(a:us.length=L.length):L.length<=9223372036854775807:=by
 have:=h.bK;rwa[gP a]at this
theorem r_mul{P:ca}{w:ao}{ρ:bo->al}{d:Option Nat}{ty:ba}{pos:String}{af:Array hH}{g:Option (Nat×Bool)}{x y:bo}{T T2:ba}{p q:Int}(b:ρ x=.int .i64 p)(a:ρ y=.int .i64 q)(h: -9223372036854775808<=p*q/\p*q<=9223372036854775807):
  (bl ρ ⟨d,.binOp .mul T x y T2,ty,pos,af,g⟩).run P w=.ok (.value (.int .i64 (p*q))) w:=by
 simp[bl,b,a,eqGuard,binOp,Op.intArith,wrap_in h.1 h.2]
open Go.RowKit Go.Proofs
theorem PI{cs vs:List al}{o:Nat}(h:o+vs.length<=cs.length)(j:Nat):(Ma cs o vs)[j]? =if j<o then cs[j]? else if j<o+vs.length then vs[j-o]? else cs[j]? :=by
  unfold Ma;have b:(cs.take o).length=o:=by rw[cd];omega
  by_cases a:j<o
  · rw[if_pos a,cg,ki V,cf,if_pos a]
  · rw[if_neg a];by_cases c:j<o+vs.length
    · rw[if_pos c,cg,gx V,b,ki V]
    · rw[if_neg c,gx (by rw[bc,b];omega),bc,b,cw];congr 1;omega
theorem XV{cs vs:List al}{o:Nat}(h:o+vs.length<=cs.length):(Ma cs o vs).length=cs.length:=by
 unfold Ma;simp only[bc,cd,cI];omega
theorem spl_take{cs vs:List al}{o n:Nat}(h:o+vs.length<=n)(hn:n<=cs.length):(Ma cs o vs).take n=Ma (cs.take n) o vs:=by
  apply dk;intro j;have b:(cs.take n).length=n:=by rw[cd];omega
  rw[cf,PI V,PI V,cf];by_cases a:j<n
  · rw[if_pos a,if_pos a]
  · rw[if_neg a,if_neg V,if_neg V,if_neg a]
theorem spl_self{cs vs:List al}{o:Nat}(h:o+vs.length<=cs.length):((Ma cs o vs).drop o).take vs.length=vs:=by
  apply dk;intro j;rw[cf,cw,PI h];by_cases a:j<vs.length
  · rw[if_pos a,if_neg V,if_pos V];congr 1;omega
  · rw[if_neg a,bw V]
theorem spl_other{cs vs:List al}{o p s:Nat}(h:o+vs.length<=cs.length)(hp:p+s<=o\/o+vs.length<=p):((Ma cs o vs).drop p).take s=(cs.drop p).take s:=by
  apply dk;intro j;rw[cf,cw,PI h,cf,cw];by_cases a:j<s
  · rw[if_pos a,if_pos a];by_cases b:p+j<o
    · rw[if_pos b]
    · rw[if_neg b,if_neg V]
  · rw[if_neg a,if_neg a]
section
variable{P:ca}{ops:Array ef}{Q:fh->Act->ao->Prop}{n:Nat}{env:Nat->al}{w w' w0:ao}{M K:BS}{hp:Nat->Chunk}{rest:List ef}
 {d:Option Nat} {op:Op} {ty:ba} {pos:String} {af:Array hH} {v:al} {g:Option (Nat×Bool)} {T:ba} {ρ:bo->al} {x y:bo}
theorem Et{α:Type}{R:lL α}{E:ba}{z:Nat}{l:List α}{k:Int}{a a':α}{b:Nat}{zs vs:List al}{u:al}(h:SH w0 M K w hp)(i:Nat)(t:hp i=.own R E u l)(L:ob u b)(hs:R.sz=z)(hk:l[k.toNat]? =aj a)(hT:vN P T zs)(c:ev n env x=.pointer (aj ⟨b,k.toNat*z,aE⟩))
    (hy:ev n env y=.agg vs.toArray) (hl:vs.length=zs.length) (G:zs.length=z) (hset:R.rd w (SH.A M hp) vs a')
    (kk:∀w',SH w0 M K w' (bW hp i (.own R E u (l.set k.toNat a')))->bL (ob u) w w'->WL P ops Q rest n (gG env d fO) w'):
    WL P ops Q (⟨d,.store T x y,ty,pos,af,aE⟩::rest) n env w:=by
  subst hs;have F:k.toNat<l.length:=Ml hk;generalize k.toNat=k at*;have f:∀b,ob u b->SH.A M hp b:=fun b L=>.inr ⟨i,by rw[t];exact L⟩;obtain⟨xs,O,q3⟩:=h.bH i t;rcases O.2 with⟨rfl,hn⟩|⟨g',cap,cur,rfl,e1,e2,e3,e4,e5,e6⟩
  · omega
  have B:b=g':=L;subst B;have S:(k+1)*R.sz<=l.length*R.sz:=bd _ F;have a0:l.length*R.sz<=cap*R.sz:=bd _ e3;rw[cj]at S;have C:vs.length=R.sz:=hl.trans G;have X:cur.toList.length=cap*R.sz:=by simpa using e5
  have a1:xs.length=l.length*R.sz:=O.1;have s:k*R.sz+vs.length<=cur.toList.length:=by omega
  have m:k*R.sz+vs.length<=xs.length:=by omega
  have o:=bL.wW w b<|.cells (Ma cur.toList (k*R.sz) vs).toArray E (0,0);have N:=SC (P:=P) (w:=w) (ρ:=ev n env) (d:=d) (ty:=ty) (pos:=pos) (af:=af) (g:=aE) (cs:=cur.toList) (E:=E) hT c (by simpa using e2) hy hl s<|R.one hset;refine Bg N (kk _ (h.step i o (fun x c _=>by rw[t];exact c) (fun x c _=>by rw[t];exact c) ⟨Ma xs (k*R.sz) vs,⟨?_,.inr ⟨b,cap,(Ma cur.toList (k*R.sz) vs).toArray,?_,e1,?_,?_,e4,?_,?_⟩⟩,?_⟩) (o.weaken (fun x c _=>c)))
  · rw[XV m,cq];exact O.1
  · rw[cq]
  · rw[vP (iW e2)]
  · rw[cq];exact e3
  · rw[rj,XV s];exact X
  · rw[cq];show(Ma cur.toList (k*R.sz) vs).take (l.length*R.sz)=Ma xs (k*R.sz) vs;rw[spl_take V V,e6]
  · intro p I;have v:p<l.length:=by rwa[cq]at I
    have q:=fun cs a(h:R.rd w (SH.A M hp) cs a)=>R.go (A':=fun x=>(M x\/(SH.av hp i (.own R E (.slice (aj ⟨b,0,aE⟩) l.length cap) (l.set k a'))) x)\/ob (.slice (aj ⟨b,0,aE⟩) l.length cap) x) h o (fun x c _=>f x c) (fun x c _=>by
      rcases c with(c|c|c)|c
      · exact .inl c
      · exact .inr<|lM c
      · exact f x c
      · exact f x c)
    have hq:=fun j(hj:j<l.length)=>R.go (A':=SH.A M hp) (q3 j hj) (bL.refl BE w) (fun _ h=>h.elim) fun x c _=>.inl c;by_cases r:p=k
    · subst r;rw[lX];have e:=spl_self m;rw[C]at e;rw[e];exact q _ _ hset
    · rw[mz (Ne.symm r),spl_other m]
      · exact q _ _<|hq p v
      · rcases cD k p with h5|h5
        · right;have:(k+1)*R.sz<=p*R.sz:=bd _ h5;rw[cj]at this;omega
        · left;have:(p+1)*R.sz<=k*R.sz:=bd _ V;rw[cj]at this;omega
end
section
variable{α β:Type}{N:QX α β}{R:lL β}{E Es T:ba}{w0 w w':ao}{M K A:BS}{hp:Nat->Chunk}{us:List al}{L:List α}{x:α}{k:Nat}
theorem SH.yF(h:SH w0 M K w hp)(j m:Nat)(s:List β)(d:hp j=.eO (bP R Es hn us (L.map N.sub)))(c:hp m=.no)(a:j≠m)(b:L[k]? =aj x)(e:N.sub x=s):
 ∃u,us[k]? =aj u/\SH w0 M K w (bW (bW hp j (.eO (bP R Es (hat k) us (L.map N.sub)))) m (.own R Es u s)):=by subst e;exact h.dnOpen j m d c a b
theorem SH.mvOpenL{c:List Int}{a:Int}(h:SH w0 M K w hp)(j m:Nat)(s:List β)(g:hp j=.eO (bP R Es (hmv c) us (L.map N.sub)))(f:hp m=.no)(d:j≠m)(k:0<=a)(e:L[a.toNat]? =aj x)(b:a∉c)(i:N.sub x=s):
 ∃u,us[a.toNat]? =aj u/\SH w0 M K w (bW (bW hp j (.eO (bP R Es (hmv (c++[a])) us (L.map N.sub)))) m (.own R Es u s)):=by subst i;exact h.mvOpen j m g f d k e b
theorem SH.rdpAtL(h:SH w0 M K w hp)(q:Nat)(s:List β)(d:hp q=.eO (Mo R k us (L.map N.sub)))(c:us.length=L.length)(a:L[k]? =aj x)(b:N.sub x=s):∃u,us[k]? =aj u/\dn R w (SH.A M hp) u s:=by subst b;exact h.rdpAt q d c a
end
open Go.RowKit Go.Proofs
def Chunk.flat:Chunk->Prop
 | .no=>True
 | .own R _ _ _=>∀w A A' cs x,R.rd w A cs x->R.rd w A' cs x
 | .two a b=>a.flat/\b.flat
 | .eO S=>∀w A A',S.P w A->S.P w A'
 |_=>False
theorem cO.flat{α:Type}{R:lL α}{E:ba}{w:ao}{A A':BS}{v:al}{l:List α}(a:∀w A A' cs x,R.rd w A cs x->R.rd w A' cs x)(h:cO R E w A v l):cO R E w A' v l:=by
 obtain⟨xs,c,d⟩:=h;exact⟨xs,c,fun i b=>a _ _ _ _ _<|d i b⟩
theorem Chunk.flatten{c:Chunk}{w:ao}{M O f e:BS}(d:c.flat)(h:c.holds w M O):c.holds w f e:=by
 induction c with
 |no=>trivial
 |own R E v l=>exact cO.flat d h
 |two a b ha hb=>exact⟨ha d.1 h.1,hb d.2 h.2.1,h.2.2⟩
 |eO S=>exact d _ _ _ h
 |_=>exact d.elim
theorem PK{β:Type}{R:lL β}{E:ba}{ho:Nat->Prop}{us:List al}{ss:List (List β)}(b:∀w A A' cs x,R.rd w A cs x->R.rd w A' cs x):∀w A A',(bP R E ho us ss).P w A->(bP R E ho us ss).P w A':=by
 rintro w A A'⟨e,g,f⟩;exact⟨e,fun i u s a c d=>cO.flat b<|g i u s a c d,f⟩
theorem eD.toBE{α:Type}{R:lL α}{w:ao}{B A:BS}{v:al}{l:List α}(h:eD R w B A v l):eD R w BE BE v l:=
 eD.go h (bL.refl BE w) (fun _ h=>h.elim) (fun _ h=>h.elim) (fun _ h=>h.elim) (fun _ h=>h.elim)
section
variable{α β:Type}{N:QX α β}{R:lL β}{E Es T:ba}{w0 w w':ao}{M K A:BS}{hp:Nat->Chunk}{v u u':al}{us us':List al}{L L':List α}
theorem SH.UZ{R':lL α}(h:SH w0 M K w hp)(i j:Nat)(e:hp i=.own N.raw E v (L.zip us))(c:hp j=.eO (bP R Es hn us (L.map N.sub)))(a:i≠j)(b:R'.sz=N.sz)(d:∀w A x u,dn R w A u (N.sub x)->R'.rd w A (N.enc x u) x):eD R' w BE BE v L:=
 eD.toBE ((h.KJ i j e c a b d).bC i (cu _ _ _))
theorem SH.gotCF{C:Chunk}{O:BS}(h:SH w0 M K w hp)(i:Nat)(c:Grow w w')(d:C.SN)(a:C.flat)(e:C.holds w' BE O)(hn:∀b,C.own' b->w.heap.size<=b):SH w0 M K w' (bW hp i C):=
 h.gotC i c d (Chunk.flatten a e) hn
end
section
variable{P:ca}{Q:fh->Act->ao->Prop}{n:Nat}{env:Nat->al}{w w' w0:ao}{M K:BS}{hp:Nat->Chunk}
theorem Tf{k:Func}{R:Ending->ao->Prop}{t u g a:Tmp}{T:ba}{v2 v3 v4:al}{zs vs:List al}{b:Nat}(p:k.results= #[.cell a T,.tmp t,.tmp u,.tmp g])(r:ev n env (.tmp a)=.pointer (aj ⟨b,0,aE⟩))(v:ev n env (.tmp t)=v2)(x:ev n env (.tmp u)=v3)(l:ev n env (.tmp g)=v4)
  (o:SH w0 M K w hp) (i:Nat) (s:hp i=.blk b vs) (q:vN P T zs) (m:vs.length=zs.length) (h:R (.returned (.tuple #[.agg vs.toArray,v2,v3,v4])) w):jn P k R .ret (act n env) w:=by
 refine⟨Z,_,?_,h⟩;have e:=congrFun (gX n env)<|.tmp t;have f:=congrFun (gX n env)<|.tmp u;have d:=congrFun (gX n env)<|.tmp g;have c:=congrFun (gX n env)<|.tmp a;rw[v]at e;rw[x]at f;rw[l]at d;rw[r]at c;simp only[Act.eval]at e f c d;rw[cV]at e f c d;have j:=CJ (P:=P) o s q m Z;unfold results;rw[p];simp[e,f,c,d,asAddr,j]
end
section
variable{α β:Type}{R:lL α}{E:ba}{w0 w:ao}{M K:BS}{hp:Nat->Chunk}{v:al}{l:List α}{C:Chunk}
theorem SH.ownSrB(h:SH w0 M K w hp)(i j:Nat)(c:i≠j)(d:hp j=.own R E v l)(f:hp i=C):dn R w (fun b=>BE b\/C.own' b) v l:=
 (h.ownSr i j c d f).sub (fun b a _=>a.elim (fun e=>e.elim) id) (fun b a _=>a.elim (fun e=>e.elim) .inr)
theorem ap_BE{C:Chunk}:∀b,C.own' b->¬BE b:=fun _ _ h=>h
end
structure QY where
 said:Bool
 n:Int
 paused:Bool
structure nU where
 l:List Int
 bad:Bool
open Go.RowKit Go.Proofs
theorem spl_mid{xs vs:List al}{p s off:Nat}(h:off+vs.length<=s)(hp:p+s<=xs.length):((Ma xs (p+off) vs).drop p).take s=Ma ((xs.drop p).take s) off vs:=by
  apply dk;intro j;have d:((xs.drop p).take s).length=s:=by rw[cd,cI];omega
  rw[PI V,cf];by_cases a:j<s
  · rw[if_pos a,cw,PI V,cf,if_pos a,cw];by_cases c:j<off
    · rw[if_pos c,if_pos V]
    · rw[if_neg c,if_neg V];by_cases b:j<off+vs.length
      · rw[if_pos b,if_pos V,show p+j-(p+off)=j-off by omega]
      · rw[if_neg b,if_neg V]
  · rw[if_neg a,if_neg V,if_neg V,cf,if_neg a]
section
variable{P:ca}{ops:Array ef}{Q:fh->Act->ao->Prop}{n:Nat}{env:Nat->al}{w w' w0:ao}{M K:BS}{hp:Nat->Chunk}{rest:List ef}
 {d:Option Nat} {op:Op} {ty:ba} {pos:String} {af:Array hH} {v:al} {g:Option (Nat×Bool)} {T:ba} {ρ:bo->al} {x y:bo}
theorem w_stOP{α:Type}{R:lL α}{E:ba}{F:Nat}{l:List α}{k:Int}{a a':α}{b off:Nat}{zs vs:List al}{u:al}(h:SH w0 M K w hp)(i:Nat)(z:hp i=.own R E u l)(L:ob u b)(hs:R.sz=F)(S:l[k.toNat]? =aj a)(hT:vN P T zs)(c:ev n env x=.pointer (aj ⟨b,k.toNat*F+off,aE⟩))
    (hy:ev n env y=.agg vs.toArray) (hl:vs.length=zs.length) (s:ld (off+vs.length) F=ar) (p:∀u∈vs,u.oneCell'=ar) (hset:∀cs,R.rd w (SH.A M hp) cs a->R.rd w (SH.A M hp) (Ma cs off vs) a')
    (kk:∀w',SH w0 M K w' (bW hp i (.own R E u (l.set k.toNat a')))->bL (ob u) w w'->WL P ops Q rest n (gG env d fO) w'):
    WL P ops Q (⟨d,.store T x y,ty,pos,af,aE⟩::rest) n env w:=by
  subst hs;rw[ot]at s;have f:k.toNat<l.length:=Ml S;have C:l[k.toNat]=a:=by rw[bh f]at S;exact cM S
  generalize k.toNat=k at*;have e:∀b,ob u b->SH.A M hp b:=fun b L=>.inr ⟨i,by rw[z];exact L⟩;obtain⟨xs,O,q3⟩:=h.bH i z;rcases O.2 with⟨rfl,hn⟩|⟨g',cap,cur,rfl,e1,e2,e3,e4,e5,e6⟩
  · omega
  have G:b=g':=L;subst G;have X:(k+1)*R.sz<=l.length*R.sz:=bd _ f;have a1:l.length*R.sz<=cap*R.sz:=bd _ e3;rw[cj]at X;have a0:cur.toList.length=cap*R.sz:=by simpa using e5
  have a2:xs.length=l.length*R.sz:=O.1;have v:k*R.sz+off+vs.length<=cur.toList.length:=by omega
  have r:k*R.sz+off+vs.length<=xs.length:=by omega
  have o:=bL.wW w b<|.cells (Ma cur.toList (k*R.sz+off) vs).toArray E (0,0);have N:=SC (P:=P) (w:=w) (ρ:=ev n env) (d:=d) (ty:=ty) (pos:=pos) (af:=af) (g:=aE) (cs:=cur.toList) (E:=E) hT c (by simpa using e2) hy hl v p;refine Bg N (kk _ (h.step i o (fun x c _=>by rw[z];exact c) (fun x c _=>by rw[z];exact c) ⟨Ma xs (k*R.sz+off) vs,⟨?_,.inr ⟨b,cap,(Ma cur.toList (k*R.sz+off) vs).toArray,?_,e1,?_,?_,e4,?_,?_⟩⟩,?_⟩) (o.weaken (fun x c _=>c)))
  · rw[XV r,cq];exact O.1
  · rw[cq]
  · rw[vP (iW e2)]
  · rw[cq];exact e3
  · rw[rj,XV v];exact a0
  · rw[cq];show(Ma cur.toList (k*R.sz+off) vs).take (l.length*R.sz)=Ma xs (k*R.sz+off) vs;rw[spl_take V V,e6]
  · intro m I;have B:m<l.length:=by rwa[cq]at I
    have q:=fun cs a(h:R.rd w (SH.A M hp) cs a)=>R.go (A':=fun x=>(M x\/(SH.av hp i (.own R E (.slice (aj ⟨b,0,aE⟩) l.length cap) (l.set k a'))) x)\/ob (.slice (aj ⟨b,0,aE⟩) l.length cap) x) h o (fun x c _=>e x c) (fun x c _=>by
      rcases c with(c|c|c)|c
      · exact .inl c
      · exact .inr<|lM c
      · exact e x c
      · exact e x c)
    have hq:=fun j(hj:j<l.length)=>R.go (A':=SH.A M hp) (q3 j hj) (bL.refl BE w) (fun _ h=>h.elim) fun x c _=>.inl c;by_cases t:m=k
    · subst t;rw[lX];rw[spl_mid s V];exact q _ _<|hset _<|C▸hq m f
    · rw[mz (Ne.symm t),spl_other r]
      · exact q _ _<|hq m B
      · rcases cD k m with h5|h5
        · right;have:(k+1)*R.sz<=m*R.sz:=bd _ h5;rw[cj]at this;omega
        · left;have:(m+1)*R.sz<=k*R.sz:=bd _ V;rw[cj]at this;omega
end
open Go.RowKit Go.Proofs
def nIns:QX Ins Int where
 sz:=5
 enc x u:=[.int .i64 x.op,.int .i64 x.a,.int .i64 x.b,.int .i64 x.c,u]
 sub x:=x.args
 put x s:={x with args:=s}
 len _ _:=rfl
 one:=by intro x u h c hc;simp only[bn,dh,or_false]at hc;rcases hc with rfl|rfl|rfl|rfl|rfl<;>first|rfl|exact h
 pos:=by decide
 SY _ _ _:=rfl
 S9 _ _:=rfl
theorem nIns_br:∀w A (x:Ins) u,dn bZ w A u (nIns.sub x)->lH.rd w A (nIns.enc x u) x:=fun _ _ _ u h=>⟨u,rfl,h⟩
theorem nIns_op:∀(w:ao) (A:BS) cs (x:Ins),lH.rd w A cs x->∃u,cs=nIns.enc x u/\dn bZ w A u (nIns.sub x):=fun _ _ _ _ h=>h
theorem nProc_op:∀(w:ao) (A:BS) cs (x:bA),dH.rd w A cs x->∃u,cs=KM.enc x u/\dn lH w A u (KM.sub x):=fun _ _ _ _ h=>h
section
variable{α β:Type}{N:QX α β}{R:lL β}{E Es T:ba}{w0 w w':ao}{M K A:BS}{hp:Nat->Chunk}{v u u':al}{us us':List al}{L L':List α}{ss ss':List (List β)}{s:List β}{x y:α}{k:Nat}
theorem SH.pendSet(h:SH w0 M K w hp)(j q:Nat)(b:hp j=.eO (bP R Es (hge k) us (L.map N.sub)))(m:hp q=.eO (Mo R k us (L.map N.sub)))(a:j≠q)(d:L[k]? =aj x):
  SH w0 M K w (bW (bW hp q (.eO (Mo R (k+1) (us.set k u) (L.map N.sub)))) j (.eO (bP R Es (hge k) (us.set k u) (L.map N.sub)))):=by
 have g:=h.rdpStep (u:=u) (s:=N.sub x) q m;have l:=h.j4 j b;have c:=g.famRe (us':=us.set k u) (ss':=(L.map N.sub).set k (N.sub x)) j (by rw[ek a];exact b) (by simp[l]) (fun i f=>by
  have:k≠i:=fun e=>f (by subst e;exact bt _);rw[dC this,dC this];exact⟨Z,Z⟩)
 have e:(L.map N.sub).set k (N.sub x)=L.map N.sub:=by rw[<-gB,BZ d]
 rw[e]at c;exact c
theorem SH.pendDel(h:SH w0 M K w hp)(j m:Nat)(g:hp j=.eO (bP R Es (hge k) us (L.map N.sub)))(f:hp m=.own R Es u s)(b:j≠m)(l:L[k]? =aj x)(d:us[k]? =aj u)(n:N.sub x=s):
    SH w0 M K w (bW (bW hp m .no) j (.eO (bP R Es (hge (k+1)) us (L.map N.sub)))):=by
  have c:=h.KI j m (k:=k) (u:=u) (s:=s) g f b d (bt k) (hge (k+1)) (fun i=>⟨fun a=>by
    rcases ri (show k<=i from a)with e|e
    · exact .inr e.symm
    · exact .inl e,fun a=>a.elim (fun a=>rL a) (fun e=>by subst e;exact bt _)⟩) (fun a=>absurd a (pW k))
  have e:(L.map N.sub).set k s=L.map N.sub:=by rw[<-n,<-gB,BZ l]
  rw[e]at c;exact c
theorem SH.dnOwn{R':lL α}(h:SH w0 M K w hp)(i j:Nat)(p:hp i=.own N.raw E v (L.zip us))(f:hp j=.eO (bP R Es hn us (L.map N.sub)))(o:i≠j)(g:R'.sz=N.sz)(P:∀w A x u,dn R w A u (N.sub x)->R'.rd w A (N.enc x u) x):SH w0 M K w (bW (bW hp j .no) i (.own R' E v L)):=by
  have s:=h.j4 j f;have m:=h.pair i j o;have l:=m.apart i;have z:=m.apM i;have k:=m.ok i;rw[cu]at l z;rw[cu,p,f]at k;have C:=m.step (c:=.own R' E v L) i (bL.refl BE w) (fun _ h=>h.elim) (fun b a _=>by rw[cu,p];exact .inl a) ?_
  · rw[Er]at C;exact C
  · have hno:∀b,(hp j).own' b->¬((M b\/SH.av (bW (bW hp j .no) i<|.two (hp i)<|hp j) i (.own R' E v L) b)\/ob v b):=by
      intro b a d;rcases d with(d|⟨q,n,d⟩|d)|d
      · exact z b (.inr a) d
      · exact l q (fun e=>n e.symm) b (.inr a) d
      · exact k.2.2 b d (by rw[<-f];exact a)
      · exact k.2.2 b d (by rw[<-f];exact a)
    have G:∀b,((M b\/SH.av (bW (bW hp j .no) i<|.two (hp i)<|hp j) i (.own R' E v L) b)\/ob v b)->M b\/iX (bW (bW hp j .no) i<|.two (.own N.raw E v<|L.zip us)<|.eO<|bP R Es hn us<|L.map N.sub) b:=by
      rw[p,f];have B:∀b,ob v b->iX (bW (bW hp j .no) i (.two (.own N.raw E v (L.zip us)) (.eO (bP R Es hn us (L.map N.sub))))) b:=fun b a=>⟨i,by rw[cu];exact .inl a⟩;rintro b((a|a|a)|a)
      · exact .inl a
      · exact .inr<|lM a
      · exact .inr<|B b a
      · exact .inr<|B b a
    obtain⟨xs,t,Q⟩:=k.1;refine⟨xs,?_,fun q n=>?_⟩
    · rw[gP s]at t;show w.ownsRow 0 E R'.sz v L.length xs;rw[g];exact t
    · have r:q<(L.zip us).length:=by rw[gP s];exact n
      have y:=Q q r;have F:(L.zip us)[q]=(L[q],us[q]'V):=by simp
      rw[F]at y;obtain⟨O,_⟩:=y;have I:((xs.drop<|q*N.sz).take N.sz)=N.enc L[q] (us[q]'V):=O;show R'.rd w _ ((xs.drop<|q*R'.sz).take R'.sz) L[q];rw[g,I];exact P _ _ _ _ (cO.rd (k.2.1.2.1 q _ _ (bh V) (by rw[eg,bh n];rfl) (fun h=>h)) (fun b a=>hno b (by rw[f];exact⟨q,_,bh V,fun h=>h,a⟩)) (fun b a _=>.inl (.inl (G b a))))
end
structure fD where
 cos:List Co
 safe:List UInt8
 wait:List UInt8
 up:Bool
def gz:lL fD where
 sz:=4
 rd w A cs x:=∃vcos,∃Xm,∃Xn,cs=[vcos,Xm,Xn,.bool x.up]/\dn Ho w A vcos x.cos/\dn iR w A Xm x.safe/\dn iR w A Xn x.wait
 len:=by rintro w A cs x ⟨vcos,Xm,Xn,rfl,h0,h1,h2⟩;rfl
 one:=by rintro w A cs x ⟨vcos,Xm,Xn,rfl,h0,h1,h2⟩ u hu;simp only[bn,dh,or_false]at hu;rcases hu with rfl|rfl|rfl|rfl<;>first|rfl|exact h0.one|exact h1.one|exact h2.one
 pos:=by decide
 go:=by rintro w A cs x w2 A2 K ⟨vcos,Xm,Xn,rfl,h0,h1,h2⟩ hk hK hA;exact⟨_,_,_,Z,h0.go hk hK hA,h1.go hk hK hA,h2.go hk hK hA⟩
theorem iD{w:ao}{A:BS}{cs:List al}{x:fD}(h:gz.rd w A cs x):∃a,∃b,∃c,cs=[a,b,c,.bool x.up]/\dn Ho w A a x.cos/\dn iR w A b x.safe/\dn iR w A c x.wait:=h
structure aZ where
 prog:List bA
 places:List fD
 bQ:List fT
structure kV where
 kind:Int
 place:Int
 co:Int
 n:Int
def Tg:lL kV where
 sz:=4
 rd w A cs x:=cs=[.int .i64 x.kind,.int .i64 x.place,.int .i64 x.co,.int .i64 x.n]
 len:=by rintro w A cs x rfl;rfl
 one:=by rintro w A cs x rfl u hu;simp only[bn,dh,or_false]at hu;rcases hu with rfl|rfl|rfl|rfl<;>first|rfl
 pos:=by decide
 go:=fun h _ _ _=>h
open Go Go.RowKit Go.Proofs
section
variable{P:ca}{ops:Array ef}{Q:fh->Act->ao->Prop}{rest:List ef}{n:Nat}{env:Nat->al}{w w0:ao}{M K:BS}{hp:Nat->Chunk}{d:Option Nat}{ty:ba}{pos:String}{af:Array hH}{x y:bo}{T:ba}{v:al}
theorem mI{i:Int}(a:ev n env x=.int .i64 i)(h:WL P ops Q rest n (gG env d (.int .i64 i)) w):WL P ops Q (⟨d,.move x,ty,pos,af,aE⟩::rest) n env w:=J (bE a) h
theorem mB{i:Bool}(a:ev n env x=.bool i)(h:WL P ops Q rest n (gG env d (.bool i)) w):WL P ops Q (⟨d,.move x,ty,pos,af,aE⟩::rest) n env w:=J (bE a) h
theorem mP{i:Option Addr}(a:ev n env x=.pointer i)(h:WL P ops Q rest n (gG env d (.pointer i)) w):WL P ops Q (⟨d,.move x,ty,pos,af,aE⟩::rest) n env w:=J (bE a) h
theorem mV(v:al)(a:ev n env x=v)(h:WL P ops Q rest n (gG env d v) w):WL P ops Q (⟨d,.move x,ty,pos,af,aE⟩::rest) n env w:=J (bE a) h
theorem aI{i:Int}(a:ev n env x=.int .i64 i)(h:WL P ops Q rest n (gG env d (.int .i64 i)) w):WL P ops Q (⟨d,.assign x,ty,pos,af,aE⟩::rest) n env w:=J (fe a) h
theorem aB{i:Bool}(a:ev n env x=.bool i)(h:WL P ops Q rest n (gG env d (.bool i)) w):WL P ops Q (⟨d,.assign x,ty,pos,af,aE⟩::rest) n env w:=J (fe a) h
theorem aP{i:Option Addr}(a:ev n env x=.pointer i)(h:WL P ops Q rest n (gG env d (.pointer i)) w):WL P ops Q (⟨d,.assign x,ty,pos,af,aE⟩::rest) n env w:=J (fe a) h
theorem aV(v:al)(a:ev n env x=v)(h:WL P ops Q rest n (gG env d v) w):WL P ops Q (⟨d,.assign x,ty,pos,af,aE⟩::rest) n env w:=J (fe a) h
theorem lB{z:al}{b o:Nat}{cs:List al}(h:SH w0 M K w hp)(i:Nat)(a:One P T z)(e:(hp i,ev n env x,cs[o]?)=(Chunk.blk b cs,fY (aj ⟨b,o,aE⟩),aj v))(k:WL P ops Q rest n (gG env d v) w):WL P ops Q (⟨d,.load T x,ty,pos,af,aE⟩::rest) n env w:=by
 injection e with e1 e2;injection e2 with e2 e3;exact J (bX h i e1 a e2 e3) k
theorem oQ{zs vs:List al}{b o:Nat}{cs:List al}(h:SH w0 M K w hp)(i:Nat)(a:vN P T zs)(e:(hp i,ev n env x,(cs.drop o).take zs.length,vs.length)=(Chunk.blk b cs,fY (aj ⟨b,o,aE⟩),vs,zs.length))(k:WL P ops Q rest n (gG env d (.agg vs.toArray)) w):WL P ops Q (⟨d,.load T x,ty,pos,af,aE⟩::rest) n env w:=by
 injection e with e1 e2;injection e2 with e2 e3;injection e3 with e3 e4;exact J (yt h i e1 a e2 e3 e4) k
theorem dM{b o k off:Nat}(a:dS P T k off)(c:ev n env x=.pointer (aj ⟨b,o,aE⟩))(h:WL P ops Q rest n (gG env d (.pointer (aj ⟨b,o+off,aE⟩))) w):WL P ops Q (⟨d,.fieldAddr T x k,ty,pos,af,aE⟩::rest) n env w:=J (aM a c) h
theorem w_stA{zs:List al}{b:Nat}{cs:List al}(h:SH w0 M K w hp)(i:Nat)(vs:List al)(a:vN P T zs)(e:(hp i,ev n env x,ev n env y,vs.length,cs.length)=(Chunk.blk b cs,fY (aj ⟨b,0,aE⟩),rk vs.toArray,zs.length,vs.length))(c:∀v∈vs,v.oneCell'=ar)
  (k:∀w',SH w0 M K w' (bW hp i (.blk b vs))->WL P ops Q rest n (gG env d fO) w'):WL P ops Q (⟨d,.store T x y,ty,pos,af,aE⟩::rest) n env w:=by
 injection e with e1 e2;injection e2 with e2 e3;injection e3 with e3 e4;injection e4 with e4 e5;refine w_stN h i vs e1 a e2 e3 e4 ?_ (by rw[ot];omega) c k;unfold Ma;simp[e5]
theorem bR{f:fS}{first captured:Array al}{xs:Array bo}{i:Array ba}{args:List al}(h:SH w0 M K w hp)(a:SE P f)(b:ev n env x=.func (.func f) first captured)
  (c:first.toList++xs.toList.map (ev n env)++captured.toList=args) (j:bD P f args.toArray w (fun e w'=>Grow w w'/\e=.returned v)) (k:∀w',SH w0 M K w' hp->WL P ops Q rest n (gG env d v) w'):
  WL P ops Q (⟨d,.call {callee:=.value x,args:=xs,argTypes:=i},ty,pos,af,aE⟩::rest) n env w:=
 cz a b c j (by rintro _ w' ⟨g,rfl⟩;exact⟨_,Z,k w' (h.grow g)⟩)
theorem XW{α:Type}{R:lL α}{l:List α}{f:fS}{first captured:Array al}{xs:Array bo}{b:Array ba}{args:List al}{F:al->al}(h:SH w0 M K w hp)(i:Nat)(c:SE P f)(j:ev n env x=.func (.func f) first captured)
  (a:first.toList++xs.toList.map (ev n env)++captured.toList=args) (m:bD P f args.toArray w (fun e w'=>Grow w w'/\∃u,e=.returned (F u)/\dn R w' (SH.A M hp) u l)) (k:∀w' u,SH w0 M K w' (bW hp i (.rd R u l))->WL P ops Q rest n (gG env d (F u)) w'):
  WL P ops Q (⟨d,.call {callee:=.value x,args:=xs,argTypes:=b},ty,pos,af,aE⟩::rest) n env w:=
 cz c j a m (by rintro _ w' ⟨g,u,rfl,g2⟩;exact⟨_,Z,k w' u (h.Au i g g2)⟩)
theorem iL{α:Type}{R:lL α}{E:ba}{l:List α}{f:fS}{first captured:Array al}{xs:Array bo}{j:Array ba}{args:List al}{F:al->al}(h:SH w0 M K w hp)(i:Nat)(m:SE P f)(o:ev n env x=.func (.func f) first captured)
  (c:first.toList++xs.toList.map (ev n env)++captured.toList=args) (p:bD P f args.toArray w (fun e w'=>Grow w w'/\∃u,e=.returned (F u)/\cO R E w' (SH.A M hp) u l/\(∀b,ob u b->w.heap.size<=b))) (k:∀w' u,SH w0 M K w' (bW hp i (.own R E u l))->WL P ops Q rest n (gG env d (F u)) w'):
  WL P ops Q (⟨d,.call {callee:=.value x,args:=xs,argTypes:=j},ty,pos,af,aE⟩::rest) n env w:=
 cz m o c p (by rintro _ w' ⟨g,u,rfl,g2,a⟩;exact⟨_,Z,k w' u (h.vO i g g2 a)⟩)
end
section
variable{w w' w0:ao}{M K:BS}{hp:Nat->Chunk}{C:Chunk}
theorem SH.eX(h:SH w0 M K w hp)(i:Nat)(a:(hp i).SN):(hp i).holds w M (hp i).own'/\bL K w0 w/\(∀b,(hp i).own' b->b<w0.heap.size->K b):=h.outS i Z a
theorem SH.ik(h:SH w0 M K w hp)(i:Nat)(a:(hp i).SN):(hp i).holds w (fun b=>M b\/rest hp i b) (hp i).own'/\(∀b,(hp i).own' b->¬(M b\/rest hp i b))/\(∀b,(M b\/rest hp i b)->b<w.heap.size):=h.lendS i Z a
theorem SH.kX(h:SH w0 M K w hp)(i:Nat)(c:C.holds w' (fun b=>M b\/rest hp i b) C.own')(d:C.SN)(a:bL (hp i).own' w w')(hn:∀b,C.own' b->b<w.heap.size->(hp i).own' b):SH w0 M K w' (bW hp i C):=h.back i Z d c a hn
end
section
variable{σ ρ α:Type}{b:Int->σ->(σ->ρ)->ρ}{bx:Int->α->σ->(σ->ρ)->ρ}{be:α->σ->(σ->ρ)->ρ}{K:σ->ρ}{s:σ}{r:ρ}{i c:Int}{k:Nat}{L:List α}
theorem rP(f:i=(k:Int))(e:ab (i<c)=ar)(a:upto b K i (c.toNat-k) s=r):∃d,upto b K (i+1) (c.toNat-(k+1))=d/\b i s d=r:=by
 rw[upto_lt (by have:=of_decide_eq_true e;omega)]at a;exact⟨_,Z,a⟩
theorem yS(d:i=(k:Int))(e:ab (i<c)=aq)(a:upto b K i (c.toNat-k) s=r):K s=r:=by
 rw[upto_ge (by have:=of_decide_eq_false e;omega)]at a;exact a
theorem yT(a:i=(k:Int))(e:ab (i<c)=ar)(b:c<=9223372036854775807):kN (i+1):=by
 have:=of_decide_eq_true e;exact kN.mk V V
theorem Jt(a:i=(k:Int))(e:ab (i<c)=ar):c.toNat-(k+1)<c.toNat-k:=by
 have:=of_decide_eq_true e;omega
theorem lQ(a:i=(k:Int))(e:ab (i<(L.length:Int))=ar)(b:each be K (L.drop k) s=r):∃x c,L[k]? =aj x/\each be K (L.drop (k+1))=c/\be x s c=r:=by
 obtain⟨x,d,f⟩:=drop_lt<|a▸e;rw[f,gL]at b;exact⟨x,_,d,Z,b⟩
theorem qd(a:i=(k:Int))(e:ab (i<(L.length:Int))=aq)(b:each be K (L.drop k) s=r):K s=r:=by
 rw[drop_ge (a▸e),qU]at b;exact b
theorem BD(a:i=(k:Int))(e:ab (i<(L.length:Int))=ar)(b:ic bx K i (L.drop k) s=r):∃x c,L[k]? =aj x/\ic bx K (i+1) (L.drop (k+1))=c/\bx i x s c=r:=by
 obtain⟨x,d,f⟩:=drop_lt<|a▸e;rw[f,yP]at b;exact⟨x,_,d,Z,b⟩
theorem Ie(a:i=(k:Int))(e:ab (i<(L.length:Int))=aq)(b:ic bx K i (L.drop k) s=r):K s=r:=by
 rw[drop_ge (a▸e),UK]at b;exact b
theorem uz(a:i=(k:Int))(e:ab (i<(L.length:Int))=ar):L.length-(k+1)<L.length-k:=by
 have:=of_decide_eq_true e;omega
end
abbrev cW(b:Nat)(a v1 v2:al)(l:List fD):Chunk:=.two (.blk b [a,v1,v2]) (.own gz 40 v1 l)
abbrev mX(M:BS)(w:ao):Prop:=∀b,M b->b<w.heap.size
open Go Go.RowKit Go.Proofs
section
variable{P:ca}{ops:Array ef}{Q:fh->Act->ao->Prop}{rest:List ef}{n:Nat}{env:Nat->al}{w w0:ao}{M K:BS}{hp:Nat->Chunk}{d:Option Nat}{ty:ba}{pos:String}{af:Array hH}{x y:bo}{T T2:ba}{v:al}
theorem oH{k:Int}{p:al}(i:IxOk P T v k p)(e:(ev n env x,ev n env y)=(v,dp .i64 k))(h:WL P ops Q rest n (gG env d p) w):WL P ops Q (⟨d,.indexAddr T x y,ty,pos,af,aE⟩::rest) n env w:=by
 injection e with e1 e2;exact J (i _ _ _ _ _ _ _ _ _ e1 e2) h
theorem eH{p q:Int}{k:IntKind}(e:(ev n env x,ev n env y)=(dp k p,dp k q))(h:WL P ops Q rest n (gG env d (.bool (ab (p=q)))) w):WL P ops Q (⟨d,.binOp .eql T x y T2,ty,pos,af,aE⟩::rest) n env w:=by
 injection e with e1 e2;exact J (oL e1 e2) h
theorem jL{p q:Int}{k:IntKind}(e:(ev n env x,ev n env y)=(dp k p,dp k q))(h:WL P ops Q rest n (gG env d (.bool (ab (p≠q)))) w):WL P ops Q (⟨d,.binOp .neq T x y T2,ty,pos,af,aE⟩::rest) n env w:=by
 injection e with e1 e2;exact J (yN e1 e2) h
theorem fZ{p q:Int}(e:(ev n env x,ev n env y)=(dp .i64 p,dp .i64 q))(h:WL P ops Q rest n (gG env d (.bool (ab (p<q)))) w):WL P ops Q (⟨d,.binOp .lss T x y T2,ty,pos,af,aE⟩::rest) n env w:=by
 injection e with e1 e2;exact J (uk e1 e2) h
theorem fU{p q:Int}(e:(ev n env x,ev n env y)=(dp .i64 p,dp .i64 q))(a:kN (p+q))(h:WL P ops Q rest n (gG env d (.int .i64 (p+q))) w):WL P ops Q (⟨d,.binOp .add T x y T2,ty,pos,af,aE⟩::rest) n env w:=by
 injection e with e1 e2;exact J (Gu e1 e2 a) h
theorem fG{i:Nat}{vs:List al}(e:(ev n env x,vs[i]?)=(Value.tuple vs.toArray,aj v))(h:WL P ops Q rest n (gG env d v) w):WL P ops Q (⟨d,.extract x i,ty,pos,af,aE⟩::rest) n env w:=by
 injection e with e1 e2;exact J (dU e1 e2) h
theorem fM{α:Type}{R:lL α}{E:ba}{b:Nat}{l:List α}(h:SH w0 M K w hp)(i:Nat)(a:SliceOf P T E b)(e:(hp i,ev n env x)=(Chunk.sr R v l,v))(k:WL P ops Q rest n (gG env d (.int .i64 l.length)) w):WL P ops Q (⟨d,.call {callee:=.builtin .len,args:= #[x],argTypes:= #[T]},ty,pos,af,aE⟩::rest) n env w:=by
 injection e with e1 e2;exact J (gm a e2<|h.gp i e1) k
theorem qA{α:Type}{R:lL α}{E:ba}{b:Nat}{l:List α}(h:SH w0 M K w hp)(i:Nat)(a:SliceOf P T E b)(e:(hp i,ev n env x)=(Chunk.rd R v l,v))(k:WL P ops Q rest n (gG env d (.int .i64 l.length)) w):WL P ops Q (⟨d,.call {callee:=.builtin .len,args:= #[x],argTypes:= #[T]},ty,pos,af,aE⟩::rest) n env w:=by
 injection e with e1 e2;exact J (gm a e2<|h.lI i e1) k
theorem tO{j dj b' o:Nat}{b a:Bool}{z:al}{cs:List al}(h:SH w0 M K w hp)(i:Nat)(c:One P T z)(e:((ops[j]?).bind (·.dst),ev n env (.tmp dj),hp i,ev n env x,cs[o]?)=(aj dj,dq b,Chunk.blk b' cs,gv (b==a) (.pointer (aj ⟨b',o,aE⟩)),aj v))
    (k:WL P ops Q rest n (gG env d (gv (b==a) v)) w):WL P ops Q (⟨d,.load T x,ty,pos,af,aj (j,a)⟩::rest) n env w:=by
  injection e with e1 e2;injection e2 with e2 e3;injection e3 with e3 e4;injection e4 with e4 e5;exact aQ e1 e2 (fun q=>bX h i e3 c (e4.trans<|fw q) e5) k
theorem tZ{j dj b' o f off:Nat}{b a:Bool}(c:dS P T f off)(e:((ops[j]?).bind (·.dst),ev n env (.tmp dj),ev n env x)=(aj dj,dq b,fY (aj ⟨b',o,aE⟩)))
    (k:WL P ops Q rest n (gG env d (gv (b==a) (.pointer (aj ⟨b',o+off,aE⟩)))) w):WL P ops Q (⟨d,.fieldAddr T x f,ty,pos,af,aj (j,a)⟩::rest) n env w:=by
  injection e with e1 e2;injection e2 with e2 e3;exact aQ e1 e2 (fun q=>aM c e3) k
end
theorem cst{P:ca}{f:fS}{a:Func}{c:Code}{args:List al}{R:Ending->ao->Prop}{n:Nat}{w:ao}(b:P.funcs[f]? =aj a)(hn:a.ntmps=n)(e:(a.body,ld args.length n)=(aj c,ar))
  (h:WC P c (jn P a R) n (UI args) w):bD P f args.toArray w R:=by
 injection e with e1 e2;exact calls_start b e1 hn (gn e2) h
open Go Go.RowKit Go.Proofs
def fillF(pl:List (Nat×Nat))(cs:List al):List (Nat×al)->Option (List al)
 |[]=>aj cs
 |(i,v)::r=>match pl[i]? with
  |some (off,1)=>if off<cs.length then fillF pl (cs.set off v) r else aE
  |_=>aE
theorem fillF_ok{pl:List (Nat×Nat)}:∀{pv:List (Nat×al)} {cs out:List al},(∀v∈pv.map (·.2),v.oneCell'=ar)->fillF pl cs pv=aj out->FillOk pl cs pv out
  |[],cs,out,_,h=>cM h
  |(i,v)::r,cs,out,ho,h=>by
    unfold fillF at h;split at h
    · rename_i off e;split at h
      · rename_i b;refine⟨off,1,[v],e,dV<|ho v zq3,Z,by omega,?_⟩;rw[show Ma cs off [v]=cs.set off v by unfold Ma;rw[List.set_eq_take_append_cons_drop,if_pos b];simp];exact fillF_ok (fun x a=>ho x<|List.mem_cons_of_mem _ a) h
      · cases h
    · cases h
section
variable{P:ca}{ops:Array ef}{Q:fh->Act->ao->Prop}{rest:List ef}{n:Nat}{env:Nat->al}{w w0:ao}{M K:BS}{hp:Nat->Chunk}{d:Option Nat}{op:Op}{ty:ba}{pos:String}{af:Array hH}{x y c:bo}{T T2:ba}{v:al}{j dj:Nat}{b b0 r:Bool}{i:Int}
theorem j5{zs out:List al}{pl:List (Nat×Nat)}{a:Array (Nat×bo)}{pv:List (Nat×al)}(b:Struct P T zs pl)(e:(a.toList.map fun p=>(p.1,ev n env p.2),fillF pl zs pv)=(pv,aj out))(ho:∀v∈pv.map (·.2),v.oneCell'=ar)
    (h:WL P ops Q rest n (gG env d (.agg out.toArray)) w):WL P ops Q (⟨d,.build T a,ty,pos,af,aE⟩::rest) n env w:=by
  injection e with e1 e2;exact J (oU b e1<|fillF_ok ho e2) h
theorem pkT(a:b0=ar)(e:(ev n env c,ev n env x)=(dq b0,dq r))(h:WL P ops Q rest n (gG env d (.bool r)) w):WL P ops Q (⟨d,.pick c x y,ty,pos,af,aE⟩::rest) n env w:=by
 injection e with e1 e2;exact J (jB (b:=ar) (by rw[e1,a]) e2) h
theorem pkF(a:b0=aq)(e:(ev n env c,ev n env y)=(dq b0,dq r))(h:WL P ops Q rest n (gG env d (.bool r)) w):WL P ops Q (⟨d,.pick c x y,ty,pos,af,aE⟩::rest) n env w:=by
 injection e with e1 e2;exact J (jB (b:=aq) (by rw[e1,a]) e2) h
theorem CO(a:b0=aq)(e:((ops[j]?).bind (·.dst),ev n env (.tmp dj),(aq==b))=(aj dj,dq b0,aq))(h:WL P ops Q rest n (gG env d fO) w):WL P ops Q (⟨d,op,ty,pos,af,aj (j,b)⟩::rest) n env w:=by
  injection e with e1 e2;injection e2 with e2 e3;exact j3 e1 (by rw[e2,a]) e3 h
theorem Oa(a:b0=ar)(e:((ops[j]?).bind (·.dst),ev n env (.tmp dj),(ar==b))=(aj dj,dq b0,aq))(h:WL P ops Q rest n (gG env d fO) w):WL P ops Q (⟨d,op,ty,pos,af,aj (j,b)⟩::rest) n env w:=by
  injection e with e1 e2;injection e2 with e2 e3;exact j3 e1 (by rw[e2,a]) e3 h
theorem oN(a:b0=b)(e:((ops[j]?).bind (·.dst),ev n env (.tmp dj))=(aj dj,dq b0))(h:WL P ops Q (⟨d,op,ty,pos,af,aE⟩::rest) n env w):WL P ops Q (⟨d,op,ty,pos,af,aj (j,b)⟩::rest) n env w:=by
  injection e with e1 e2;exact Xa e1 (by rw[e2,a]) h
theorem UC{a:Bool}(e:((ops[j]?).bind (·.dst),ev n env (.tmp dj),ev n env x)=(aj dj,dq b,dp .i64 i))(h:WL P ops Q rest n (gG env d (gv (b==a) (.int .i64 i))) w):WL P ops Q (⟨d,.move x,ty,pos,af,aj (j,a)⟩::rest) n env w:=by
  injection e with e1 e2;injection e2 with e2 e3;exact aQ e1 e2 (fun _=>bE e3) h
theorem g0B'{a:Bool}(e:((ops[j]?).bind (·.dst),ev n env (.tmp dj),ev n env x)=(aj dj,dq b,dq r))(h:WL P ops Q rest n (gG env d (gv (b==a) (.bool r))) w):WL P ops Q (⟨d,.move x,ty,pos,af,aj (j,a)⟩::rest) n env w:=by
  injection e with e1 e2;injection e2 with e2 e3;exact aQ e1 e2 (fun _=>bE e3) h
theorem KQ{zs vs:List al}{a o k:Nat}{cs:List al}(h:SH w0 M K w hp)(i:Nat)(b:vN P T zs)(e:(hp i,ev n env x,(cs.drop k).take zs.length,vs.length,ld (k+zs.length) cs.length)=(Chunk.pt a o cs,fY (aj ⟨a,o+k,aE⟩),vs,zs.length,ar))(q:WL P ops Q rest n (gG env d (.agg vs.toArray)) w):WL P ops Q (⟨d,.load T x,ty,pos,af,aE⟩::rest) n env w:=by
 injection e with e1 e2;injection e2 with e2 e3;injection e3 with e3 e4;injection e4 with e4 e5;exact J (Md h i e1 b e2 e3 e4<|gn e5) q
theorem jm{L:BS}{ws:ao}{u:al}(c:bL L ws w)(g:∀b,ob u b->w.heap.size<=b):∀b,ob u b->ws.heap.size<=b:=fun b a=>Nat.le_trans c.size (g b a)
end
section
variable{P:ca}{ops:Array ef}{Q:fh->Act->ao->Prop}{n:Nat}{env:Nat->al}{w ws:ao}{d:Option Nat}{op:Op}{ty:ba}{pos:String}{af:Array hH}{fuel:Nat}{listed:Array Bool}{v:al}{L:BS}
theorem bO(i:Nat)(f:Grow ws w)(e:ops[i]? =aj ⟨d,op,ty,pos,af,aE⟩)(c:∀b,Grow ws b->(bl (ev n env) ⟨d,op,ty,pos,af,aE⟩).run P b=.ok (.value v) b)(h:WH P ops ws Q fuel (listed.setIfInBounds i ar) n (gG env d v) w)(a:(ea ops&&(eR .any ops listed i&&(cN .any ops listed).contains i))=true:=by kernel_rfl):WH P ops ws Q (fuel+1) listed n env w:=by
 simp only[cL]at a;exact kG i f e bz a.1 a.2.1 a.2.2 c h
theorem aX(i:Nat)(f:bL L ws w)(e:ops[i]? =aj ⟨d,op,ty,pos,af,aE⟩)(c:∀b,bL L ws b->(bl (ev n env) ⟨d,op,ty,pos,af,aE⟩).run P b=.ok (.value v) b)(h:XT P ops L ws Q fuel (listed.setIfInBounds i ar) n (gG env d v) w)(a:(ea ops&&(eR .any ops listed i&&(cN .any ops listed).contains i))=true:=by kernel_rfl):XT P ops L ws Q (fuel+1) listed n env w:=by
 simp only[cL]at a;exact whk_ok i f e bz a.1 a.2.1 a.2.2 c h
end
section
variable{P:ca}{ops:Array ef}{w:ao}{Q1:Act->Prop}{rest:List ef}{n:Nat}{env:Nat->al}{d:Option Nat}{ty:ba}{pos:String}{af:Array hH}{x:bo}
theorem kI{i:Int}(a:ev n env x=.int .i64 i)(h:WK P ops w Q1 rest n (gG env d (.int .i64 i))):WK P ops w Q1 (⟨d,.move x,ty,pos,af,aE⟩::rest) n env:=aG (bE a) h
theorem kB{i:Bool}(a:ev n env x=.bool i)(h:WK P ops w Q1 rest n (gG env d (.bool i))):WK P ops w Q1 (⟨d,.move x,ty,pos,af,aE⟩::rest) n env:=aG (bE a) h
end
abbrev GL(w:ao)(M:BS)(C:Chunk):Prop:=Chunk.holds w M (Chunk.own' C) C
abbrev ApC(C:Chunk)(M:BS):Prop:=∀b,Chunk.own' C b->¬M b
abbrev Yt(C':Chunk)(w:ao)(C:Chunk):Prop:=∀b,Chunk.own' C' b->b<w.heap.size->Chunk.own' C b
abbrev Fs(M:BS)(C:Chunk):BS:=fun b=>M b\/Chunk.own' C b
open Go Go.RowKit Go.Proofs
section
variable{P:ca}{ops:Array ef}{Q:fh->Act->ao->Prop}{n:Nat}{env:Nat->al}{w ws:ao}{d:Option Nat}{ty:ba}{pos:String}{af:Array hH}{fuel:Nat}{listed:Array Bool}{v:al}{L:BS}{T:ba}{x:bo}
theorem GM(i:Nat)(f:Grow ws w){k off b o:Nat}(a:dS P T k off)(e:(ops[i]?,ev n env x)=(aj ⟨d,.fieldAddr T x k,ty,pos,af,aE⟩,fY (aj ⟨b,o,aE⟩)))(h:WH P ops ws Q fuel (listed.setIfInBounds i ar) n (gG env d (.pointer (aj ⟨b,o+off,aE⟩))) w)(c:(ea ops&&(eR .any ops listed i&&(cN .any ops listed).contains i))=true:=by kernel_rfl):WH P ops ws Q (fuel+1) listed n env w:=by
 injection e with e1 e2;exact bO i f e1 (fun _ _=>aM a e2) h c
theorem dA(i:Nat)(f:bL L ws w){k off b o:Nat}(a:dS P T k off)(e:(ops[i]?,ev n env x)=(aj ⟨d,.fieldAddr T x k,ty,pos,af,aE⟩,fY (aj ⟨b,o,aE⟩)))(h:XT P ops L ws Q fuel (listed.setIfInBounds i ar) n (gG env d (.pointer (aj ⟨b,o+off,aE⟩))) w)(c:(ea ops&&(eR .any ops listed i&&(cN .any ops listed).contains i))=true:=by kernel_rfl):XT P ops L ws Q (fuel+1) listed n env w:=by
 injection e with e1 e2;exact aX i f e1 (fun _ _=>aM a e2) h c
theorem qV(i:Nat)(b:Grow ws w)(v:al)(e:(ops[i]?,ev n env x)=(aj ⟨d,.move x,ty,pos,af,aE⟩,v))(h:WH P ops ws Q fuel (listed.setIfInBounds i ar) n (gG env d v) w)(a:(ea ops&&(eR .any ops listed i&&(cN .any ops listed).contains i))=true:=by kernel_rfl):WH P ops ws Q (fuel+1) listed n env w:=by
 injection e with e1 e2;exact bO i b e1 (fun _ _=>bE e2) h a
theorem jf(i:Nat)(b:bL L ws w)(v:al)(e:(ops[i]?,ev n env x)=(aj ⟨d,.move x,ty,pos,af,aE⟩,v))(h:XT P ops L ws Q fuel (listed.setIfInBounds i ar) n (gG env d v) w)(a:(ea ops&&(eR .any ops listed i&&(cN .any ops listed).contains i))=true:=by kernel_rfl):XT P ops L ws Q (fuel+1) listed n env w:=by
 injection e with e1 e2;exact aX i b e1 (fun _ _=>bE e2) h a
theorem Ju(i:Nat)(b:Grow ws w)(v:al)(e:(ops[i]?,ev n env x)=(aj ⟨d,.assign x,ty,pos,af,aE⟩,v))(h:WH P ops ws Q fuel (listed.setIfInBounds i ar) n (gG env d v) w)(a:(ea ops&&(eR .any ops listed i&&(cN .any ops listed).contains i))=true:=by kernel_rfl):WH P ops ws Q (fuel+1) listed n env w:=by
 injection e with e1 e2;exact bO i b e1 (fun _ _=>fe e2) h a
theorem vD(i:Nat)(b:bL L ws w)(v:al)(e:(ops[i]?,ev n env x)=(aj ⟨d,.assign x,ty,pos,af,aE⟩,v))(h:XT P ops L ws Q fuel (listed.setIfInBounds i ar) n (gG env d v) w)(a:(ea ops&&(eR .any ops listed i&&(cN .any ops listed).contains i))=true:=by kernel_rfl):XT P ops L ws Q (fuel+1) listed n env w:=by
 injection e with e1 e2;exact aX i b e1 (fun _ _=>fe e2) h a
end
section
variable{P:ca}{ops:Array ef}{Q:fh->Act->ao->Prop}{rest:List ef}{n:Nat}{env:Nat->al}{w w0:ao}{M K:BS}{hp:Nat->Chunk}{d:Option Nat}{ty:ba}{pos:String}{af:Array hH}{x y:bo}{T:ba}
theorem bS{zs vs:List al}{b:Nat}{cs:List al}(h:SH w0 M K w hp)(i:Nat)(a:vN P T zs)(e:(hp i,ev n env x,ev n env y,vs.length,cs.length)=(Chunk.blk b cs,fY (aj ⟨b,0,aE⟩),rk vs.toArray,zs.length,vs.length))(c:∀v∈vs,v.oneCell'=ar)
 (k:∀w',SH w0 M K w' (bW hp i (.blk b vs))->WL P ops Q rest n (gG env d fO) w'):WL P ops Q (⟨d,.store T x y,ty,pos,af,aE⟩::rest) n env w:=w_stA h i vs a e c k
theorem SH.pr(h:SH w0 M K w hp)(i j:Nat)(a:i≠j:=by decide):SH w0 M K w (bW (bW hp j .no) i (.two (hp i) (hp j))):=h.pair i j a
theorem SH.un{a c:Chunk}(h:SH w0 M K w hp)(i j:Nat)(e:hp i=.two a c)(d:hp j=.no)(b:i≠j:=by decide):SH w0 M K w (bW (bW hp i a) j c):=h.unpair i j b e d
end
open Go Go.RowKit Go.Proofs
theorem kR{L:BS}{w:ao}:bL L w w:=bL.refl L w
theorem dI{vs:List al}(e:vs.all Value.oneCell'=ar):∀v∈vs,v.oneCell'=true:=fun v h=>lr.1 e v h
section
variable{P:ca}{ops:Array ef}{Q:fh->Act->ao->Prop}{n:Nat}{env:Nat->al}{w:ao}{fuel:Nat}{listed:Array Bool}{L:BS}
theorem gW(h:∀ws,bL L ws w->XT P ops L ws Q fuel listed n env w):XT P ops L w Q fuel listed n env w:=h w (bL.refl _ _)
theorem nV(h:∀ws,Grow ws w->WH P ops ws Q fuel listed n env w):WH P ops w Q fuel listed n env w:=h w (bL.refl _ _)
end
section
variable{P:ca}{ops:Array ef}{Q:fh->Act->ao->Prop}{rest:List ef}{n:Nat}{env:Nat->al}{w w0:ao}{M K:BS}{hp:Nat->Chunk}{d:Option Nat}{ty:ba}{pos:String}{af:Array hH}{x:bo}{v:al}
theorem yU{f:fS}{first captured:Array al}{xs:Array bo}{i:Array ba}{args:List al}(h:SH w0 M K w hp)(a:SE P f)(b:ev n env x=.func (.func f) first captured)
  (c:first.toList++xs.toList.map (ev n env)++captured.toList=args) (j:bD P f args.toArray w (fun e w'=>Grow w w'/\e=.returned v)) (k:∀w',Grow w w'->SH w0 M K w' hp->WL P ops Q rest n (gG env d v) w'):
  WL P ops Q (⟨d,.call {callee:=.value x,args:=xs,argTypes:=i},ty,pos,af,aE⟩::rest) n env w:=
 cz a b c j (by rintro _ w' ⟨g,rfl⟩;exact⟨_,Z,k w' g (h.grow g)⟩)
theorem xM{α:Type}{R:lL α}{l:List α}{f:fS}{first captured:Array al}{xs:Array bo}{b:Array ba}{args:List al}{F:al->al}(h:SH w0 M K w hp)(i:Nat)(c:SE P f)(j:ev n env x=.func (.func f) first captured)
  (a:first.toList++xs.toList.map (ev n env)++captured.toList=args) (m:bD P f args.toArray w (fun e w'=>Grow w w'/\∃u,e=.returned (F u)/\dn R w' (SH.A M hp) u l)) (k:∀w' u,Grow w w'->SH w0 M K w' (bW hp i (.rd R u l))->WL P ops Q rest n (gG env d (F u)) w'):
  WL P ops Q (⟨d,.call {callee:=.value x,args:=xs,argTypes:=b},ty,pos,af,aE⟩::rest) n env w:=
 cz c j a m (by rintro _ w' ⟨g,u,rfl,g2⟩;exact⟨_,Z,k w' u g (h.Au i g g2)⟩)
theorem dJ{α:Type}{R:lL α}{E:ba}{l:List α}{f:fS}{first captured:Array al}{xs:Array bo}{j:Array ba}{args:List al}{F:al->al}(h:SH w0 M K w hp)(i:Nat)(m:SE P f)(o:ev n env x=.func (.func f) first captured)
  (c:first.toList++xs.toList.map (ev n env)++captured.toList=args) (p:bD P f args.toArray w (fun e w'=>Grow w w'/\∃u,e=.returned (F u)/\cO R E w' (SH.A M hp) u l/\(∀b,ob u b->w.heap.size<=b))) (k:∀w' u,Grow w w'->(∀b,ob u b->w.heap.size<=b)->SH w0 M K w' (bW hp i (.own R E u l))->WL P ops Q rest n (gG env d (F u)) w'):
  WL P ops Q (⟨d,.call {callee:=.value x,args:=xs,argTypes:=j},ty,pos,af,aE⟩::rest) n env w:=
 cz m o c p (by rintro _ w' ⟨g,u,rfl,g2,a⟩;exact⟨_,Z,k w' u g a (h.vO i g g2 a)⟩)
end
open Go Go.RowKit Go.Proofs
abbrev pT(b:Nat):Value:=.pointer (aj ⟨b,0,aE⟩)
abbrev nS:Value:=.slice aE 0 0
def fchk(P:ca)(f:fS):Bool:=match P.funcs[f]? with
 |some fn=> !(fn.name== "runtime.NumGoroutine")&& !fn.body.isNone
 |none=>aq
theorem fo{P:ca}{f:fS}(h:fchk P f=true:=by kernel_rfl):SE P f:=by
  unfold fchk at h;split at h
  · rename_i a e;simp only[cL,gk]at h;exact⟨a,e,h.1,h.2⟩
  · cases h
section
variable{P:ca}{ops:Array ef}{Q:fh->Act->ao->Prop}{n:Nat}{env:Nat->al}{w ws:ao}{d:Option Nat}{op:Op}{ty:ba}{pos:String}{af:Array hH}{fuel:Nat}{listed:Array Bool}{L:BS}
theorem aW(i:Nat)(b:ops[i]? =aj ⟨d,op,ty,pos,af,aE⟩)(h:WL P ops (UN P ops L ws Q fuel (listed.setIfInBounds i ar)) [⟨d,op,ty,pos,af,aE⟩] n env w)(a:cN .any ops listed=[i]:=by kernel_rfl):XT P ops L ws Q (fuel+1) listed n env w:=whk_eff i a b bz h
theorem uL(i:Nat)(b:ops[i]? =aj ⟨d,op,ty,pos,af,aE⟩)(h:WL P ops (after P ops ws Q fuel (listed.setIfInBounds i ar)) [⟨d,op,ty,pos,af,aE⟩] n env w)(a:cN .any ops listed=[i]:=by kernel_rfl):WH P ops ws Q (fuel+1) listed n env w:=wh_eff i a b bz h
theorem jd(h:Q .normal (act n env) w)(a:cN .any ops listed=[]:=by kernel_rfl):XT P ops L ws Q fuel listed n env w:=whk_done a h
theorem AO(h:Q .normal (act n env) w)(a:cN .any ops listed=[]:=by kernel_rfl):WH P ops ws Q fuel listed n env w:=wh_done a h
end
open Go Go.RowKit Go.Proofs
def zk{α:Type}(L:List (Int×α))(us:List al):List (Int×al):=(L.zip us).map fun p=>(p.1.1,p.2)
def U0{α:Type}(k:Int):List (Int×α)->Option Nat
  |[]=>aE
  |p::r=>if k=p.1 then aj 0 else(U0 k r).map (· +1)
def hkey{α:Type}(L:List (Int×α))(k:Int):Nat->Prop:=fun i=>U0 k L=aj i
section
variable{α:Type}{k:Int}
theorem PL(p:Int×α)(r:List (Int×α))(u:al)(us:List al):zk (p::r) (u::us)=(p.1,u)::zk r us:=rfl
theorem U1:∀{L:List (Int×α)} {us:List al} {z v:al} {a:α},us.length=L.length->U0 k L=aE->
    lk k L=aE/\QS z (zk L us) k=z/\NH (zk L us) k v=zk (L++[(k,a)]) (us++[v])/\yL k a L=L++[(k,a)]
  |[],us,z,v,a,h,_=>by
    cases us with
    |nil=>exact⟨rfl,rfl,rfl,rfl⟩
    |cons u us=>cases h
  |p::r,us,z,v,a,h,e=>by
    cases us with
    |nil=>cases h
    |cons u us=>
      unfold U0 at e;by_cases c:k=p.1
      · rw[if_pos c]at e;cases e
      · rw[if_neg c]at e;have d:U0 k r=none:=by
          cases q:U0 k r with
          |none=>rfl
          |some x=>rw[q]at e;cases e
        obtain⟨f,i,g,b⟩:=U1 (us:=us) (z:=z) (v:=v) (a:=a) (Nat.succ.inj h) d;refine⟨?_,?_,?_,?_⟩
        · unfold lk;rw[if_neg c];exact f
        · rw[PL];unfold QS;rw[if_neg c];exact i
        · rw[PL];unfold NH;rw[if_neg c,g];rfl
        · unfold yL;rw[if_neg c,b];rfl
theorem PM:∀{L:List (Int×α)} {us:List al} {z v:al} {a:α} {i:Nat},us.length=L.length->U0 k L=aj i->
    ∃x u,lk k L=aj x/\us[i]? =aj u/\(L.map du)[i]? =aj x/\QS z (zk L us) k=u/\NH (zk L us) k v=zk (yL k a L) (us.set i v)/\(yL k a L).map du=(L.map du).set i a
  |[],us,z,v,a,i,h,e=>by cases e
  |p::r,us,z,v,a,i,h,e=>by
    cases us with
    |nil=>cases h
    |cons u us=>
      unfold U0 at e;by_cases c:k=p.1
      · rw[if_pos c]at e;cases e;refine⟨p.2,u,?_,Z,Z,?_,?_,?_⟩
        · unfold lk;rw[if_pos c]
        · rw[PL];unfold QS;rw[if_pos c]
        · rw[PL];unfold NH yL;rw[if_pos c,if_pos c];rfl
        · unfold yL;rw[if_pos c];rfl
      · rw[if_neg c]at e;cases q:U0 k r with
        |none=>rw[q]at e;cases e
        |some j=>
          rw[q]at e;cases e;obtain⟨x,u',g,d,l,f,m,b⟩:=PM (us:=us) (z:=z) (v:=v) (a:=a) (Nat.succ.inj h) q;refine⟨x,u',?_,d,l,?_,?_,?_⟩
          · unfold lk;rw[if_neg c];exact g
          · rw[PL];unfold QS;rw[if_neg c];exact f
          · rw[PL];unfold NH yL;rw[if_neg c,if_neg c,m];rfl
          · unfold yL;rw[if_neg c];show p.2::_=_;rw[b];rfl
end
section
variable{β:Type}{R:lL β}{E:ba}{w0 w:ao}{M K:BS}{hp:Nat->Chunk}{L:List (Int×List β)}{us:List al}{k:Int}{u:al}{s:List β}
theorem U2(e:U0 k L=aE):hkey L k=hn:=by
 funext i;unfold hkey hn;rw[e];exact propext ⟨fun h=>(by cases h),fun h=>h.elim⟩
theorem SH.msLen(h:SH w0 M K w hp)(j:Nat){ho:Nat->Prop}(a:hp j=.eO (bP R E ho us (L.map du))):us.length=L.length:=by
 have:=(h.Xh j a).1;rw[cF]at this;exact this
theorem SH.msTake(h:SH w0 M K w hp)(j m:Nat)(k:Int)(b:hp j=.eO (bP R E hn us (L.map du)))(o:hp m=.no)(d:j≠m):
    ∃u,QS (.slice aE 0 0) (zk L us) k=u/\SH w0 M K w (bW (bW hp j (.eO (bP R E (hkey L k) us (L.map du)))) m (.own R E u ((lk k L).getD []))):=by
  have n:=h.msLen j b;cases e:U0 k L with
  |none=>
    obtain⟨g,c,-,-⟩:=U1 (z:=.slice aE 0 0) (v:=.slice aE 0 0) (a:=[]) n e;refine⟨.slice aE 0 0,c,?_⟩;rw[g,U2 e];have l:=h.AJ (R:=R) (E:=E) m;have f:bW hp j (.eO<|bP R E hn us<|L.map du)=hp:=by
      funext x;by_cases q:x=j
      · subst q;rw[cu];exact b.symm
      · rw[ek q]
    rw[f];exact l
  |some i=>
    obtain⟨x,u,g,c,l,f,-,-⟩:=PM (z:=.slice aE 0 0) (v:=.slice aE 0 0) (a:=[]) n e;refine⟨u,f,?_⟩;rw[g];exact h.famOpen j m b o d c l (fun h=>h) (hkey L k) (fun a=>by unfold hkey hn;rw[e];exact⟨fun h=>.inr (cM h).symm,fun h=>h.elim (fun h=>h.elim) (fun h=>by rw[h])⟩)
theorem SH.msBack(h:SH w0 M K w hp)(j m:Nat)(c:hp j=.eO (bP R E (hkey L k) us (L.map du)))(g:hp m=.own R E u ((lk k L).getD []))(b:j≠m)(l:QS (.slice aE 0 0) (zk L us) k=u):
    SH w0 M K w (bW (bW hp m .no) j (.eO (bP R E hn us (L.map du)))):=by
  have p:=h.msLen j c;cases e:U0 k L with
  |none=>
    rw[U2 e]at c;have f:=h.gV m;have d:bW (bW hp m .no) j (.eO<|bP R E hn us<|L.map du)=bW hp m .no:=by
      funext x;by_cases q:x=j
      · subst q;rw[cu,ek b];exact c.symm
      · rw[ek q]
    rw[d];exact f
  |some i=>
    obtain⟨x,u',o,n,f,d,-,-⟩:=PM (z:=.slice aE 0 0) (v:=.slice aE 0 0) (a:=[]) p e;rw[o]at g;rw[l]at d;have:=h.KI (k:=i) j m c g b (d▸n) e hn (fun a=>by unfold hkey hn;rw[e];exact⟨fun h=>.inr (cM h).symm,fun h=>h.elim (fun h=>h.elim) (fun h=>by rw[h])⟩) (fun h=>h);have q:(L.map du).set i ((aj x).getD [])=L.map Prod.snd:=BZ f;rw[q]at this;exact this
theorem SH.msPut(h:SH w0 M K w hp)(j m:Nat)(c:hp j=.eO (bP R E (hkey L k) us (L.map du)))(g:hp m=.own R E u s)(b:j≠m):
  ∃us',NH (zk L us) k u=zk (yL k s L) us'/\SH w0 M K w (bW (bW hp m .no) j (.eO (bP R E hn us' ((yL k s L).map du)))):=by
 have p:=h.msLen j c;cases e:U0 k L with
 |none=>
  rw[U2 e]at c;obtain⟨-,-,n,l⟩:=U1 (z:=.slice aE 0 0) (v:=u) (a:=s) p e;refine⟨us++[u],by rw[n,l],?_⟩;have f:=h.famNew m g;have d:=f.GK (us:=us) (ss:=L.map du) j m (by rw[ek b];exact c) (by rw[cu]) b;rw[Er]at d;rw[l,cG];exact d
 |some i=>
  have q:hkey L k=hat i:=by
   funext a;unfold hkey hat;rw[e];exact propext ⟨fun h=>(cM h).symm,fun h=>by rw[h]⟩
  rw[q]at c;obtain⟨x,u',y,r,n,-,f,d⟩:=PM (z:=.slice aE 0 0) (v:=u) (a:=s) p e;refine⟨us.set i u,f,?_⟩;have t:=h.famU j u c;have o:=t.KI (k:=i) (ho:=hat i) j m (by rw[cu]) (by rw[ek (Ne.symm b)];exact g) b (UW r) Z hn (fun a=>⟨fun h=>.inr h,fun h=>h.elim (fun h=>h.elim) id⟩) (fun h=>h);rw[d];rw[hupd_comm hp (.eO (bP R E (hat i) (us.set i u) (L.map du))) .no b,Er]at o;exact o
end
section
variable{P:ca}{w w0:ao}{M K:BS}{hp:Nat->Chunk}{d:Option Nat}{ty:ba}{pos:String}{af:Array hH}{g:Option (Nat×Bool)}{T:ba}{ρ:bo->al}
theorem r_lkS{x y:bo}{z:al}{b:Nat}{k:Int}{jO:List (Int×al)}{u:al}(h:SH w0 M K w hp)(i:Nat)(j:hp i=.mp b jO)(e:MapOf P T z)(f:ρ x=.map (aj b))(c:ρ y=.int .i64 k)(a:QS z jO k=u):
  (bl ρ ⟨d,.lookup T x y aq,ty,pos,af,g⟩).run P w=.ok (.value u) w:=by
 have:=Yf (d:=d) (ty:=ty) (pos:=pos) (af:=af) (g:=g) e f c<|h.mpAt i j;rw[a]at this;exact this
theorem w_mapUpdateG{ops:Array ef}{Q:fh->Act->ao->Prop}{n:Nat}{env:Nat->al}{rest:List ef}{v z:al}{x y u:bo}{b:Nat}{k:Int}{jO vC:List (Int×al)}(h:SH w0 M K w hp)(i:Nat)(c:hp i=.mp b jO)(m:MapOf P T z)(o:ev n env x=.map (aj b))(l:ev n env y=.int .i64 k)(e:ev n env u=v)(g:NH jO k v=vC)
  (j:∀w',SH w0 M K w' (bW hp i (.mp b vC))->bL (fun x=>x=b) w w'->WL P ops Q rest n (gG env d fO) w'):WL P ops Q (⟨d,.mapUpdate T x y u,ty,pos,af,aE⟩::rest) n env w:=
 SL m o l e (h.mpAt i c) fun w' a f=>j w' (h.mpSet i c a (g▸f)) a
end
open Go Go.RowKit Go.Proofs
structure Arr3(P:ca)(T E:ba):Prop where
  desc:P.underlying T=aj (.array 3 E)
  zero:∃z0 z1 z2,(P.info? T).map (·.zero)=aj (aj (.agg #[z0,z1,z2]))
  size:(P.info? E).map (·.size)=aj 1
  plain:P.underlying E=aj (.int .i64)
  key:P.plainKey E=ar
  cells:P.cellsOf E=1
  guard:P.eqGuardType P.depth T=aq
structure ArrA(P:ca)(T E:ba):Prop where
  desc:P.underlying T=aj (.array 3 E)
  size:(P.info? E).map (·.size)=aj 1
section
variable{P:ca}{w:ao}{d:Option Nat}{ty:ba}{pos:String}{af:Array hH}{g:Option (Nat×Bool)}{T:ba}{ρ:bo->al}
theorem r_build3{E:ba}{x y z:bo}{p q r:Int}(h:Arr3 P T E)(o:ρ x=.int .i64 p)(n:ρ y=.int .i64 q)(b:ρ z=.int .i64 r):(bl ρ ⟨d,.build T #[(0,x),(1,y),(2,z)],ty,pos,af,g⟩).run P w=.ok (.value (.agg #[.int .i64 p,.int .i64 q,.int .i64 r])) w:=by
 obtain⟨l,e,f,hz⟩:=h.zero;obtain⟨i,a,k⟩:∃i,P.info? T=aj i/\i.zero=aj (.agg #[l,e,f]):=by
  cases a:P.info? T with
  |none=>simp[a]at hz
  |some i=>simp[a]at hz;exact⟨i,Z,hz⟩
 obtain⟨j,s,m⟩:∃j,P.info? E=aj j/\j.size=1:=by
  have:=h.size;cases a:P.info? E with
  |none=>simp[a]at this
  |some i=>simp[a]at this;exact⟨i,Z,this⟩
 have c (p:Int):(dp .i64 p).cells= #[.int .i64 p]:=rfl;simp only[bl,Instr.build,o,n,b,underlying,zeroValue,typeInfo,sizeOf];have t:(rk #[l,e,f]).cells= #[l,e,f]:=rfl;simp[a,k,h.desc,s,m,Instr.fill,c,t,o,n,b]
theorem Bn{E:ba}{x y:bo}{b o k:Nat}(c:ArrA P T E)(e:k<3)(l:ρ x=.pointer (aj ⟨b,o,aE⟩))(f:ρ y=.int .i64 k):(bl ρ ⟨d,.indexAddr T x y,ty,pos,af,g⟩).run P w=.ok (.value (.pointer (aj ⟨b,o+k,aE⟩))) w:=by
 obtain⟨j,h,a⟩:∃j,P.info? E=aj j/\j.size=1:=by
  have:=c.size;cases hi:P.info? E with
  |none=>simp[hi]at this
  |some i=>simp[hi]at this;exact⟨i,Z,this⟩
 have m:((k:Int)<3):=by omega
 simp only[bl,Instr.indexAt,l,f,underlying,asIntOf,Instr.sureAddr,sizeOf,typeInfo];by_cases n:k=0<;>simp[c.desc,h,a,e,Addr.add,n]
theorem eq_arr3{E:ba}(d:Arr3 P T E)(a b c a' b' e:Int):(Op.equalIn 10000 T (.agg #[.int .i64 a,.int .i64 b,.int .i64 c]) (.agg #[.int .i64 a',.int .i64 b',.int .i64 e])).run P w=.ok (ab (a=a')&&(ab (b=b')&&ab (c=e))) w:=by
  obtain⟨j,f⟩:∃j,P.info? E=aj j:=by
    have:=d.size;cases hi:P.info? E with
    |none=>simp[hi]at this
    |some i=>exact⟨i,rfl⟩
  rw[show(10000:Nat)=9999+1 from rfl,run_equalIn_array w 9999 _ _ d.desc f,d.cells,show List.range 3=[0,1,2]from rfl];simp only[Op.eqItems,cv,Nat.zero_mul,Nat.one_mul,Nat.mul_one];rw[fN w d.key (xs:= #[.int .i64 a,.int .i64 b,.int .i64 c]) (off:=0) (v:=.int .i64 a) rfl];simp only[bp];rw[fN w d.key (xs:= #[.int .i64 a',.int .i64 b',.int .i64 e]) (off:=0) (v:=.int .i64 a') rfl];simp only[bp];rw[show(9999:Nat)=9998+1 from rfl,pa w 9998 E .i64 .i64 a a' d.plain];simp only[bp,Sem.run_ite,cv];by_cases h:a=a'
  · subst h;simp only[beq_self_eq_true,eo,cJ,if_false];rw[fN w d.key (xs:= #[.int .i64 a,.int .i64 b,.int .i64 c]) (off:=1) (v:=.int .i64 b) rfl];simp only[bp];rw[fN w d.key (xs:= #[.int .i64 a,.int .i64 b',.int .i64 e]) (off:=1) (v:=.int .i64 b') rfl];simp only[bp];rw[pa w 9998 E .i64 .i64 b b' d.plain];simp only[bp,Sem.run_ite,cv];by_cases h:b=b'
    · subst h;simp only[beq_self_eq_true,eo,cJ,if_false];rw[fN w d.key (xs:= #[.int .i64 a,.int .i64 b,.int .i64 c]) (off:=2) (v:=.int .i64 c) rfl];simp only[bp];rw[fN w d.key (xs:= #[.int .i64 a,.int .i64 b,.int .i64 e]) (off:=2) (v:=.int .i64 e) rfl];simp only[bp];rw[pa w 9998 E .i64 .i64 c e d.plain];by_cases h:c=e<;>simp[h]
    · simp[h]
  · simp[h]
theorem r_neq3{T2 E:ba}{x y:bo}{a b c a' b' e:Int}(f:Arr3 P T E)(i:ρ x=.agg #[.int .i64 a,.int .i64 b,.int .i64 c])(h:ρ y=.agg #[.int .i64 a',.int .i64 b',.int .i64 e]):(bl ρ ⟨d,.binOp .neq T x y T2,ty,pos,af,g⟩).run P w=.ok (.value (.bool (!(ab (a=a')&&(ab (b=b')&&ab (c=e)))))) w:=by
 simp only[bl,i,h,cv,run_eqGuard_agg w .neq T x y _ _ f.guard,bp,run_neq_struct,eq_arr3 f];simp
end
structure T3 where
 a:Int
 b:Int
 c:Int
deriving DecidableEq
def rT3:lL T3 where
 sz:=3
 rd w A cs x:=cs=[.int .i64 x.a,.int .i64 x.b,.int .i64 x.c]
 len:=by rintro w A cs x rfl;rfl
 one:=by rintro w A cs x rfl u hu;simp only[bn,dh,or_false]at hu;rcases hu with rfl|rfl|rfl<;>first|rfl
 pos:=by decide
 go:=fun h _ _ _=>h
end Go.LX
namespace Go.Proofs
set_option maxHeartbeats 1000000 in
set_option maxRecDepth 100000 in
theorem Tryz.stringslite_IndexByte(s:ByteArray)(c:Int)(w:ao):
  bD Tryz.prog 210 #[.string s,.int .u8 c] w fun e w'=>e=.returned (.int .i64 (kx s.data.toList c.toNat.toUInt8))/\w'=w:=by
 go_enter Tryz.func210,Tryz.ntmps210
 go_wp2
 rw[run_callFunc_extern Tryz.func225 zq2 zq2 zq2 (e:=Extern.BytealgIndexByte.indexByte) zq2,Lib.run_indexByteString];simp only[Result.andThen];rw[Oper.upon_value]
 go_wp2
 go_ret
 exact⟨Z,Z⟩
set_option maxHeartbeats 2000000 in
set_option maxRecDepth 100000 in
theorem Tryz.stringslite_Index_one(s:ByteArray)(c:UInt8)(w:ao):
    bD Tryz.prog 195 #[.string s,.string ⟨#[c]⟩] w fun e w'=>e=.returned (.int .i64 (kx s.data.toList c))/\w'=w:=by
  go_enter Tryz.func195,Tryz.ntmps195
  go_wp2_with (go_at_call 210;refine(Tryz.stringslite_IndexByte _ _ _).mono ?_;rintro e w'⟨rfl,rfl⟩)
  · have h:([c]==s.toList)=true:=by assumption
    go_ret
    refine⟨?_,Z⟩;have e:s.data.toList=[c]:=by rw[<-Lib.toList_data];exact(beq_iff_eq.1 h).symm
    rw[e];simp[kx]
  · go_ret
    exact⟨Z,Z⟩
set_option maxHeartbeats 1000000 in
theorem Tryz.strings_Index_one(s:ByteArray)(c:UInt8)(w:ao):
  bD Tryz.prog 178 #[.string s,.string ⟨#[c]⟩] w fun e w'=>e=.returned (.int .i64 (kx s.data.toList c))/\w'=w:=by
 go_enter Tryz.func178,Tryz.ntmps178
 go_wp2_with (go_at_call 195;refine(Tryz.stringslite_Index_one _ _ _).mono ?_;rintro e w'⟨rfl,rfl⟩)
 go_ret
 exact⟨Z,Z⟩
set_option maxHeartbeats 1000000 in
theorem Tryz.strings_Contains_one(s:ByteArray)(c:UInt8)(w:ao):
  bD Tryz.prog 188 #[.string s,.string ⟨#[c]⟩] w fun e w'=>e=.returned (.bool (ab (0<=kx s.data.toList c)))/\w'=w:=by
 go_enter Tryz.func188,Tryz.ntmps188
 go_wp2_with (go_at_call 178;refine(Tryz.strings_Index_one _ _ _).mono ?_;rintro e w'⟨rfl,rfl⟩)
 go_ret
 exact⟨Z,Z⟩
open Go.Shelf
def Tryz.lays146_ren:Go.Shelf.Ren:=⟨fun|146=>96|221=>145|268=>176|138=>177|143=>178|195=>197|197=>198|218=>199|219=>195|260=>215|217=>210|225=>211|224=>212|267=>213|266=>225|314=>226|n=>n,fun|9=>9|31=>173|3=>3|4=>4|0=>0|105=>293|21=>21|5=>5|46=>299|119=>242|139=>340|138=>339|146=>336|51=>277|n=>n,fun|1=>4|3=>5|4=>6|n=>n⟩
theorem Tryz.lays146:Go.Proofs.Lays.n146 Tryz.prog Tryz.lays146_ren:={
 mixed:=zq2
 f138:=Tryz.func177.trans (congrArg aj zq2)
 f143:=Tryz.func178.trans (congrArg aj zq2)
 f146:=Tryz.func96.trans (congrArg aj zq2)
 f195:=Tryz.func197.trans (congrArg aj zq2)
 f197:=Tryz.func198.trans (congrArg aj zq2)
 f217:=Tryz.func210.trans (congrArg aj zq2)
 f218:=Tryz.func199.trans (congrArg aj zq2)
 f219:=Tryz.func195.trans (congrArg aj zq2)
 f221:=Tryz.func145.trans (congrArg aj zq2)
 f224:=Tryz.func212.trans (congrArg aj zq2)
 f225:=Tryz.func211.trans (congrArg aj zq2)
 f260:=Tryz.func215.trans (congrArg aj zq2)
 f266:=Tryz.func225.trans (congrArg aj zq2)
 f267:=Tryz.func213.trans (congrArg aj zq2)
 f268:=Tryz.func176.trans (congrArg aj zq2)
 f314:=Tryz.func226.trans (congrArg aj zq2)
 t0:=Tryz.underlying0
 a0:=Tryz.isAgg0
 z0:=Tryz.sizeOf0
 v0:=Tryz.zeroValue0
 t3:=Tryz.underlying3
 a3:=Tryz.isAgg3
 z3:=Tryz.sizeOf3
 v3:=Tryz.zeroValue3
 t4:=Tryz.underlying4
 a4:=Tryz.isAgg4
 z4:=Tryz.sizeOf4
 v4:=Tryz.zeroValue4
 t5:=Tryz.underlying5
 a5:=Tryz.isAgg5
 z5:=Tryz.sizeOf5
 v5:=Tryz.zeroValue5
 t9:=Tryz.underlying9
 a9:=Tryz.isAgg9
 z9:=Tryz.sizeOf9
 v9:=Tryz.zeroValue9
 t21:=Tryz.underlying21
 a21:=Tryz.isAgg21
 z21:=Tryz.sizeOf21
 v21:=Tryz.zeroValue21
 t31:=Tryz.underlying173
 a31:=Tryz.isAgg173
 z31:=Tryz.sizeOf173
 v31:=Tryz.zeroValue173
 t46:=Tryz.underlying299
 a46:=Tryz.isAgg299
 z46:=Tryz.sizeOf299
 v46:=Tryz.zeroValue299
 t51:=Tryz.underlying277
 a51:=Tryz.isAgg277
 z51:=Tryz.sizeOf277
 v51:=Tryz.zeroValue277
 t105:=Tryz.underlying293
 a105:=Tryz.isAgg293
 z105:=Tryz.sizeOf293
 v105:=Tryz.zeroValue293
 t119:=Tryz.underlying242
 a119:=Tryz.isAgg242
 z119:=Tryz.sizeOf242
 t138:=Tryz.underlying339
 a138:=Tryz.isAgg339
 z138:=Tryz.sizeOf339
 v138:=Tryz.zeroValue339
 t139:=Tryz.underlying340
 a139:=Tryz.isAgg340
 z139:=Tryz.sizeOf340
 v139:=Tryz.zeroValue340
 t146:=Tryz.underlying336
 a146:=Tryz.isAgg336
 z146:=Tryz.sizeOf336
 v146:=Tryz.zeroValue336
 g1:=zq2
 g3:=zq2
 g4:=by kernel_rfl}
open Go.RowKit Go.Lib in
theorem Tryz.strings_Split(s a:ByteArray)(m:Int)(w:ao)(c:s.size<4294967281)(b:w.cell? ⟨4,0,aE⟩=aj (.int .i64 m))(d:1<=a.size):
 bD Tryz.prog 96 #[.string s,.string a] w fun e w'=>
  e=.returned (.slice (aj ⟨w.heap.size,0,aE⟩) (gd s a+1) (gd s a+1))/\w'=w.alloc (.cells ((Lib.splitB a 0 (gd s a) s).map lp).toArray 9):=Any.strings_Split Tryz.lays146 zq2 s a m w c b d
def Tryz.laysC172_ren:Go.Shelf.Ren:=⟨fun|172=>97|244=>146|245=>147|247=>179|279=>180|280=>181|281=>182|282=>183|287=>200|316=>201|171=>149|205=>202|321=>216|322=>217|243=>185|246=>203|283=>218|284=>219|285=>220|286=>221|129=>228|317=>227|318=>229|319=>230|320=>231|337=>232|338=>233|n=>n,fun|9=>9|3=>3|75=>176|76=>177|4=>4|5=>5|167=>267|37=>36|0=>0|85=>268|2=>2|168=>270|53=>296|175=>297|46=>299|210=>302|127=>317|145=>323|143=>321|21=>21|171=>324|173=>327|212=>342|51=>277|20=>20|213=>343|232=>346|233=>347|80=>180|n=>n,fun|15=>2|16=>3|17=>7|18=>8|19=>9|n=>n⟩
theorem Tryz.Yu:Go.Proofs.LaysC.n172 Tryz.prog Tryz.laysC172_ren:={
 mixed:=zq2
 f129:=Tryz.func228.trans (congrArg aj zq2)
 f171:=Tryz.func149.trans (congrArg aj zq2)
 f172:=Tryz.func97.trans (congrArg aj zq2)
 f205:=Tryz.func202.trans (congrArg aj zq2)
 f243:=Tryz.func185.trans (congrArg aj zq2)
 f244:=Tryz.func146.trans (congrArg aj zq2)
 f245:=Tryz.func147.trans (congrArg aj zq2)
 f246:=Tryz.func203.trans (congrArg aj zq2)
 f247:=Tryz.func179.trans (congrArg aj zq2)
 f279:=Tryz.func180.trans (congrArg aj zq2)
 f280:=Tryz.func181.trans (congrArg aj zq2)
 f281:=Tryz.func182.trans (congrArg aj zq2)
 f282:=Tryz.func183.trans (congrArg aj zq2)
 f283:=Tryz.func218.trans (congrArg aj zq2)
 f284:=Tryz.func219.trans (congrArg aj zq2)
 f285:=Tryz.func220.trans (congrArg aj zq2)
 f286:=Tryz.func221.trans (congrArg aj zq2)
 f287:=Tryz.func200.trans (congrArg aj zq2)
 f316:=Tryz.func201.trans (congrArg aj zq2)
 f317:=Tryz.func227.trans (congrArg aj zq2)
 f318:=Tryz.func229.trans (congrArg aj zq2)
 f319:=Tryz.func230.trans (congrArg aj zq2)
 f320:=Tryz.func231.trans (congrArg aj zq2)
 f321:=Tryz.func216.trans (congrArg aj zq2)
 f322:=Tryz.func217.trans (congrArg aj zq2)
 f337:=Tryz.func232.trans (congrArg aj zq2)
 f338:=Tryz.func233.trans (congrArg aj zq2)
 t0:=Tryz.underlying0
 a0:=Tryz.isAgg0
 z0:=Tryz.sizeOf0
 v0:=Tryz.zeroValue0
 t2:=Tryz.underlying2
 a2:=Tryz.isAgg2
 z2:=Tryz.sizeOf2
 v2:=Tryz.zeroValue2
 t3:=Tryz.underlying3
 a3:=Tryz.isAgg3
 z3:=Tryz.sizeOf3
 v3:=Tryz.zeroValue3
 t4:=Tryz.underlying4
 a4:=Tryz.isAgg4
 z4:=Tryz.sizeOf4
 v4:=Tryz.zeroValue4
 t5:=Tryz.underlying5
 a5:=Tryz.isAgg5
 z5:=Tryz.sizeOf5
 v5:=Tryz.zeroValue5
 t9:=Tryz.underlying9
 a9:=Tryz.isAgg9
 z9:=Tryz.sizeOf9
 v9:=Tryz.zeroValue9
 t20:=Tryz.underlying20
 a20:=Tryz.isAgg20
 z20:=Tryz.sizeOf20
 v20:=Tryz.zeroValue20
 t21:=Tryz.underlying21
 a21:=Tryz.isAgg21
 z21:=Tryz.sizeOf21
 v21:=Tryz.zeroValue21
 t37:=Tryz.underlying36
 a37:=Tryz.isAgg36
 z37:=Tryz.sizeOf36
 v37:=Tryz.zeroValue36
 t46:=Tryz.underlying299
 a46:=Tryz.isAgg299
 z46:=Tryz.sizeOf299
 v46:=Tryz.zeroValue299
 t51:=Tryz.underlying277
 a51:=Tryz.isAgg277
 z51:=Tryz.sizeOf277
 v51:=Tryz.zeroValue277
 t53:=Tryz.underlying296
 a53:=Tryz.isAgg296
 z53:=Tryz.sizeOf296
 v53:=Tryz.zeroValue296
 t75:=Tryz.underlying176
 a75:=Tryz.isAgg176
 z75:=Tryz.sizeOf176
 v75:=Tryz.zeroValue176
 t76:=Tryz.underlying177
 a76:=Tryz.isAgg177
 z76:=Tryz.sizeOf177
 v76:=Tryz.zeroValue177
 t85:=Tryz.underlying268
 a85:=Tryz.isAgg268
 z85:=Tryz.sizeOf268
 v85:=Tryz.zeroValue268
 t127:=Tryz.underlying317
 a127:=Tryz.isAgg317
 z127:=Tryz.sizeOf317
 v127:=Tryz.zeroValue317
 t143:=Tryz.underlying321
 a143:=Tryz.isAgg321
 z143:=Tryz.sizeOf321
 v143:=Tryz.zeroValue321
 t145:=Tryz.underlying323
 a145:=Tryz.isAgg323
 z145:=Tryz.sizeOf323
 v145:=Tryz.zeroValue323
 t167:=Tryz.underlying267
 a167:=Tryz.isAgg267
 z167:=Tryz.sizeOf267
 v167:=Tryz.zeroValue267
 t168:=Tryz.underlying270
 a168:=Tryz.isAgg270
 z168:=Tryz.sizeOf270
 v168:=Tryz.zeroValue270
 t171:=Tryz.underlying324
 a171:=Tryz.isAgg324
 z171:=Tryz.sizeOf324
 v171:=Tryz.zeroValue324
 t173:=Tryz.underlying327
 a173:=Tryz.isAgg327
 z173:=Tryz.sizeOf327
 v173:=Tryz.zeroValue327
 t175:=Tryz.underlying297
 a175:=Tryz.isAgg297
 z175:=Tryz.sizeOf297
 v175:=Tryz.zeroValue297
 t210:=Tryz.underlying302
 a210:=Tryz.isAgg302
 z210:=Tryz.sizeOf302
 v210:=Tryz.zeroValue302
 t212:=Tryz.underlying342
 a212:=Tryz.isAgg342
 z212:=Tryz.sizeOf342
 v212:=Tryz.zeroValue342
 t213:=Tryz.underlying343
 a213:=Tryz.isAgg343
 z213:=Tryz.sizeOf343
 t232:=Tryz.underlying346
 a232:=Tryz.isAgg346
 z232:=Tryz.sizeOf346
 v232:=Tryz.zeroValue346
 t233:=Tryz.underlying347
 a233:=Tryz.isAgg347
 z233:=Tryz.sizeOf347
 v233:=Tryz.zeroValue347
 g15:=zq2
 g16:=zq2
 g17:=zq2
 g18:=zq2
 g19:=zq2
 t80:=Tryz.underlying180
 a80:=Tryz.isAgg180
 z80:=Tryz.sizeOf180
 v80:=Tryz.zeroValue180
 i0:=zq2
 i2:=zq2
 i3:=zq2
 i4:=zq2
 i5:=zq2
 i9:=zq2
 i20:=zq2
 i21:=zq2
 i37:=zq2
 i46:=zq2
 i51:=zq2
 i53:=zq2
 i75:=zq2
 i76:=zq2
 i80:=zq2
 i85:=zq2
 i127:=zq2
 i143:=zq2
 i145:=zq2
 i167:=zq2
 i168:=zq2
 i171:=zq2
 i173:=zq2
 i175:=zq2
 i210:=zq2
 i212:=zq2
 i232:=zq2
 i233:=zq2
 m15:=zq2
 m16:=zq2
 m17:=zq2
 m18:=zq2
 m19:=zq2
 c0:=zq2
 c2:=zq2
 c3:=zq2
 c4:=zq2
 c5:=zq2
 c9:=zq2
 c20:=zq2
 c21:=zq2
 c37:=zq2
 c46:=zq2
 c51:=zq2
 c53:=zq2
 c75:=zq2
 c76:=zq2
 c80:=zq2
 c85:=zq2
 c127:=zq2
 c143:=zq2
 c145:=zq2
 c167:=zq2
 c168:=zq2
 c171:=zq2
 c173:=zq2
 c175:=zq2
 c210:=zq2
 c212:=zq2
 c213:=zq2
 c232:=zq2
 c233:=by kernel_rfl}
open Go.RowKit in
theorem Tryz.strconv_Atoi_ok(s:ByteArray)(a:s.size<=9223372036854775806)(v:Int)(h:ew s.data.toList=.ok v)(w:ao):
 bD Tryz.prog 97 #[.string s] w fun e w'=>e=.returned (.tuple #[.int .i64 v,.nilIface])/\(w'=w\/∃t,w'=Lib.bytesWorld w 5 t):=Any.strconv_Atoi_ok Tryz.Yu s a v h w
open Go.RowKit in
theorem Tryz.strconv_Atoi_syntax_var(s:ByteArray)(a:s.size<=281474976710656)(e:Lib.NumEnd Int)(h:ew s.data.toList=e)(d:∀v,e≠ .ok v)(f:e≠ .range)(c:ba)(p:al)(w:ao)(b:w.var? Tryz.prog "strconv.ErrSyntax" =aj #[.iface c p]):
 bD Tryz.prog 97 #[.string s] w fun e w'=>∃N,e=.returned (.tuple #[.int .i64 0,.iface 270 (.pointer (aj ⟨N,0,aE⟩))])/\w.heap.size<=N/\w'.heap[N]? =aj (.cells #[.string ⟨#[65,116,111,105]⟩,.string s,.iface c p] 302 (0,0))/\Below w.heap.size w w':=Any.strconv_Atoi_syntax_var Tryz.Yu s a (by cases e with|ok v=>exact absurd Z (d v)|range=>exact absurd Z f|_=>exact h) c p w b
open Go.RowKit in
theorem Tryz.strconv_Atoi_range_var(s:ByteArray)(a:s.size<=281474976710656)(h:ew s.data.toList=.range)(c:ba)(p:al)(w:ao)(b:w.var? Tryz.prog "strconv.ErrRange" =aj #[.iface c p]):
 bD Tryz.prog 97 #[.string s] w fun e w'=>∃N,e=.returned (.tuple #[.int .i64 (Lib.atoiSat s.data.toList),.iface 270 (.pointer (aj ⟨N,0,aE⟩))])/\w.heap.size<=N/\w'.heap[N]? =aj (.cells #[.string ⟨#[65,116,111,105]⟩,.string s,.iface c p] 302 (0,0))/\Below w.heap.size w w':=Any.strconv_Atoi_range_var Tryz.Yu s a h c p w b
def Tryz.laysM171_ren:Go.Shelf.Ren:=⟨fun|171=>149|243=>185|246=>203|283=>218|284=>219|285=>220|286=>221|129=>228|317=>227|318=>229|319=>230|320=>231|337=>232|338=>233|n=>n,fun|3=>3|9=>9|2=>2|4=>4|171=>324|0=>0|53=>296|37=>36|5=>5|173=>327|212=>342|51=>277|20=>20|213=>343|46=>299|232=>346|233=>347|n=>n,fun|17=>7|18=>8|19=>9|n=>n⟩
theorem Tryz.laysM171:Go.Proofs.LaysM.n171 Tryz.prog Tryz.laysM171_ren:={
 mixed:=zq2
 f129:=Tryz.func228.trans (congrArg aj zq2)
 f171:=Tryz.func149.trans (congrArg aj zq2)
 f243:=Tryz.func185.trans (congrArg aj zq2)
 f246:=Tryz.func203.trans (congrArg aj zq2)
 f283:=Tryz.func218.trans (congrArg aj zq2)
 f284:=Tryz.func219.trans (congrArg aj zq2)
 f285:=Tryz.func220.trans (congrArg aj zq2)
 f286:=Tryz.func221.trans (congrArg aj zq2)
 f317:=Tryz.func227.trans (congrArg aj zq2)
 f318:=Tryz.func229.trans (congrArg aj zq2)
 f319:=Tryz.func230.trans (congrArg aj zq2)
 f320:=Tryz.func231.trans (congrArg aj zq2)
 f337:=Tryz.func232.trans (congrArg aj zq2)
 f338:=Tryz.func233.trans (congrArg aj zq2)
 t0:=Tryz.underlying0
 a0:=Tryz.isAgg0
 z0:=Tryz.sizeOf0
 v0:=Tryz.zeroValue0
 t2:=Tryz.underlying2
 a2:=Tryz.isAgg2
 z2:=Tryz.sizeOf2
 v2:=Tryz.zeroValue2
 t3:=Tryz.underlying3
 a3:=Tryz.isAgg3
 z3:=Tryz.sizeOf3
 v3:=Tryz.zeroValue3
 t4:=Tryz.underlying4
 a4:=Tryz.isAgg4
 z4:=Tryz.sizeOf4
 v4:=Tryz.zeroValue4
 t5:=Tryz.underlying5
 a5:=Tryz.isAgg5
 z5:=Tryz.sizeOf5
 v5:=Tryz.zeroValue5
 t9:=Tryz.underlying9
 a9:=Tryz.isAgg9
 z9:=Tryz.sizeOf9
 v9:=Tryz.zeroValue9
 t20:=Tryz.underlying20
 a20:=Tryz.isAgg20
 z20:=Tryz.sizeOf20
 v20:=Tryz.zeroValue20
 t37:=Tryz.underlying36
 a37:=Tryz.isAgg36
 z37:=Tryz.sizeOf36
 v37:=Tryz.zeroValue36
 t46:=Tryz.underlying299
 a46:=Tryz.isAgg299
 z46:=Tryz.sizeOf299
 v46:=Tryz.zeroValue299
 t51:=Tryz.underlying277
 a51:=Tryz.isAgg277
 z51:=Tryz.sizeOf277
 v51:=Tryz.zeroValue277
 t53:=Tryz.underlying296
 a53:=Tryz.isAgg296
 z53:=Tryz.sizeOf296
 v53:=Tryz.zeroValue296
 t171:=Tryz.underlying324
 a171:=Tryz.isAgg324
 z171:=Tryz.sizeOf324
 v171:=Tryz.zeroValue324
 t173:=Tryz.underlying327
 a173:=Tryz.isAgg327
 z173:=Tryz.sizeOf327
 v173:=Tryz.zeroValue327
 t212:=Tryz.underlying342
 a212:=Tryz.isAgg342
 z212:=Tryz.sizeOf342
 v212:=Tryz.zeroValue342
 t213:=Tryz.underlying343
 a213:=Tryz.isAgg343
 z213:=Tryz.sizeOf343
 t232:=Tryz.underlying346
 a232:=Tryz.isAgg346
 z232:=Tryz.sizeOf346
 v232:=Tryz.zeroValue346
 t233:=Tryz.underlying347
 a233:=Tryz.isAgg347
 z233:=Tryz.sizeOf347
 v233:=Tryz.zeroValue347
 g17:=zq2
 g18:=zq2
 g19:=zq2
 i0:=zq2
 i2:=zq2
 i3:=zq2
 i4:=zq2
 i5:=zq2
 i9:=zq2
 i20:=zq2
 i37:=zq2
 i46:=zq2
 i51:=zq2
 i53:=zq2
 i171:=zq2
 i173:=zq2
 i212:=zq2
 i232:=zq2
 i233:=zq2
 m17:=zq2
 m18:=zq2
 m19:=by kernel_rfl}
open Go.RowKit Go.Sort Go.Lib in
theorem Tryz.strconv_Itoa(n:Int)(b: -9223372036854775808<=n)(c:n<=9223372036854775807)(w:ao)(a:oc Tryz.prog w "internal/strconv.uint64pow10" .u64 Lib.pow10Tab):
 bD Tryz.prog 149 #[.int .i64 n] w fun e w'=>e=.returned (.string ⟨(Lib.itoa n).toArray⟩)/\∃k os,w'=grow (w.drewN k) os:=Any.strconv_Itoa Tryz.laysM171 n b c w a
def Tryz.lays157_ren:Go.Shelf.Ren:=⟨fun|157=>107|229=>152|199=>153|261=>186|311=>204|312=>205|n=>n,fun|9=>9|31=>173|3=>3|5=>5|4=>4|119=>242|0=>0|40=>244|152=>274|21=>21|154=>276|51=>277|141=>279|196=>308|193=>305|198=>311|49=>309|194=>306|201=>314|226=>329|46=>299|227=>330|n=>n,fun|0=>0|6=>1|n=>n⟩
theorem Tryz.lays157:Go.Proofs.Lays.n157 Tryz.prog Tryz.lays157_ren:={
 mixed:=zq2
 f157:=Tryz.func107.trans (congrArg aj zq2)
 f199:=Tryz.func153.trans (congrArg aj zq2)
 f229:=Tryz.func152.trans (congrArg aj zq2)
 f261:=Tryz.func186.trans (congrArg aj zq2)
 f311:=Tryz.func204.trans (congrArg aj zq2)
 f312:=Tryz.func205.trans (congrArg aj zq2)
 t0:=Tryz.underlying0
 a0:=Tryz.isAgg0
 z0:=Tryz.sizeOf0
 v0:=Tryz.zeroValue0
 t3:=Tryz.underlying3
 a3:=Tryz.isAgg3
 z3:=Tryz.sizeOf3
 v3:=Tryz.zeroValue3
 t4:=Tryz.underlying4
 a4:=Tryz.isAgg4
 z4:=Tryz.sizeOf4
 v4:=Tryz.zeroValue4
 t5:=Tryz.underlying5
 a5:=Tryz.isAgg5
 z5:=Tryz.sizeOf5
 v5:=Tryz.zeroValue5
 t9:=Tryz.underlying9
 a9:=Tryz.isAgg9
 z9:=Tryz.sizeOf9
 v9:=Tryz.zeroValue9
 t21:=Tryz.underlying21
 a21:=Tryz.isAgg21
 z21:=Tryz.sizeOf21
 v21:=Tryz.zeroValue21
 t31:=Tryz.underlying173
 a31:=Tryz.isAgg173
 z31:=Tryz.sizeOf173
 v31:=Tryz.zeroValue173
 t40:=Tryz.underlying244
 a40:=Tryz.isAgg244
 z40:=Tryz.sizeOf244
 v40:=Tryz.zeroValue244
 t46:=Tryz.underlying299
 a46:=Tryz.isAgg299
 z46:=Tryz.sizeOf299
 v46:=Tryz.zeroValue299
 t49:=Tryz.underlying309
 a49:=Tryz.isAgg309
 z49:=Tryz.sizeOf309
 v49:=Tryz.zeroValue309
 t51:=Tryz.underlying277
 a51:=Tryz.isAgg277
 z51:=Tryz.sizeOf277
 v51:=Tryz.zeroValue277
 t119:=Tryz.underlying242
 a119:=Tryz.isAgg242
 z119:=Tryz.sizeOf242
 t141:=Tryz.underlying279
 a141:=Tryz.isAgg279
 z141:=Tryz.sizeOf279
 v141:=Tryz.zeroValue279
 t152:=Tryz.underlying274
 a152:=Tryz.isAgg274
 z152:=Tryz.sizeOf274
 v152:=Tryz.zeroValue274
 t154:=Tryz.underlying276
 a154:=Tryz.isAgg276
 z154:=Tryz.sizeOf276
 v154:=Tryz.zeroValue276
 t193:=Tryz.underlying305
 a193:=Tryz.isAgg305
 z193:=Tryz.sizeOf305
 v193:=Tryz.zeroValue305
 t194:=Tryz.underlying306
 a194:=Tryz.isAgg306
 z194:=Tryz.sizeOf306
 v194:=Tryz.zeroValue306
 t196:=Tryz.underlying308
 a196:=Tryz.isAgg308
 z196:=Tryz.sizeOf308
 v196:=Tryz.zeroValue308
 t198:=Tryz.underlying311
 a198:=Tryz.isAgg311
 z198:=Tryz.sizeOf311
 v198:=Tryz.zeroValue311
 t201:=Tryz.underlying314
 a201:=Tryz.isAgg314
 z201:=Tryz.sizeOf314
 v201:=Tryz.zeroValue314
 t226:=Tryz.underlying329
 a226:=Tryz.isAgg329
 z226:=Tryz.sizeOf329
 v226:=Tryz.zeroValue329
 t227:=Tryz.underlying330
 a227:=Tryz.isAgg330
 z227:=Tryz.sizeOf330
 v227:=Tryz.zeroValue330
 g0:=zq2
 g6:=by kernel_rfl}
open Go.RowKit Go.Lib in
theorem Tryz.strings_Fields(s:ByteArray)(w:ao)(d:s.size<4294967281)(a:∀(j:Nat) b,s.data.toList[j]? =aj b->b.toNat<128)(c:oc Tryz.prog w "strings.asciiSpace" .u8 rI):
 bD Tryz.prog 107 #[.string s] w fun e w'=>
  e=.returned (.slice (aj ⟨w.heap.size,0,aE⟩) (fg s.data.toList).length (fg s.data.toList).length)/\w'=w.alloc (.cells ((fg s.data.toList).map fun l=>lp ⟨l.toArray⟩).toArray 9):=Any.strings_Fields Tryz.lays157 zq2 zq2 s w d a c
def Tryz.Xo:Go.Shelf.Ren:=⟨fun|156=>157|165=>191|166=>192|169=>193|240=>207|241=>208|276=>222|277=>223|n=>n,fun|31=>173|9=>9|3=>3|4=>4|0=>0|20=>20|72=>287|76=>177|70=>285|37=>36|75=>176|127=>317|164=>331|5=>5|80=>180|n=>n,fun|n=>n⟩
theorem Tryz.lays156:Go.Proofs.Lays.n156 Tryz.prog Tryz.Xo:={
 mixed:=zq2
 f156:=Tryz.func157.trans (congrArg aj zq2)
 f165:=Tryz.func191.trans (congrArg aj zq2)
 f166:=Tryz.func192.trans (congrArg aj zq2)
 f169:=Tryz.func193.trans (congrArg aj zq2)
 f240:=Tryz.func207.trans (congrArg aj zq2)
 f241:=Tryz.func208.trans (congrArg aj zq2)
 f276:=Tryz.func222.trans (congrArg aj zq2)
 f277:=Tryz.func223.trans (congrArg aj zq2)
 t0:=Tryz.underlying0
 a0:=Tryz.isAgg0
 z0:=Tryz.sizeOf0
 v0:=Tryz.zeroValue0
 t3:=Tryz.underlying3
 a3:=Tryz.isAgg3
 z3:=Tryz.sizeOf3
 v3:=Tryz.zeroValue3
 t4:=Tryz.underlying4
 a4:=Tryz.isAgg4
 z4:=Tryz.sizeOf4
 v4:=Tryz.zeroValue4
 t9:=Tryz.underlying9
 a9:=Tryz.isAgg9
 z9:=Tryz.sizeOf9
 v9:=Tryz.zeroValue9
 t20:=Tryz.underlying20
 a20:=Tryz.isAgg20
 z20:=Tryz.sizeOf20
 v20:=Tryz.zeroValue20
 t31:=Tryz.underlying173
 a31:=Tryz.isAgg173
 z31:=Tryz.sizeOf173
 v31:=Tryz.zeroValue173
 t37:=Tryz.underlying36
 a37:=Tryz.isAgg36
 z37:=Tryz.sizeOf36
 v37:=Tryz.zeroValue36
 t70:=Tryz.underlying285
 a70:=Tryz.isAgg285
 z70:=Tryz.sizeOf285
 v70:=Tryz.zeroValue285
 t72:=Tryz.underlying287
 a72:=Tryz.isAgg287
 z72:=Tryz.sizeOf287
 v72:=Tryz.zeroValue287
 t75:=Tryz.underlying176
 a75:=Tryz.isAgg176
 z75:=Tryz.sizeOf176
 v75:=Tryz.zeroValue176
 t76:=Tryz.underlying177
 a76:=Tryz.isAgg177
 z76:=Tryz.sizeOf177
 v76:=Tryz.zeroValue177
 t127:=Tryz.underlying317
 a127:=Tryz.isAgg317
 z127:=Tryz.sizeOf317
 v127:=Tryz.zeroValue317
 t164:=Tryz.underlying331
 a164:=Tryz.isAgg331
 z164:=Tryz.sizeOf331
 v164:=Tryz.zeroValue331}
theorem Tryz.JJ:Builder.Extra Tryz.prog Tryz.Xo:={
 sizeBuilder:=zq2
 liesBuilder:=zq2
 t5:=Tryz.underlying5
 a5:=Tryz.isAgg5
 z5:=Tryz.sizeOf5
 v5:=Tryz.zeroValue5
 infoByte:=zq2
 cellsByte:=zq2
 sizeByte:=zq2
 neB5:=by decide}
open Go.RowKit in
theorem Tryz.strings_Join_none(a:Option Addr)(c:Nat)(b:ByteArray)(w:ao):
 bD Tryz.prog 157 #[.slice a 0 c,.string b] w fun e w'=>e=.returned (.string ⟨#[]⟩)/\w'=w:=Any.strings_Join_none Tryz.lays156 Tryz.JJ a c b w
open Go.RowKit in
theorem Tryz.strings_Join(g o c:Nat)(xs:List ByteArray)(a:ByteArray)(w:ao)(b:∀(j:Nat) x,xs[j]? =aj x->w.cell? ⟨g,o+j,aE⟩=aj (.string x))(h:g<w.heap.size)(hN:xs.length<=140737488355328)(f:xs.length<=c)(d:(Lib.join (xs.map (·.data.toList)) a.data.toList).length<=140737488355328):
    bD Tryz.prog 157 #[.slice (aj ⟨g,o,aE⟩) xs.length c,.string a] w fun e w'=>e=.returned (.string ⟨(Lib.join (xs.map (·.data.toList)) a.data.toList).toArray⟩)/\Below w.heap.size w w':=Any.strings_Join Tryz.lays156 Tryz.JJ g o c xs a w b h hN f d
def Tryz.lays145_ren:Go.Shelf.Ren:=⟨fun|145=>130|220=>171|219=>195|217=>210|225=>211|224=>212|267=>213|266=>225|314=>226|n=>n,fun|9=>9|4=>4|59=>217|3=>3|5=>5|46=>299|146=>336|51=>277|n=>n,fun|1=>4|n=>n⟩
theorem Tryz.lays145:Go.Proofs.Lays.n145 Tryz.prog Tryz.lays145_ren:={
 mixed:=zq2
 f145:=Tryz.func130.trans (congrArg aj zq2)
 f217:=Tryz.func210.trans (congrArg aj zq2)
 f219:=Tryz.func195.trans (congrArg aj zq2)
 f220:=Tryz.func171.trans (congrArg aj zq2)
 f224:=Tryz.func212.trans (congrArg aj zq2)
 f225:=Tryz.func211.trans (congrArg aj zq2)
 f266:=Tryz.func225.trans (congrArg aj zq2)
 f267:=Tryz.func213.trans (congrArg aj zq2)
 f314:=Tryz.func226.trans (congrArg aj zq2)
 t3:=Tryz.underlying3
 a3:=Tryz.isAgg3
 z3:=Tryz.sizeOf3
 v3:=Tryz.zeroValue3
 t4:=Tryz.underlying4
 a4:=Tryz.isAgg4
 z4:=Tryz.sizeOf4
 v4:=Tryz.zeroValue4
 t5:=Tryz.underlying5
 a5:=Tryz.isAgg5
 z5:=Tryz.sizeOf5
 v5:=Tryz.zeroValue5
 t9:=Tryz.underlying9
 a9:=Tryz.isAgg9
 z9:=Tryz.sizeOf9
 v9:=Tryz.zeroValue9
 t46:=Tryz.underlying299
 a46:=Tryz.isAgg299
 z46:=Tryz.sizeOf299
 v46:=Tryz.zeroValue299
 t51:=Tryz.underlying277
 a51:=Tryz.isAgg277
 z51:=Tryz.sizeOf277
 v51:=Tryz.zeroValue277
 t59:=Tryz.underlying217
 a59:=Tryz.isAgg217
 z59:=Tryz.sizeOf217
 v59:=Tryz.zeroValue217
 t146:=Tryz.underlying336
 a146:=Tryz.isAgg336
 z146:=Tryz.sizeOf336
 v146:=Tryz.zeroValue336
 g1:=by kernel_rfl}
open Go.RowKit Go.Lib in
theorem Tryz.strings_Cut(s a:ByteArray)(m:Int)(w:ao)(c:s.size<4294967281)(b:w.cell? ⟨4,0,aE⟩=aj (.int .i64 m)):
 bD Tryz.prog 130 #[.string s,.string a] w fun e w'=>e=.returned (.tuple #[.string ⟨(mR s.data.toList a.data.toList).1.toArray⟩,.string ⟨(mR s.data.toList a.data.toList).2.1.toArray⟩,.bool (mR s.data.toList a.data.toList).2.2])/\∃n,w'=w.drewN n:=Any.strings_Cut Tryz.lays145 s a m w c b
end Go.Proofs