/-
  What the law WorldKeeps needs of our own library and of the walks, no more.
-/
import Derived.Shelf.Strings.Builder1
import Derived.Laws.IdiomRangeMap
import Derived.Lib.FieldsLaws
import Derived.KernelRfl
import Derived.Test.YtodkbibbgakkdaaGreatDoorProg
import Derived.Lib.Slices
import Derived.Lib.Walk
import Derived.Shelf.Strings.OnBuilder
import Derived.Shelf.LaysM
import Derived.Shelf.Strconv.Itoa3
import Derived.Shelf.LaysC
import Derived.Shelf.Strconv.AtoiAll
import Derived.Shelf.Strconv.ErrVarAll
import Derived.Shelf.Strings.Cut
import Derived.Shelf.Strings.Split
import Derived.Shelf.Strings.Fields
import Derived.Shelf.Strings.BuilderX
import Derived.Test.YtodkbibbgakkdaaGreatDoorWorldKeepsTa
set_option linter.unusedSimpArgs false
set_option linter.unusedVariables false
set_option maxRecDepth 10000
namespace Go.LX
open Go.RowKit Go.Proofs
section
variable{P:Program}{ops:Array Oper}{Q:Exit->Act->World->Prop}{n:Nat}{env:Nat->Value}{w w' w0:World}{M K:BS}{hp:Nat->Chunk}{rest:List Oper}
 {d:Option Nat} {op:Op} {ty:TypeId} {pos:String} {af:Array Edge} {v:Value} {g:Option (Nat×Bool)} {T:TypeId} {ρ:Operand->Value} {x y:Operand} {i fuel:Nat} {listed:Array Bool}
theorem SH.pceAt{S:Pce}(h:SH w0 M K w hp)(i:Nat)(a:hp i=.eT S):S.P w (SH.A M hp):=by
 have:=h.ok i;rw[a]at this;exact this
theorem SH.K5{S S':Pce}(h:SH w0 M K w hp)(i:Nat)(c:hp i=.eT S)(f:S'.P w' (SH.A M hp))(d:bH S.own w w')(hn:∀b,S'.own b->b<w.heap.size->S.own b):SH w0 M K w' (bX hp i (.eT S')):=by
  refine h.step i d (fun b a _=>by rw[c];exact a) (fun b a e=>by rw[c];exact hn b a e) ?_;refine S'.go f (bH.refl BE w') (fun _ h=>h.elim) (fun _ h=>h.elim) fun b a _=>?_;rcases a with a|a|a
  · exact .inl<|.inl a
  · exact .inl<|.inr<|lg a
  · exact .inr a
end
open Go.RowKit Go.Proofs
structure Pq(α β:Type)where
 sz:Nat
 enc:α->Value->List Value
 sub:α->List β
 put:α->List β->α
 len:∀x u,(enc x u).length=sz
 one:∀x u,u.oneCell'=true->∀c∈enc x u,c.oneCell'=true
 pos:0<sz
 Q6:∀x s u,enc (put x s) u=enc x u
 Q7:∀x s,sub (put x s)=s
def Pq.raw{α β:Type}(N:Pq α β):kX (α×Value) where
 sz:=N.sz
 rd _ _ cs p:=cs=N.enc p.1 p.2/\p.2.oneCell'=true
 len:=by rintro w A cs x ⟨rfl,_⟩;exact N.len _ _
 one:=by rintro w A cs x ⟨rfl,h⟩;exact N.one _ _ h
 pos:=N.pos
 go:=fun h _ _ _=>h
def hn:Nat->Prop:=fun _=>False
def hat(k:Nat):Nat->Prop:=fun i=>i=k
def FV(ho:Nat->Prop)(us:List Value):BS:=fun b=>∃i u,us[i]? =some u/\¬ho i/\ob u b
def FamP{β:Type}(R:kX β)(E:TypeId)(ho:Nat->Prop)(us:List Value)(ss:List (List β))(w:World)(A:BS):Prop:=
 us.length=ss.length/\
 (∀i u s,us[i]? =some u->ss[i]? =some s->¬ho i->cO R E w (fun b=>A b\/FV ho us b) u s)/\
 (∀i j u v,i≠j->¬ho i->¬ho j->us[i]? =some u->us[j]? =some v->∀b,ob u b->¬ob v b)
theorem FamP.at{β:Type}{R:kX β}{E:TypeId}{ho:Nat->Prop}{us:List Value}{ss:List (List β)}{w:World}{A:BS}(h:FamP R E ho us ss w A){i:Nat}{u:Value}(a:us[i]? =some u):∃s,ss[i]? =some s:=by
  have:i<us.length:=by
    rcases Nat.lt_or_ge i us.length with h|h
    · exact h
    · rw[List.getElem?_eq_none h]at a;cases a
  exact⟨ss[i]'(h.1▸this),List.getElem?_eq_getElem _⟩
def bQ{β:Type}(R:kX β)(E:TypeId)(ho:Nat->Prop)(us:List Value)(ss:List (List β)):Pce where
  own:=FV ho us
  P w A:=FamP R E ho us ss w A
  lt:=by
    rintro w A b h⟨i,u,h1,h2,h3⟩;obtain⟨s,hs⟩:=h.at h1;exact(h.2.1 i u s h1 hs h2).lt b h3
  go:=by
    rintro w w' A A' K⟨h1,h2,h3⟩hk hK hKo hA;refine⟨h1,fun i u s hu hs hi=>(h2 i u s hu hs hi).go hk (fun b hb hl=>.inl<|hK b hb hl) (fun b hb ho=>hKo b hb ⟨i,u,hu,hi,ho⟩) fun b hb hl=>?_,h3⟩;rcases hb with hb|hb
    · exact .inl<|hA b hb hl
    · exact .inl<|.inr hb
section
variable{α β:Type}{N:Pq α β}{R:kX β}{E Es T:TypeId}{w0 w w':World}{M K A:BS}{hp:Nat->Chunk}{v u u':Value}{us us':List Value}{L L':List α}{ss ss':List (List β)}{s:List β}{x y:α}{k:Nat}{ho ho':Nat->Prop}
theorem JK(hp:Nat->Chunk)(i:Nat)(a c:Chunk):bX (bX hp i a) i c=bX hp i c:=by
  funext j;by_cases e:j=i
  · subst e;rw[dm,dm]
  · rw[fu e,fu e,fu e]
theorem SH.Zv(h:SH w0 M K w hp)(j:Nat)(a:hp j=.eT (bQ R E ho us ss)):FamP R E ho us ss w (SH.A M hp):=h.pceAt j a
theorem SH.jJ(h:SH w0 M K w hp)(j:Nat)(a:hp j=.eT (bQ R E ho us (L.map N.sub))):us.length=L.length:=by
 have:=(h.Zv j a).1;rw[List.length_map]at this;exact this
theorem gy(h:us.length=L.length):(L.zip us).length=L.length:=by rw[List.length_zip];omega
theorem gz(a:L[k]? =some x)(b:us[k]? =some u):(L.zip us)[k]? =some (x,u):=by
 rw[List.getElem?_zip_eq_some];exact⟨a,b⟩
theorem Wo(a:us[k]? =some u):(L.zip us).set k (y,u)=(L.set k y).zip us:=by
  apply List.ext_getElem?;intro i;rw[List.getElem?_set];by_cases e:k=i
  · subst e;rw[if_pos rfl];by_cases b:k<L.length
    · rw[gz (x:=y) (u:=u) (by rw[List.getElem?_set_self b]) a];have:k<us.length:=by
        rcases Nat.lt_or_ge k us.length with h|h
        · exact h
        · rw[List.getElem?_eq_none h]at a;cases a
      rw[if_pos (by rw[List.length_zip];omega)]
    · rw[if_neg (by rw[List.length_zip];omega),List.getElem?_eq_none (by rw[List.length_zip,List.length_set];omega)]
  · rw[if_neg e];simp only[List.zip_eq_zipWith,List.getElem?_zipWith,List.getElem?_set_ne e]
theorem Q8(a:L[k]? =some x):(L.zip us).set k (x,u)=L.zip (us.set k u):=by
  apply List.ext_getElem?;intro i;rw[List.getElem?_set];by_cases e:k=i
  · subst e;rw[if_pos rfl];by_cases b:k<us.length
    · rw[gz (x:=x) (u:=u) a (by rw[List.getElem?_set_self b])];have:k<L.length:=by
        rcases Nat.lt_or_ge k L.length with h|h
        · exact h
        · rw[List.getElem?_eq_none h]at a;cases a
      rw[if_pos (by rw[List.length_zip];omega)]
    · rw[if_neg (by rw[List.length_zip];omega),List.getElem?_eq_none (by rw[List.length_zip,List.length_set];omega)]
  · rw[if_neg e];simp only[List.zip_eq_zipWith,List.getElem?_zipWith,List.getElem?_set_ne e]
theorem Et(a:L[k]? =some y):L.set k y=L:=by
  apply List.ext_getElem?;intro i;rw[List.getElem?_set];by_cases e:k=i
  · subst e;by_cases b:k<L.length
    · rw[if_pos rfl,if_pos b,a]
    · rw[List.getElem?_eq_none V]at a;cases a
  · rw[if_neg e]
theorem ny{z:α}(a:L[k]? =some x):(L.set k z)[k]? =some z:=by
  rw[List.getElem?_set_self];rcases Nat.lt_or_ge k L.length with h|h
  · exact h
  · rw[List.getElem?_eq_none h]at a;cases a
theorem Zw(a:us[k]? =some u):(us.set k u')[k]? =some u':=ny a
theorem own_re{l b:List (α×Value)}(h:cO N.raw E w A v l)(d:b.length=l.length)(e:∀(i:Nat) (p a:α×Value),l[i]? =some p->b[i]? =some a->N.enc a.1 a.2=N.enc p.1 p.2/\a.2=p.2):cO N.raw E w A v b:=by
 obtain⟨xs,j,m⟩:=h;refine⟨xs,by rw[d];exact j,fun i c=>?_⟩;obtain⟨k,n⟩:=m i<|d▸c;obtain⟨g,f⟩:=e i _ _ (List.getElem?_eq_getElem<|d▸c)<|List.getElem?_eq_getElem c;exact⟨k.trans g.symm,by rw[f];exact n⟩
theorem SH.rawRe(h:SH w0 M K w hp)(i:Nat)(f:hp i=.own N.raw E v (L.zip us))(g:L[k]? =some x)(m:∀u,N.enc y u=N.enc x u):SH w0 M K w (bX hp i (.own N.raw E v ((L.set k y).zip us))):=by
  refine h.step i (bH.refl BE w) (fun _ h=>h.elim) (fun b d _=>by rw[f];exact d) ?_;have ho:=h.ok i;rw[f]at ho;refine Chunk.sub (O:=iG hp) (c:=.own N.raw E v ((L.set k y).zip us)) ?_ fun b d _=>?_
  · refine own_re ho (by rw[List.length_zip,List.length_zip,List.length_set]) fun i p q hp a=>?_;rw[List.getElem?_zip_eq_some]at hp a;rw[List.getElem?_set]at a;have l:=Option.some.inj<|hp.2.symm.trans a.2;by_cases e:k=i
    · subst e;have o:k<L.length:=by
        rcases Nat.lt_or_ge k L.length with h|h
        · exact h
        · rw[List.getElem?_eq_none h]at g;cases g
      rw[if_pos rfl,if_pos o]at a;have j:=Option.some.inj a.1;have n:=Option.some.inj<|g.symm.trans hp.1;rw[<-l,<-j,<-n];exact⟨m _,Z⟩
    · rw[if_neg e]at a;have j:=Option.some.inj<|hp.1.symm.trans a.1;rw[<-l,<-j];exact⟨Z,Z⟩
  · rcases d with d|d
    · exact lg d
    · exact⟨i,by rw[f];exact d⟩
theorem SH.famRe(h:SH w0 M K w hp)(j:Nat)(l:hp j=.eT (bQ R E ho us ss))(t:us'.length=ss'.length)(d:∀i,¬ho i->us'[i]? =us[i]? /\ss'[i]? =ss[i]?):SH w0 M K w (bX hp j (.eT (bQ R E ho us' ss'))):=by
 have n:=h.Zv j l;have a:∀b,FV ho us' b->FV ho us b:=fun b⟨i,u,q,m,o⟩=>⟨i,u,(d i m).1▸q,m,o⟩;refine h.K5 j l ?_ (bH.refl _ _) fun b k _=>a b k;refine⟨t,fun i u s g r c=>?_,fun i j u v f c e g p=>n.2.2 i j u v f c e ((d i c).1▸g) ((d j e).1▸p)⟩;refine(n.2.1 i u s ((d i c).1▸g) ((d i c).2▸r) c).go (bH.refl BE w) (fun _ h=>h.elim) (fun _ h=>h.elim) fun b k _=>.inl<|k.imp id<|a b
theorem SH.famL(h:SH w0 M K w hp)(j:Nat)(y:α)(a:hp j=.eT (bQ R E (hat k) us (L.map N.sub))):SH w0 M K w (bX hp j (.eT (bQ R E (hat k) us ((L.set k y).map N.sub)))):=by
  refine h.famRe j a ?_ fun i b=>⟨Z,?_⟩
  · rw[List.length_map,List.length_set];exact h.jJ j a
  · rw[List.map_set,List.getElem?_set_ne (fun e=>b e.symm)]
theorem SH.famOpen(h:SH w0 M K w hp)(j m:Nat)(B:hp j=.eT (bQ R E ho us ss))(C:hp m=.no)(n:j≠m)(d:us[k]? =some u)(I:ss[k]? =some s)(o:¬ho k)(ho':Nat->Prop)(g:∀i,ho' i↔ho i\/i=k):
    SH w0 M K w (bX (bX hp j (.eT (bQ R E ho' us ss))) m (.own R E u s)):=by
  have p:=h.Zv j B;have c:∀b,FV ho' us b->FV ho us b:=fun b⟨i,u,l,f,q⟩=>⟨i,u,l,fun h=>f ((g i).2<|.inl h),q⟩;have r:(Chunk.two (.eT<|bQ R E ho' us ss)<|.own R E u s).holds w M (SH.av hp j<|Chunk.two (.eT<|bQ R E ho' us ss)<|.own R E u s):=by
    refine⟨⟨p.1,fun i v t z G y=>?_,fun i j u v x y A d z=>p.2.2 i j u v x (fun h=>y ((g i).2<|.inl h)) (fun h=>A ((g j).2<|.inl h)) d z⟩,?_,?_⟩
    · refine(p.2.1 i v t z G fun h=>y ((g i).2<|.inl h)).go (bH.refl BE w) (fun _ h=>h.elim) (fun _ h=>h.elim) fun b a _=>.inl ?_;rcases a with(a|a|a)|a
      · exact .inl<|.inl a
      · exact .inl<|.inr<|lg a
      · rcases a with a|a
        · exact .inr<|c b a
        · exact .inr ⟨k,u,d,o,a⟩
      · exact .inr<|c b a
    · refine(p.2.1 k u s d I o).go (bH.refl BE w) (fun _ h=>h.elim) (fun _ h=>h.elim) fun b a _=>.inl ?_;rcases a with a|a|a
      · exact .inl<|.inl a
      · exact .inl<|.inr<|lg a
      · rcases a with a|a
        · exact .inr<|c b a
        · exact .inr ⟨k,u,d,o,a⟩
    · rintro b⟨i,v,l,f,q⟩a;exact p.2.2 i k v u (fun e=>f ((g i).2<|.inr e)) (fun h=>f ((g i).2<|.inl h)) o l d b q a
  have l:=h.step j (bH.refl BE w) (fun _ h=>h.elim) (fun b a _=>by
    rw[B];rcases a with a|a
    · exact c b a
    · exact⟨k,u,d,o,a⟩) r
  have f:=l.unpair j m n (dm _ _ _) (by rw[fu (Ne.symm n)];exact C);rw[JK]at f;exact f
theorem SH.Q9(h:SH w0 M K w hp)(j m:Nat)(X:hp j=.eT (bQ R E ho us ss))(Q:hp m=.own R E u s)(a0:j≠m)(x:us[k]? =some u)(hk:ho k)(ho':Nat->Prop)(h':∀i,ho i↔ho' i\/i=k)(O:¬ho' k):
    SH w0 M K w (bX (bX hp m .no) j (.eT (bQ R E ho' us (ss.set k s)))):=by
  have p:=h.pair j m a0;have d:∀i,¬ho' i->i=k\/¬ho i:=fun i z=>by
    by_cases e:i=k
    · exact .inl e
    · exact .inr fun h=>((h' i).1 h).elim z e
  have q:∀b,FV ho' us b->FV ho us b\/ob u b:=fun b⟨i,v,p,y,J⟩=>by
    rcases d i y with rfl|h4
    · rw[x]at p;cases p;exact .inr J
    · exact .inl ⟨i,v,p,h4,J⟩
  have T:∀b,FV ho us b\/ob u b->FV ho' us b:=fun b a=>by
    rcases a with⟨i,v,p,y,J⟩|a
    · exact⟨i,v,p,fun h=>y ((h' i).2<|.inl h),J⟩
    · exact⟨k,u,x,O,a⟩
  have o:=p.ok j;have P:bX (bX hp m .no) j (.two (hp j)<|hp m)=bX (bX hp m .no) j (.two (.eT<|bQ R E ho us ss)<|.own R E u s):=by rw[X,Q]
  rw[dm,X,Q]at o;have y:=p.step (c:=.eT (bQ R E ho' us (ss.set k s))) j (bH.refl BE w) (fun _ h=>h.elim) (fun b a _=>by
    rw[dm,X,Q];exact q b a) ?_
  · rw[JK]at y;exact y
  · rw[P];have hA:∀b,(M b\/SH.av (bX (bX hp m .no) j<|.two (.eT<|bQ R E ho us ss)<|.own R E u s) j (.eT<|bQ R E ho' us<|ss.set k s) b)\/FV ho' us b->(M b\/iG (bX (bX hp m .no) j<|.two (.eT<|bQ R E ho us ss)<|.own R E u s) b):=by
      have G:∀b,FV ho' us b->iG (bX (bX hp m .no) j (.two (.eT (bQ R E ho us ss)) (.own R E u s))) b:=fun b a=>⟨j,by rw[dm];exact q b a⟩;rintro b((a|a|a)|a)
      · exact .inl a
      · exact .inr<|lg a
      · exact .inr<|G b a
      · exact .inr<|G b a
    refine⟨by rw[List.length_set];exact o.1.1,fun i v t n N z=>?_,fun i l v v' C z B n g b a r=>?_⟩
    · by_cases e:i=k
      · subst e;rw[x]at n;cases n;have S:i<ss.length:=by
          obtain⟨s',I⟩:=o.1.at x;rcases Nat.lt_or_ge i ss.length with h|h
          · exact h
          · rw[List.getElem?_eq_none h]at I;cases I
        rw[List.getElem?_set_self S]at N;cases N;refine cO.go o.2.1 (bH.refl BE w) (fun _ h=>h.elim) (fun _ h=>h.elim) fun b a _=>.inl<|hA b a
      · rw[List.getElem?_set_ne (fun h=>e h.symm)]at N;have f:¬ho i:=(d i z).resolve_left e;refine(o.1.2.1 i v t n N f).go (bH.refl BE w) (fun _ h=>h.elim) (fun _ h=>h.elim) fun b a _=>.inl<|.inl<|hA b a
    · by_cases e:i=k
      · have L:l≠k:=fun h=>C<|e.trans h.symm;have f:¬ho l:=(d l B).resolve_left L;subst e;rw[x]at n;cases n;exact o.2.2 b ⟨l,v',g,f,r⟩ a
      · have f:¬ho i:=(d i z).resolve_left e;by_cases L:l=k
        · subst L;rw[x]at g;cases g;exact o.2.2 b ⟨i,v,n,f,a⟩ r
        · have A:¬ho l:=(d l B).resolve_left L;exact o.1.2.2 i l v v' C f A n g b a r
end
open Go.RowKit Go.Proofs
section
variable{α β:Type}{N:Pq α β}{R:kX β}{E Es T:TypeId}{w0 w w':World}{M K A:BS}{hp:Nat->Chunk}{v u u':Value}{us us' vv:List Value}{L L':List α}{ss ss' ss2:List (List β)}{s:List β}{x y:α}{k:Nat}{ho ho':Nat->Prop}
theorem K6{a:Type}{l:List a}{z:a}(h:l[k]? =some z):k<l.length:=by
  rcases Nat.lt_or_ge k l.length with h1|h1
  · exact h1
  · rw[List.getElem?_eq_none h1]at h;cases h
theorem SH.dnOpen(h:SH w0 M K w hp)(j m:Nat)(c:hp j=.eT (bQ R Es hn us (L.map N.sub)))(e:hp m=.no)(a:j≠m)(d:L[k]? =some x):
  ∃u,us[k]? =some u/\SH w0 M K w (bX (bX hp j (.eT (bQ R Es (hat k) us (L.map N.sub)))) m (.own R Es u (N.sub x))):=by
 have f:=h.jJ j c;have b:=K6 d;exact⟨us[k]'(f▸b),List.getElem?_eq_getElem _,h.famOpen j m c e a (List.getElem?_eq_getElem _) (by rw[List.getElem?_map,d];rfl) (fun h=>h) _ (fun i=>⟨.inr,fun h=>h.elim (fun h=>h.elim) id⟩)⟩
theorem SH.Ap(h:SH w0 M K w hp)(i j m:Nat)(y:α)(o:hp i=.own N.raw E v (L.zip us))(g:hp j=.eT (bQ R Es (hat k) us (L.map N.sub)))(q:hp m=.own R Es u s)(b:i≠j)(a:i≠m)(c:j≠m)(n:L[k]? =some x)(p:us[k]? =some u)(d:y=N.put x s):
  SH w0 M K w (bX (bX (bX hp m .no) j (.eT (bQ R Es hn us ((L.set k y).map N.sub)))) i (.own N.raw E v ((L.set k y).zip us))):=by
 have l:=h.Q9 j m g q c p Z hn (fun i=>⟨.inr,fun h=>h.elim (fun h=>h.elim) id⟩) fun h=>h;have f:=l.rawRe (N:=N) (x:=x) (y:=y) (k:=k) (E:=E) (v:=v) i (by rw[fu b,fu a];exact o) n (fun u=>by rw[d];exact N.Q6 _ _ _);have e:(L.map N.sub).set k s=(L.set k y).map N.sub:=by rw[List.map_set,d,N.Q7]
 rw[e]at f;exact f
theorem SH.lM(h:SH w0 M K w hp)(j m:Nat)(c:hp j=.eT (bQ R Es (hat k) us (L.map N.sub)))(l:hp m=.own R Es u s)(a:j≠m)(d:L[k]? =some x)(g:us[k]? =some u)(f:N.sub x=s):
  SH w0 M K w (bX (bX hp m .no) j (.eT (bQ R Es hn us (L.map N.sub)))):=by
 have b:=h.Q9 j m c l a g Z hn (fun i=>⟨.inr,fun h=>h.elim (fun h=>h.elim) id⟩) fun h=>h;have e:(L.map N.sub).set k s=L.map N.sub:=Et (by rw[List.getElem?_map,d,<-f];rfl);rw[e]at b;exact b
theorem SH.famNew(h:SH w0 M K w hp)(m:Nat)(k:hp m=.own R Es u s):SH w0 M K w (bX hp m (.eT (bQ R Es hn [u] [s]))):=by
  have ho:=h.ok m;rw[k]at ho;have a:∀b,FV hn [u] b->ob u b:=by
    rintro b⟨i,v,g,_,l⟩;cases i with
    |zero=>cases g;exact l
    |succ i=>cases g
  refine h.step m (bH.refl BE w) (fun _ h=>h.elim) (fun b c _=>by rw[k];exact a b c) ⟨Z,fun i v t d e _=>?_,fun i j v t f _ _ d e=>?_⟩
  · cases i with
    |succ i=>cases d
    |zero=>
      cases d;cases e;refine cO.go ho (bH.refl BE w) (fun _ h=>h.elim) (fun _ h=>h.elim) fun b c _=>?_;rcases c with(c|c|c)|c
      · exact .inl<|.inl c
      · exact .inl<|.inr<|lg c
      · exact .inr<|a b c
      · exact .inr<|a b c
  · cases i with
    |zero=>cases j with
      |zero=>exact absurd Z f
      |succ j=>cases e
    |succ i=>cases d
theorem SH.famNil(h:SH w0 M K w hp)(j:Nat):SH w0 M K w (bX hp j (.eT (bQ R Es hn [] []))):=
  h.learn j (bH.refl BE w) (by rintro b ⟨i,u,c,_⟩;cases c) (by
    refine⟨Z,?_,?_⟩
    · intro i v t a;cases a
    · intro i j v t _ _ _ a;cases a)
theorem SH.IG(h:SH w0 M K w hp)(j m:Nat)(B:hp j=.eT (bQ R Es hn us ss))(A:hp m=.eT (bQ R Es hn vv ss2))(x:j≠m):SH w0 M K w (bX (bX hp m .no) j (.eT (bQ R Es hn (us++vv) (ss++ss2)))):=by
  have f:=h.pair j m x;have l:=f.ok j;rw[B,A]at f;rw[dm,B,A]at l;have n:∀b,FV hn (us++vv) b->FV hn us b\/FV hn vv b:=by
    rintro b⟨i,v,f,_,o⟩;rw[List.getElem?_append]at f;split at f
    · exact .inl ⟨i,v,f,fun h=>h,o⟩
    · exact .inr ⟨_,v,f,fun h=>h,o⟩
  have z:∀b,FV hn us b\/FV hn vv b->FV hn (us++vv) b:=by
    rintro b(⟨i,v,f,_,o⟩|⟨i,v,f,_,o⟩)
    · exact⟨i,v,by rw[List.getElem?_append_left (K6 f)];exact f,fun h=>h,o⟩
    · exact⟨us.length+i,v,by rw[List.getElem?_append_right V,Nat.add_sub_cancel_left];exact f,fun h=>h,o⟩
  have E:=f.step (c:=.eT (bQ R Es hn (us++vv) (ss++ss2))) j (bH.refl BE w) (fun _ h=>h.elim) (fun b a _=>by rw[dm];exact n b a) ?_
  · rw[JK]at E;exact E
  · have C:∀b,(M b\/SH.av (bX (bX hp m .no) j<|.two (.eT<|bQ R Es hn us ss)<|.eT<|bQ R Es hn vv ss2) j (.eT<|bQ R Es hn (us++vv)<|ss++ss2) b)\/FV hn (us++vv) b->(M b\/iG (bX (bX hp m .no) j<|.two (.eT<|bQ R Es hn us ss)<|.eT<|bQ R Es hn vv ss2) b):=by
      have r:∀b,FV hn (us++vv) b->iG (bX (bX hp m .no) j (.two (.eT (bQ R Es hn us ss)) (.eT (bQ R Es hn vv ss2)))) b:=fun b a=>⟨j,by rw[dm];exact n b a⟩;rintro b((a|a|a)|a)
      · exact .inl a
      · exact .inr<|lg a
      · exact .inr<|r b a
      · exact .inr<|r b a
    have G:=l.1.1;have I:=l.2.1.1;refine⟨by simp only[List.length_append];omega,fun i v t e q _=>?_,fun i u v s y _ _ e d b a k=>?_⟩
    · rw[List.getElem?_append]at e q;by_cases p:i<us.length
      · rw[if_pos p]at e;rw[if_pos V]at q;exact(l.1.2.1 i v t e q fun h=>h).go (bH.refl BE w) (fun _ h=>h.elim) (fun _ h=>h.elim) fun b a _=>.inl<|.inl<|C b a
      · rw[if_neg p]at e;rw[if_neg V,<-G]at q;exact(l.2.1.2.1 _ v t e q fun h=>h).go (bH.refl BE w) (fun _ h=>h.elim) (fun _ h=>h.elim) fun b a _=>.inl<|.inl<|C b a
    · rw[List.getElem?_append]at e d;by_cases p:i<us.length
      · rw[if_pos p]at e;by_cases g:u<us.length
        · rw[if_pos g]at d;exact l.1.2.2 i u v s y (fun h=>h) (fun h=>h) e d b a k
        · rw[if_neg g]at d;exact l.2.2 b ⟨_,v,e,fun h=>h,a⟩ ⟨_,s,d,fun h=>h,k⟩
      · rw[if_neg p]at e;by_cases g:u<us.length
        · rw[if_pos g]at d;exact l.2.2 b ⟨_,s,d,fun h=>h,k⟩ ⟨_,v,e,fun h=>h,a⟩
        · rw[if_neg g]at d;exact l.2.1.2.2 _ _ v s V (fun h=>h) (fun h=>h) e d b a k
theorem SH.famTake(h:SH w0 M K w hp)(j n:Nat)(m:hp j=.eT (bQ R Es hn us (L.map N.sub))):SH w0 M K w (bX hp j (.eT (bQ R Es hn (us.take n) ((L.take n).map N.sub)))):=by
  have g:=h.Zv j m;have hat:∀(i:Nat) (u:Value),(us.take n)[i]? =some u->us[i]? =some u/\i<n:=fun i u a=>by
    rw[List.getElem?_take]at a;split at a
    · exact⟨a,by assumption⟩
    · cases a
  have c:∀b,FV hn (us.take n) b->FV hn us b:=fun b⟨i,u,t,p,o⟩=>⟨i,u,(hat i u t).1,p,o⟩;refine h.K5 j m ?_ (bH.refl _ _) fun b f _=>c b f;have q:=g.1;rw[List.length_map]at q;refine⟨by rw[List.length_take,List.length_map,List.length_take];omega,fun i u s a l e=>?_,fun i j u v d e k a r=>g.2.2 i j u v d e k (hat i u a).1 (hat j v r).1⟩;rw[List.map_take,List.getElem?_take,if_pos (hat i u a).2]at l;refine(g.2.1 i u s (hat i u a).1 l e).go (bH.refl BE w) (fun _ h=>h.elim) (fun _ h=>h.elim) fun b f _=>.inl<|f.imp id<|c b
theorem zip_take'(n:Nat):(L.zip us).take n=(L.take n).zip (us.take n):=by
 apply List.ext_getElem?;intro i;simp only[List.zip_eq_zipWith,List.getElem?_take,List.getElem?_zipWith];split<;>rfl
theorem II{a:List α}(h:us.length=L.length):(L.zip us)++(a.zip vv)=(L++a).zip (us++vv):=(List.zip_append h.symm).symm
theorem uF{P:Program}{ρ:Operand->Value}{d:Option Nat}{ty:TypeId}{pos:String}{af:Array Edge}{g:Option (Nat×Bool)}{a:Operand}{f:Nat}{B A:BS}{c:World}(i:SliceOf P T E f)(j:ρ a=v)(b:ed N.raw c B A v (L.zip us))(e:us.length=L.length):
  (execOp ρ ⟨d,.call {callee:=.builtin .len,args:= #[a],argTypes:= #[T]},ty,pos,af,g⟩).run P w=.ok (.value (.int .i64 L.length)) w:=by
 have h:=gG (P:=P) (w:=w) (d:=d) (ty:=ty) (pos:=pos) (af:=af) (g:=g) i j b;rw[gy e]at h;exact h
theorem SH.JM{R':kX α}(h:SH w0 M K w hp)(i j:Nat)(s:hp i=.own N.raw E v (L.zip us))(m:hp j=.eT (bQ R Es hn us (L.map N.sub)))(r:i≠j)(p:R'.sz=N.sz)(X:∀w A x u,cK R w A u (N.sub x)->R'.rd w A (N.enc x u) x):SH w0 M K w (bX (bX hp j .no) i (.rd R' v L)):=by
  have t:=h.jJ j m;have n:=h.pair i j r;have k:=n.apart i;have J:=n.apM i;have y:=n.ok i;rw[dm]at k J;rw[dm,s,m]at y;have C:=n.step (c:=.rd R' v L) i (bH.refl BE w) (fun _ h=>h.elim) (fun b f _=>f.elim) ?_
  · rw[JK]at C;exact C
  · have hno:∀b,(hp i).own' b\/(hp j).own' b->¬(M b\/SH.av (bX (bX hp j .no) i<|.two (hp i)<|hp j) i (.rd R' v L) b):=by
      intro b f g;rcases g with g|⟨q,l,g⟩|g
      · exact J b f g
      · exact k q (fun e=>l e.symm) b f g
      · exact g
    have I:∀b,(M b\/SH.av (bX (bX hp j .no) i<|.two (hp i)<|hp j) i (.rd R' v L) b)->M b\/iG (bX (bX hp j .no) i<|.two (.own N.raw E v<|L.zip us)<|.eT<|bQ R Es hn us<|L.map N.sub) b:=by
      rw[s,m];rintro b(f|f|f)
      · exact .inl f
      · exact .inr<|lg f
      · exact f.elim
    have hr:cK N.raw w (fun b=>M b\/SH.av (bX (bX hp j .no) i<|.two (hp i)<|hp j) i (.rd R' v L) b) v (L.zip us):=
      cO.rd y.1 (fun b f=>hno b (.inl (by rw[s];exact f))) (fun b f _=>.inl (I b f))
    obtain⟨a,cap,B,G,e3,e4,P⟩:=hr;rw[gy t]at B G;refine⟨a,cap,B,G,e3,e4,fun q l=>?_⟩;obtain⟨b,o,cells,d,S,T,q2,q3,z⟩:=P q (by rw[gy t];exact l);refine⟨b,o,cells,d,S,T,q2,q3,?_⟩;rw[p];have e6:(L.zip us)[q]'(by rw[gy t];exact l)=(L[q],us[q]'V):=by simp
    rw[e6]at z;obtain⟨Q,_⟩:=z;have O:((cells.toList.drop<|o+q*N.sz).take N.sz)=N.enc L[q] (us[q]'V):=Q;rw[O];refine X _ _ _ _ (cO.rd (y.2.1.2.1 q _ _ (List.getElem?_eq_getElem V) (by rw[List.getElem?_map,List.getElem?_eq_getElem l];rfl) (fun h=>h)) (fun b f=>hno b (.inr (by rw[m];exact⟨q,_,List.getElem?_eq_getElem V,fun h=>h,f⟩))) (fun b f _=>.inl (.inl (I b f))))
theorem SH.moveC(h:SH w0 M K w hp)(j i:Nat){c:Chunk}(r:hp j=c)(u:hp i=.no)(q:j≠i):SH w0 M K w (bX (bX hp j .no) i c):=by
  subst r;have f:∀x b,(bX (bX hp j .no) i (hp j) x).own' b->∃y,(hp y).own' b/\(x=i->y=j)/\(x≠i->y=x/\x≠j):=by
    intro x b a;by_cases e:x=i
    · subst e;rw[dm]at a;exact⟨j,a,fun _=>rfl,fun h=>absurd Z h⟩
    · rw[fu e]at a;by_cases d:x=j
      · subst d;rw[dm]at a;exact a.elim
      · rw[fu d]at a;exact⟨x,a,fun h=>absurd h e,fun _=>⟨Z,d⟩⟩
  have g:∀b,iG (bX (bX hp j .no) i<|hp j) b->iG hp b:=fun b⟨x,o⟩=>let ⟨y,k,_⟩:=f x b o;⟨y,k⟩;refine⟨h.keep,h.ltM,fun x b a=>let ⟨y,k,_⟩:=f x b a;h.apM y b k,fun x=>?_,fun x y l b o k=>?_,fun x b a=>let ⟨y,k,_⟩:=f x b a;h.old y b k⟩
  · by_cases e:x=i
    · subst e;rw[dm];exact Chunk.sub (h.ok j) fun b a _=>g b a
    · rw[fu e];by_cases d:x=j
      · subst d;rw[dm];trivial
      · rw[fu d];exact Chunk.sub (h.ok x) (fun b a _=>g b a)
  · obtain⟨x',s,t,m⟩:=f x b o;obtain⟨p,k1,k2,n⟩:=f y b k;have:x'≠p:=by
      by_cases e:x=i
      · have d:y≠i:=fun h=>l<|e.trans h.symm;rw[t e,(n d).1];exact fun h=>(n d).2 h.symm
      · by_cases d:y=i
        · rw[k2 d,(m e).1];exact(m e).2
        · rw[(m e).1,(n d).1];exact l
    exact h.apart x' p this b s k1
def dn(β:Type):Pq (List β) β where
 sz:=1
 enc _ u:=[u]
 sub x:=x
 put _ s:=s
 len _ _:=rfl
 one:=by intro x u h c hc;simp at hc;subst hc;exact h
 pos:=by decide
 Q6 _ _ _:=rfl
 Q7 _ _:=rfl
theorem Ra{R:kX β}:∀w A (x:List β) u,cK R w A u ((dn β).sub x)->(uE R).rd w A ((dn β).enc x u) x:=fun _ _ _ u h=>⟨u,rfl,h⟩
end
open Go.RowKit Go.Proofs
section
variable{P:Program}{w:World}{ρ:Operand->Value}{d:Option Nat}{ty:TypeId}{pos:String}{af:Array Edge}{g:Option (Nat×Bool)}{T:TypeId}{x y:Operand}
theorem SH.IJ{α β:Type}{N:Pq α β}{R:kX β}{E:TypeId}{w0:World}{M K:BS}{hp:Nat->Chunk}{u:Value}{s:List β}(h:SH w0 M K w hp)(m:Nat)(x:α)(b:hp m=.own R E u s)(a:N.sub x=s):SH w0 M K w (bX hp m (.eT (bQ R E hn [u] (List.map N.sub [x])))):=by
 subst a;exact h.famNew m b
theorem us_at{α:Type}{us:List Value}{L:List α}{k:Nat}{z:α}(h:us.length=L.length)(a:L[k]? =some z):∃u,us[k]? =some u:=by
 have:=K6 a;exact⟨us[k]'(h▸this),List.getElem?_eq_getElem _⟩
end
open Go.RowKit Go.Proofs
section
variable{α:Type}{R:kX α}{E:TypeId}{w0 w w':World}{M K:BS}{hp:Nat->Chunk}{C C':Chunk}{v:Value}{l:List α}
theorem qg:∀b,iG (bX hno 1 C) b->C.own' b:=by
  rintro b⟨j,a⟩;by_cases e:j=1
  · subst e;rw[dm]at a;exact a
  · rw[fu e]at a;exact a.elim
theorem iL{i:Nat}(hn:∀b,iG hp b->C.own' b):∀b,iG (bX hp i (.rd R v l)) b->C.own' b:=by
  rintro b⟨j,a⟩;by_cases e:j=i
  · subst e;rw[dm]at a;exact a.elim
  · rw[fu e]at a;exact hn b ⟨j,a⟩
theorem SH.jX(h:SH w M K w hp)(i:Nat)(ho:cK R w (fun b=>M b\/C.own' b) v l)(hn:∀b,iG hp b->C.own' b):SH w M K w (bX hp i (.rd R v l)):=
 h.aJ i (ho.sub (fun b a _=>a.imp id (hn b)) (fun b a _=>a.imp id (hn b)))
theorem SH.lendS(h:SH w0 M K w hp)(i:Nat)(a:hp i=C)(c:C.Q3):C.holds w (fun b=>M b\/rest hp i b) C.own'/\(∀b,C.own' b->¬(M b\/rest hp i b))/\(∀b,(M b\/rest hp i b)->b<w.heap.size):=by
 subst a;exact h.lendC i c
theorem SH.wQ(h:SH w0 M K w hp)(i j:Nat)(d:hp j=.rd R v l)(e:hp i=C):cK R w (fun b=>(M b\/rest hp i b)\/C.own' b) v l:=by
  have c:∀b,(M b\/rest hp i b)\/C.own' b->SH.A M hp b:=by
    rintro b((a|a)|a)
    · exact .inl a
    · exact .inr<|lg a
    · exact .inr ⟨i,by rw[e];exact a⟩
  exact(h.bK j d).sub (fun b a _=>c b a) fun b a _=>c b a
theorem SH.back(h:SH w0 M K w hp)(i:Nat)(d:hp i=C)(e:C'.Q3)(a:C'.holds w' (fun b=>M b\/rest hp i b) C'.own')(c:bH C.own' w w')(hn:∀b,C'.own' b->b<w.heap.size->C.own' b):SH w0 M K w' (bX hp i C'):=by
 subst d;exact h.givenC i e a c hn
theorem eZ{i:Nat}(h:cK R w (fun b=>(M b\/rest hp i b)\/C.own' b) v l):cK R w (SH.A M (bX hp i C)) v l:=by
  have a:∀b,SH.A M (bX hp i C) b->(M b\/rest hp i b)\/C.own' b:=by
    rintro b(c|⟨j,d⟩)
    · exact .inl<|.inl c
    · by_cases e:j=i
      · subst e;rw[dm]at d;exact .inr d
      · rw[fu e]at d;exact .inl (.inr ⟨j,e,d⟩)
  exact h.sub (fun b c _=>a b c) fun b c _=>a b c
theorem SH.bR(h:SH w0 M K w hp)(i j:Nat)(d:hp j=.rd R v l)(e:hp i=C):cK R w (fun b=>M b\/C.own' b) v l:=by
  have c:∀b,M b\/C.own' b->SH.A M hp b:=by
    rintro b(a|a)
    · exact .inl a
    · exact .inr ⟨i,by rw[e];exact a⟩
  exact(h.bK j d).sub (fun b a _=>c b a) fun b a _=>c b a
theorem SH.outS(h:SH w0 M K w hp)(i:Nat)(a:hp i=C)(c:C.Q3):C.holds w M C.own'/\bH K w0 w/\(∀b,C.own' b->b<w0.heap.size->K b):=h.outC i a c
end
section
variable{P:Program}{ops:Array Oper}{Q:Exit->Act->World->Prop}{n:Nat}{env:Nat->Value}{w:World}
theorem At.hold{w w':World}{L:BS}{b o:Nat}{cs:List Value}(h:At w b o cs)(e:bH L w w')(hn:¬L b):At w' b o cs:=by
 obtain⟨cells,E,a,c,d⟩:=h;exact⟨cells,E,a,e.blk c hn,d⟩
theorem fin4{g:Func}{R:Ending->World->Prop}{t u a c:Tmp}{v1 v2 v3 v4:Value}(m:g.results= #[.tmp t,.tmp u,.tmp a,.tmp c])(l:ev n env (.tmp t)=v1)(k:ev n env (.tmp u)=v2)(i:ev n env (.tmp a)=v3)(j:ev n env (.tmp c)=v4)(h:R (.returned (.tuple #[v1,v2,v3,v4])) w):bodyPost P g R .ret (act n env) w:=by
 refine⟨Z,_,?_,h⟩;have b:=congrFun (gJ n env)<|.tmp t;have d:=congrFun (gJ n env)<|.tmp u;have e:=congrFun (gJ n env)<|.tmp a;have f:=congrFun (gJ n env)<|.tmp c;rw[l]at b;rw[k]at d;rw[i]at e;rw[j]at f;simp only[Act.eval]at b d e f;rw[Array.getD_eq_getD_getElem?]at b d e f;unfold results;rw[m];simp[b,d,e,f]
end
structure Ins where
 op:Int
 a:Int
 b:Int
 c:Int
 args:List Int
deriving DecidableEq
def kW:kX Ins where
 sz:=5
 rd w A cs x:=∃Vn,cs=[.int .i64 x.op,.int .i64 x.a,.int .i64 x.b,.int .i64 x.c,Vn]/\cK di w A Vn x.args
 len:=by rintro w A cs x ⟨Vn,rfl,h0⟩;rfl
 one:=by rintro w A cs x ⟨Vn,rfl,h0⟩ u hu;simp only[List.mem_cons,List.not_mem_nil,or_false]at hu;rcases hu with rfl|rfl|rfl|rfl|rfl<;>first|rfl|exact h0.one
 pos:=by decide
 go:=by rintro w A cs x w2 A2 K ⟨Vn,rfl,h0⟩ hk hK hA;exact⟨_,Z,h0.go hk hK hA⟩
theorem JN{w:World}{A:BS}{cs:List Value}{x:Ins}(h:kW.rd w A cs x):∃d,cs=[.int .i64 x.op,.int .i64 x.a,.int .i64 x.b,.int .i64 x.c,d]/\cK di w A d x.args:=h
structure bP where
 params:Int
 regs:Int
 code:List Ins
deriving DecidableEq
def dM:kX bP where
 sz:=3
 rd w A cs x:=∃Vo,cs=[.int .i64 x.params,.int .i64 x.regs,Vo]/\cK kW w A Vo x.code
 len:=by rintro w A cs x ⟨Vo,rfl,h0⟩;rfl
 one:=by rintro w A cs x ⟨Vo,rfl,h0⟩ u hu;simp only[List.mem_cons,List.not_mem_nil,or_false]at hu;rcases hu with rfl|rfl|rfl<;>first|rfl|exact h0.one
 pos:=by decide
 go:=by rintro w A cs x w2 A2 K ⟨Vo,rfl,h0⟩ hk hK hA;exact⟨_,Z,h0.go hk hK hA⟩
theorem wz{w:World}{A:BS}{cs:List Value}{x:bP}(h:dM.rd w A cs x):∃a,cs=[.int .i64 x.params,.int .i64 x.regs,a]/\cK kW w A a x.code:=h
structure Frame where
 proc:Int
 at_:Int
 regs:List Val
 iX:Int
deriving DecidableEq
def jD:kX Frame where
 sz:=4
 rd w A cs x:=∃Vp,cs=[.int .i64 x.proc,.int .i64 x.at_,Vp,.int .i64 x.iX]/\cK bG w A Vp x.regs
 len:=by rintro w A cs x ⟨Vp,rfl,h0⟩;rfl
 one:=by rintro w A cs x ⟨Vp,rfl,h0⟩ u hu;simp only[List.mem_cons,List.not_mem_nil,or_false]at hu;rcases hu with rfl|rfl|rfl|rfl<;>first|rfl|exact h0.one
 pos:=by decide
 go:=by rintro w A cs x w2 A2 K ⟨Vp,rfl,h0⟩ hk hK hA;exact⟨_,Z,h0.go hk hK hA⟩
theorem Eu{w:World}{A:BS}{cs:List Value}{x:Frame}(h:jD.rd w A cs x):∃a,cs=[.int .i64 x.proc,.int .i64 x.at_,a,.int .i64 x.iX]/\cK bG w A a x.regs:=h
structure State where
 frames:List Frame
 cells:List (List Val)
 status:Int
 bO:Int
deriving DecidableEq
def JO:Pq bP Ins where
 sz:=3
 enc x u:=[.int .i64 x.params,.int .i64 x.regs,u]
 sub x:=x.code
 put x s:={x with code:=s}
 len _ _:=rfl
 one:=by intro x u h c hc;simp only[List.mem_cons,List.not_mem_nil,or_false]at hc;rcases hc with rfl|rfl|rfl<;>first|rfl|exact h
 pos:=by decide
 Q6 _ _ _:=rfl
 Q7 _ _:=rfl
theorem nProc_br:∀w A (x:bP) u,cK kW w A u (JO.sub x)->dM.rd w A (JO.enc x u) x:=fun _ _ _ u h=>⟨u,rfl,h⟩
def aS:Pq Frame Val where
 sz:=4
 enc x u:=[.int .i64 x.proc,.int .i64 x.at_,u,.int .i64 x.iX]
 sub x:=x.regs
 put x s:={x with regs:=s}
 len _ _:=rfl
 one:=by intro x u h c hc;simp only[List.mem_cons,List.not_mem_nil,or_false]at hc;rcases hc with rfl|rfl|rfl|rfl<;>first|rfl|exact h
 pos:=by decide
 Q6 _ _ _:=rfl
 Q7 _ _:=rfl
theorem JQ:∀w A (x:Frame) u,cK bG w A u (aS.sub x)->jD.rd w A (aS.enc x u) x:=fun _ _ _ u h=>⟨u,rfl,h⟩
open Go.RowKit Go.Proofs
section
variable{P:Program}{ops:Array Oper}{Q:Exit->Act->World->Prop}{n:Nat}{env:Nat->Value}{w w' w0:World}{M K:BS}{hp:Nat->Chunk}{rest:List Oper}
 {d:Option Nat} {op:Op} {ty:TypeId} {pos:String} {af:Array Edge} {v:Value} {g:Option (Nat×Bool)} {T:TypeId} {ρ:Operand->Value} {x y:Operand}
theorem fin_c{e:Func}{R:Ending->World->Prop}{a:Tmp}{T:TypeId}{zs vs:List Value}{b:Nat}(j:e.results= #[.cell a T])(f:ev n env (.tmp a)=.pointer (some ⟨b,0,none⟩))
  (m:SH w0 M K w hp) (i:Nat) (g:hp i=.blk b vs) (l:wo P T zs) (k:vs.length=zs.length) (h:R (.returned (.agg vs.toArray)) w):bodyPost P e R .ret (act n env) w:=by
 refine⟨Z,_,?_,h⟩;have c:=congrFun (gJ n env)<|.tmp a;rw[f]at c;simp only[Act.eval]at c;rw[Array.getD_eq_getD_getElem?]at c;have d:=BJ (P:=P) m g l k Z;unfold results;rw[j];simp[c,asAddr,d]
end
theorem cutS_free{c:UInt8}{s:Str}(h:c∉s)(a:s.length<4294967281):cutS s [c]=some (s,[],false):=by
  unfold cutS;rw[kM a];rcases idx1 c s with⟨h1,h2⟩|⟨x,r,h1,h2,h3⟩
  · unfold Lib.cut;rw[h1,if_neg zq1]
  · exact absurd (by rw[h1];simp) h
theorem cutS_hit{c:UInt8}{x r:Str}(h:c∉x)(a:(x++c::r).length<4294967281):cutS (x++c::r) [c]=some (x,r,true):=by
  unfold cutS;rw[kM a];rcases idx1 c (x++c::r)with⟨h1,h2⟩|⟨y,q,h1,h2,h3⟩
  · exact absurd zq3 h2
  · have e:x=y/\r=q:=by
      have k1:=AJ (r:=r) h;have k2:=AJ (r:=q) h2;rw[<-h1,k1]at k2;injection k2 with k2 k3;subst k2;refine⟨Z,?_⟩;have:=List.append_cancel_left h1;injection this
    obtain⟨rfl,rfl⟩:=e;unfold Lib.cut;rw[h3,if_pos V];simp only[Int.toNat_natCast];rw[List.take_left,show x.length+[c].length=(x++[c]).length by simp,show x++c::r=(x++[c])++r by simp,List.drop_left]
theorem splitC_cons{c:UInt8}{s x y:Str}{l:List Str}(h:jC c s=x::y::l):∃r,s=x++c::r/\jC c r=y::l/\c∉x:=by
 have b:=(Dr c s x (by rw[h];exact List.mem_cons_self)).2;have a:=Be c s;rw[h,yn]at a;refine⟨vo c<|y::l,a.symm,?_,b⟩;rw[<-a,AJ b]at h;injection h
theorem YY{c:UInt8}{s x:Str}(h:jC c s=[x]):s=x/\c∉x:=by
 have b:=(Dr c s x (by rw[h];exact List.mem_cons_self)).2;have a:=Be c s;rw[h,Bd]at a;exact⟨a.symm,b⟩
open Go.RowKit Go.Proofs
def RngP{α:Type}(f:α->Value)(m r:Nat)(c:Option (Int×α))(left:List (Int×α))(w:World):Prop:=
 m≠r/\∃d a b,w.heap[m]? =some (.map d a)/\KV d a/\w.heap[r]? =some (.mapIter (some m) a b a)/\
  (leftOf d b).toList.map (fun e=>(e.key,e.val))=left.map (fun p=>(Value.int .i64 p.1,f p.2))/\
  ∀p,c=some p->∃e∈d.toList,b.back?=some e.born/\e.key=.int .i64 p.1/\e.val=f p.2
def YZ{α:Type}(f:α->Value)(m r:Nat)(last:Option (Int×α))(left:List (Int×α)):Pce where
  own x:=x=m\/x=r
  P w _:=RngP f m r last left w
  lt:=by
    rintro w A x⟨_,es,clock,seen,h1,_,h2,_⟩(rfl|rfl)
    · exact iF h1
    · exact iF h2
  go:=by
    rintro w w' A A' K⟨h0,es,clock,seen,h1,h2,h3,h4⟩hk hK hKo hA;exact⟨h0,es,clock,seen,hk.blk h1 fun h=>hKo m h<|.inl Z,h2,hk.blk h3 fun h=>hKo r h<|.inr Z,h4⟩
section
variable{P:Program}{ops:Array Oper}{Q:Exit->Act->World->Prop}{n:Nat}{env:Nat->Value}{w w' w0:World}{M K:BS}{hp:Nat->Chunk}{rest:List Oper}
 {d:Option Nat} {op:Op} {ty:TypeId} {pos:String} {af:Array Edge} {v:Value} {g:Option (Nat×Bool)} {T:TypeId} {ρ:Operand->Value} {x y:Operand} {α:Type} {f:α->Value}
theorem w_range{z:Value}{m:Nat}{jW:List (Int×Value)}(l:List (Int×α))(h:SH w0 M K w hp)(i:Nat)(t:hp i=.mp m jW)(C:MapOf P T z)(y:ev n env x=.map (some m))(A:jW=l.map fun p=>(p.1,f p.2))
    (k:∀w' r,SH w0 M K w' (bX hp i (.eT (YZ f m r none l)))->WL P ops Q rest n (gq env d (.pointer (some ⟨r,0,none⟩))) w'):WL P ops Q (⟨d,.range T x,ty,pos,af,none⟩::rest) n env w:=by
  obtain⟨u,E,B,I,G⟩:=C.desc;obtain⟨e,a,o,q,s⟩:=h.mpAt i t;have c:(execOp (ev n env) ⟨d,.range T x,ty,pos,af,none⟩).run P w=.ok (.value<|.pointer<|some ⟨w.heap.size,0,none⟩) (w.alloc<|.mapIter (some m) a #[] a):=by
    simp only[execOp,y];simp[run_range_map w T u E m e a B o]
  refine F c<|k _ _ ?_;have j:=iF o;refine h.step i (N:=BE) (Grow.alloc _ _) (fun _ h=>h.elim) (fun b g v=>?_) ?_
  · rw[t];rcases g with rfl|rfl
    · rfl
    · exact absurd v<|Nat.lt_irrefl _
  · refine⟨Nat.ne_of_lt j,e,a,#[],by rw[(Grow.alloc _ _).blk o],s,heap_alloc_new _ _,?_,fun p h=>by cases h⟩;have:leftOf e #[]=e:=by unfold leftOf;exact Array.filter_eq_self.2 (fun x _=>by simp)
    rw[this,q,A,List.map_map];rfl
theorem VF{r:Nat}{a:Option Nat}{s c:Nat}{b:Array Nat}(o:Obj)(d:w.heap[r]? =some (.mapIter a s b c)):(setObj r o).run P w=.ok () (vV w r o):=by
 simp only[setObj,Sem.run,d];rfl
theorem run_next_any(ty:TypeId){m r a:Nat}{f:Array MapEntry}{b:Array Nat}(v:w.heap[m]? =some (.map f a))(s:w.heap[r]? =some (.mapIter (some m) a b a))(k:∀e∈f.toList,e.born<a):
    ((leftOf f b).size=0/\(Instr.next (.pointer (some ⟨r,0,none⟩)) false ty).run P w=.ok (.tuple #[.bool false]) w)\/
    ∃e∈(leftOf f b).toList,∃d:World,(d=w\/d=w.drew)/\(Instr.next (.pointer (some ⟨r,0,none⟩)) false ty).run P w=.ok (.tuple #[.bool true,e.key,e.val]) (vV d r (.mapIter (some m) a (b.push e.born) a)):=by
  have o:(getObj r).run P w=.ok (.mapIter (some m) a b a) w:=by simp[getObj,Sem.run,s]
  have p:(getObj m).run P w=.ok (.map f a) w:=by simp[getObj,Sem.run,v]
  simp only[Instr.next,Sem.run_bind,o,p,Result.andThen_ok,next_test_false b f a a k (Nat.le_refl _),Bool.false_eq_true,if_false];unfold leftOf;have c:∀x∈(Array.filter (fun e=> !b.contains e.born) f).toList,x.born<a:=fun x g=>k x (by simp at g⊢;exact g.1);generalize Array.filter (fun e=> !b.contains e.born) f=L at c⊢;have y:L.filter (fun x=>decide<|x.born<a)=L:=Array.filter_eq_self.2 (fun x g=>by simpa using c x (by simpa using g));have z:L.filter (fun x=>decide<|x.born≥a)= #[]:=by
    rw[Array.filter_eq_empty_iff];intro x g;have:=c x (by simpa using g);simp;omega
  simp only[y,z,Array.append_empty];by_cases u:L.size=0
  · left;have:L= #[]:=Array.eq_empty_of_size_eq_zero u;subst this;refine⟨Z,?_⟩;simp[choose,Sem.run,Question.forced]
  · right;have n:L.isEmpty=false:=by simp[Array.isEmpty,u]
    simp only[n,Bool.false_eq_true,if_false,Array.empty_append,Array.size_map];have l:∃(j:Nat) (d:World),j<L.size/\(d=w\/d=w.drew)/\(choose<|Question.mapNext L.size).run P w=.ok j d:=by
      by_cases t:L.size<=1
      · exact⟨0,w,by omega,.inl Z,by simp[choose,Sem.run,Question.forced,t]⟩
      · exact⟨_,w.drew,Nat.mod_lt _ V,.inr Z,by
          simp only[choose,Sem.run,Question.forced,decide_eq_true_eq,t,if_false,Question.cut];rfl⟩
    obtain⟨j,d,A,h,i⟩:=l;refine⟨L[j],by simp,d,h,?_⟩;have q:d.heap[r]? =some (.mapIter (some m) a b a):=by rcases h with rfl|rfl<;>exact s
    simp only[i,Array.getElem?_map,Array.getElem?_eq_getElem A,Option.map_some,Sem.run_bind,VF _ q,Result.andThen_ok];rfl
theorem leftOf_push(c:Array MapEntry)(a:Array Nat)(b:Nat):(leftOf c (a.push b)).toList=(leftOf c a).toList.filter (fun x=>x.born !=b):=by
 unfold leftOf;rw[Array.toList_filter,Array.toList_filter,List.filter_filter];apply List.filter_congr;intro x _;have:(a.push b).contains x.born=(a.contains x.born||(x.born==b)):=by
  rw[Bool.eq_iff_iff];simp[Array.contains_iff_mem]
 rw[this];cases a.contains x.born<;>cases hq:(x.born==b)<;>simp[bne,hq]
theorem w_next{m r:Nat}{y:Option (Int×α)}{left:List (Int×α)}(h:SH w0 M K w hp)(i:Nat)(R:hp i=.eT (YZ f m r y left))(k:ev n env x=.pointer (some ⟨r,0,none⟩))
    (k0:left=[]->WL P ops Q rest n (gq env d (.tuple #[.bool false])) w)
    (k1:∀p g w',left.Perm (p::g)->SH w0 M K w' (bX hp i (.eT (YZ f m r (some p) g)))->WL P ops Q rest n (gq env d (.tuple #[.bool true,.int .i64 p.1,f p.2])) w'):
    WL P ops Q (⟨d,.next x false,ty,pos,af,none⟩::rest) n env w:=by
  have O:=h.ok i;rw[R]at O;obtain⟨s,q,a,c,J,I,N,C,h5⟩:=O;rcases run_next_any (P:=P) ty J N I.1 with⟨g1,g2⟩|⟨e,he,w1,hw1,g2⟩
  · have hl:left=[]:=by
      have:(leftOf q c).toList=[]:=List.eq_nil_of_length_eq_zero (by simpa using g1);rw[this]at C;cases left with
      |nil=>rfl
      |cons p l=>cases C
    refine F (v:=.tuple #[.bool false]) (w':=w) ?_<|k0 hl;simp only[execOp,k];simp[g2]
  · obtain⟨A,B,o⟩:=List.append_of_mem he;rw[o,List.map_append,List.map_cons]at C;obtain⟨S,l2,rfl,q1,q2⟩:=List.map_eq_append_iff.1 C.symm;obtain⟨p,T,rfl,z,X⟩:=List.map_eq_cons_iff.1 q2;simp only[Prod.mk.injEq]at z;have u:=iF N;have j:Grow w w1:=by
      rcases hw1 with rfl|rfl
      · exact bH.refl _ _
      · exact⟨Z,Z,Z,Nat.le_refl _,fun _ _ _=>rfl⟩
    have hk:bH (fun x=>x=m\/x=r) w (vV w1 r<|.mapIter (some m) a (c.push e.born) a):=bH.step (j.weaken fun _ h _=>h.elim) (bH.vV _ _ _) fun x k _=>.inr k;have E:(vV w1 r<|.mapIter (some m) a (c.push e.born) a).heap[m]? =some (.map q a):=by
      rw[(bH.vV w1 r _).block m s (Nat.lt_of_lt_of_le (iF J) j.size),j.blk J]
    refine F (v:=.tuple #[.bool true,.int .i64 p.1,f p.2]) (w':=vV w1 r<|.mapIter (some m) a (c.push e.born) a) ?_<|k1 p (S++T) _ (List.perm_middle) ?_
    · rw[z.1,z.2];simp only[execOp,k];simp[g2]
    · refine h.K5 (S':=YZ f m r (some p)<|S++T) i R ?_ hk fun b hb _=>hb;refine⟨s,q,a,c.push e.born,E,I,uX<|Nat.lt_of_lt_of_le u j.size,?_,fun p' G=>?_⟩
      · rw[leftOf_push,o];have t:((leftOf q c).toList.map (·.born)).Nodup:=by
          unfold leftOf;rw[Array.toList_filter];exact(I.2.sublist ((List.filter_sublist (l:=q.toList)).map _))
        rw[o,List.map_append,List.map_cons,List.nodup_append]at t;obtain⟨n1,n2,n3⟩:=t;rw[List.filter_append,List.filter_cons_of_neg zq3,List.filter_eq_self.2 (fun x k=>?_),List.filter_eq_self.2 (fun x k=>?_),List.map_append,List.map_append,<-q1,<-X]
        · have:=(List.nodup_cons.1 n2).1;simp only[bne_iff_ne,ne_eq,decide_not,Bool.not_eq_true',beq_eq_false_iff_ne];intro L;exact this (by rw[<-L];exact List.mem_map.2 ⟨x,k,Z⟩)
        · simp only[bne_iff_ne,ne_eq,decide_not,Bool.not_eq_true',beq_eq_false_iff_ne];intro L;exact n3 x.born (List.mem_map.2 ⟨x,k,Z⟩) e.born zq3 L
      · cases G;refine⟨e,?_,by simp,z.1.symm,z.2.symm⟩;have:e∈(leftOf q c).toList:=he;unfold leftOf at this;rw[Array.toList_filter]at this;exact(List.mem_filter.1 this).1
theorem r_entry{m r:Nat}{p:Int×α}{left:List (Int×α)}(h:SH w0 M K w hp)(i:Nat)(q:hp i=.eT (YZ f m r (some p) left))(C:ρ x=.pointer (some ⟨r,0,none⟩)):
    (execOp ρ ⟨d,.entry x,ty,pos,af,g⟩).run P w=.ok (.value (.tuple #[.int .i64 p.1,f p.2])) w:=by
  have l:=h.ok i;rw[q]at l;obtain⟨o,c,a,b,u,v,n,E,y⟩:=l;obtain⟨e,t,z,A,s⟩:=y p Z;have j:(getObj r).run P w=.ok (.mapIter (some m) a b a) w:=by simp[getObj,Sem.run,n]
  have k:(getObj m).run P w=.ok (.map c a) w:=by simp[getObj,Sem.run,u]
  have B:c.find? (·.born==e.born)=some e:=by rw[<-Array.find?_toList];exact find_born e c.toList v.2 t
  simp only[execOp,C];have:(Instr.entry<|.pointer<|some ⟨r,0,none⟩).run P w=.ok (.tuple #[.int .i64 p.1,f p.2]) w:=by
    simp only[Instr.entry,Sem.run_bind,j,k,Result.andThen_ok,z,bne_self_eq_false,Bool.false_eq_true,if_false,B];rw[A,s];rfl
  simp[this]
theorem SH.Zx{m r:Nat}{d:Option (Int×α)}{left:List (Int×α)}(h:SH w0 M K w hp)(i:Nat)(j:hp i=.eT (YZ f m r d left)):SH w0 M K w (bX hp i (.eT (YZ f m r none left))):=by
 have g:=h.ok i;rw[j]at g;obtain⟨e,l,a,c,n,q,k,o,t⟩:=g;exact h.K5 (S':=YZ f m r none left) i j ⟨e,l,a,c,n,q,k,o,fun p h=>by cases h⟩ (bH.refl _ _) fun b s _=>s
end
def Wp{α σ:Type}(step:α->σ->Option σ):List α->σ->Option σ
 |[],s=>some s
 |a::l,s=>(step a s).bind (Wp step l)
def Aq{α σ:Type}(step:α->σ->Option σ)(L:List α)(s a:σ):Prop:=∀p,p.Perm L->Wp step p s=some a
open Classical in
noncomputable def IK{α σ:Type}(step:α->σ->Option σ)(L:List α)(s:σ):Option σ:=if h:∃a,Aq step L s a then some h.choose else none
theorem o_fold{α σ:Type}{step:α->σ->Option σ}{L:List α}{s a:σ}(h:IK step L s=some a):Aq step L s a:=by
  unfold IK at h;split at h
  · rename_i b;cases h;exact b.choose_spec
  · cases h
theorem foldAny_eq{α σ:Type}{step:α->σ->Option σ}{L:List α}{s a:σ}(h:Aq step L s a):IK step L s=some a:=by
 have c:∃a,Aq step L s a:=⟨a,h⟩;unfold IK;rw[dif_pos c];have b:=c.choose_spec L<|List.Perm.refl _;rw[h L (List.Perm.refl _)]at b;exact b.symm
theorem Aq.nil{α σ:Type}{step:α->σ->Option σ}{s a:σ}(h:Aq step [] s a):s=a:=by
 have:=h []<|List.Perm.refl _;exact Option.some.inj this
theorem Aq.cons{α σ:Type}{step:α->σ->Option σ}{L L':List α}{p:α}{s a:σ}(h:Aq step L s a)(hp:L.Perm (p::L')):∃b,step p s=some b/\Aq step L' b a:=by
 have e:=h (p::L') hp.symm;obtain⟨b,c,f⟩:=az e;refine⟨b,c,fun q d=>?_⟩;have:=h (p::q) ((d.cons p).trans hp.symm);unfold Wp at this;rw[c]at this;exact this
open Go.RowKit Go.Proofs
section
variable{w0 w w':World}{M K:BS}{hp:Nat->Chunk}{C:Chunk}
theorem SH.K7{b:Nat}{cs:List Value}(h:SH w M K w hp)(i:Nat)(ho:∃E,w.heap[b]? =some (.cells cs.toArray E (0,0)))(c:¬C.own' b)(hn:∀b,iG hp b->C.own' b):SH w M K w (bX hp i (.pt b 0 cs)):=by
 obtain⟨E,a⟩:=ho;exact h.pt i (fun h=>c<|hn b h) ⟨_,E,_,a,by simp⟩
theorem zi{i b o:Nat}{cs:List Value}(hn:∀b,iG hp b->C.own' b):∀x,iG (bX hp i (.pt b o cs)) x->C.own' x:=by
  rintro x⟨j,a⟩;by_cases e:j=i
  · subst e;rw[dm]at a;exact a.elim
  · rw[fu e]at a;exact hn x ⟨j,a⟩
theorem SH.loseC3{c e f:Chunk}(h:SH w0 M K w hp)(i j k:Nat)(g:i≠j)(d:i≠k)(m:j≠k)(r:hp i=c)(n:hp j=e)(l:hp k=f)(q:bH (fun b=>c.own' b\/e.own' b\/f.own' b) w w'):
    SH w0 M K w' (bX (bX (bX (bX (bX hp j .no) i (.two (hp i) (hp j))) k .no) i (.two ((bX (bX hp j .no) i (.two (hp i) (hp j))) i) ((bX (bX hp j .no) i (.two (hp i) (hp j))) k))) i .no):=by
  have o:=h.pair i j g;have p:=o.pair i k d;refine p.l9 i (dm _ _ _) ?_;rw[dm,fu (fun e=>d e.symm),fu (fun e=>m e.symm),r,n,l];refine q.weaken fun b a _=>?_;rcases a with a|a|a
  · exact .inl<|.inl a
  · exact .inl<|.inr a
  · exact .inr a
end
section
variable{α:Type}{R:kX α}{E:TypeId}{w0 w w':World}{M K A:BS}{hp:Nat->Chunk}{C:Chunk}{v:Value}{l:List α}
theorem cO.srcB{B:BS}(h:cO R E w A v l)(m:∀b,ob v b->¬B b):ed R w B A v l:=by
  have x:=h.src;obtain⟨xs,t,y⟩:=h;rcases t.2 with⟨rfl,hn⟩|⟨g,cap,cur,rfl,e1,e2,e3,e4,e5,e6⟩
  · have:l=[]:=List.eq_nil_of_length_eq_zero hn;subst this;exact ed.nil
  · obtain⟨a,d,e,n,s,u,j⟩:=x;refine⟨a,d,e,n,s,u,fun i k=>?_⟩;obtain⟨b,o,cells,c,p,f,z,q,r⟩:=j i k;refine⟨b,o,cells,c,p,f,?_,q,r⟩;subst f;simp only[Value.slice.injEq,Option.some.injEq,Addr.mk.injEq]at e;exact m b (by simp[ob,e.1.1])
theorem IL{i:Nat}(hn:∀b,iG hp b->C.own' b):∀b,iG (bX hp i (.sr R v l)) b->C.own' b:=by
  rintro b⟨j,a⟩;by_cases e:j=i
  · subst e;rw[dm]at a;exact a.elim
  · rw[fu e]at a;exact hn b ⟨j,a⟩
theorem SH.argSrC(h:SH w M K w hp)(i:Nat)(ho:ed R w C.own' (fun b=>M b\/C.own' b) v l)(hn:∀b,iG hp b->C.own' b):SH w M K w (bX hp i (.sr R v l)):=
 h.know i (fun _ h=>h) (ho.sub (fun b a _=>hn b a) (fun b a _=>a.imp id (hn b)))
theorem av_all{i:Nat}(c:hp i=C):∀b,(M b\/rest hp i b)\/C.own' b->SH.A M hp b:=by
  rintro b((a|a)|a)
  · exact .inl a
  · exact .inr<|lg a
  · exact .inr ⟨i,by rw[c];exact a⟩
theorem SH.ownSr(h:SH w0 M K w hp)(i j:Nat)(a:i≠j)(e:hp j=.own R E v l)(d:hp i=C):ed R w C.own' (fun b=>(M b\/rest hp i b)\/C.own' b) v l:=
 ((h.bF j e).srcB (B:=C.own') (fun b c f=>h.apart i j a b (by rw[d];exact f) (by rw[e];exact c))).sub (fun _ h _=>h) (fun b c _=>av_all d b c)
theorem SH.srSr(h:SH w0 M K w hp)(i j:Nat)(d:hp j=.sr R v l)(c:hp i=C):ed R w C.own' (fun b=>(M b\/rest hp i b)\/C.own' b) v l:=
 (h.srAt j d).sub (fun b a _=>⟨i,by rw[c];exact a⟩) (fun b a _=>av_all c b a)
end
def Rb(s:Str):Option (List Str):=iA (s.length<4294967281/\(s.all fun b=>decide (b.toNat<128))=true/\(Lib.fields s).length<=4294967281) (some (Lib.fields s))
theorem fields_w{P:Program}{f:FuncId}{E:TypeId}{g q:Nat}{w0:World}{M:BS}(c:∀(s:ByteArray) (w:World),s.size<4294967281->(∀(j:Nat) b,s.data.toList[j]? =some b->b.toNat<128)->Lib.TabIs P w "strings.asciiSpace" .u8 Lib.asciiSpaceTab->
    Calls P f #[.string s] w fun e w'=>e=.returned (.slice (some ⟨w.heap.size,0,none⟩) (Lib.fields s.data.toList).length (Lib.fields s.data.toList).length)/\w'=w.alloc (.cells ((Lib.fields s.data.toList).map fun l=>Value.string ⟨l.toArray⟩).toArray E))
    (d:P.globalNamed "strings.asciiSpace" =some q) (i:∀b,M b->b<w0.heap.size) (n:qR P g w0) {s:Str} {r:List Str} (a:Rb s=some r):Calls P f #[bB s] w0 (fun e w'=>Grow w0 w'/\∃u,e=.returned u/\cK tZ w' M u r):=by
  obtain⟨⟨h,k,o⟩,a⟩:=bC a;cases a;refine(c ⟨s.toArray⟩ w0 (by rw[vk];exact h) (fun j b m=>?_) (n.asc q d)).mono ?_
  · have:=List.all_eq_true.1 k b<|List.mem_of_getElem? (by simpa using m);simpa using this
  · rintro e w'⟨rfl,rfl⟩;refine⟨Grow.alloc _ _,_,Z,?_⟩;have:=strs_rd (E:=E) (l:=(Lib.fields s).map fun l=>(⟨l.toArray⟩:ByteArray)) (cap:=(Lib.fields s).length) (cells:=((Lib.fields s).map fun l=>Value.string ⟨l.toArray⟩).toArray) w0 i (by rw[List.length_map];exact Nat.le_refl _) (by unfold maxLen;omega) (fun j p=>by simp);rw[List.length_map,List.map_map]at this;have e:(List.map (((fun x=>x.data.toList):ByteArray->Str)∘fun l=>⟨l.toArray⟩)<|Lib.fields s)=Lib.fields s:=by simp[Function.comp_def]
    simpa[Function.comp_def]using this
open Go.RowKit Go.Proofs Go.ChangeShapes
def O1(b o:Nat)(r:Nat×Nat×Nat):Bool:=Nat.beq r.1 b&&(Nat.ble r.2.1 o&&Nat.blt o (r.2.1+r.2.2))
def Te(b o:Nat):List (Nat×Nat×Nat)->List (Nat×Nat×Nat)
 |[]=>[(b,o,1)]
 |(c,s,l)::r=>bif Nat.beq c b&&Nat.beq (o+1) s then(b,o,l+1)::r else(b,o,1)::(c,s,l)::r
def runsOf:List MemPlace->Option (List (Nat×Nat×Nat))
 |[]=>some []
 | .cell b o::r=>(runsOf r).bind fun rs=>bif rs.any (O1 b o)then none else some (Te b o rs)
 |_::_=>none
theorem addRun_old{b o c q:Nat}{rs:List (Nat×Nat×Nat)}(h:rs.any (O1 c q)=true):(Te b o rs).any (O1 c q)=true:=by
  cases rs with
  |nil=>cases h
  |cons r rs=>
    obtain⟨d,s,l⟩:=r;have e:Te b o ((d,s,l)::rs)=bif Nat.beq d b&&Nat.beq (o+1) s then(b,o,l+1)::rs else(b,o,1)::(d,s,l)::rs:=rfl;rw[e];cases hc:(Nat.beq d b&&Nat.beq (o+1) s)with
    |false=>rw[cond_false,List.any_cons,h,Bool.or_true]
    |true=>
      rw[cond_true];simp only[Bool.and_eq_true,Nat.beq_eq]at hc;obtain⟨rfl,rfl⟩:=hc;rw[List.any_cons]at h⊢;rcases Bool.or_eq_true_iff.1 h with h|h
      · unfold O1 at h⊢;simp only[Bool.and_eq_true,Nat.beq_eq,Nat.ble_eq,Nat.blt_eq]at h;have:(Nat.beq d c&&(Nat.ble o q&&Nat.blt q (o+(l+1))))=true:=by
          simp only[Bool.and_eq_true,Nat.beq_eq,Nat.ble_eq,Nat.blt_eq];omega
        rw[this,Bool.true_or]
      · rw[h,Bool.or_true]
theorem addRun_new{b o:Nat}{rs:List (Nat×Nat×Nat)}:(Te b o rs).any (O1 b o)=true:=by
 cases rs with
 |nil=>simp[Te,O1]
 |cons r rs=>
  obtain⟨d,s,l⟩:=r;have e:Te b o ((d,s,l)::rs)=bif Nat.beq d b&&Nat.beq (o+1) s then(b,o,l+1)::rs else(b,o,1)::(d,s,l)::rs:=rfl;rw[e];cases (Nat.beq d b&&Nat.beq (o+1) s)with
  |false=>simp[O1]
  |true=>simp[O1]
theorem Rc:∀{d:List MemPlace} {rs:List (Nat×Nat×Nat)},runsOf d=some rs->d.Nodup/\∀b o,MemPlace.cell b o∈d->rs.any (O1 b o)=true
  |[],rs,h=>⟨List.nodup_nil,fun _ _ a=>by cases a⟩
  | .cell b o::r,rs,h=>by
    unfold runsOf at h;obtain⟨q,g,h⟩:=Option.bind_eq_some_iff.1 h;obtain⟨i,f⟩:=Rc g;cases hc:q.any (O1 b o)with
    |true=>rw[hc]at h;cases h
    |false=>
      rw[hc,cond_false]at h;cases h;refine⟨List.nodup_cons.2 ⟨fun a=>(by rw[f b o a]at hc;cases hc),i⟩,fun c p a=>?_⟩;rcases List.mem_cons.1 a with e|a
      · cases e;exact addRun_new
      · exact addRun_old<|f c p a
  | .map _::_,rs,h=>by cases h
theorem VG{P:Program}{w:World}{l:List (String×DataW Unit)}(fuel:Nat)(h:(DataW.laidRun P w fuel (l.map (·.1))).map (·.1)=some l)
    (a:(DataW.laidRun P w fuel (l.map (·.1))).map (fun x=>(runsOf x.2).isSome&&laidRowsB P w x.2)=some true):laidMet P l w:=by
  cases hx:DataW.laidRun P w fuel (l.map (·.1))with
  |none=>simp[hx]at h
  |some x=>
    obtain⟨c,d⟩:=x;simp only[hx,Option.map_some,Option.some.injEq]at h a;subst h;simp only[Bool.and_eq_true]at a;obtain⟨rs,b⟩:=Option.isSome_iff_exists.1 a.1;exact laidMet_of_run fuel hx (decide_eq_true (Rc b).1) a.2
structure gu where
 at_:Int
 ok:Bool
deriving DecidableEq
open Go.RowKit Go.Proofs
section
variable{α β:Type}{N:Pq α β}{R:kX β}{E Es T:TypeId}{w0 w w':World}{M K A:BS}{hp:Nat->Chunk}{v u u':Value}{us us':List Value}{L L':List α}{ss ss':List (List β)}{s:List β}{x y:α}{k:Nat}{ho ho':Nat->Prop}{C:Chunk}
theorem Vq{b:Type}(P:Nat->b->Prop):∀(n:Nat),(∀i,i<n->∃u,P i u)->∃us:List b,us.length=n/\∀i u,us[i]? =some u->P i u
  |0,_=>⟨[],rfl,fun i u h=>by cases h⟩
  |n+1,h=>by
    obtain⟨us,c,d⟩:=Vq P n fun i f=>h i V;obtain⟨u,e⟩:=h n V;refine⟨us++[u],by simp[c],fun i z a=>?_⟩;rw[List.getElem?_append]at a;split at a
    · exact d i z a
    · rename_i g;have:i-us.length=0:=by
        rcases Nat.eq_zero_or_pos (i-us.length)with h0|h0
        · exact h0
        · rw[List.getElem?_eq_none (by simp;omega)]at a;cases a
      rw[this]at a;cases a;obtain rfl:i=n:=by omega
      exact e
def hge(k:Nat):Nat->Prop:=fun i=>k<=i
def K8{β:Type}(R:kX β)(k:Nat)(us:List Value)(ss:List (List β)):Pce where
 own:=BE
 P w A:=∀i u s,k<=i->us[i]? =some u->ss[i]? =some s->cK R w A u s
 lt:=fun _ h=>h.elim
 go:=fun h hk hK hKo hA i u s hi hu hs=>cK.go (h i u s hi hu hs) hk hK (fun b hb hl=>(hA b hb hl).elim id (fun h=>h.elim))
theorem SH.famHo(h:SH w0 M K w hp)(j:Nat)(ho':Nat->Prop)(a:hp j=.eT (bQ R E ho us ss))(c:∀i,ho i↔ho' i):SH w0 M K w (bX hp j (.eT (bQ R E ho' us ss))):=by
 have e:ho=ho':=funext fun i=>propext<|c i;subst e;exact h.K5 (S':=bQ R E ho us ss) j a (h.Zv j a) (bH.refl _ _) fun b d _=>d
theorem SH.thaw{R':kX α}(h:SH w0 M K w hp)(i j q:Nat)(k:hp i=.own R' E v L)(G:i≠j)(I:i≠q)(O:j≠q)(l:R'.sz=N.sz)(op:∀w A cs x,R'.rd w A cs x->∃u,cs=N.enc x u/\cK R w A u (N.sub x)):
    ∃us,us.length=L.length/\SH w0 M K w (bX (bX (bX hp i (.own N.raw E v (L.zip us))) j (.eT (bQ R Es (hge 0) us (L.map N.sub)))) q (.eT (K8 R 0 us (L.map N.sub)))):=by
  have ho:=h.bF i k;have S:=ho;obtain⟨xs,X,Q⟩:=ho;obtain⟨us,r,m⟩:=Vq (fun i u=>∃k:i<L.length,(xs.drop (i*R'.sz)).take R'.sz=N.enc L[i] u/\cK R w (fun b=>SH.A M hp b\/ob v b) u (N.sub L[i])) L.length (fun i k=>by
    obtain⟨u,o,n⟩:=op _ _ _ _<|Q i k;exact⟨u,k,o,n⟩)
  refine⟨us,r,?_⟩;have T:SH w0 M K w (bX hp i<|.own N.raw E v<|L.zip us):=by
    refine h.step i (bH.refl BE w) (fun _ h=>h.elim) (fun b a _=>by rw[k];exact a) ⟨xs,?_,?_⟩
    · rw[gy r];show w.ownsRow 0 E N.sz v L.length xs;rw[<-l];exact X
    · intro q C;have P:q<L.length:=by rw[gy r]at C;exact C
      have t:q<us.length:=by omega
      obtain⟨_,o,n⟩:=m q us[q]<|List.getElem?_eq_getElem t;refine⟨?_,?_⟩
      · show(xs.drop<|q*N.sz).take N.sz=N.enc ((L.zip us)[q]).1 ((L.zip us)[q]).2;rw[List.getElem_zip,<-l];exact o
      · rw[List.getElem_zip];exact n.one
  have d:∀b,¬FV (hge 0) us b:=fun b⟨i,u,_,hn,_⟩=>hn<|Nat.zero_le i;have s2:SH w0 M K w (bX (bX hp i<|.own N.raw E v<|L.zip us) j<|.eT<|bQ R Es (hge 0) us<|L.map N.sub):=
    T.know j (c:=.eT (bQ R Es (hge 0) us (L.map N.sub))) (fun b a=>d b a) ⟨by rw[List.length_map];exact r,fun i u s _ _ hn=>absurd (Nat.zero_le i) hn,fun i j u v _ hn=>absurd (Nat.zero_le i) hn⟩
  refine s2.know q (c:=.eT<|K8 R 0 us<|L.map N.sub) (fun b a=>a) ?_;intro p u s _ J z;obtain⟨y,o,n⟩:=m p u J;rw[List.getElem?_map,List.getElem?_eq_getElem y]at z;cases z;have f:∀b,(M b\/iG (bX (bX hp i<|.own N.raw E v<|L.zip us) j<|.eT<|bQ R Es (hge 0) us<|L.map N.sub) b)->SH.A M hp b\/ob v b:=by
    rintro b(a|⟨c,g⟩)
    · exact .inl<|.inl a
    · by_cases e:c=j
      · subst e;rw[dm]at g;exact absurd g (d b)
      · rw[fu e]at g;by_cases B:c=i
        · subst B;rw[dm]at g;exact .inr g
        · rw[fu B]at g;exact .inl (.inr ⟨c,g⟩)
  exact n.sub (fun b a _=>f b a) fun b a _=>f b a
theorem SH.rdpAt(h:SH w0 M K w hp)(q:Nat)(d:hp q=.eT (K8 R k us (L.map N.sub)))(c:us.length=L.length)(b:L[k]? =some x):∃u,us[k]? =some u/\cK R w (SH.A M hp) u (N.sub x):=by
 obtain⟨u,a⟩:=us_at c b;exact⟨u,a,h.pceAt q d k u _ (Nat.le_refl _) a (by rw[List.getElem?_map,b];rfl)⟩
theorem SH.rdpStep(h:SH w0 M K w hp)(q:Nat)(a:hp q=.eT (K8 R k us ss)):SH w0 M K w (bX hp q (.eT (K8 R (k+1) (us.set k u) (ss.set k s)))):=by
 have f:=h.pceAt q a;refine h.K5 (S':=K8 R (k+1) (us.set k u)<|ss.set k s) q a ?_ (bH.refl _ _) fun b e _=>e;intro i z t g d c;rw[List.getElem?_set_ne V]at d c;exact f i z t V d c
theorem SH.pendPut(h:SH w0 M K w hp)(j q m:Nat)(y:α)(l:hp j=.eT (bQ R Es (hge k) us (L.map N.sub)))(z:hp q=.eT (K8 R k us (L.map N.sub)))(o:hp m=.own R Es u s)(d:j≠q)(b:j≠m)(c:q≠m)(t:L[k]? =some x)(f:us[k]? =some u')(v:N.sub y=s):
    SH w0 M K w (bX (bX (bX (bX (bX hp q (.eT (K8 R (k+1) (us.set k u) ((L.map N.sub).set k s)))) j (.eT (bQ R Es (hge k) (us.set k u) ((L.map N.sub).set k s)))) m .no) j (.eT (bQ R Es (hge (k+1)) (us.set k u) (((L.map N.sub).set k s).set k s)))) j (.eT (bQ R Es (hge (k+1)) (us.set k u) ((L.set k y).map N.sub)))):=by
  have A:=h.rdpStep (u:=u) (s:=s) q z;have g:=h.jJ j l;have r:=A.famRe (us':=us.set k u) (ss':=(L.map N.sub).set k s) j (by rw[fu d];exact l) (by simp[g]) (fun i a=>by
    have:k≠i:=fun e=>a (by subst e;exact Nat.le_refl _);rw[List.getElem?_set_ne this,List.getElem?_set_ne this];exact⟨Z,Z⟩)
  have B:=K6 t;have n:=r.Q9 j m (k:=k) (u:=u) (s:=s) (dm _ _ _) (by rw[fu (fun e=>b e.symm),fu (fun e=>c e.symm)];exact o) b (Zw f) (Nat.le_refl k) (hge (k+1)) (fun i=>⟨fun a=>by
    rcases Nat.eq_or_lt_of_le (show k<=i from a)with e|e
    · exact .inr e.symm
    · exact .inl e,fun a=>a.elim (fun a=>Nat.le_of_succ_le a) (fun e=>by subst e;exact Nat.le_refl _)⟩) (fun a=>absurd a (Nat.not_succ_le_self k))
  have e:((L.map N.sub).set k s).set k s=(L.set k y).map N.sub:=by rw[List.set_set,List.map_set,v]
  have p:=n.famRe (us':=us.set k u) (ss':=(L.set k y).map N.sub) j (dm _ _ _) (by simp[g]) (fun i a=>⟨Z,by rw[e]⟩);exact p
theorem SH.famAll(h:SH w0 M K w hp)(j:Nat)(l:hp j=.eT (bQ R Es (hge k) us (L.map N.sub)))(r:L.length<=k):SH w0 M K w (bX hp j (.eT (bQ R Es hn us (L.map N.sub)))):=by
  have q:=h.jJ j l;have m:=h.Zv j l;have a:∀i (z:Value),us[i]? =some z->¬hge k i:=fun i z c o=>by
    have:=K6 c;have:k<=i:=o;omega
  refine h.K5 (S':=bQ R Es hn us<|L.map N.sub) j l ⟨m.1,fun i z t c p _=>?_,fun i j z v f _ _ c n=>m.2.2 i j z v f (a i z c) (a j v n) c n⟩ (bH.refl _ _) fun b⟨i,z,d,_,e⟩_=>⟨i,z,d,a i z d,e⟩;refine(m.2.1 i z t c p<|a i z c).go (bH.refl BE w) (fun _ h=>h.elim) (fun _ h=>h.elim) fun b g _=>?_;rcases g with g|⟨i,z,d,_,e⟩
  · exact .inl<|.inl g
  · exact .inl<|.inr ⟨i,z,d,a i z d,e⟩
def hmv(a:List Int):Nat->Prop:=fun i=>(i:Int)∈a
theorem SH.famMv0(h:SH w0 M K w hp)(j:Nat)(a:hp j=.eT (bQ R Es hn us ss)):SH w0 M K w (bX hp j (.eT (bQ R Es (hmv []) us ss))):=
 h.famHo j (hmv []) a (fun i=>⟨fun h=>h.elim,fun h=>by cases h⟩)
theorem SH.mvOpen{c:List Int}{a:Int}(h:SH w0 M K w hp)(j m:Nat)(f:hp j=.eT (bQ R Es (hmv c) us (L.map N.sub)))(o:hp m=.no)(d:j≠m)(l:0<=a)(g:L[a.toNat]? =some x)(b:a∉c):
    ∃u,us[a.toNat]? =some u/\SH w0 M K w (bX (bX hp j (.eT (bQ R Es (hmv (c++[a])) us (L.map N.sub)))) m (.own R Es u (N.sub x))):=by
  have n:=h.jJ j f;obtain⟨u,k⟩:=us_at n g;have e:((a.toNat:Nat):Int)=a:=Int.toNat_of_nonneg l;refine⟨u,k,h.famOpen j m f o d k (by rw[List.getElem?_map,g];rfl) (fun h=>b (by rw[<-e];exact h)) (hmv (c++[a])) (fun i=>?_)⟩;unfold hmv;rw[List.mem_append,List.mem_singleton];constructor
  · rintro(h|h)
    · exact .inl h
    · exact .inr V
  · rintro(h|h)
    · exact .inl h
    · exact .inr (by rw[h];exact e)
theorem SH.gotC(h:SH w0 M K w hp)(i:Nat)(c:Grow w w')(e:C.Q3)(d:C.holds w' (SH.A M hp) C.own')(hn:∀b,C.own' b->w.heap.size<=b):SH w0 M K w' (bX hp i C):=
  h.learn i c hn (Chunk.re e d (fun b a _=>by
    rcases a with a|a|a
    · exact .inl<|.inl a
    · exact .inl<|.inr a
    · exact .inr a))
theorem new_own(ho:∀b,C.own' b->b<w0.heap.size->BE b):∀b,C.own' b->w0.heap.size<=b:=fun b c=>Nat.le_of_not_lt (fun a=>ho b c a)
theorem nLst_op{R:kX β}:∀(w:World) (A:BS) cs (x:List β),(uE R).rd w A cs x->∃u,cs=(dn β).enc x u/\cK R w A u ((dn β).sub x):=fun _ _ _ _ h=>h
end
theorem Tf:∀(w:World) (A:BS) cs (x:Frame),jD.rd w A cs x->∃u,cs=aS.enc x u/\cK bG w A u (aS.sub x):=fun _ _ _ _ h=>h
def K9{α:Type}(k:Int)(v:α):List (Int×α)->List (Int×α)
 |[]=>[(k,v)]
 |p::r=>if k=p.1 then(p.1,v)::r else p::K9 k v r
theorem NW{α:Type}{f:α->Value}{k:Int}{v:α}:∀(l:List (Int×α)),V8 (l.map fun p=>(p.1,f p.2)) k (f v)=(K9 k v l).map fun p=>(p.1,f p.2)
  |[]=>rfl
  |p::r=>by
    show(if k=p.1 then(p.1,f v)::_ else(p.1,f p.2)::V8 _ k (f v))=_;unfold K9;split
    · rfl
    · rw[NW r];rfl
theorem Iz.keep{w w':World}{K:BS}{b:Nat}{jW:List (Int×Value)}(h:Iz w b jW)(g:bH K w w')(hn:¬K b):Iz w' b jW:=by
 obtain⟨d,c,e,f,a⟩:=h;exact⟨d,c,g.blk e hn,f,a⟩
section
variable{P:Program}{w:World}{ρ:Operand->Value}{d:Option Nat}{ty:TypeId}{pos:String}{af:Array Edge}{g:Option (Nat×Bool)}{T:TypeId}
theorem r_lk1M{α:Type}{f:α->Value}{zz:α}{z:Value}{x y:Operand}{b:Nat}{k:Int}(l:List (Int×α))(c:Iz w b (l.map fun p=>(p.1,f p.2)))(e:MapOf P T z)(i:ρ x=.map (some b))(a:ρ y=.int .i64 k)(h:z=f zz):
  (execOp ρ ⟨d,.lookup T x y false,ty,pos,af,g⟩).run P w=.ok (.value (f ((lk k l).getD zz))) w:=by
 have:=r_lookup (d:=d) (ty:=ty) (pos:=pos) (af:=af) (g:=g) e i a c;rw[h,VQ]at this;exact this
end
open Go.RowKit Go.Proofs Go.MapKept
section
variable{P:Program}{ops:Array Oper}{Q:Exit->Act->World->Prop}{n:Nat}{env:Nat->Value}{w w' w0:World}{M K:BS}{hp:Nat->Chunk}{rest:List Oper}
 {d:Option Nat} {op:Op} {ty:TypeId} {pos:String} {af:Array Edge} {v:Value} {g:Option (Nat×Bool)} {T:TypeId} {ρ:Operand->Value}
theorem made_drop(zs:List Value)(m q:Nat)(b:q<m):((madeCells zs.toArray (m*zs.length)).toList.drop (q*zs.length)).take zs.length=zs:=by
  apply List.ext_getElem?;intro i;rw[List.getElem?_take];split
  · rename_i a;rw[List.getElem?_drop];have c:q*zs.length+i<m*zs.length:=by
      have:=Nat.mul_le_mul_right zs.length (show q+1<=m from b);rw[Nat.succ_mul]at this;omega
    have d:(q*zs.length+i)%zs.length=i:=by rw[Nat.mul_comm,Nat.mul_add_mod];exact Nat.mod_eq_of_lt a
    simp[madeCells,c,d,a]
  · rename_i a;rw[List.getElem?_eq_none V]
theorem JR{α:Type}{R:kX α}{E:TypeId}{c l:Nat}{k:Int}{zs:List Value}{x y:Operand}{a:α}(h:SH w0 M K w hp)(i:Nat)(I:kr P T E l c)(hz:wo P E zs)(C:R.sz=l)(z:0<c)(L:ev n env x=.int .i64 k)(O:ev n env y=.int .i64 k)
    (X:0<=k/\k*c<=140737488355328) (J:zs.length=l) (S:∀w A,R.rd w A zs a)
    (kk:∀w' u,SH w0 M K w' (bX hp i (.own R E u (List.replicate k.toNat a)))->Grow w w'->(∀b,ob u b->w.heap.size<=b)->WL P ops Q rest n (gq env d u) w'):
    WL P ops Q (⟨d,.makeSlice T x y,ty,pos,af,none⟩::rest) n env w:=by
  obtain⟨h0,h1⟩:=X;obtain⟨m,rfl⟩:=Int.eq_ofNat_of_zero_le h0;obtain⟨j,z',B,a1,r,s,a2⟩:=I.info;have g:=hz.info;rw[B]at g;simp only[Option.map_some,Option.some.injEq,Prod.mk.injEq]at g;have N:m<=m*c:=Nat.le_mul_of_pos_right _ z;have a0:m*c<=140737488355328:=by
    have:((m*c:Nat):Int)<=140737488355328:=by rw[Int.natCast_mul];exact h1
    omega
  obtain⟨w',hr,ho,hg⟩:=run_make_full (P:=P) w 0 T E j _ l I.desc B g.1 r .i64 .i64 m (by rw[s,Nat.mul_comm];omega) (by unfold maxLen;omega) (Nat.zero_le _);have p:Grow w w':=(Am (v:=.slice none 0 0) hg).weaken fun _ h _=>h.elim;have o:(execOp (ev n env) ⟨d,.makeSlice T x y,ty,pos,af,none⟩).run P w=.ok (.value<|.slice (some ⟨w.heap.size,0,none⟩) m m) w':=by
    simp only[execOp,Sem.run_bind,Sem.run_pure,Result.andThen_ok,L,O,hr]
  have f:∀b,ob (.slice (some ⟨w.heap.size,0,none⟩) m m) b->w.heap.size<=b:=fun b z=>by
    have:b=w.heap.size:=z;omega
  refine F o<|kk w' _ (h.xE i p ⟨(madeCells zs.toArray<|m*l).toList,?_,?_⟩ f) p f
  · rw[C];rw[List.length_replicate];exact ho
  · intro q G;simp only[List.length_replicate]at G;have t:q<m:=G;have e:((madeCells zs.toArray<|m*l).toList.drop<|q*R.sz).take R.sz=zs:=by rw[C,<-J];exact made_drop zs m q t
    rw[e];simp only[List.getElem_replicate];exact S _ _
end
open Go.RowKit Go.Proofs
section
variable{α β:Type}{N:Pq α β}{R:kX β}{E Es T:TypeId}{w0 w w':World}{M K A:BS}{hp:Nat->Chunk}{u u':Value}{us:List Value}{L:List α}{s:List β}{x:α}{k:Nat}
theorem JS{a:Type}{l:List a}{z:a}{i:Int}(b:i=(k:Int))(h:l[i.toNat]? =some z):l[k]? =some z:=by subst b;simpa using h
theorem at_pd{a:Type}{l:List a}{z:a}{i:Int}(b:i=(k:Int))(h:l[k]? =some z):l[i.toNat]? =some z:=by subst b;simpa using h
theorem Wq{i:Int}(a:i=(k:Int)):i.toNat=k:=by subst a;simp
theorem SH.Ws(h:SH w0 M K w hp)(j q m:Nat)(l:hp j=.eT (bQ R Es (hge k) us (L.map N.sub)))(n:hp q=.eT (K8 R k us (L.map N.sub)))(o:hp m=.own R Es u s)(c:j≠q)(d:j≠m)(b:q≠m)(f:L[k]? =some x)(a:us[k]? =some u')(g:N.sub x=s):
  SH w0 M K w (bX (bX (bX (bX (bX hp q (.eT (K8 R (k+1) (us.set k u) (L.map N.sub)))) j (.eT (bQ R Es (hge k) (us.set k u) (L.map N.sub)))) m .no) j (.eT (bQ R Es (hge (k+1)) (us.set k u) (L.map N.sub)))) j (.eT (bQ R Es (hge (k+1)) (us.set k u) (L.map N.sub)))):=by
 have i:=h.pendPut (y:=x) j q m l n o c d b f a g;have e:(L.map N.sub).set k s=L.map N.sub:=by rw[<-g,<-List.map_set,Et f]
 rw[e,e,Et f]at i;exact i
end
theorem BK{α:Type}{b:Nat}{a r:List α}(h:clone b a=some r):a=r:=by
 unfold clone at h;obtain⟨_,h⟩:=bC h;exact Option.some.inj h
theorem Wt{α β:Type}{N:Pq α β}{w:World}{B A:BS}{v:Value}{L:List α}{us:List Value}(h:ed N.raw w B A v (L.zip us))(a:us.length=L.length):L.length<=9223372036854775807:=by
 have:=h.bI;rwa[gy a]at this
theorem r_mul{P:Program}{w:World}{ρ:Operand->Value}{d:Option Nat}{ty:TypeId}{pos:String}{af:Array Edge}{g:Option (Nat×Bool)}{x y:Operand}{T T2:TypeId}{p q:Int}(b:ρ x=.int .i64 p)(a:ρ y=.int .i64 q)(h: -9223372036854775808<=p*q/\p*q<=9223372036854775807):
  (execOp ρ ⟨d,.binOp .mul T x y T2,ty,pos,af,g⟩).run P w=.ok (.value (.int .i64 (p*q))) w:=by
 simp[execOp,b,a,eqGuard,binOp,Op.intArith,wrap_in h.1 h.2]
open Go.RowKit Go.Proofs
theorem NY{cs vs:List Value}{o:Nat}(h:o+vs.length<=cs.length)(j:Nat):(KS cs o vs)[j]? =if j<o then cs[j]? else if j<o+vs.length then vs[j-o]? else cs[j]? :=by
  unfold KS;have b:(cs.take o).length=o:=by rw[List.length_take];omega
  by_cases a:j<o
  · rw[if_pos a,List.append_assoc,List.getElem?_append_left V,List.getElem?_take,if_pos a]
  · rw[if_neg a];by_cases c:j<o+vs.length
    · rw[if_pos c,List.append_assoc,List.getElem?_append_right V,b,List.getElem?_append_left V]
    · rw[if_neg c,List.getElem?_append_right (by rw[List.length_append,b];omega),List.length_append,b,List.getElem?_drop];congr 1;omega
theorem VT{cs vs:List Value}{o:Nat}(h:o+vs.length<=cs.length):(KS cs o vs).length=cs.length:=by
 unfold KS;simp only[List.length_append,List.length_take,List.length_drop];omega
theorem spl_take{cs vs:List Value}{o n:Nat}(h:o+vs.length<=n)(hn:n<=cs.length):(KS cs o vs).take n=KS (cs.take n) o vs:=by
  apply List.ext_getElem?;intro j;have b:(cs.take n).length=n:=by rw[List.length_take];omega
  rw[List.getElem?_take,NY V,NY V,List.getElem?_take];by_cases a:j<n
  · rw[if_pos a,if_pos a]
  · rw[if_neg a,if_neg V,if_neg V,if_neg a]
theorem spl_self{cs vs:List Value}{o:Nat}(h:o+vs.length<=cs.length):((KS cs o vs).drop o).take vs.length=vs:=by
  apply List.ext_getElem?;intro j;rw[List.getElem?_take,List.getElem?_drop,NY h];by_cases a:j<vs.length
  · rw[if_pos a,if_neg V,if_pos V];congr 1;omega
  · rw[if_neg a,List.getElem?_eq_none V]
theorem Zy{cs vs:List Value}{o p s:Nat}(h:o+vs.length<=cs.length)(hp:p+s<=o\/o+vs.length<=p):((KS cs o vs).drop p).take s=(cs.drop p).take s:=by
  apply List.ext_getElem?;intro j;rw[List.getElem?_take,List.getElem?_drop,NY h,List.getElem?_take,List.getElem?_drop];by_cases a:j<s
  · rw[if_pos a,if_pos a];by_cases b:p+j<o
    · rw[if_pos b]
    · rw[if_neg b,if_neg V]
  · rw[if_neg a,if_neg a]
section
variable{P:Program}{ops:Array Oper}{Q:Exit->Act->World->Prop}{n:Nat}{env:Nat->Value}{w w' w0:World}{M K:BS}{hp:Nat->Chunk}{rest:List Oper}
 {d:Option Nat} {op:Op} {ty:TypeId} {pos:String} {af:Array Edge} {v:Value} {g:Option (Nat×Bool)} {T:TypeId} {ρ:Operand->Value} {x y:Operand}
theorem Dt{α:Type}{R:kX α}{E:TypeId}{L:Nat}{l:List α}{k:Int}{a a':α}{b:Nat}{zs vs:List Value}{u:Value}(h:SH w0 M K w hp)(i:Nat)(t:hp i=.own R E u l)(J:ob u b)(hs:R.sz=L)(hk:l[k.toNat]? =some a)(hT:wo P T zs)(c:ev n env x=.pointer (some ⟨b,k.toNat*L,none⟩))
    (hy:ev n env y=.agg vs.toArray) (hl:vs.length=zs.length) (I:zs.length=L) (hset:R.rd w (SH.A M hp) vs a')
    (kk:∀w',SH w0 M K w' (bX hp i (.own R E u (l.set k.toNat a')))->bH (ob u) w w'->WL P ops Q rest n (gq env d undef) w'):
    WL P ops Q (⟨d,.store T x y,ty,pos,af,none⟩::rest) n env w:=by
  subst hs;have C:k.toNat<l.length:=K6 hk;generalize k.toNat=k at*;have f:∀b,ob u b->SH.A M hp b:=fun b J=>.inr ⟨i,by rw[t];exact J⟩;obtain⟨xs,z,q3⟩:=h.bF i t;rcases z.2 with⟨rfl,hn⟩|⟨g',cap,cur,rfl,e1,e2,e3,e4,e5,e6⟩
  · omega
  have G:b=g':=J;subst G;have B:(k+1)*R.sz<=l.length*R.sz:=Nat.mul_le_mul_right _ C;have a1:l.length*R.sz<=cap*R.sz:=Nat.mul_le_mul_right _ e3;rw[Nat.add_mul]at B;have v:vs.length=R.sz:=hl.trans I;have X:cur.toList.length=cap*R.sz:=by simpa using e5
  have a0:xs.length=l.length*R.sz:=z.1;have r:k*R.sz+vs.length<=cur.toList.length:=by omega
  have m:k*R.sz+vs.length<=xs.length:=by omega
  have o:=bH.vV w b<|.cells (KS cur.toList (k*R.sz) vs).toArray E (0,0);have N:=QW (P:=P) (w:=w) (ρ:=ev n env) (d:=d) (ty:=ty) (pos:=pos) (af:=af) (g:=none) (cs:=cur.toList) (E:=E) hT c (by simpa using e2) hy hl r<|R.one hset;refine Al N (kk _ (h.step i o (fun x c _=>by rw[t];exact c) (fun x c _=>by rw[t];exact c) ⟨KS xs (k*R.sz) vs,⟨?_,.inr ⟨b,cap,(KS cur.toList (k*R.sz) vs).toArray,?_,e1,?_,?_,e4,?_,?_⟩⟩,?_⟩) (o.weaken (fun x c _=>c)))
  · rw[VT m,List.length_set];exact z.1
  · rw[List.length_set]
  · rw[uX (iF e2)]
  · rw[List.length_set];exact e3
  · rw[List.size_toArray,VT r];exact X
  · rw[List.length_set];show(KS cur.toList (k*R.sz) vs).take (l.length*R.sz)=KS xs (k*R.sz) vs;rw[spl_take V V,e6]
  · intro p O;have S:p<l.length:=by rwa[List.length_set]at O
    have q:=fun cs a(h:R.rd w (SH.A M hp) cs a)=>R.go (A':=fun x=>(M x\/(SH.av hp i (.own R E (.slice (some ⟨b,0,none⟩) l.length cap) (l.set k a'))) x)\/ob (.slice (some ⟨b,0,none⟩) l.length cap) x) h o (fun x c _=>f x c) (fun x c _=>by
      rcases c with(c|c|c)|c
      · exact .inl c
      · exact .inr<|lg c
      · exact f x c
      · exact f x c)
    have hq:=fun j(hj:j<l.length)=>R.go (A':=SH.A M hp) (q3 j hj) (bH.refl BE w) (fun _ h=>h.elim) fun x c _=>.inl c;by_cases s:p=k
    · subst s;rw[List.getElem_set_self];have e:=spl_self m;rw[v]at e;rw[e];exact q _ _ hset
    · rw[List.getElem_set_ne (Ne.symm s),Zy m]
      · exact q _ _<|hq p S
      · rcases Nat.lt_or_ge k p with h5|h5
        · right;have:(k+1)*R.sz<=p*R.sz:=Nat.mul_le_mul_right _ h5;rw[Nat.add_mul]at this;omega
        · left;have:(p+1)*R.sz<=k*R.sz:=Nat.mul_le_mul_right _ V;rw[Nat.add_mul]at this;omega
end
section
variable{α β:Type}{N:Pq α β}{R:kX β}{E Es T:TypeId}{w0 w w':World}{M K A:BS}{hp:Nat->Chunk}{us:List Value}{L:List α}{x:α}{k:Nat}
theorem SH.xS(h:SH w0 M K w hp)(j m:Nat)(s:List β)(b:hp j=.eT (bQ R Es hn us (L.map N.sub)))(e:hp m=.no)(a:j≠m)(c:L[k]? =some x)(d:N.sub x=s):
 ∃u,us[k]? =some u/\SH w0 M K w (bX (bX hp j (.eT (bQ R Es (hat k) us (L.map N.sub)))) m (.own R Es u s)):=by subst d;exact h.dnOpen j m b e a c
theorem SH.mvOpenL{d:List Int}{a:Int}(h:SH w0 M K w hp)(j m:Nat)(s:List β)(e:hp j=.eT (bQ R Es (hmv d) us (L.map N.sub)))(k:hp m=.no)(c:j≠m)(f:0<=a)(g:L[a.toNat]? =some x)(b:a∉d)(i:N.sub x=s):
 ∃u,us[a.toNat]? =some u/\SH w0 M K w (bX (bX hp j (.eT (bQ R Es (hmv (d++[a])) us (L.map N.sub)))) m (.own R Es u s)):=by subst i;exact h.mvOpen j m e k c f g b
theorem SH.rdpAtL(h:SH w0 M K w hp)(q:Nat)(s:List β)(c:hp q=.eT (K8 R k us (L.map N.sub)))(b:us.length=L.length)(d:L[k]? =some x)(a:N.sub x=s):∃u,us[k]? =some u/\cK R w (SH.A M hp) u s:=by subst a;exact h.rdpAt q c b d
end
open Go.RowKit Go.Proofs
def Chunk.flat:Chunk->Prop
 | .no=>True
 | .own R _ _ _=>∀w A A' cs x,R.rd w A cs x->R.rd w A' cs x
 | .two a b=>a.flat/\b.flat
 | .eT S=>∀w A A',S.P w A->S.P w A'
 |_=>False
theorem cO.flat{α:Type}{R:kX α}{E:TypeId}{w:World}{A A':BS}{v:Value}{l:List α}(a:∀w A A' cs x,R.rd w A cs x->R.rd w A' cs x)(h:cO R E w A v l):cO R E w A' v l:=by
 obtain⟨xs,b,c⟩:=h;exact⟨xs,b,fun i d=>a _ _ _ _ _<|c i d⟩
theorem Chunk.flatten{c:Chunk}{w:World}{M O e f:BS}(d:c.flat)(h:c.holds w M O):c.holds w e f:=by
 induction c with
 |no=>trivial
 |own R E v l=>exact cO.flat d h
 |two a b ha hb=>exact⟨ha d.1 h.1,hb d.2 h.2.1,h.2.2⟩
 |eT S=>exact d _ _ _ h
 |_=>exact d.elim
theorem NZ{β:Type}{R:kX β}{E:TypeId}{ho:Nat->Prop}{us:List Value}{ss:List (List β)}(d:∀w A A' cs x,R.rd w A cs x->R.rd w A' cs x):∀w A A',(bQ R E ho us ss).P w A->(bQ R E ho us ss).P w A':=by
 rintro w A A'⟨e,f,a⟩;exact⟨e,fun i u s c g b=>cO.flat d<|f i u s c g b,a⟩
theorem ed.toBE{α:Type}{R:kX α}{w:World}{B A:BS}{v:Value}{l:List α}(h:ed R w B A v l):ed R w BE BE v l:=
 ed.go h (bH.refl BE w) (fun _ h=>h.elim) (fun _ h=>h.elim) (fun _ h=>h.elim) (fun _ h=>h.elim)
section
variable{α β:Type}{N:Pq α β}{R:kX β}{E Es T:TypeId}{w0 w w':World}{M K A:BS}{hp:Nat->Chunk}{v u u':Value}{us us':List Value}{L L':List α}
theorem SH.Tg{R':kX α}(h:SH w0 M K w hp)(i j:Nat)(d:hp i=.own N.raw E v (L.zip us))(c:hp j=.eT (bQ R Es hn us (L.map N.sub)))(b:i≠j)(a:R'.sz=N.sz)(e:∀w A x u,cK R w A u (N.sub x)->R'.rd w A (N.enc x u) x):ed R' w BE BE v L:=
 ed.toBE ((h.JM i j d c b a e).bK i (dm _ _ _))
theorem SH.gotCF{C:Chunk}{O:BS}(h:SH w0 M K w hp)(i:Nat)(d:Grow w w')(e:C.Q3)(a:C.flat)(c:C.holds w' BE O)(hn:∀b,C.own' b->w.heap.size<=b):SH w0 M K w' (bX hp i C):=
 h.gotC i d e (Chunk.flatten a c) hn
end
section
variable{P:Program}{Q:Exit->Act->World->Prop}{n:Nat}{env:Nat->Value}{w w' w0:World}{M K:BS}{hp:Nat->Chunk}
theorem Re{k:Func}{R:Ending->World->Prop}{t u g a:Tmp}{T:TypeId}{v2 v3 v4:Value}{zs vs:List Value}{b:Nat}(r:k.results= #[.cell a T,.tmp t,.tmp u,.tmp g])(p:ev n env (.tmp a)=.pointer (some ⟨b,0,none⟩))(m:ev n env (.tmp t)=v2)(q:ev n env (.tmp u)=v3)(o:ev n env (.tmp g)=v4)
  (x:SH w0 M K w hp) (i:Nat) (l:hp i=.blk b vs) (v:wo P T zs) (s:vs.length=zs.length) (h:R (.returned (.tuple #[.agg vs.toArray,v2,v3,v4])) w):bodyPost P k R .ret (act n env) w:=by
 refine⟨Z,_,?_,h⟩;have e:=congrFun (gJ n env)<|.tmp t;have f:=congrFun (gJ n env)<|.tmp u;have d:=congrFun (gJ n env)<|.tmp g;have c:=congrFun (gJ n env)<|.tmp a;rw[m]at e;rw[q]at f;rw[o]at d;rw[p]at c;simp only[Act.eval]at e f c d;rw[Array.getD_eq_getD_getElem?]at e f c d;have j:=BJ (P:=P) x l v s Z;unfold results;rw[r];simp[e,f,c,d,asAddr,j]
end
section
variable{α β:Type}{R:kX α}{E:TypeId}{w0 w:World}{M K:BS}{hp:Nat->Chunk}{v:Value}{l:List α}{C:Chunk}
theorem SH.ownSrB(h:SH w0 M K w hp)(i j:Nat)(a:i≠j)(f:hp j=.own R E v l)(d:hp i=C):cK R w (fun b=>BE b\/C.own' b) v l:=
 (h.ownSr i j a f d).sub (fun b c _=>c.elim (fun e=>e.elim) id) (fun b c _=>c.elim (fun e=>e.elim) .inr)
theorem ap_BE{C:Chunk}:∀b,C.own' b->¬BE b:=fun _ _ h=>h
end
structure Ps where
 said:Bool
 n:Int
 paused:Bool
structure nz where
 l:List Int
 bad:Bool
open Go.RowKit Go.Proofs
theorem spl_mid{xs vs:List Value}{p s off:Nat}(h:off+vs.length<=s)(hp:p+s<=xs.length):((KS xs (p+off) vs).drop p).take s=KS ((xs.drop p).take s) off vs:=by
  apply List.ext_getElem?;intro j;have d:((xs.drop p).take s).length=s:=by rw[List.length_take,List.length_drop];omega
  rw[NY V,List.getElem?_take];by_cases a:j<s
  · rw[if_pos a,List.getElem?_drop,NY V,List.getElem?_take,if_pos a,List.getElem?_drop];by_cases b:j<off
    · rw[if_pos b,if_pos V]
    · rw[if_neg b,if_neg V];by_cases c:j<off+vs.length
      · rw[if_pos c,if_pos V,show p+j-(p+off)=j-off by omega]
      · rw[if_neg c,if_neg V]
  · rw[if_neg a,if_neg V,if_neg V,List.getElem?_take,if_neg a]
section
variable{P:Program}{ops:Array Oper}{Q:Exit->Act->World->Prop}{n:Nat}{env:Nat->Value}{w w' w0:World}{M K:BS}{hp:Nat->Chunk}{rest:List Oper}
 {d:Option Nat} {op:Op} {ty:TypeId} {pos:String} {af:Array Edge} {v:Value} {g:Option (Nat×Bool)} {T:TypeId} {ρ:Operand->Value} {x y:Operand}
theorem w_stOP{α:Type}{R:kX α}{E:TypeId}{N:Nat}{l:List α}{k:Int}{a a':α}{b off:Nat}{zs vs:List Value}{u:Value}(h:SH w0 M K w hp)(i:Nat)(z:hp i=.own R E u l)(L:ob u b)(hs:R.sz=N)(G:l[k.toNat]? =some a)(hT:wo P T zs)(c:ev n env x=.pointer (some ⟨b,k.toNat*N+off,none⟩))
    (hy:ev n env y=.agg vs.toArray) (hl:vs.length=zs.length) (s:Nat.ble (off+vs.length) N=true) (r:∀u∈vs,u.oneCell'=true) (hset:∀cs,R.rd w (SH.A M hp) cs a->R.rd w (SH.A M hp) (KS cs off vs) a')
    (kk:∀w',SH w0 M K w' (bX hp i (.own R E u (l.set k.toNat a')))->bH (ob u) w w'->WL P ops Q rest n (gq env d undef) w'):
    WL P ops Q (⟨d,.store T x y,ty,pos,af,none⟩::rest) n env w:=by
  subst hs;rw[Nat.ble_eq]at s;have f:k.toNat<l.length:=K6 G;have I:l[k.toNat]=a:=by rw[List.getElem?_eq_getElem f]at G;exact Option.some.inj G
  generalize k.toNat=k at*;have e:∀b,ob u b->SH.A M hp b:=fun b L=>.inr ⟨i,by rw[z];exact L⟩;obtain⟨xs,B,q3⟩:=h.bF i z;rcases B.2 with⟨rfl,hn⟩|⟨g',cap,cur,rfl,e1,e2,e3,e4,e5,e6⟩
  · omega
  have J:b=g':=L;subst J;have C:(k+1)*R.sz<=l.length*R.sz:=Nat.mul_le_mul_right _ f;have a2:l.length*R.sz<=cap*R.sz:=Nat.mul_le_mul_right _ e3;rw[Nat.add_mul]at C;have a0:cur.toList.length=cap*R.sz:=by simpa using e5
  have a1:xs.length=l.length*R.sz:=B.1;have t:k*R.sz+off+vs.length<=cur.toList.length:=by omega
  have p:k*R.sz+off+vs.length<=xs.length:=by omega
  have m:=bH.vV w b<|.cells (KS cur.toList (k*R.sz+off) vs).toArray E (0,0);have O:=QW (P:=P) (w:=w) (ρ:=ev n env) (d:=d) (ty:=ty) (pos:=pos) (af:=af) (g:=none) (cs:=cur.toList) (E:=E) hT c (by simpa using e2) hy hl t r;refine Al O (kk _ (h.step i m (fun x c _=>by rw[z];exact c) (fun x c _=>by rw[z];exact c) ⟨KS xs (k*R.sz+off) vs,⟨?_,.inr ⟨b,cap,(KS cur.toList (k*R.sz+off) vs).toArray,?_,e1,?_,?_,e4,?_,?_⟩⟩,?_⟩) (m.weaken (fun x c _=>c)))
  · rw[VT p,List.length_set];exact B.1
  · rw[List.length_set]
  · rw[uX (iF e2)]
  · rw[List.length_set];exact e3
  · rw[List.size_toArray,VT t];exact a0
  · rw[List.length_set];show(KS cur.toList (k*R.sz+off) vs).take (l.length*R.sz)=KS xs (k*R.sz+off) vs;rw[spl_take V V,e6]
  · intro o S;have X:o<l.length:=by rwa[List.length_set]at S
    have q:=fun cs a(h:R.rd w (SH.A M hp) cs a)=>R.go (A':=fun x=>(M x\/(SH.av hp i (.own R E (.slice (some ⟨b,0,none⟩) l.length cap) (l.set k a'))) x)\/ob (.slice (some ⟨b,0,none⟩) l.length cap) x) h m (fun x c _=>e x c) (fun x c _=>by
      rcases c with(c|c|c)|c
      · exact .inl c
      · exact .inr<|lg c
      · exact e x c
      · exact e x c)
    have hq:=fun j(hj:j<l.length)=>R.go (A':=SH.A M hp) (q3 j hj) (bH.refl BE w) (fun _ h=>h.elim) fun x c _=>.inl c;by_cases v:o=k
    · subst v;rw[List.getElem_set_self];rw[spl_mid s V];exact q _ _<|hset _<|I▸hq o f
    · rw[List.getElem_set_ne (Ne.symm v),Zy p]
      · exact q _ _<|hq o X
      · rcases Nat.lt_or_ge k o with h5|h5
        · right;have:(k+1)*R.sz<=o*R.sz:=Nat.mul_le_mul_right _ h5;rw[Nat.add_mul]at this;omega
        · left;have:(o+1)*R.sz<=k*R.sz:=Nat.mul_le_mul_right _ V;rw[Nat.add_mul]at this;omega
end
open Go.RowKit Go.Proofs
def nIns:Pq Ins Int where
 sz:=5
 enc x u:=[.int .i64 x.op,.int .i64 x.a,.int .i64 x.b,.int .i64 x.c,u]
 sub x:=x.args
 put x s:={x with args:=s}
 len _ _:=rfl
 one:=by intro x u h c hc;simp only[List.mem_cons,List.not_mem_nil,or_false]at hc;rcases hc with rfl|rfl|rfl|rfl|rfl<;>first|rfl|exact h
 pos:=by decide
 Q6 _ _ _:=rfl
 Q7 _ _:=rfl
theorem nIns_br:∀w A (x:Ins) u,cK di w A u (nIns.sub x)->kW.rd w A (nIns.enc x u) x:=fun _ _ _ u h=>⟨u,rfl,h⟩
theorem nIns_op:∀(w:World) (A:BS) cs (x:Ins),kW.rd w A cs x->∃u,cs=nIns.enc x u/\cK di w A u (nIns.sub x):=fun _ _ _ _ h=>h
theorem nProc_op:∀(w:World) (A:BS) cs (x:bP),dM.rd w A cs x->∃u,cs=JO.enc x u/\cK kW w A u (JO.sub x):=fun _ _ _ _ h=>h
theorem cells_two{cs:List Value}{k:Nat}{u v:Value}(h:(cs.drop k).take 2=[u,v]):(cs.drop k).take 1=[u]/\(cs.drop (k+1)).take 1=[v]:=by
  constructor
  · have:=congrArg (List.take 1) h;rw[List.take_take]at this;exact this
  · have:=congrArg (List.drop 1) h;rw[List.drop_take,List.drop_drop]at this;exact this
section
variable{α β:Type}{N:Pq α β}{R:kX β}{E Es T:TypeId}{w0 w w':World}{M K A:BS}{hp:Nat->Chunk}{v u u':Value}{us us':List Value}{L L':List α}{ss ss':List (List β)}{s:List β}{x y:α}{k:Nat}
theorem SH.pendSet(h:SH w0 M K w hp)(j q:Nat)(b:hp j=.eT (bQ R Es (hge k) us (L.map N.sub)))(g:hp q=.eT (K8 R k us (L.map N.sub)))(a:j≠q)(m:L[k]? =some x):
  SH w0 M K w (bX (bX hp q (.eT (K8 R (k+1) (us.set k u) (L.map N.sub)))) j (.eT (bQ R Es (hge k) (us.set k u) (L.map N.sub)))):=by
 have f:=h.rdpStep (u:=u) (s:=N.sub x) q g;have l:=h.jJ j b;have c:=f.famRe (us':=us.set k u) (ss':=(L.map N.sub).set k (N.sub x)) j (by rw[fu a];exact b) (by simp[l]) (fun i d=>by
  have:k≠i:=fun e=>d (by subst e;exact Nat.le_refl _);rw[List.getElem?_set_ne this,List.getElem?_set_ne this];exact⟨Z,Z⟩)
 have e:(L.map N.sub).set k (N.sub x)=L.map N.sub:=by rw[<-List.map_set,Et m]
 rw[e]at c;exact c
theorem SH.pendDel(h:SH w0 M K w hp)(j m:Nat)(d:hp j=.eT (bQ R Es (hge k) us (L.map N.sub)))(l:hp m=.own R Es u s)(b:j≠m)(n:L[k]? =some x)(g:us[k]? =some u)(f:N.sub x=s):
    SH w0 M K w (bX (bX hp m .no) j (.eT (bQ R Es (hge (k+1)) us (L.map N.sub)))):=by
  have c:=h.Q9 j m (k:=k) (u:=u) (s:=s) d l b g (Nat.le_refl k) (hge (k+1)) (fun i=>⟨fun a=>by
    rcases Nat.eq_or_lt_of_le (show k<=i from a)with e|e
    · exact .inr e.symm
    · exact .inl e,fun a=>a.elim (fun a=>Nat.le_of_succ_le a) (fun e=>by subst e;exact Nat.le_refl _)⟩) (fun a=>absurd a (Nat.not_succ_le_self k))
  have e:(L.map N.sub).set k s=L.map N.sub:=by rw[<-f,<-List.map_set,Et n]
  rw[e]at c;exact c
theorem SH.dnOwn{R':kX α}(h:SH w0 M K w hp)(i j:Nat)(p:hp i=.own N.raw E v (L.zip us))(f:hp j=.eT (bQ R Es hn us (L.map N.sub)))(o:i≠j)(g:R'.sz=N.sz)(O:∀w A x u,cK R w A u (N.sub x)->R'.rd w A (N.enc x u) x):SH w0 M K w (bX (bX hp j .no) i (.own R' E v L)):=by
  have z:=h.jJ j f;have m:=h.pair i j o;have k:=m.apart i;have C:=m.apM i;have l:=m.ok i;rw[dm]at k C;rw[dm,p,f]at l;have y:=m.step (c:=.own R' E v L) i (bH.refl BE w) (fun _ h=>h.elim) (fun b a _=>by rw[dm,p];exact .inl a) ?_
  · rw[JK]at y;exact y
  · have hno:∀b,(hp j).own' b->¬((M b\/SH.av (bX (bX hp j .no) i<|.two (hp i)<|hp j) i (.own R' E v L) b)\/ob v b):=by
      intro b a d;rcases d with(d|⟨q,n,d⟩|d)|d
      · exact C b (.inr a) d
      · exact k q (fun e=>n e.symm) b (.inr a) d
      · exact l.2.2 b d (by rw[<-f];exact a)
      · exact l.2.2 b d (by rw[<-f];exact a)
    have Q:∀b,((M b\/SH.av (bX (bX hp j .no) i<|.two (hp i)<|hp j) i (.own R' E v L) b)\/ob v b)->M b\/iG (bX (bX hp j .no) i<|.two (.own N.raw E v<|L.zip us)<|.eT<|bQ R Es hn us<|L.map N.sub) b:=by
      rw[p,f];have B:∀b,ob v b->iG (bX (bX hp j .no) i (.two (.own N.raw E v (L.zip us)) (.eT (bQ R Es hn us (L.map N.sub))))) b:=fun b a=>⟨i,by rw[dm];exact .inl a⟩;rintro b((a|a|a)|a)
      · exact .inl a
      · exact .inr<|lg a
      · exact .inr<|B b a
      · exact .inr<|B b a
    obtain⟨xs,t,J⟩:=l.1;refine⟨xs,?_,fun q n=>?_⟩
    · rw[gy z]at t;show w.ownsRow 0 E R'.sz v L.length xs;rw[g];exact t
    · have r:q<(L.zip us).length:=by rw[gy z];exact n
      have s:=J q r;have P:(L.zip us)[q]=(L[q],us[q]'V):=by simp
      rw[P]at s;obtain⟨I,_⟩:=s;have G:((xs.drop<|q*N.sz).take N.sz)=N.enc L[q] (us[q]'V):=I;show R'.rd w _ ((xs.drop<|q*R'.sz).take R'.sz) L[q];rw[g,G];exact O _ _ _ _ (cO.rd (l.2.1.2.1 q _ _ (List.getElem?_eq_getElem V) (by rw[List.getElem?_map,List.getElem?_eq_getElem n];rfl) (fun h=>h)) (fun b a=>hno b (by rw[f];exact⟨q,_,List.getElem?_eq_getElem V,fun h=>h,a⟩)) (fun b a _=>.inl (.inl (Q b a))))
end
structure iJ where
 cos:List Co
 safe:List UInt8
 wait:List UInt8
 up:Bool
def fQ:kX iJ where
 sz:=4
 rd w A cs x:=∃vcos,∃Ep,∃Er,cs=[vcos,Ep,Er,.bool x.up]/\cK FU w A vcos x.cos/\cK fH w A Ep x.safe/\cK fH w A Er x.wait
 len:=by rintro w A cs x ⟨vcos,Ep,Er,rfl,h0,h1,h2⟩;rfl
 one:=by rintro w A cs x ⟨vcos,Ep,Er,rfl,h0,h1,h2⟩ u hu;simp only[List.mem_cons,List.not_mem_nil,or_false]at hu;rcases hu with rfl|rfl|rfl|rfl<;>first|rfl|exact h0.one|exact h1.one|exact h2.one
 pos:=by decide
 go:=by rintro w A cs x w2 A2 K ⟨vcos,Ep,Er,rfl,h0,h1,h2⟩ hk hK hA;exact⟨_,_,_,Z,h0.go hk hK hA,h1.go hk hK hA,h2.go hk hK hA⟩
theorem fI{w:World}{A:BS}{cs:List Value}{x:iJ}(h:fQ.rd w A cs x):∃a,∃c,∃b,cs=[a,c,b,.bool x.up]/\cK FU w A a x.cos/\cK fH w A c x.safe/\cK fH w A b x.wait:=h
structure aX where
 prog:List bP
 places:List iJ
 bD:List fV
def rWorld:kX aX where
 sz:=3
 rd w A cs x:=∃Vr,∃IM,∃Vs,cs=[Vr,IM,Vs]/\cK dM w A Vr x.prog/\cK fQ w A IM x.places/\cK eB w A Vs x.bD
 len:=by rintro w A cs x ⟨Vr,IM,Vs,rfl,h0,h1,h2⟩;rfl
 one:=by rintro w A cs x ⟨Vr,IM,Vs,rfl,h0,h1,h2⟩ u hu;simp only[List.mem_cons,List.not_mem_nil,or_false]at hu;rcases hu with rfl|rfl|rfl<;>first|rfl|exact h0.one|exact h1.one|exact h2.one
 pos:=by decide
 go:=by rintro w A cs x w2 A2 K ⟨Vr,IM,Vs,rfl,h0,h1,h2⟩ hk hK hA;exact⟨_,_,_,Z,h0.go hk hK hA,h1.go hk hK hA,h2.go hk hK hA⟩
theorem rWorld_open{w:World}{A:BS}{cs:List Value}{x:aX}(h:rWorld.rd w A cs x):∃a,∃c,∃b,cs=[a,c,b]/\cK dM w A a x.prog/\cK fQ w A c x.places/\cK eB w A b x.bD:=h
structure oI where
 kind:Int
 place:Int
 co:Int
 n:Int
def rHap:kX oI where
 sz:=4
 rd w A cs x:=cs=[.int .i64 x.kind,.int .i64 x.place,.int .i64 x.co,.int .i64 x.n]
 len:=by rintro w A cs x rfl;rfl
 one:=by rintro w A cs x rfl u hu;simp only[List.mem_cons,List.not_mem_nil,or_false]at hu;rcases hu with rfl|rfl|rfl|rfl<;>first|rfl
 pos:=by decide
 go:=fun h _ _ _=>h
open Go Go.RowKit Go.Proofs
section
variable{P:Program}{ops:Array Oper}{Q:Exit->Act->World->Prop}{rest:List Oper}{n:Nat}{env:Nat->Value}{w w0:World}{M K:BS}{hp:Nat->Chunk}{d:Option Nat}{ty:TypeId}{pos:String}{af:Array Edge}{x y:Operand}{T:TypeId}{v:Value}
theorem mI{i:Int}(a:ev n env x=.int .i64 i)(h:WL P ops Q rest n (gq env d (.int .i64 i)) w):WL P ops Q (⟨d,.move x,ty,pos,af,none⟩::rest) n env w:=F (bL a) h
theorem mB{i:Bool}(a:ev n env x=.bool i)(h:WL P ops Q rest n (gq env d (.bool i)) w):WL P ops Q (⟨d,.move x,ty,pos,af,none⟩::rest) n env w:=F (bL a) h
theorem mP{i:Option Addr}(a:ev n env x=.pointer i)(h:WL P ops Q rest n (gq env d (.pointer i)) w):WL P ops Q (⟨d,.move x,ty,pos,af,none⟩::rest) n env w:=F (bL a) h
theorem mV(v:Value)(a:ev n env x=v)(h:WL P ops Q rest n (gq env d v) w):WL P ops Q (⟨d,.move x,ty,pos,af,none⟩::rest) n env w:=F (bL a) h
theorem aI{i:Int}(a:ev n env x=.int .i64 i)(h:WL P ops Q rest n (gq env d (.int .i64 i)) w):WL P ops Q (⟨d,.assign x,ty,pos,af,none⟩::rest) n env w:=F (eU a) h
theorem aB{i:Bool}(a:ev n env x=.bool i)(h:WL P ops Q rest n (gq env d (.bool i)) w):WL P ops Q (⟨d,.assign x,ty,pos,af,none⟩::rest) n env w:=F (eU a) h
theorem aP{i:Option Addr}(a:ev n env x=.pointer i)(h:WL P ops Q rest n (gq env d (.pointer i)) w):WL P ops Q (⟨d,.assign x,ty,pos,af,none⟩::rest) n env w:=F (eU a) h
theorem aV(v:Value)(a:ev n env x=v)(h:WL P ops Q rest n (gq env d v) w):WL P ops Q (⟨d,.assign x,ty,pos,af,none⟩::rest) n env w:=F (eU a) h
theorem lB{z:Value}{b o:Nat}{cs:List Value}(h:SH w0 M K w hp)(i:Nat)(a:One P T z)(e:(hp i,ev n env x,cs[o]?)=(Chunk.blk b cs,Value.pointer (some ⟨b,o,none⟩),some v))(k:WL P ops Q rest n (gq env d v) w):WL P ops Q (⟨d,.load T x,ty,pos,af,none⟩::rest) n env w:=by
 injection e with e1 e2;injection e2 with e2 e3;exact F (bW h i e1 a e2 e3) k
theorem om{zs vs:List Value}{b o:Nat}{cs:List Value}(h:SH w0 M K w hp)(i:Nat)(a:wo P T zs)(e:(hp i,ev n env x,(cs.drop o).take zs.length,vs.length)=(Chunk.blk b cs,Value.pointer (some ⟨b,o,none⟩),vs,zs.length))(k:WL P ops Q rest n (gq env d (.agg vs.toArray)) w):WL P ops Q (⟨d,.load T x,ty,pos,af,none⟩::rest) n env w:=by
 injection e with e1 e2;injection e2 with e2 e3;injection e3 with e3 e4;exact F (xG h i e1 a e2 e3 e4) k
theorem dx{b o k off:Nat}(a:dP P T k off)(c:ev n env x=.pointer (some ⟨b,o,none⟩))(h:WL P ops Q rest n (gq env d (.pointer (some ⟨b,o+off,none⟩))) w):WL P ops Q (⟨d,.fieldAddr T x k,ty,pos,af,none⟩::rest) n env w:=F (aK a c) h
theorem w_stA{zs:List Value}{b:Nat}{cs:List Value}(h:SH w0 M K w hp)(i:Nat)(vs:List Value)(a:wo P T zs)(e:(hp i,ev n env x,ev n env y,vs.length,cs.length)=(Chunk.blk b cs,Value.pointer (some ⟨b,0,none⟩),Value.agg vs.toArray,zs.length,vs.length))(c:∀v∈vs,v.oneCell'=true)
  (k:∀w',SH w0 M K w' (bX hp i (.blk b vs))->WL P ops Q rest n (gq env d undef) w'):WL P ops Q (⟨d,.store T x y,ty,pos,af,none⟩::rest) n env w:=by
 injection e with e1 e2;injection e2 with e2 e3;injection e3 with e3 e4;injection e4 with e4 e5;refine w_stN h i vs e1 a e2 e3 e4 ?_ (by rw[Nat.ble_eq];omega) c k;unfold KS;simp[e5]
theorem bJ{f:FuncId}{first captured:Array Value}{xs:Array Operand}{i:Array TypeId}{args:List Value}(h:SH w0 M K w hp)(c:QX P f)(j:ev n env x=.func (.func f) first captured)
  (b:first.toList++xs.toList.map (ev n env)++captured.toList=args) (a:Calls P f args.toArray w (fun e w'=>Grow w w'/\e=.returned v)) (k:∀w',SH w0 M K w' hp->WL P ops Q rest n (gq env d v) w'):
  WL P ops Q (⟨d,.call {callee:=.value x,args:=xs,argTypes:=i},ty,pos,af,none⟩::rest) n env w:=
 bV c j b a (by rintro _ w' ⟨g,rfl⟩;exact⟨_,Z,k w' (h.grow g)⟩)
theorem VU{α:Type}{R:kX α}{l:List α}{f:FuncId}{first captured:Array Value}{xs:Array Operand}{o:Array TypeId}{args:List Value}{a:Value->Value}(h:SH w0 M K w hp)(i:Nat)(m:QX P f)(c:ev n env x=.func (.func f) first captured)
  (j:first.toList++xs.toList.map (ev n env)++captured.toList=args) (b:Calls P f args.toArray w (fun e w'=>Grow w w'/\∃u,e=.returned (a u)/\cK R w' (SH.A M hp) u l)) (k:∀w' u,SH w0 M K w' (bX hp i (.rd R u l))->WL P ops Q rest n (gq env d (a u)) w'):
  WL P ops Q (⟨d,.call {callee:=.value x,args:=xs,argTypes:=o},ty,pos,af,none⟩::rest) n env w:=
 bV m c j b (by rintro _ w' ⟨g,u,rfl,g2⟩;exact⟨_,Z,k w' u (h.A8 i g g2)⟩)
theorem jv{α:Type}{R:kX α}{E:TypeId}{l:List α}{f:FuncId}{first captured:Array Value}{xs:Array Operand}{q:Array TypeId}{args:List Value}{a:Value->Value}(h:SH w0 M K w hp)(i:Nat)(p:QX P f)(m:ev n env x=.func (.func f) first captured)
  (o:first.toList++xs.toList.map (ev n env)++captured.toList=args) (c:Calls P f args.toArray w (fun e w'=>Grow w w'/\∃u,e=.returned (a u)/\cO R E w' (SH.A M hp) u l/\(∀b,ob u b->w.heap.size<=b))) (k:∀w' u,SH w0 M K w' (bX hp i (.own R E u l))->WL P ops Q rest n (gq env d (a u)) w'):
  WL P ops Q (⟨d,.call {callee:=.value x,args:=xs,argTypes:=q},ty,pos,af,none⟩::rest) n env w:=
 bV p m o c (by rintro _ w' ⟨g,u,rfl,g2,j⟩;exact⟨_,Z,k w' u (h.xE i g g2 j)⟩)
end
section
variable{w w' w0:World}{M K:BS}{hp:Nat->Chunk}{C:Chunk}
theorem SH.eO(h:SH w0 M K w hp)(i:Nat)(a:(hp i).Q3):(hp i).holds w M (hp i).own'/\bH K w0 w/\(∀b,(hp i).own' b->b<w0.heap.size->K b):=h.outS i Z a
theorem SH.gW(h:SH w0 M K w hp)(i:Nat)(a:(hp i).Q3):(hp i).holds w (fun b=>M b\/rest hp i b) (hp i).own'/\(∀b,(hp i).own' b->¬(M b\/rest hp i b))/\(∀b,(M b\/rest hp i b)->b<w.heap.size):=h.lendS i Z a
theorem SH.kF(h:SH w0 M K w hp)(i:Nat)(a:C.holds w' (fun b=>M b\/rest hp i b) C.own')(d:C.Q3)(c:bH (hp i).own' w w')(hn:∀b,C.own' b->b<w.heap.size->(hp i).own' b):SH w0 M K w' (bX hp i C):=h.back i Z d a c hn
end
section
variable{σ ρ α:Type}{b:Int->σ->(σ->ρ)->ρ}{bx:Int->α->σ->(σ->ρ)->ρ}{be:α->σ->(σ->ρ)->ρ}{K:σ->ρ}{s:σ}{r:ρ}{i c:Int}{k:Nat}{L:List α}
theorem qY(f:i=(k:Int))(e:decide (i<c)=true)(d:upto b K i (c.toNat-k) s=r):∃a,upto b K (i+1) (c.toNat-(k+1))=a/\b i s a=r:=by
 rw[upto_lt (by have:=of_decide_eq_true e;omega)]at d;exact⟨_,Z,d⟩
theorem yo(d:i=(k:Int))(e:decide (i<c)=false)(a:upto b K i (c.toNat-k) s=r):K s=r:=by
 rw[upto_ge (by have:=of_decide_eq_false e;omega)]at a;exact a
theorem yt(a:i=(k:Int))(e:decide (i<c)=true)(b:c<=9223372036854775807):kg (i+1):=by
 have:=of_decide_eq_true e;exact kg.mk V V
theorem Ir(a:i=(k:Int))(e:decide (i<c)=true):c.toNat-(k+1)<c.toNat-k:=by
 have:=of_decide_eq_true e;omega
theorem ma(a:i=(k:Int))(e:decide (i<(L.length:Int))=true)(c:each be K (L.drop k) s=r):∃x b,L[k]? =some x/\each be K (L.drop (k+1))=b/\be x s b=r:=by
 obtain⟨x,d,f⟩:=drop_lt<|a▸e;rw[f,iH]at c;exact⟨x,_,d,Z,c⟩
theorem qN(a:i=(k:Int))(e:decide (i<(L.length:Int))=false)(b:each be K (L.drop k) s=r):K s=r:=by
 rw[drop_ge (a▸e),qW]at b;exact b
theorem AL(a:i=(k:Int))(e:decide (i<(L.length:Int))=true)(c:gU bx K i (L.drop k) s=r):∃x b,L[k]? =some x/\gU bx K (i+1) (L.drop (k+1))=b/\bx i x s b=r:=by
 obtain⟨x,d,f⟩:=drop_lt<|a▸e;rw[f,yf]at c;exact⟨x,_,d,Z,c⟩
theorem GI(a:i=(k:Int))(e:decide (i<(L.length:Int))=false)(b:gU bx K i (L.drop k) s=r):K s=r:=by
 rw[drop_ge (a▸e),SN]at b;exact b
theorem uG(a:i=(k:Int))(e:decide (i<(L.length:Int))=true):L.length-(k+1)<L.length-k:=by
 have:=of_decide_eq_true e;omega
end
abbrev cW(b:Nat)(a v1 v2:Value)(l:List iJ):Chunk:=.two (.blk b [a,v1,v2]) (.own fQ 40 v1 l)
abbrev mr(M:BS)(w:World):Prop:=∀b,M b->b<w.heap.size
open Go Go.RowKit Go.Proofs
section
variable{P:Program}{ops:Array Oper}{Q:Exit->Act->World->Prop}{rest:List Oper}{n:Nat}{env:Nat->Value}{w w0:World}{M K:BS}{hp:Nat->Chunk}{d:Option Nat}{ty:TypeId}{pos:String}{af:Array Edge}{x y:Operand}{T T2:TypeId}{v:Value}
theorem nk{k:Int}{p:Value}(i:IxOk P T v k p)(e:(ev n env x,ev n env y)=(v,Value.int .i64 k))(h:WL P ops Q rest n (gq env d p) w):WL P ops Q (⟨d,.indexAddr T x y,ty,pos,af,none⟩::rest) n env w:=by
 injection e with e1 e2;exact F (i _ _ _ _ _ _ _ _ _ e1 e2) h
theorem eu{p q:Int}{k:IntKind}(e:(ev n env x,ev n env y)=(Value.int k p,Value.int k q))(h:WL P ops Q rest n (gq env d (.bool (decide (p=q)))) w):WL P ops Q (⟨d,.binOp .eql T x y T2,ty,pos,af,none⟩::rest) n env w:=by
 injection e with e1 e2;exact F (l8 e1 e2) h
theorem jA{p q:Int}{k:IntKind}(e:(ev n env x,ev n env y)=(Value.int k p,Value.int k q))(h:WL P ops Q rest n (gq env d (.bool (decide (p≠q)))) w):WL P ops Q (⟨d,.binOp .neq T x y T2,ty,pos,af,none⟩::rest) n env w:=by
 injection e with e1 e2;exact F (zJ e1 e2) h
theorem gB{p q:Int}(e:(ev n env x,ev n env y)=(Value.int .i64 p,Value.int .i64 q))(h:WL P ops Q rest n (gq env d (.bool (decide (p<q)))) w):WL P ops Q (⟨d,.binOp .lss T x y T2,ty,pos,af,none⟩::rest) n env w:=by
 injection e with e1 e2;exact F (uW e1 e2) h
theorem fJ{p q:Int}(e:(ev n env x,ev n env y)=(Value.int .i64 p,Value.int .i64 q))(a:kg (p+q))(h:WL P ops Q rest n (gq env d (.int .i64 (p+q))) w):WL P ops Q (⟨d,.binOp .add T x y T2,ty,pos,af,none⟩::rest) n env w:=by
 injection e with e1 e2;exact F (JH e1 e2 a) h
theorem iq{i:Nat}{vs:List Value}(e:(ev n env x,vs[i]?)=(Value.tuple vs.toArray,some v))(h:WL P ops Q rest n (gq env d v) w):WL P ops Q (⟨d,.extract x i,ty,pos,af,none⟩::rest) n env w:=by
 injection e with e1 e2;exact F (dR e1 e2) h
theorem fE{α:Type}{R:kX α}{E:TypeId}{a:Nat}{l:List α}(h:SH w0 M K w hp)(i:Nat)(b:SliceOf P T E a)(e:(hp i,ev n env x)=(Chunk.sr R v l,v))(k:WL P ops Q rest n (gq env d (.int .i64 l.length)) w):WL P ops Q (⟨d,.call {callee:=.builtin .len,args:= #[x],argTypes:= #[T]},ty,pos,af,none⟩::rest) n env w:=by
 injection e with e1 e2;exact F (gG b e2<|h.fU i e1) k
theorem oo{α:Type}{R:kX α}{E:TypeId}{a:Nat}{l:List α}(h:SH w0 M K w hp)(i:Nat)(b:SliceOf P T E a)(e:(hp i,ev n env x)=(Chunk.rd R v l,v))(k:WL P ops Q rest n (gq env d (.int .i64 l.length)) w):WL P ops Q (⟨d,.call {callee:=.builtin .len,args:= #[x],argTypes:= #[T]},ty,pos,af,none⟩::rest) n env w:=by
 injection e with e1 e2;exact F (gG b e2<|h.kY i e1) k
theorem pW{j dj b' o:Nat}{b a:Bool}{z:Value}{cs:List Value}(h:SH w0 M K w hp)(i:Nat)(c:One P T z)(e:((ops[j]?).bind (·.dst),ev n env (.tmp dj),hp i,ev n env x,cs[o]?)=(some dj,Value.bool b,Chunk.blk b' cs,gv (b==a) (.pointer (some ⟨b',o,none⟩)),some v))
    (k:WL P ops Q rest n (gq env d (gv (b==a) v)) w):WL P ops Q (⟨d,.load T x,ty,pos,af,some (j,a)⟩::rest) n env w:=by
  injection e with e1 e2;injection e2 with e2 e3;injection e3 with e3 e4;injection e4 with e4 e5;exact aQ e1 e2 (fun q=>bW h i e3 c (e4.trans<|eF q) e5) k
theorem pX{j dj b' o f off:Nat}{b a:Bool}(c:dP P T f off)(e:((ops[j]?).bind (·.dst),ev n env (.tmp dj),ev n env x)=(some dj,Value.bool b,Value.pointer (some ⟨b',o,none⟩)))
    (k:WL P ops Q rest n (gq env d (gv (b==a) (.pointer (some ⟨b',o+off,none⟩)))) w):WL P ops Q (⟨d,.fieldAddr T x f,ty,pos,af,some (j,a)⟩::rest) n env w:=by
  injection e with e1 e2;injection e2 with e2 e3;exact aQ e1 e2 (fun q=>aK c e3) k
end
theorem cst{P:Program}{f:FuncId}{a:Func}{c:Code}{args:List Value}{R:Ending->World->Prop}{n:Nat}{w:World}(b:P.funcs[f]? =some a)(hn:a.ntmps=n)(e:(a.body,Nat.ble args.length n)=(some c,true))
  (h:WC P c (bodyPost P a R) n (SI args) w):Calls P f args.toArray w R:=by
 injection e with e1 e2;exact calls_start b e1 hn (Nat.le_of_ble_eq_true e2) h
open Go Go.RowKit Go.Proofs
def fillF(a:List (Nat×Nat))(cs:List Value):List (Nat×Value)->Option (List Value)
 |[]=>some cs
 |(i,v)::r=>match a[i]? with
  |some (off,1)=>if off<cs.length then fillF a (cs.set off v) r else none
  |_=>none
theorem fillF_ok{a:List (Nat×Nat)}:∀{pv:List (Nat×Value)} {cs out:List Value},(∀v∈pv.map (·.2),v.oneCell'=true)->fillF a cs pv=some out->FillOk a cs pv out
  |[],cs,out,_,h=>Option.some.inj h
  |(i,v)::r,cs,out,ho,h=>by
    unfold fillF at h;split at h
    · rename_i off e;split at h
      · rename_i b;refine⟨off,1,[v],e,dS<|ho v zq3,Z,by omega,?_⟩;rw[show KS cs off [v]=cs.set off v by unfold KS;rw[List.set_eq_take_append_cons_drop,if_pos b];simp];exact fillF_ok (fun x c=>ho x<|List.mem_cons_of_mem _ c) h
      · cases h
    · cases h
section
variable{P:Program}{ops:Array Oper}{Q:Exit->Act->World->Prop}{rest:List Oper}{n:Nat}{env:Nat->Value}{w w0:World}{M K:BS}{hp:Nat->Chunk}{d:Option Nat}{op:Op}{ty:TypeId}{pos:String}{af:Array Edge}{x y c:Operand}{T T2:TypeId}{v:Value}{j dj:Nat}{b b0 r:Bool}{i:Int}
theorem kH{zs out:List Value}{b:List (Nat×Nat)}{a:Array (Nat×Operand)}{pv:List (Nat×Value)}(c:Struct P T zs b)(e:(a.toList.map fun p=>(p.1,ev n env p.2),fillF b zs pv)=(pv,some out))(ho:∀v∈pv.map (·.2),v.oneCell'=true)
    (h:WL P ops Q rest n (gq env d (.agg out.toArray)) w):WL P ops Q (⟨d,.build T a,ty,pos,af,none⟩::rest) n env w:=by
  injection e with e1 e2;exact F (oh c e1<|fillF_ok ho e2) h
theorem MF(a:b0=true)(e:(ev n env c,ev n env x)=(Value.bool b0,Value.bool r))(h:WL P ops Q rest n (gq env d (.bool r)) w):WL P ops Q (⟨d,.pick c x y,ty,pos,af,none⟩::rest) n env w:=by
 injection e with e1 e2;exact F (ko (b:=true) (by rw[e1,a]) e2) h
theorem Rf(a:b0=false)(e:(ev n env c,ev n env y)=(Value.bool b0,Value.bool r))(h:WL P ops Q rest n (gq env d (.bool r)) w):WL P ops Q (⟨d,.pick c x y,ty,pos,af,none⟩::rest) n env w:=by
 injection e with e1 e2;exact F (ko (b:=false) (by rw[e1,a]) e2) h
theorem oW(a:b0=false)(e:((ops[j]?).bind (·.dst),ev n env (.tmp dj),(false==b))=(some dj,Value.bool b0,false))(h:WL P ops Q rest n (gq env d undef) w):WL P ops Q (⟨d,op,ty,pos,af,some (j,b)⟩::rest) n env w:=by
  injection e with e1 e2;injection e2 with e2 e3;exact cz e1 (by rw[e2,a]) e3 h
theorem BL(a:b0=true)(e:((ops[j]?).bind (·.dst),ev n env (.tmp dj),(true==b))=(some dj,Value.bool b0,false))(h:WL P ops Q rest n (gq env d undef) w):WL P ops Q (⟨d,op,ty,pos,af,some (j,b)⟩::rest) n env w:=by
  injection e with e1 e2;injection e2 with e2 e3;exact cz e1 (by rw[e2,a]) e3 h
theorem oN(a:b0=b)(e:((ops[j]?).bind (·.dst),ev n env (.tmp dj))=(some dj,Value.bool b0))(h:WL P ops Q (⟨d,op,ty,pos,af,none⟩::rest) n env w):WL P ops Q (⟨d,op,ty,pos,af,some (j,b)⟩::rest) n env w:=by
  injection e with e1 e2;exact Vh e1 (by rw[e2,a]) h
theorem Vt{a:Bool}(e:((ops[j]?).bind (·.dst),ev n env (.tmp dj),ev n env x)=(some dj,Value.bool b,Value.int .i64 i))(h:WL P ops Q rest n (gq env d (gv (b==a) (.int .i64 i))) w):WL P ops Q (⟨d,.move x,ty,pos,af,some (j,a)⟩::rest) n env w:=by
  injection e with e1 e2;injection e2 with e2 e3;exact aQ e1 e2 (fun _=>bL e3) h
theorem g0B'{a:Bool}(e:((ops[j]?).bind (·.dst),ev n env (.tmp dj),ev n env x)=(some dj,Value.bool b,Value.bool r))(h:WL P ops Q rest n (gq env d (gv (b==a) (.bool r))) w):WL P ops Q (⟨d,.move x,ty,pos,af,some (j,a)⟩::rest) n env w:=by
  injection e with e1 e2;injection e2 with e2 e3;exact aQ e1 e2 (fun _=>bL e3) h
theorem La{zs vs:List Value}{a o k:Nat}{cs:List Value}(h:SH w0 M K w hp)(i:Nat)(b:wo P T zs)(e:(hp i,ev n env x,(cs.drop k).take zs.length,vs.length,Nat.ble (k+zs.length) cs.length)=(Chunk.pt a o cs,Value.pointer (some ⟨a,o+k,none⟩),vs,zs.length,true))(q:WL P ops Q rest n (gq env d (.agg vs.toArray)) w):WL P ops Q (⟨d,.load T x,ty,pos,af,none⟩::rest) n env w:=by
 injection e with e1 e2;injection e2 with e2 e3;injection e3 with e3 e4;injection e4 with e4 e5;exact F (KW h i e1 b e2 e3 e4<|Nat.le_of_ble_eq_true e5) q
theorem jb{L:BS}{ws:World}{u:Value}(a:bH L ws w)(g:∀b,ob u b->w.heap.size<=b):∀b,ob u b->ws.heap.size<=b:=fun b c=>Nat.le_trans a.size (g b c)
end
section
variable{P:Program}{ops:Array Oper}{Q:Exit->Act->World->Prop}{n:Nat}{env:Nat->Value}{w ws:World}{d:Option Nat}{op:Op}{ty:TypeId}{pos:String}{af:Array Edge}{fuel:Nat}{listed:Array Bool}{v:Value}{L:BS}
theorem bS(i:Nat)(e:Grow ws w)(f:ops[i]? =some ⟨d,op,ty,pos,af,none⟩)(c:∀b,Grow ws b->(execOp (ev n env) ⟨d,op,ty,pos,af,none⟩).run P b=.ok (.value v) b)(h:WH P ops ws Q fuel (listed.setIfInBounds i true) n (gq env d v) w)(a:(Region.noSelect ops&&(Region.free .any ops listed i&&(Region.ready .any ops listed).contains i))=true:=by kernel_rfl):WH P ops ws Q (fuel+1) listed n env w:=by
 simp only[Bool.and_eq_true]at a;exact wh_ok i e f aZ a.1 a.2.1 a.2.2 c h
theorem bg(i:Nat)(e:bH L ws w)(f:ops[i]? =some ⟨d,op,ty,pos,af,none⟩)(c:∀b,bH L ws b->(execOp (ev n env) ⟨d,op,ty,pos,af,none⟩).run P b=.ok (.value v) b)(h:VR P ops L ws Q fuel (listed.setIfInBounds i true) n (gq env d v) w)(a:(Region.noSelect ops&&(Region.free .any ops listed i&&(Region.ready .any ops listed).contains i))=true:=by kernel_rfl):VR P ops L ws Q (fuel+1) listed n env w:=by
 simp only[Bool.and_eq_true]at a;exact whk_ok i e f aZ a.1 a.2.1 a.2.2 c h
end
section
variable{P:Program}{ops:Array Oper}{w:World}{Q1:Act->Prop}{rest:List Oper}{n:Nat}{env:Nat->Value}{d:Option Nat}{ty:TypeId}{pos:String}{af:Array Edge}{x:Operand}
theorem kI{i:Int}(a:ev n env x=.int .i64 i)(h:WK P ops w Q1 rest n (gq env d (.int .i64 i))):WK P ops w Q1 (⟨d,.move x,ty,pos,af,none⟩::rest) n env:=aG (bL a) h
theorem kB{i:Bool}(a:ev n env x=.bool i)(h:WK P ops w Q1 rest n (gq env d (.bool i))):WK P ops w Q1 (⟨d,.move x,ty,pos,af,none⟩::rest) n env:=aG (bL a) h
end
abbrev FW(w:World)(M:BS)(C:Chunk):Prop:=Chunk.holds w M (Chunk.own' C) C
abbrev ApC(C:Chunk)(M:BS):Prop:=∀b,Chunk.own' C b->¬M b
abbrev Wu(C':Chunk)(w:World)(C:Chunk):Prop:=∀b,Chunk.own' C' b->b<w.heap.size->Chunk.own' C b
abbrev Ew(M:BS)(C:Chunk):BS:=fun b=>M b\/Chunk.own' C b
open Go Go.RowKit Go.Proofs
section
variable{P:Program}{ops:Array Oper}{Q:Exit->Act->World->Prop}{n:Nat}{env:Nat->Value}{w ws:World}{d:Option Nat}{ty:TypeId}{pos:String}{af:Array Edge}{fuel:Nat}{listed:Array Bool}{v:Value}{L:BS}{T:TypeId}{x:Operand}
theorem Ex(i:Nat)(c:Grow ws w){k off b o:Nat}(f:dP P T k off)(e:(ops[i]?,ev n env x)=(some ⟨d,.fieldAddr T x k,ty,pos,af,none⟩,Value.pointer (some ⟨b,o,none⟩)))(h:WH P ops ws Q fuel (listed.setIfInBounds i true) n (gq env d (.pointer (some ⟨b,o+off,none⟩))) w)(a:(Region.noSelect ops&&(Region.free .any ops listed i&&(Region.ready .any ops listed).contains i))=true:=by kernel_rfl):WH P ops ws Q (fuel+1) listed n env w:=by
 injection e with e1 e2;exact bS i c e1 (fun _ _=>aK f e2) h a
theorem dA(i:Nat)(c:bH L ws w){k off b o:Nat}(f:dP P T k off)(e:(ops[i]?,ev n env x)=(some ⟨d,.fieldAddr T x k,ty,pos,af,none⟩,Value.pointer (some ⟨b,o,none⟩)))(h:VR P ops L ws Q fuel (listed.setIfInBounds i true) n (gq env d (.pointer (some ⟨b,o+off,none⟩))) w)(a:(Region.noSelect ops&&(Region.free .any ops listed i&&(Region.ready .any ops listed).contains i))=true:=by kernel_rfl):VR P ops L ws Q (fuel+1) listed n env w:=by
 injection e with e1 e2;exact bg i c e1 (fun _ _=>aK f e2) h a
theorem vX(i:Nat)(a:Grow ws w)(v:Value)(e:(ops[i]?,ev n env x)=(some ⟨d,.move x,ty,pos,af,none⟩,v))(h:WH P ops ws Q fuel (listed.setIfInBounds i true) n (gq env d v) w)(b:(Region.noSelect ops&&(Region.free .any ops listed i&&(Region.ready .any ops listed).contains i))=true:=by kernel_rfl):WH P ops ws Q (fuel+1) listed n env w:=by
 injection e with e1 e2;exact bS i a e1 (fun _ _=>bL e2) h b
theorem jT(i:Nat)(a:bH L ws w)(v:Value)(e:(ops[i]?,ev n env x)=(some ⟨d,.move x,ty,pos,af,none⟩,v))(h:VR P ops L ws Q fuel (listed.setIfInBounds i true) n (gq env d v) w)(b:(Region.noSelect ops&&(Region.free .any ops listed i&&(Region.ready .any ops listed).contains i))=true:=by kernel_rfl):VR P ops L ws Q (fuel+1) listed n env w:=by
 injection e with e1 e2;exact bg i a e1 (fun _ _=>bL e2) h b
theorem Iu(i:Nat)(a:Grow ws w)(v:Value)(e:(ops[i]?,ev n env x)=(some ⟨d,.assign x,ty,pos,af,none⟩,v))(h:WH P ops ws Q fuel (listed.setIfInBounds i true) n (gq env d v) w)(b:(Region.noSelect ops&&(Region.free .any ops listed i&&(Region.ready .any ops listed).contains i))=true:=by kernel_rfl):WH P ops ws Q (fuel+1) listed n env w:=by
 injection e with e1 e2;exact bS i a e1 (fun _ _=>eU e2) h b
theorem vw(i:Nat)(a:bH L ws w)(v:Value)(e:(ops[i]?,ev n env x)=(some ⟨d,.assign x,ty,pos,af,none⟩,v))(h:VR P ops L ws Q fuel (listed.setIfInBounds i true) n (gq env d v) w)(b:(Region.noSelect ops&&(Region.free .any ops listed i&&(Region.ready .any ops listed).contains i))=true:=by kernel_rfl):VR P ops L ws Q (fuel+1) listed n env w:=by
 injection e with e1 e2;exact bg i a e1 (fun _ _=>eU e2) h b
end
section
variable{P:Program}{ops:Array Oper}{Q:Exit->Act->World->Prop}{rest:List Oper}{n:Nat}{env:Nat->Value}{w w0:World}{M K:BS}{hp:Nat->Chunk}{d:Option Nat}{ty:TypeId}{pos:String}{af:Array Edge}{x y:Operand}{T:TypeId}
theorem bT{zs vs:List Value}{b:Nat}{cs:List Value}(h:SH w0 M K w hp)(i:Nat)(a:wo P T zs)(e:(hp i,ev n env x,ev n env y,vs.length,cs.length)=(Chunk.blk b cs,Value.pointer (some ⟨b,0,none⟩),Value.agg vs.toArray,zs.length,vs.length))(c:∀v∈vs,v.oneCell'=true)
 (k:∀w',SH w0 M K w' (bX hp i (.blk b vs))->WL P ops Q rest n (gq env d undef) w'):WL P ops Q (⟨d,.store T x y,ty,pos,af,none⟩::rest) n env w:=w_stA h i vs a e c k
theorem SH.pr(h:SH w0 M K w hp)(i j:Nat)(a:i≠j:=by decide):SH w0 M K w (bX (bX hp j .no) i (.two (hp i) (hp j))):=h.pair i j a
theorem SH.un{a c:Chunk}(h:SH w0 M K w hp)(i j:Nat)(d:hp i=.two a c)(e:hp j=.no)(b:i≠j:=by decide):SH w0 M K w (bX (bX hp i a) j c):=h.unpair i j b d e
end
open Go Go.RowKit Go.Proofs
theorem kR{L:BS}{w:World}:bH L w w:=bH.refl L w
theorem dQ{vs:List Value}(e:vs.all Value.oneCell'=true):∀v∈vs,v.oneCell'=true:=fun v h=>List.all_eq_true.1 e v h
section
variable{P:Program}{ops:Array Oper}{Q:Exit->Act->World->Prop}{n:Nat}{env:Nat->Value}{w:World}{fuel:Nat}{listed:Array Bool}{L:BS}
theorem ik(h:∀ws,bH L ws w->VR P ops L ws Q fuel listed n env w):VR P ops L w Q fuel listed n env w:=h w (bH.refl _ _)
theorem pz(h:∀ws,Grow ws w->WH P ops ws Q fuel listed n env w):WH P ops w Q fuel listed n env w:=h w (bH.refl _ _)
end
section
variable{P:Program}{ops:Array Oper}{Q:Exit->Act->World->Prop}{rest:List Oper}{n:Nat}{env:Nat->Value}{w w0:World}{M K:BS}{hp:Nat->Chunk}{d:Option Nat}{ty:TypeId}{pos:String}{af:Array Edge}{x:Operand}{v:Value}
theorem Ey{f:FuncId}{first captured:Array Value}{xs:Array Operand}{i:Array TypeId}{args:List Value}(h:SH w0 M K w hp)(c:QX P f)(j:ev n env x=.func (.func f) first captured)
  (b:first.toList++xs.toList.map (ev n env)++captured.toList=args) (a:Calls P f args.toArray w (fun e w'=>Grow w w'/\e=.returned v)) (k:∀w',Grow w w'->SH w0 M K w' hp->WL P ops Q rest n (gq env d v) w'):
  WL P ops Q (⟨d,.call {callee:=.value x,args:=xs,argTypes:=i},ty,pos,af,none⟩::rest) n env w:=
 bV c j b a (by rintro _ w' ⟨g,rfl⟩;exact⟨_,Z,k w' g (h.grow g)⟩)
theorem wV{α:Type}{R:kX α}{l:List α}{f:FuncId}{first captured:Array Value}{xs:Array Operand}{o:Array TypeId}{args:List Value}{a:Value->Value}(h:SH w0 M K w hp)(i:Nat)(m:QX P f)(c:ev n env x=.func (.func f) first captured)
  (j:first.toList++xs.toList.map (ev n env)++captured.toList=args) (b:Calls P f args.toArray w (fun e w'=>Grow w w'/\∃u,e=.returned (a u)/\cK R w' (SH.A M hp) u l)) (k:∀w' u,Grow w w'->SH w0 M K w' (bX hp i (.rd R u l))->WL P ops Q rest n (gq env d (a u)) w'):
  WL P ops Q (⟨d,.call {callee:=.value x,args:=xs,argTypes:=o},ty,pos,af,none⟩::rest) n env w:=
 bV m c j b (by rintro _ w' ⟨g,u,rfl,g2⟩;exact⟨_,Z,k w' u g (h.A8 i g g2)⟩)
theorem dG{α:Type}{R:kX α}{E:TypeId}{l:List α}{f:FuncId}{first captured:Array Value}{xs:Array Operand}{q:Array TypeId}{args:List Value}{a:Value->Value}(h:SH w0 M K w hp)(i:Nat)(p:QX P f)(m:ev n env x=.func (.func f) first captured)
  (o:first.toList++xs.toList.map (ev n env)++captured.toList=args) (j:Calls P f args.toArray w (fun e w'=>Grow w w'/\∃u,e=.returned (a u)/\cO R E w' (SH.A M hp) u l/\(∀b,ob u b->w.heap.size<=b))) (k:∀w' u,Grow w w'->(∀b,ob u b->w.heap.size<=b)->SH w0 M K w' (bX hp i (.own R E u l))->WL P ops Q rest n (gq env d (a u)) w'):
  WL P ops Q (⟨d,.call {callee:=.value x,args:=xs,argTypes:=q},ty,pos,af,none⟩::rest) n env w:=
 bV p m o j (by rintro _ w' ⟨g,u,rfl,g2,c⟩;exact⟨_,Z,k w' u g c (h.xE i g g2 c)⟩)
end
open Go Go.RowKit Go.Proofs
abbrev pT(b:Nat):Value:=.pointer (some ⟨b,0,none⟩)
abbrev nS:Value:=.slice none 0 0
def fchk(P:Program)(f:FuncId):Bool:=match P.funcs[f]? with
 |some fn=> !(fn.name== "runtime.NumGoroutine")&& !fn.body.isNone
 |none=>false
theorem fo{P:Program}{f:FuncId}(h:fchk P f=true:=by kernel_rfl):QX P f:=by
  unfold fchk at h;split at h
  · rename_i a e;simp only[Bool.and_eq_true,Bool.not_eq_true']at h;exact⟨a,e,h.1,h.2⟩
  · cases h
section
variable{P:Program}{ops:Array Oper}{Q:Exit->Act->World->Prop}{n:Nat}{env:Nat->Value}{w ws:World}{d:Option Nat}{op:Op}{ty:TypeId}{pos:String}{af:Array Edge}{fuel:Nat}{listed:Array Bool}{L:BS}
theorem aW(i:Nat)(a:ops[i]? =some ⟨d,op,ty,pos,af,none⟩)(h:WL P ops (SV P ops L ws Q fuel (listed.setIfInBounds i true)) [⟨d,op,ty,pos,af,none⟩] n env w)(b:Region.ready .any ops listed=[i]:=by kernel_rfl):VR P ops L ws Q (fuel+1) listed n env w:=whk_eff i b a aZ h
theorem qp(i:Nat)(a:ops[i]? =some ⟨d,op,ty,pos,af,none⟩)(h:WL P ops (after P ops ws Q fuel (listed.setIfInBounds i true)) [⟨d,op,ty,pos,af,none⟩] n env w)(b:Region.ready .any ops listed=[i]:=by kernel_rfl):WH P ops ws Q (fuel+1) listed n env w:=wh_eff i b a aZ h
theorem iV(h:Q .normal (act n env) w)(a:Region.ready .any ops listed=[]:=by kernel_rfl):VR P ops L ws Q fuel listed n env w:=whk_done a h
theorem Ez(h:Q .normal (act n env) w)(a:Region.ready .any ops listed=[]:=by kernel_rfl):WH P ops ws Q fuel listed n env w:=wh_done a h
end
end Go.LX
namespace Go.Proofs
set_option maxHeartbeats 1000000 in
set_option maxRecDepth 100000 in
theorem Tryz.stringslite_IndexByte(s:ByteArray)(c:Int)(w:World):
  Calls Tryz.prog 210 #[.string s,.int .u8 c] w fun e w'=>e=.returned (.int .i64 (Lib.indexByte s.data.toList c.toNat.toUInt8))/\w'=w:=by
 go_enter Tryz.func210,Tryz.ntmps210
 go_wp2
 rw[run_callFunc_extern Tryz.func225 zq2 zq2 zq2 (e:=Extern.BytealgIndexByte.indexByte) zq2,Lib.run_indexByteString];simp only[Result.andThen];rw[Oper.upon_value]
 go_wp2
 go_ret
 exact⟨Z,Z⟩
set_option maxHeartbeats 2000000 in
set_option maxRecDepth 100000 in
theorem Tryz.stringslite_Index_one(s:ByteArray)(c:UInt8)(w:World):
    Calls Tryz.prog 195 #[.string s,.string ⟨#[c]⟩] w fun e w'=>e=.returned (.int .i64 (Lib.indexByte s.data.toList c))/\w'=w:=by
  go_enter Tryz.func195,Tryz.ntmps195
  go_wp2_with (go_at_call 210;refine(Tryz.stringslite_IndexByte _ _ _).mono ?_;rintro e w'⟨rfl,rfl⟩)
  · have h:([c]==s.toList)=true:=by assumption
    go_ret
    refine⟨?_,Z⟩;have e:s.data.toList=[c]:=by rw[<-Lib.toList_data];exact(beq_iff_eq.1 h).symm
    rw[e];simp[Lib.indexByte]
  · go_ret
    exact⟨Z,Z⟩
set_option maxHeartbeats 1000000 in
theorem Tryz.strings_Index_one(s:ByteArray)(c:UInt8)(w:World):
  Calls Tryz.prog 178 #[.string s,.string ⟨#[c]⟩] w fun e w'=>e=.returned (.int .i64 (Lib.indexByte s.data.toList c))/\w'=w:=by
 go_enter Tryz.func178,Tryz.ntmps178
 go_wp2_with (go_at_call 195;refine(Tryz.stringslite_Index_one _ _ _).mono ?_;rintro e w'⟨rfl,rfl⟩)
 go_ret
 exact⟨Z,Z⟩
set_option maxHeartbeats 1000000 in
theorem Tryz.strings_Contains_one(s:ByteArray)(c:UInt8)(w:World):
  Calls Tryz.prog 188 #[.string s,.string ⟨#[c]⟩] w fun e w'=>e=.returned (.bool (decide (0<=Lib.indexByte s.data.toList c)))/\w'=w:=by
 go_enter Tryz.func188,Tryz.ntmps188
 go_wp2_with (go_at_call 178;refine(Tryz.strings_Index_one _ _ _).mono ?_;rintro e w'⟨rfl,rfl⟩)
 go_ret
 exact⟨Z,Z⟩
open Go.Shelf
def Tryz.lays146_ren:Go.Shelf.Ren:=⟨fun|146=>96|221=>145|268=>176|138=>177|143=>178|195=>197|197=>198|218=>199|219=>195|260=>215|217=>210|225=>211|224=>212|267=>213|266=>225|314=>226|n=>n,fun|9=>9|31=>173|3=>3|4=>4|0=>0|105=>293|21=>21|5=>5|46=>299|119=>242|139=>340|138=>339|146=>336|51=>277|n=>n,fun|1=>4|3=>5|4=>6|n=>n⟩
theorem Tryz.lays146:Go.Proofs.Lays.n146 Tryz.prog Tryz.lays146_ren:={
 mixed:=zq2
 f138:=Tryz.func177.trans (congrArg some zq2)
 f143:=Tryz.func178.trans (congrArg some zq2)
 f146:=Tryz.func96.trans (congrArg some zq2)
 f195:=Tryz.func197.trans (congrArg some zq2)
 f197:=Tryz.func198.trans (congrArg some zq2)
 f217:=Tryz.func210.trans (congrArg some zq2)
 f218:=Tryz.func199.trans (congrArg some zq2)
 f219:=Tryz.func195.trans (congrArg some zq2)
 f221:=Tryz.func145.trans (congrArg some zq2)
 f224:=Tryz.func212.trans (congrArg some zq2)
 f225:=Tryz.func211.trans (congrArg some zq2)
 f260:=Tryz.func215.trans (congrArg some zq2)
 f266:=Tryz.func225.trans (congrArg some zq2)
 f267:=Tryz.func213.trans (congrArg some zq2)
 f268:=Tryz.func176.trans (congrArg some zq2)
 f314:=Tryz.func226.trans (congrArg some zq2)
 t0:=Tryz.underlying0
 a0:=Tryz.isAgg0
 z0:=Tryz.sizeOf0
 v0:=Tryz.zeroValue0
 t3:=Tryz.underlying3
 a3:=Tryz.isAgg3
 z3:=Tryz.sizeOf3
 v3:=Tryz.zeroValue3
 t4:=Tryz.underlying4
 a4:=Tryz.isAgg4
 z4:=Tryz.sizeOf4
 v4:=Tryz.zeroValue4
 t5:=Tryz.underlying5
 a5:=Tryz.isAgg5
 z5:=Tryz.sizeOf5
 v5:=Tryz.zeroValue5
 t9:=Tryz.underlying9
 a9:=Tryz.isAgg9
 z9:=Tryz.sizeOf9
 v9:=Tryz.zeroValue9
 t21:=Tryz.underlying21
 a21:=Tryz.isAgg21
 z21:=Tryz.sizeOf21
 v21:=Tryz.zeroValue21
 t31:=Tryz.underlying173
 a31:=Tryz.isAgg173
 z31:=Tryz.sizeOf173
 v31:=Tryz.zeroValue173
 t46:=Tryz.underlying299
 a46:=Tryz.isAgg299
 z46:=Tryz.sizeOf299
 v46:=Tryz.zeroValue299
 t51:=Tryz.underlying277
 a51:=Tryz.isAgg277
 z51:=Tryz.sizeOf277
 v51:=Tryz.zeroValue277
 t105:=Tryz.underlying293
 a105:=Tryz.isAgg293
 z105:=Tryz.sizeOf293
 v105:=Tryz.zeroValue293
 t119:=Tryz.underlying242
 a119:=Tryz.isAgg242
 z119:=Tryz.sizeOf242
 t138:=Tryz.underlying339
 a138:=Tryz.isAgg339
 z138:=Tryz.sizeOf339
 v138:=Tryz.zeroValue339
 t139:=Tryz.underlying340
 a139:=Tryz.isAgg340
 z139:=Tryz.sizeOf340
 v139:=Tryz.zeroValue340
 t146:=Tryz.underlying336
 a146:=Tryz.isAgg336
 z146:=Tryz.sizeOf336
 v146:=Tryz.zeroValue336
 g1:=zq2
 g3:=zq2
 g4:=by kernel_rfl}
open Go.RowKit Go.Lib in
theorem Tryz.strings_Split(s a:ByteArray)(m:Int)(w:World)(d:s.size<4294967281)(b:w.cell? ⟨4,0,none⟩=some (.int .i64 m))(c:1<=a.size):
 Calls Tryz.prog 96 #[.string s,.string a] w fun e w'=>
  e=.returned (.slice (some ⟨w.heap.size,0,none⟩) (Lib.countB s a+1) (Lib.countB s a+1))/\w'=w.alloc (.cells ((Lib.splitB a 0 (Lib.countB s a) s).map Value.string).toArray 9):=Any.strings_Split Tryz.lays146 zq2 s a m w d b c
def Tryz.laysC172_ren:Go.Shelf.Ren:=⟨fun|172=>97|244=>146|245=>147|247=>179|279=>180|280=>181|281=>182|282=>183|287=>200|316=>201|171=>149|205=>202|321=>216|322=>217|243=>185|246=>203|283=>218|284=>219|285=>220|286=>221|129=>228|317=>227|318=>229|319=>230|320=>231|337=>232|338=>233|n=>n,fun|9=>9|3=>3|75=>176|76=>177|4=>4|5=>5|167=>267|37=>36|0=>0|85=>268|2=>2|168=>270|53=>296|175=>297|46=>299|210=>302|127=>317|145=>323|143=>321|21=>21|171=>324|173=>327|212=>342|51=>277|20=>20|213=>343|232=>346|233=>347|80=>180|n=>n,fun|15=>2|16=>3|17=>7|18=>8|19=>9|n=>n⟩
theorem Tryz.Wv:Go.Proofs.LaysC.n172 Tryz.prog Tryz.laysC172_ren:={
 mixed:=zq2
 f129:=Tryz.func228.trans (congrArg some zq2)
 f171:=Tryz.func149.trans (congrArg some zq2)
 f172:=Tryz.func97.trans (congrArg some zq2)
 f205:=Tryz.func202.trans (congrArg some zq2)
 f243:=Tryz.func185.trans (congrArg some zq2)
 f244:=Tryz.func146.trans (congrArg some zq2)
 f245:=Tryz.func147.trans (congrArg some zq2)
 f246:=Tryz.func203.trans (congrArg some zq2)
 f247:=Tryz.func179.trans (congrArg some zq2)
 f279:=Tryz.func180.trans (congrArg some zq2)
 f280:=Tryz.func181.trans (congrArg some zq2)
 f281:=Tryz.func182.trans (congrArg some zq2)
 f282:=Tryz.func183.trans (congrArg some zq2)
 f283:=Tryz.func218.trans (congrArg some zq2)
 f284:=Tryz.func219.trans (congrArg some zq2)
 f285:=Tryz.func220.trans (congrArg some zq2)
 f286:=Tryz.func221.trans (congrArg some zq2)
 f287:=Tryz.func200.trans (congrArg some zq2)
 f316:=Tryz.func201.trans (congrArg some zq2)
 f317:=Tryz.func227.trans (congrArg some zq2)
 f318:=Tryz.func229.trans (congrArg some zq2)
 f319:=Tryz.func230.trans (congrArg some zq2)
 f320:=Tryz.func231.trans (congrArg some zq2)
 f321:=Tryz.func216.trans (congrArg some zq2)
 f322:=Tryz.func217.trans (congrArg some zq2)
 f337:=Tryz.func232.trans (congrArg some zq2)
 f338:=Tryz.func233.trans (congrArg some zq2)
 t0:=Tryz.underlying0
 a0:=Tryz.isAgg0
 z0:=Tryz.sizeOf0
 v0:=Tryz.zeroValue0
 t2:=Tryz.underlying2
 a2:=Tryz.isAgg2
 z2:=Tryz.sizeOf2
 v2:=Tryz.zeroValue2
 t3:=Tryz.underlying3
 a3:=Tryz.isAgg3
 z3:=Tryz.sizeOf3
 v3:=Tryz.zeroValue3
 t4:=Tryz.underlying4
 a4:=Tryz.isAgg4
 z4:=Tryz.sizeOf4
 v4:=Tryz.zeroValue4
 t5:=Tryz.underlying5
 a5:=Tryz.isAgg5
 z5:=Tryz.sizeOf5
 v5:=Tryz.zeroValue5
 t9:=Tryz.underlying9
 a9:=Tryz.isAgg9
 z9:=Tryz.sizeOf9
 v9:=Tryz.zeroValue9
 t20:=Tryz.underlying20
 a20:=Tryz.isAgg20
 z20:=Tryz.sizeOf20
 v20:=Tryz.zeroValue20
 t21:=Tryz.underlying21
 a21:=Tryz.isAgg21
 z21:=Tryz.sizeOf21
 v21:=Tryz.zeroValue21
 t37:=Tryz.underlying36
 a37:=Tryz.isAgg36
 z37:=Tryz.sizeOf36
 v37:=Tryz.zeroValue36
 t46:=Tryz.underlying299
 a46:=Tryz.isAgg299
 z46:=Tryz.sizeOf299
 v46:=Tryz.zeroValue299
 t51:=Tryz.underlying277
 a51:=Tryz.isAgg277
 z51:=Tryz.sizeOf277
 v51:=Tryz.zeroValue277
 t53:=Tryz.underlying296
 a53:=Tryz.isAgg296
 z53:=Tryz.sizeOf296
 v53:=Tryz.zeroValue296
 t75:=Tryz.underlying176
 a75:=Tryz.isAgg176
 z75:=Tryz.sizeOf176
 v75:=Tryz.zeroValue176
 t76:=Tryz.underlying177
 a76:=Tryz.isAgg177
 z76:=Tryz.sizeOf177
 v76:=Tryz.zeroValue177
 t85:=Tryz.underlying268
 a85:=Tryz.isAgg268
 z85:=Tryz.sizeOf268
 v85:=Tryz.zeroValue268
 t127:=Tryz.underlying317
 a127:=Tryz.isAgg317
 z127:=Tryz.sizeOf317
 v127:=Tryz.zeroValue317
 t143:=Tryz.underlying321
 a143:=Tryz.isAgg321
 z143:=Tryz.sizeOf321
 v143:=Tryz.zeroValue321
 t145:=Tryz.underlying323
 a145:=Tryz.isAgg323
 z145:=Tryz.sizeOf323
 v145:=Tryz.zeroValue323
 t167:=Tryz.underlying267
 a167:=Tryz.isAgg267
 z167:=Tryz.sizeOf267
 v167:=Tryz.zeroValue267
 t168:=Tryz.underlying270
 a168:=Tryz.isAgg270
 z168:=Tryz.sizeOf270
 v168:=Tryz.zeroValue270
 t171:=Tryz.underlying324
 a171:=Tryz.isAgg324
 z171:=Tryz.sizeOf324
 v171:=Tryz.zeroValue324
 t173:=Tryz.underlying327
 a173:=Tryz.isAgg327
 z173:=Tryz.sizeOf327
 v173:=Tryz.zeroValue327
 t175:=Tryz.underlying297
 a175:=Tryz.isAgg297
 z175:=Tryz.sizeOf297
 v175:=Tryz.zeroValue297
 t210:=Tryz.underlying302
 a210:=Tryz.isAgg302
 z210:=Tryz.sizeOf302
 v210:=Tryz.zeroValue302
 t212:=Tryz.underlying342
 a212:=Tryz.isAgg342
 z212:=Tryz.sizeOf342
 v212:=Tryz.zeroValue342
 t213:=Tryz.underlying343
 a213:=Tryz.isAgg343
 z213:=Tryz.sizeOf343
 t232:=Tryz.underlying346
 a232:=Tryz.isAgg346
 z232:=Tryz.sizeOf346
 v232:=Tryz.zeroValue346
 t233:=Tryz.underlying347
 a233:=Tryz.isAgg347
 z233:=Tryz.sizeOf347
 v233:=Tryz.zeroValue347
 g15:=zq2
 g16:=zq2
 g17:=zq2
 g18:=zq2
 g19:=zq2
 t80:=Tryz.underlying180
 a80:=Tryz.isAgg180
 z80:=Tryz.sizeOf180
 v80:=Tryz.zeroValue180
 i0:=zq2
 i2:=zq2
 i3:=zq2
 i4:=zq2
 i5:=zq2
 i9:=zq2
 i20:=zq2
 i21:=zq2
 i37:=zq2
 i46:=zq2
 i51:=zq2
 i53:=zq2
 i75:=zq2
 i76:=zq2
 i80:=zq2
 i85:=zq2
 i127:=zq2
 i143:=zq2
 i145:=zq2
 i167:=zq2
 i168:=zq2
 i171:=zq2
 i173:=zq2
 i175:=zq2
 i210:=zq2
 i212:=zq2
 i232:=zq2
 i233:=zq2
 m15:=zq2
 m16:=zq2
 m17:=zq2
 m18:=zq2
 m19:=zq2
 c0:=zq2
 c2:=zq2
 c3:=zq2
 c4:=zq2
 c5:=zq2
 c9:=zq2
 c20:=zq2
 c21:=zq2
 c37:=zq2
 c46:=zq2
 c51:=zq2
 c53:=zq2
 c75:=zq2
 c76:=zq2
 c80:=zq2
 c85:=zq2
 c127:=zq2
 c143:=zq2
 c145:=zq2
 c167:=zq2
 c168:=zq2
 c171:=zq2
 c173:=zq2
 c175:=zq2
 c210:=zq2
 c212:=zq2
 c213:=zq2
 c232:=zq2
 c233:=by kernel_rfl}
open Go.RowKit in
theorem Tryz.strconv_Atoi_ok(s:ByteArray)(a:s.size<=9223372036854775806)(v:Int)(h:Lib.atoiAll s.data.toList=.ok v)(w:World):
 Calls Tryz.prog 97 #[.string s] w fun e w'=>e=.returned (.tuple #[.int .i64 v,.nilIface])/\(w'=w\/∃t,w'=Lib.bytesWorld w 5 t):=Any.strconv_Atoi_ok Tryz.Wv s a v h w
open Go.RowKit in
theorem Tryz.strconv_Atoi_syntax_var(s:ByteArray)(a:s.size<=281474976710656)(e:Lib.NumEnd Int)(h:Lib.atoiAll s.data.toList=e)(d:∀v,e≠ .ok v)(f:e≠ .range)(c:TypeId)(p:Value)(w:World)(b:w.var? Tryz.prog "strconv.ErrSyntax" =some #[.iface c p]):
 Calls Tryz.prog 97 #[.string s] w fun e w'=>∃N,e=.returned (.tuple #[.int .i64 0,.iface 270 (.pointer (some ⟨N,0,none⟩))])/\w.heap.size<=N/\w'.heap[N]? =some (.cells #[.string ⟨#[65,116,111,105]⟩,.string s,.iface c p] 302 (0,0))/\Below w.heap.size w w':=Any.strconv_Atoi_syntax_var Tryz.Wv s a (by cases e with|ok v=>exact absurd Z (d v)|range=>exact absurd Z f|_=>exact h) c p w b
open Go.RowKit in
theorem Tryz.strconv_Atoi_range_var(s:ByteArray)(a:s.size<=281474976710656)(h:Lib.atoiAll s.data.toList=.range)(c:TypeId)(p:Value)(w:World)(b:w.var? Tryz.prog "strconv.ErrRange" =some #[.iface c p]):
 Calls Tryz.prog 97 #[.string s] w fun e w'=>∃N,e=.returned (.tuple #[.int .i64 (Lib.atoiSat s.data.toList),.iface 270 (.pointer (some ⟨N,0,none⟩))])/\w.heap.size<=N/\w'.heap[N]? =some (.cells #[.string ⟨#[65,116,111,105]⟩,.string s,.iface c p] 302 (0,0))/\Below w.heap.size w w':=Any.strconv_Atoi_range_var Tryz.Wv s a h c p w b
def Tryz.laysM171_ren:Go.Shelf.Ren:=⟨fun|171=>149|243=>185|246=>203|283=>218|284=>219|285=>220|286=>221|129=>228|317=>227|318=>229|319=>230|320=>231|337=>232|338=>233|n=>n,fun|3=>3|9=>9|2=>2|4=>4|171=>324|0=>0|53=>296|37=>36|5=>5|173=>327|212=>342|51=>277|20=>20|213=>343|46=>299|232=>346|233=>347|n=>n,fun|17=>7|18=>8|19=>9|n=>n⟩
theorem Tryz.laysM171:Go.Proofs.LaysM.n171 Tryz.prog Tryz.laysM171_ren:={
 mixed:=zq2
 f129:=Tryz.func228.trans (congrArg some zq2)
 f171:=Tryz.func149.trans (congrArg some zq2)
 f243:=Tryz.func185.trans (congrArg some zq2)
 f246:=Tryz.func203.trans (congrArg some zq2)
 f283:=Tryz.func218.trans (congrArg some zq2)
 f284:=Tryz.func219.trans (congrArg some zq2)
 f285:=Tryz.func220.trans (congrArg some zq2)
 f286:=Tryz.func221.trans (congrArg some zq2)
 f317:=Tryz.func227.trans (congrArg some zq2)
 f318:=Tryz.func229.trans (congrArg some zq2)
 f319:=Tryz.func230.trans (congrArg some zq2)
 f320:=Tryz.func231.trans (congrArg some zq2)
 f337:=Tryz.func232.trans (congrArg some zq2)
 f338:=Tryz.func233.trans (congrArg some zq2)
 t0:=Tryz.underlying0
 a0:=Tryz.isAgg0
 z0:=Tryz.sizeOf0
 v0:=Tryz.zeroValue0
 t2:=Tryz.underlying2
 a2:=Tryz.isAgg2
 z2:=Tryz.sizeOf2
 v2:=Tryz.zeroValue2
 t3:=Tryz.underlying3
 a3:=Tryz.isAgg3
 z3:=Tryz.sizeOf3
 v3:=Tryz.zeroValue3
 t4:=Tryz.underlying4
 a4:=Tryz.isAgg4
 z4:=Tryz.sizeOf4
 v4:=Tryz.zeroValue4
 t5:=Tryz.underlying5
 a5:=Tryz.isAgg5
 z5:=Tryz.sizeOf5
 v5:=Tryz.zeroValue5
 t9:=Tryz.underlying9
 a9:=Tryz.isAgg9
 z9:=Tryz.sizeOf9
 v9:=Tryz.zeroValue9
 t20:=Tryz.underlying20
 a20:=Tryz.isAgg20
 z20:=Tryz.sizeOf20
 v20:=Tryz.zeroValue20
 t37:=Tryz.underlying36
 a37:=Tryz.isAgg36
 z37:=Tryz.sizeOf36
 v37:=Tryz.zeroValue36
 t46:=Tryz.underlying299
 a46:=Tryz.isAgg299
 z46:=Tryz.sizeOf299
 v46:=Tryz.zeroValue299
 t51:=Tryz.underlying277
 a51:=Tryz.isAgg277
 z51:=Tryz.sizeOf277
 v51:=Tryz.zeroValue277
 t53:=Tryz.underlying296
 a53:=Tryz.isAgg296
 z53:=Tryz.sizeOf296
 v53:=Tryz.zeroValue296
 t171:=Tryz.underlying324
 a171:=Tryz.isAgg324
 z171:=Tryz.sizeOf324
 v171:=Tryz.zeroValue324
 t173:=Tryz.underlying327
 a173:=Tryz.isAgg327
 z173:=Tryz.sizeOf327
 v173:=Tryz.zeroValue327
 t212:=Tryz.underlying342
 a212:=Tryz.isAgg342
 z212:=Tryz.sizeOf342
 v212:=Tryz.zeroValue342
 t213:=Tryz.underlying343
 a213:=Tryz.isAgg343
 z213:=Tryz.sizeOf343
 t232:=Tryz.underlying346
 a232:=Tryz.isAgg346
 z232:=Tryz.sizeOf346
 v232:=Tryz.zeroValue346
 t233:=Tryz.underlying347
 a233:=Tryz.isAgg347
 z233:=Tryz.sizeOf347
 v233:=Tryz.zeroValue347
 g17:=zq2
 g18:=zq2
 g19:=zq2
 i0:=zq2
 i2:=zq2
 i3:=zq2
 i4:=zq2
 i5:=zq2
 i9:=zq2
 i20:=zq2
 i37:=zq2
 i46:=zq2
 i51:=zq2
 i53:=zq2
 i171:=zq2
 i173:=zq2
 i212:=zq2
 i232:=zq2
 i233:=zq2
 m17:=zq2
 m18:=zq2
 m19:=by kernel_rfl}
open Go.RowKit Go.Sort Go.Lib in
theorem Tryz.strconv_Itoa(n:Int)(c: -9223372036854775808<=n)(b:n<=9223372036854775807)(w:World)(a:Lib.TabIs Tryz.prog w "internal/strconv.uint64pow10" .u64 Lib.pow10Tab):
 Calls Tryz.prog 149 #[.int .i64 n] w fun e w'=>e=.returned (.string ⟨(Lib.itoa n).toArray⟩)/\∃k os,w'=grow (w.drewN k) os:=Any.strconv_Itoa Tryz.laysM171 n c b w a
def Tryz.lays157_ren:Go.Shelf.Ren:=⟨fun|157=>107|229=>152|199=>153|261=>186|311=>204|312=>205|n=>n,fun|9=>9|31=>173|3=>3|5=>5|4=>4|119=>242|0=>0|40=>244|152=>274|21=>21|154=>276|51=>277|141=>279|196=>308|193=>305|198=>311|49=>309|194=>306|201=>314|226=>329|46=>299|227=>330|n=>n,fun|0=>0|6=>1|n=>n⟩
theorem Tryz.lays157:Go.Proofs.Lays.n157 Tryz.prog Tryz.lays157_ren:={
 mixed:=zq2
 f157:=Tryz.func107.trans (congrArg some zq2)
 f199:=Tryz.func153.trans (congrArg some zq2)
 f229:=Tryz.func152.trans (congrArg some zq2)
 f261:=Tryz.func186.trans (congrArg some zq2)
 f311:=Tryz.func204.trans (congrArg some zq2)
 f312:=Tryz.func205.trans (congrArg some zq2)
 t0:=Tryz.underlying0
 a0:=Tryz.isAgg0
 z0:=Tryz.sizeOf0
 v0:=Tryz.zeroValue0
 t3:=Tryz.underlying3
 a3:=Tryz.isAgg3
 z3:=Tryz.sizeOf3
 v3:=Tryz.zeroValue3
 t4:=Tryz.underlying4
 a4:=Tryz.isAgg4
 z4:=Tryz.sizeOf4
 v4:=Tryz.zeroValue4
 t5:=Tryz.underlying5
 a5:=Tryz.isAgg5
 z5:=Tryz.sizeOf5
 v5:=Tryz.zeroValue5
 t9:=Tryz.underlying9
 a9:=Tryz.isAgg9
 z9:=Tryz.sizeOf9
 v9:=Tryz.zeroValue9
 t21:=Tryz.underlying21
 a21:=Tryz.isAgg21
 z21:=Tryz.sizeOf21
 v21:=Tryz.zeroValue21
 t31:=Tryz.underlying173
 a31:=Tryz.isAgg173
 z31:=Tryz.sizeOf173
 v31:=Tryz.zeroValue173
 t40:=Tryz.underlying244
 a40:=Tryz.isAgg244
 z40:=Tryz.sizeOf244
 v40:=Tryz.zeroValue244
 t46:=Tryz.underlying299
 a46:=Tryz.isAgg299
 z46:=Tryz.sizeOf299
 v46:=Tryz.zeroValue299
 t49:=Tryz.underlying309
 a49:=Tryz.isAgg309
 z49:=Tryz.sizeOf309
 v49:=Tryz.zeroValue309
 t51:=Tryz.underlying277
 a51:=Tryz.isAgg277
 z51:=Tryz.sizeOf277
 v51:=Tryz.zeroValue277
 t119:=Tryz.underlying242
 a119:=Tryz.isAgg242
 z119:=Tryz.sizeOf242
 t141:=Tryz.underlying279
 a141:=Tryz.isAgg279
 z141:=Tryz.sizeOf279
 v141:=Tryz.zeroValue279
 t152:=Tryz.underlying274
 a152:=Tryz.isAgg274
 z152:=Tryz.sizeOf274
 v152:=Tryz.zeroValue274
 t154:=Tryz.underlying276
 a154:=Tryz.isAgg276
 z154:=Tryz.sizeOf276
 v154:=Tryz.zeroValue276
 t193:=Tryz.underlying305
 a193:=Tryz.isAgg305
 z193:=Tryz.sizeOf305
 v193:=Tryz.zeroValue305
 t194:=Tryz.underlying306
 a194:=Tryz.isAgg306
 z194:=Tryz.sizeOf306
 v194:=Tryz.zeroValue306
 t196:=Tryz.underlying308
 a196:=Tryz.isAgg308
 z196:=Tryz.sizeOf308
 v196:=Tryz.zeroValue308
 t198:=Tryz.underlying311
 a198:=Tryz.isAgg311
 z198:=Tryz.sizeOf311
 v198:=Tryz.zeroValue311
 t201:=Tryz.underlying314
 a201:=Tryz.isAgg314
 z201:=Tryz.sizeOf314
 v201:=Tryz.zeroValue314
 t226:=Tryz.underlying329
 a226:=Tryz.isAgg329
 z226:=Tryz.sizeOf329
 v226:=Tryz.zeroValue329
 t227:=Tryz.underlying330
 a227:=Tryz.isAgg330
 z227:=Tryz.sizeOf330
 v227:=Tryz.zeroValue330
 g0:=zq2
 g6:=by kernel_rfl}
open Go.RowKit Go.Lib in
theorem Tryz.strings_Fields(s:ByteArray)(w:World)(d:s.size<4294967281)(a:∀(j:Nat) b,s.data.toList[j]? =some b->b.toNat<128)(c:Lib.TabIs Tryz.prog w "strings.asciiSpace" .u8 Lib.asciiSpaceTab):
 Calls Tryz.prog 107 #[.string s] w fun e w'=>
  e=.returned (.slice (some ⟨w.heap.size,0,none⟩) (Lib.fields s.data.toList).length (Lib.fields s.data.toList).length)/\w'=w.alloc (.cells ((Lib.fields s.data.toList).map fun l=>Value.string ⟨l.toArray⟩).toArray 9):=Any.strings_Fields Tryz.lays157 zq2 zq2 s w d a c
def Tryz.Vu:Go.Shelf.Ren:=⟨fun|156=>157|165=>191|166=>192|169=>193|240=>207|241=>208|276=>222|277=>223|n=>n,fun|31=>173|9=>9|3=>3|4=>4|0=>0|20=>20|72=>287|76=>177|70=>285|37=>36|75=>176|127=>317|164=>331|5=>5|80=>180|n=>n,fun|n=>n⟩
theorem Tryz.lays156:Go.Proofs.Lays.n156 Tryz.prog Tryz.Vu:={
 mixed:=zq2
 f156:=Tryz.func157.trans (congrArg some zq2)
 f165:=Tryz.func191.trans (congrArg some zq2)
 f166:=Tryz.func192.trans (congrArg some zq2)
 f169:=Tryz.func193.trans (congrArg some zq2)
 f240:=Tryz.func207.trans (congrArg some zq2)
 f241:=Tryz.func208.trans (congrArg some zq2)
 f276:=Tryz.func222.trans (congrArg some zq2)
 f277:=Tryz.func223.trans (congrArg some zq2)
 t0:=Tryz.underlying0
 a0:=Tryz.isAgg0
 z0:=Tryz.sizeOf0
 v0:=Tryz.zeroValue0
 t3:=Tryz.underlying3
 a3:=Tryz.isAgg3
 z3:=Tryz.sizeOf3
 v3:=Tryz.zeroValue3
 t4:=Tryz.underlying4
 a4:=Tryz.isAgg4
 z4:=Tryz.sizeOf4
 v4:=Tryz.zeroValue4
 t9:=Tryz.underlying9
 a9:=Tryz.isAgg9
 z9:=Tryz.sizeOf9
 v9:=Tryz.zeroValue9
 t20:=Tryz.underlying20
 a20:=Tryz.isAgg20
 z20:=Tryz.sizeOf20
 v20:=Tryz.zeroValue20
 t31:=Tryz.underlying173
 a31:=Tryz.isAgg173
 z31:=Tryz.sizeOf173
 v31:=Tryz.zeroValue173
 t37:=Tryz.underlying36
 a37:=Tryz.isAgg36
 z37:=Tryz.sizeOf36
 v37:=Tryz.zeroValue36
 t70:=Tryz.underlying285
 a70:=Tryz.isAgg285
 z70:=Tryz.sizeOf285
 v70:=Tryz.zeroValue285
 t72:=Tryz.underlying287
 a72:=Tryz.isAgg287
 z72:=Tryz.sizeOf287
 v72:=Tryz.zeroValue287
 t75:=Tryz.underlying176
 a75:=Tryz.isAgg176
 z75:=Tryz.sizeOf176
 v75:=Tryz.zeroValue176
 t76:=Tryz.underlying177
 a76:=Tryz.isAgg177
 z76:=Tryz.sizeOf177
 v76:=Tryz.zeroValue177
 t127:=Tryz.underlying317
 a127:=Tryz.isAgg317
 z127:=Tryz.sizeOf317
 v127:=Tryz.zeroValue317
 t164:=Tryz.underlying331
 a164:=Tryz.isAgg331
 z164:=Tryz.sizeOf331
 v164:=Tryz.zeroValue331}
theorem Tryz.IP:Builder.Extra Tryz.prog Tryz.Vu:={
 sizeBuilder:=zq2
 liesBuilder:=zq2
 t5:=Tryz.underlying5
 a5:=Tryz.isAgg5
 z5:=Tryz.sizeOf5
 v5:=Tryz.zeroValue5
 infoByte:=zq2
 cellsByte:=zq2
 sizeByte:=zq2
 neB5:=by decide}
open Go.RowKit in
theorem Tryz.strings_Join_none(a:Option Addr)(c:Nat)(b:ByteArray)(w:World):
 Calls Tryz.prog 157 #[.slice a 0 c,.string b] w fun e w'=>e=.returned (.string ⟨#[]⟩)/\w'=w:=Any.strings_Join_none Tryz.lays156 Tryz.IP a c b w
open Go.RowKit in
theorem Tryz.strings_Join(g o c:Nat)(xs:List ByteArray)(b:ByteArray)(w:World)(a:∀(j:Nat) x,xs[j]? =some x->w.cell? ⟨g,o+j,none⟩=some (.string x))(h:g<w.heap.size)(hN:xs.length<=140737488355328)(f:xs.length<=c)(d:(Lib.join (xs.map (·.data.toList)) b.data.toList).length<=140737488355328):
    Calls Tryz.prog 157 #[.slice (some ⟨g,o,none⟩) xs.length c,.string b] w fun e w'=>e=.returned (.string ⟨(Lib.join (xs.map (·.data.toList)) b.data.toList).toArray⟩)/\Below w.heap.size w w':=Any.strings_Join Tryz.lays156 Tryz.IP g o c xs b w a h hN f d
def Tryz.lays145_ren:Go.Shelf.Ren:=⟨fun|145=>130|220=>171|219=>195|217=>210|225=>211|224=>212|267=>213|266=>225|314=>226|n=>n,fun|9=>9|4=>4|59=>217|3=>3|5=>5|46=>299|146=>336|51=>277|n=>n,fun|1=>4|n=>n⟩
theorem Tryz.lays145:Go.Proofs.Lays.n145 Tryz.prog Tryz.lays145_ren:={
 mixed:=zq2
 f145:=Tryz.func130.trans (congrArg some zq2)
 f217:=Tryz.func210.trans (congrArg some zq2)
 f219:=Tryz.func195.trans (congrArg some zq2)
 f220:=Tryz.func171.trans (congrArg some zq2)
 f224:=Tryz.func212.trans (congrArg some zq2)
 f225:=Tryz.func211.trans (congrArg some zq2)
 f266:=Tryz.func225.trans (congrArg some zq2)
 f267:=Tryz.func213.trans (congrArg some zq2)
 f314:=Tryz.func226.trans (congrArg some zq2)
 t3:=Tryz.underlying3
 a3:=Tryz.isAgg3
 z3:=Tryz.sizeOf3
 v3:=Tryz.zeroValue3
 t4:=Tryz.underlying4
 a4:=Tryz.isAgg4
 z4:=Tryz.sizeOf4
 v4:=Tryz.zeroValue4
 t5:=Tryz.underlying5
 a5:=Tryz.isAgg5
 z5:=Tryz.sizeOf5
 v5:=Tryz.zeroValue5
 t9:=Tryz.underlying9
 a9:=Tryz.isAgg9
 z9:=Tryz.sizeOf9
 v9:=Tryz.zeroValue9
 t46:=Tryz.underlying299
 a46:=Tryz.isAgg299
 z46:=Tryz.sizeOf299
 v46:=Tryz.zeroValue299
 t51:=Tryz.underlying277
 a51:=Tryz.isAgg277
 z51:=Tryz.sizeOf277
 v51:=Tryz.zeroValue277
 t59:=Tryz.underlying217
 a59:=Tryz.isAgg217
 z59:=Tryz.sizeOf217
 v59:=Tryz.zeroValue217
 t146:=Tryz.underlying336
 a146:=Tryz.isAgg336
 z146:=Tryz.sizeOf336
 v146:=Tryz.zeroValue336
 g1:=by kernel_rfl}
open Go.RowKit Go.Lib in
theorem Tryz.strings_Cut(s a:ByteArray)(m:Int)(w:World)(c:s.size<4294967281)(b:w.cell? ⟨4,0,none⟩=some (.int .i64 m)):
 Calls Tryz.prog 130 #[.string s,.string a] w fun e w'=>e=.returned (.tuple #[.string ⟨(Lib.cut s.data.toList a.data.toList).1.toArray⟩,.string ⟨(Lib.cut s.data.toList a.data.toList).2.1.toArray⟩,.bool (Lib.cut s.data.toList a.data.toList).2.2])/\∃n,w'=w.drewN n:=Any.strings_Cut Tryz.lays145 s a m w c b
end Go.Proofs