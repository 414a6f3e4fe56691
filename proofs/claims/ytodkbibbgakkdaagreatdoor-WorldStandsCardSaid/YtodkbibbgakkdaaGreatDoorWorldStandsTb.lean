/-
  What the law WorldStands needs of our own library and of the walks, no more.
-/
import Derived.Shelf.Strings.Builder1
import Derived.Laws.IdiomRangeMap
import Derived.Lib.FieldsLaws
import Derived.KernelRfl
import Derived.Test.YtodkbibbgakkdaaGreatDoorProg
import Derived.Lib.Slices
import Derived.Lib.Walk
import Derived.Shelf.Strings.OnBuilder
import Derived.Shelf.LaysM
import Derived.Shelf.Strconv.Itoa3
import Derived.Shelf.LaysC
import Derived.Shelf.Strconv.AtoiAll
import Derived.Shelf.Strconv.ErrVarAll
import Derived.Shelf.Strings.Cut
import Derived.Shelf.Strings.Split
import Derived.Shelf.Strings.Fields
import Derived.Shelf.Strings.BuilderX
import Derived.Test.YtodkbibbgakkdaaGreatDoorWorldStandsTa
set_option linter.unusedSimpArgs false
set_option linter.unusedVariables false
set_option maxRecDepth 10000
namespace Go.LX
open Go.RowKit Go.Proofs
section
variable{P:Program}{ops:Array Oper}{Q:Exit->Act->World->Prop}{n:Nat}{env:Nat->Value}{w w' w0:World}{M K:BS}{hp:Nat->Chunk}{rest:List Oper}
 {d:Option Nat} {op:Op} {ty:TypeId} {pos:String} {af:Array Edge} {v:Value} {g:Option (Nat×Bool)} {T:TypeId} {ρ:Operand->Value} {x y:Operand} {i fuel:Nat} {listed:Array Bool}
theorem SH.pceAt{S:Pce}(h:SH w0 M K w hp)(i:Nat)(a:hp i=.eH S):S.P w (SH.A M hp):=by
 have:=h.ok i;rw[a]at this;exact this
theorem SH.Ji{S S':Pce}(h:SH w0 M K w hp)(i:Nat)(c:hp i=.eH S)(e:S'.P w' (SH.A M hp))(d:bI S.own w w')(hn:∀b,S'.own b->b<w.heap.size->S.own b):SH w0 M K w' (bU hp i (.eH S')):=by
  refine h.step i d (fun b a _=>by rw[c];exact a) (fun b a f=>by rw[c];exact hn b a f) ?_;refine S'.go e (bI.refl BE w') (fun _ h=>h.elim) (fun _ h=>h.elim) fun b a _=>?_;rcases a with a|a|a
  · exact .inl<|.inl a
  · exact .inl<|.inr<|kJ a
  · exact .inr a
end
open Go.RowKit Go.Proofs
structure Nj(α β:Type)where
 sz:Nat
 enc:α->Value->List Value
 sub:α->List β
 put:α->List β->α
 len:∀x u,(enc x u).length=sz
 one:∀x u,u.oneCell'=true->∀c∈enc x u,c.oneCell'=true
 pos:0<sz
 O8:∀x s u,enc (put x s) u=enc x u
 O9:∀x s,sub (put x s)=s
def Nj.raw{α β:Type}(N:Nj α β):kD (α×Value) where
 sz:=N.sz
 rd _ _ cs p:=cs=N.enc p.1 p.2/\p.2.oneCell'=true
 len:=by rintro w A cs x ⟨rfl,_⟩;exact N.len _ _
 one:=by rintro w A cs x ⟨rfl,h⟩;exact N.one _ _ h
 pos:=N.pos
 go:=fun h _ _ _=>h
def hn:Nat->Prop:=fun _=>False
def hat(k:Nat):Nat->Prop:=fun i=>i=k
def Eo(ho:Nat->Prop)(us:List Value):BS:=fun b=>∃i u,us[i]? =some u/\¬ho i/\ob u b
def FamP{β:Type}(R:kD β)(E:TypeId)(ho:Nat->Prop)(us:List Value)(ss:List (List β))(w:World)(A:BS):Prop:=
 us.length=ss.length/\
 (∀i u s,us[i]? =some u->ss[i]? =some s->¬ho i->cz R E w (fun b=>A b\/Eo ho us b) u s)/\
 (∀i j u v,i≠j->¬ho i->¬ho j->us[i]? =some u->us[j]? =some v->∀b,ob u b->¬ob v b)
theorem FamP.at{β:Type}{R:kD β}{E:TypeId}{ho:Nat->Prop}{us:List Value}{ss:List (List β)}{w:World}{A:BS}(h:FamP R E ho us ss w A){i:Nat}{u:Value}(a:us[i]? =some u):∃s,ss[i]? =some s:=by
  have:i<us.length:=by
    rcases Nat.lt_or_ge i us.length with h|h
    · exact h
    · rw[List.getElem?_eq_none h]at a;cases a
  exact⟨ss[i]'(h.1▸this),List.getElem?_eq_getElem _⟩
def bP{β:Type}(R:kD β)(E:TypeId)(ho:Nat->Prop)(us:List Value)(ss:List (List β)):Pce where
  own:=Eo ho us
  P w A:=FamP R E ho us ss w A
  lt:=by
    rintro w A b h⟨i,u,h1,h2,h3⟩;obtain⟨s,hs⟩:=h.at h1;exact(h.2.1 i u s h1 hs h2).lt b h3
  go:=by
    rintro w w' A A' K⟨h1,h2,h3⟩hk hK hKo hA;refine⟨h1,fun i u s hu hs hi=>(h2 i u s hu hs hi).go hk (fun b hb hl=>.inl<|hK b hb hl) (fun b hb ho=>hKo b hb ⟨i,u,hu,hi,ho⟩) fun b hb hl=>?_,h3⟩;rcases hb with hb|hb
    · exact .inl<|hA b hb hl
    · exact .inl<|.inr hb
section
variable{α β:Type}{N:Nj α β}{R:kD β}{E Es T:TypeId}{w0 w w':World}{M K A:BS}{hp:Nat->Chunk}{v u u':Value}{us us':List Value}{L L':List α}{ss ss':List (List β)}{s:List β}{x y:α}{k:Nat}{ho ho':Nat->Prop}
theorem Hy(hp:Nat->Chunk)(i:Nat)(a c:Chunk):bU (bU hp i a) i c=bU hp i c:=by
  funext j;by_cases e:j=i
  · subst e;rw[df,df]
  · rw[fe e,fe e,fe e]
theorem SH.Xq(h:SH w0 M K w hp)(j:Nat)(a:hp j=.eH (bP R E ho us ss)):FamP R E ho us ss w (SH.A M hp):=h.pceAt j a
theorem SH.jD(h:SH w0 M K w hp)(j:Nat)(a:hp j=.eH (bP R E ho us (L.map N.sub))):us.length=L.length:=by
 have:=(h.Xq j a).1;rw[List.length_map]at this;exact this
theorem gB(h:us.length=L.length):(L.zip us).length=L.length:=by rw[List.length_zip];omega
theorem gD(a:L[k]? =some x)(b:us[k]? =some u):(L.zip us)[k]? =some (x,u):=by
 rw[List.getElem?_zip_eq_some];exact⟨a,b⟩
theorem Uk(a:us[k]? =some u):(L.zip us).set k (y,u)=(L.set k y).zip us:=by
  apply List.ext_getElem?;intro i;rw[List.getElem?_set];by_cases e:k=i
  · subst e;rw[if_pos rfl];by_cases b:k<L.length
    · rw[gD (x:=y) (u:=u) (by rw[List.getElem?_set_self b]) a];have:k<us.length:=by
        rcases Nat.lt_or_ge k us.length with h|h
        · exact h
        · rw[List.getElem?_eq_none h]at a;cases a
      rw[if_pos (by rw[List.length_zip];omega)]
    · rw[if_neg (by rw[List.length_zip];omega),List.getElem?_eq_none (by rw[List.length_zip,List.length_set];omega)]
  · rw[if_neg e];simp only[List.zip_eq_zipWith,List.getElem?_zipWith,List.getElem?_set_ne e]
theorem Pb(a:L[k]? =some x):(L.zip us).set k (x,u)=L.zip (us.set k u):=by
  apply List.ext_getElem?;intro i;rw[List.getElem?_set];by_cases e:k=i
  · subst e;rw[if_pos rfl];by_cases b:k<us.length
    · rw[gD (x:=x) (u:=u) a (by rw[List.getElem?_set_self b])];have:k<L.length:=by
        rcases Nat.lt_or_ge k L.length with h|h
        · exact h
        · rw[List.getElem?_eq_none h]at a;cases a
      rw[if_pos (by rw[List.length_zip];omega)]
    · rw[if_neg (by rw[List.length_zip];omega),List.getElem?_eq_none (by rw[List.length_zip,List.length_set];omega)]
  · rw[if_neg e];simp only[List.zip_eq_zipWith,List.getElem?_zipWith,List.getElem?_set_ne e]
theorem Db(a:L[k]? =some y):L.set k y=L:=by
  apply List.ext_getElem?;intro i;rw[List.getElem?_set];by_cases e:k=i
  · subst e;by_cases b:k<L.length
    · rw[if_pos rfl,if_pos b,a]
    · rw[List.getElem?_eq_none V]at a;cases a
  · rw[if_neg e]
theorem nL{z:α}(a:L[k]? =some x):(L.set k z)[k]? =some z:=by
  rw[List.getElem?_set_self];rcases Nat.lt_or_ge k L.length with h|h
  · exact h
  · rw[List.getElem?_eq_none h]at a;cases a
theorem Xr(a:us[k]? =some u):(us.set k u')[k]? =some u':=nL a
theorem own_re{l b:List (α×Value)}(h:cz N.raw E w A v l)(d:b.length=l.length)(n:∀(i:Nat) (p a:α×Value),l[i]? =some p->b[i]? =some a->N.enc a.1 a.2=N.enc p.1 p.2/\a.2=p.2):cz N.raw E w A v b:=by
 obtain⟨xs,g,m⟩:=h;refine⟨xs,by rw[d];exact g,fun i c=>?_⟩;obtain⟨f,k⟩:=m i<|d▸c;obtain⟨j,e⟩:=n i _ _ (List.getElem?_eq_getElem<|d▸c)<|List.getElem?_eq_getElem c;exact⟨f.trans j.symm,by rw[e];exact k⟩
theorem SH.rawRe(h:SH w0 M K w hp)(i:Nat)(j:hp i=.own N.raw E v (L.zip us))(f:L[k]? =some x)(o:∀u,N.enc y u=N.enc x u):SH w0 M K w (bU hp i (.own N.raw E v ((L.set k y).zip us))):=by
  refine h.step i (bI.refl BE w) (fun _ h=>h.elim) (fun b d _=>by rw[j];exact d) ?_;have ho:=h.ok i;rw[j]at ho;refine Chunk.sub (O:=iE hp) (c:=.own N.raw E v ((L.set k y).zip us)) ?_ fun b d _=>?_
  · refine own_re ho (by rw[List.length_zip,List.length_zip,List.length_set]) fun i p q hp a=>?_;rw[List.getElem?_zip_eq_some]at hp a;rw[List.getElem?_set]at a;have l:=Option.some.inj<|hp.2.symm.trans a.2;by_cases e:k=i
    · subst e;have n:k<L.length:=by
        rcases Nat.lt_or_ge k L.length with h|h
        · exact h
        · rw[List.getElem?_eq_none h]at f;cases f
      rw[if_pos rfl,if_pos n]at a;have g:=Option.some.inj a.1;have m:=Option.some.inj<|f.symm.trans hp.1;rw[<-l,<-g,<-m];exact⟨o _,Z⟩
    · rw[if_neg e]at a;have g:=Option.some.inj<|hp.1.symm.trans a.1;rw[<-l,<-g];exact⟨Z,Z⟩
  · rcases d with d|d
    · exact kJ d
    · exact⟨i,by rw[j];exact d⟩
theorem SH.famRe(h:SH w0 M K w hp)(j:Nat)(l:hp j=.eH (bP R E ho us ss))(t:us'.length=ss'.length)(e:∀i,¬ho i->us'[i]? =us[i]? /\ss'[i]? =ss[i]?):SH w0 M K w (bU hp j (.eH (bP R E ho us' ss'))):=by
 have m:=h.Xq j l;have a:∀b,Eo ho us' b->Eo ho us b:=fun b⟨i,u,q,n,o⟩=>⟨i,u,(e i n).1▸q,n,o⟩;refine h.Ji j l ?_ (bI.refl _ _) fun b k _=>a b k;refine⟨t,fun i u s f p c=>?_,fun i j u v g c d f r=>m.2.2 i j u v g c d ((e i c).1▸f) ((e j d).1▸r)⟩;refine(m.2.1 i u s ((e i c).1▸f) ((e i c).2▸p) c).go (bI.refl BE w) (fun _ h=>h.elim) (fun _ h=>h.elim) fun b k _=>.inl<|k.imp id<|a b
theorem SH.famL(h:SH w0 M K w hp)(j:Nat)(y:α)(a:hp j=.eH (bP R E (hat k) us (L.map N.sub))):SH w0 M K w (bU hp j (.eH (bP R E (hat k) us ((L.set k y).map N.sub)))):=by
  refine h.famRe j a ?_ fun i b=>⟨Z,?_⟩
  · rw[List.length_map,List.length_set];exact h.jD j a
  · rw[List.map_set,List.getElem?_set_ne (fun e=>b e.symm)]
theorem SH.famOpen(h:SH w0 M K w hp)(j m:Nat)(B:hp j=.eH (bP R E ho us ss))(G:hp m=.no)(p:j≠m)(f:us[k]? =some u)(I:ss[k]? =some s)(n:¬ho k)(ho':Nat->Prop)(g:∀i,ho' i↔ho i\/i=k):
    SH w0 M K w (bU (bU hp j (.eH (bP R E ho' us ss))) m (.own R E u s)):=by
  have o:=h.Xq j B;have c:∀b,Eo ho' us b->Eo ho us b:=fun b⟨i,u,l,d,A⟩=>⟨i,u,l,fun h=>d ((g i).2<|.inl h),A⟩;have z:(Chunk.two (.eH<|bP R E ho' us ss)<|.own R E u s).holds w M (SH.av hp j<|Chunk.two (.eH<|bP R E ho' us ss)<|.own R E u s):=by
    refine⟨⟨o.1,fun i v t r C y=>?_,fun i j u v q y x f r=>o.2.2 i j u v q (fun h=>y ((g i).2<|.inl h)) (fun h=>x ((g j).2<|.inl h)) f r⟩,?_,?_⟩
    · refine(o.2.1 i v t r C fun h=>y ((g i).2<|.inl h)).go (bI.refl BE w) (fun _ h=>h.elim) (fun _ h=>h.elim) fun b a _=>.inl ?_;rcases a with(a|a|a)|a
      · exact .inl<|.inl a
      · exact .inl<|.inr<|kJ a
      · rcases a with a|a
        · exact .inr<|c b a
        · exact .inr ⟨k,u,f,n,a⟩
      · exact .inr<|c b a
    · refine(o.2.1 k u s f I n).go (bI.refl BE w) (fun _ h=>h.elim) (fun _ h=>h.elim) fun b a _=>.inl ?_;rcases a with a|a|a
      · exact .inl<|.inl a
      · exact .inl<|.inr<|kJ a
      · rcases a with a|a
        · exact .inr<|c b a
        · exact .inr ⟨k,u,f,n,a⟩
    · rintro b⟨i,v,l,d,A⟩a;exact o.2.2 i k v u (fun e=>d ((g i).2<|.inr e)) (fun h=>d ((g i).2<|.inl h)) n l f b A a
  have l:=h.step j (bI.refl BE w) (fun _ h=>h.elim) (fun b a _=>by
    rw[B];rcases a with a|a
    · exact c b a
    · exact⟨k,u,f,n,a⟩) z
  have d:=l.unpair j m p (df _ _ _) (by rw[fe (Ne.symm p)];exact G);rw[Hy]at d;exact d
theorem SH.Pf(h:SH w0 M K w hp)(j m:Nat)(P:hp j=.eH (bP R E ho us ss))(T:hp m=.own R E u s)(S:j≠m)(y:us[k]? =some u)(hk:ho k)(ho':Nat->Prop)(h':∀i,ho i↔ho' i\/i=k)(O:¬ho' k):
    SH w0 M K w (bU (bU hp m .no) j (.eH (bP R E ho' us (ss.set k s)))):=by
  have l:=h.pair j m S;have a:∀i,¬ho' i->i=k\/¬ho i:=fun i C=>by
    by_cases e:i=k
    · exact .inl e
    · exact .inr fun h=>((h' i).1 h).elim C e
  have o:∀b,Eo ho' us b->Eo ho us b\/ob u b:=fun b⟨i,v,l,x,N⟩=>by
    rcases a i x with rfl|h4
    · rw[y]at l;cases l;exact .inr N
    · exact .inl ⟨i,v,l,h4,N⟩
  have Q:∀b,Eo ho us b\/ob u b->Eo ho' us b:=fun b d=>by
    rcases d with⟨i,v,l,x,N⟩|d
    · exact⟨i,v,l,fun h=>x ((h' i).2<|.inl h),N⟩
    · exact⟨k,u,y,O,d⟩
  have q:=l.ok j;have X:bU (bU hp m .no) j (.two (hp j)<|hp m)=bU (bU hp m .no) j (.two (.eH<|bP R E ho us ss)<|.own R E u s):=by rw[P,T]
  rw[df,P,T]at q;have x:=l.step (c:=.eH (bP R E ho' us (ss.set k s))) j (bI.refl BE w) (fun _ h=>h.elim) (fun b d _=>by
    rw[df,P,T];exact o b d) ?_
  · rw[Hy]at x;exact x
  · rw[X];have hA:∀b,(M b\/SH.av (bU (bU hp m .no) j<|.two (.eH<|bP R E ho us ss)<|.own R E u s) j (.eH<|bP R E ho' us<|ss.set k s) b)\/Eo ho' us b->(M b\/iE (bU (bU hp m .no) j<|.two (.eH<|bP R E ho us ss)<|.own R E u s) b):=by
      have A:∀b,Eo ho' us b->iE (bU (bU hp m .no) j (.two (.eH (bP R E ho us ss)) (.own R E u s))) b:=fun b d=>⟨j,by rw[df];exact o b d⟩;rintro b((d|d|d)|d)
      · exact .inl d
      · exact .inr<|kJ d
      · exact .inr<|A b d
      · exact .inr<|A b d
    refine⟨by rw[List.length_set];exact q.1.1,fun i v t n J C=>?_,fun i p v v' G C B n g b d r=>?_⟩
    · by_cases e:i=k
      · subst e;rw[y]at n;cases n;have a0:i<ss.length:=by
          obtain⟨s',z⟩:=q.1.at y;rcases Nat.lt_or_ge i ss.length with h|h
          · exact h
          · rw[List.getElem?_eq_none h]at z;cases z
        rw[List.getElem?_set_self a0]at J;cases J;refine cz.go q.2.1 (bI.refl BE w) (fun _ h=>h.elim) (fun _ h=>h.elim) fun b d _=>.inl<|hA b d
      · rw[List.getElem?_set_ne (fun h=>e h.symm)]at J;have f:¬ho i:=(a i C).resolve_left e;refine(q.1.2.1 i v t n J f).go (bI.refl BE w) (fun _ h=>h.elim) (fun _ h=>h.elim) fun b d _=>.inl<|.inl<|hA b d
    · by_cases e:i=k
      · have L:p≠k:=fun h=>G<|e.trans h.symm;have f:¬ho p:=(a p B).resolve_left L;subst e;rw[y]at n;cases n;exact q.2.2 b ⟨p,v',g,f,r⟩ d
      · have f:¬ho i:=(a i C).resolve_left e;by_cases L:p=k
        · subst L;rw[y]at g;cases g;exact q.2.2 b ⟨i,v,n,f,d⟩ r
        · have I:¬ho p:=(a p B).resolve_left L;exact q.1.2.2 i p v v' G f I n g b d r
end
open Go.RowKit Go.Proofs
section
variable{α β:Type}{N:Nj α β}{R:kD β}{E Es T:TypeId}{w0 w w':World}{M K A:BS}{hp:Nat->Chunk}{v u u':Value}{us us' uh:List Value}{L L':List α}{ss ss' ss2:List (List β)}{s:List β}{x y:α}{k:Nat}{ho ho':Nat->Prop}
theorem Nk{a:Type}{l:List a}{z:a}(h:l[k]? =some z):k<l.length:=by
  rcases Nat.lt_or_ge k l.length with h1|h1
  · exact h1
  · rw[List.getElem?_eq_none h1]at h;cases h
theorem SH.dnOpen(h:SH w0 M K w hp)(j m:Nat)(c:hp j=.eH (bP R Es hn us (L.map N.sub)))(e:hp m=.no)(a:j≠m)(d:L[k]? =some x):
  ∃u,us[k]? =some u/\SH w0 M K w (bU (bU hp j (.eH (bP R Es (hat k) us (L.map N.sub)))) m (.own R Es u (N.sub x))):=by
 have f:=h.jD j c;have b:=Nk d;exact⟨us[k]'(f▸b),List.getElem?_eq_getElem _,h.famOpen j m c e a (List.getElem?_eq_getElem _) (by rw[List.getElem?_map,d];rfl) (fun h=>h) _ (fun i=>⟨.inr,fun h=>h.elim (fun h=>h.elim) id⟩)⟩
theorem SH.yV(h:SH w0 M K w hp)(i j m:Nat)(y:α)(q:hp i=.own N.raw E v (L.zip us))(p:hp j=.eH (bP R Es (hat k) us (L.map N.sub)))(o:hp m=.own R Es u s)(c:i≠j)(a:i≠m)(b:j≠m)(l:L[k]? =some x)(n:us[k]? =some u)(f:y=N.put x s):
  SH w0 M K w (bU (bU (bU hp m .no) j (.eH (bP R Es hn us ((L.set k y).map N.sub)))) i (.own N.raw E v ((L.set k y).zip us))):=by
 have g:=h.Pf j m p o b n Z hn (fun i=>⟨.inr,fun h=>h.elim (fun h=>h.elim) id⟩) fun h=>h;have d:=g.rawRe (N:=N) (x:=x) (y:=y) (k:=k) (E:=E) (v:=v) i (by rw[fe c,fe a];exact q) l (fun u=>by rw[f];exact N.O8 _ _ _);have e:(L.map N.sub).set k s=(L.set k y).map N.sub:=by rw[List.map_set,f,N.O9]
 rw[e]at d;exact d
theorem SH.lu(h:SH w0 M K w hp)(j m:Nat)(g:hp j=.eH (bP R Es (hat k) us (L.map N.sub)))(f:hp m=.own R Es u s)(a:j≠m)(c:L[k]? =some x)(d:us[k]? =some u)(l:N.sub x=s):
  SH w0 M K w (bU (bU hp m .no) j (.eH (bP R Es hn us (L.map N.sub)))):=by
 have b:=h.Pf j m g f a d Z hn (fun i=>⟨.inr,fun h=>h.elim (fun h=>h.elim) id⟩) fun h=>h;have e:(L.map N.sub).set k s=L.map N.sub:=Db (by rw[List.getElem?_map,c,<-l];rfl);rw[e]at b;exact b
theorem SH.famNew(h:SH w0 M K w hp)(m:Nat)(k:hp m=.own R Es u s):SH w0 M K w (bU hp m (.eH (bP R Es hn [u] [s]))):=by
  have ho:=h.ok m;rw[k]at ho;have c:∀b,Eo hn [u] b->ob u b:=by
    rintro b⟨i,v,g,_,l⟩;cases i with
    |zero=>cases g;exact l
    |succ i=>cases g
  refine h.step m (bI.refl BE w) (fun _ h=>h.elim) (fun b a _=>by rw[k];exact c b a) ⟨Z,fun i v t d e _=>?_,fun i j v t f _ _ d e=>?_⟩
  · cases i with
    |succ i=>cases d
    |zero=>
      cases d;cases e;refine cz.go ho (bI.refl BE w) (fun _ h=>h.elim) (fun _ h=>h.elim) fun b a _=>?_;rcases a with(a|a|a)|a
      · exact .inl<|.inl a
      · exact .inl<|.inr<|kJ a
      · exact .inr<|c b a
      · exact .inr<|c b a
  · cases i with
    |zero=>cases j with
      |zero=>exact absurd Z f
      |succ j=>cases e
    |succ i=>cases d
theorem SH.famNil(h:SH w0 M K w hp)(j:Nat):SH w0 M K w (bU hp j (.eH (bP R Es hn [] []))):=
  h.learn j (bI.refl BE w) (by rintro b ⟨i,u,c,_⟩;cases c) (by
    refine⟨Z,?_,?_⟩
    · intro i v t a;cases a
    · intro i j v t _ _ _ a;cases a)
theorem SH.Gi(h:SH w0 M K w hp)(j m:Nat)(A:hp j=.eH (bP R Es hn us ss))(B:hp m=.eH (bP R Es hn uh ss2))(z:j≠m):SH w0 M K w (bU (bU hp m .no) j (.eH (bP R Es hn (us++uh) (ss++ss2)))):=by
  have e:=h.pair j m z;have k:=e.ok j;rw[A,B]at e;rw[df,A,B]at k;have n:∀b,Eo hn (us++uh) b->Eo hn us b\/Eo hn uh b:=by
    rintro b⟨i,v,e,_,o⟩;rw[List.getElem?_append]at e;split at e
    · exact .inl ⟨i,v,e,fun h=>h,o⟩
    · exact .inr ⟨_,v,e,fun h=>h,o⟩
  have x:∀b,Eo hn us b\/Eo hn uh b->Eo hn (us++uh) b:=by
    rintro b(⟨i,v,e,_,o⟩|⟨i,v,e,_,o⟩)
    · exact⟨i,v,by rw[List.getElem?_append_left (Nk e)];exact e,fun h=>h,o⟩
    · exact⟨us.length+i,v,by rw[List.getElem?_append_right V,Nat.add_sub_cancel_left];exact e,fun h=>h,o⟩
  have E:=e.step (c:=.eH (bP R Es hn (us++uh) (ss++ss2))) j (bI.refl BE w) (fun _ h=>h.elim) (fun b a _=>by rw[df];exact n b a) ?_
  · rw[Hy]at E;exact E
  · have C:∀b,(M b\/SH.av (bU (bU hp m .no) j<|.two (.eH<|bP R Es hn us ss)<|.eH<|bP R Es hn uh ss2) j (.eH<|bP R Es hn (us++uh)<|ss++ss2) b)\/Eo hn (us++uh) b->(M b\/iE (bU (bU hp m .no) j<|.two (.eH<|bP R Es hn us ss)<|.eH<|bP R Es hn uh ss2) b):=by
      have q:∀b,Eo hn (us++uh) b->iE (bU (bU hp m .no) j (.two (.eH (bP R Es hn us ss)) (.eH (bP R Es hn uh ss2)))) b:=fun b a=>⟨j,by rw[df];exact n b a⟩;rintro b((a|a|a)|a)
      · exact .inl a
      · exact .inr<|kJ a
      · exact .inr<|q b a
      · exact .inr<|q b a
    have G:=k.1.1;have I:=k.2.1.1;refine⟨by simp only[List.length_append];omega,fun i v t f p _=>?_,fun i y v s u _ _ f d b a l=>?_⟩
    · rw[List.getElem?_append]at f p;by_cases r:i<us.length
      · rw[if_pos r]at f;rw[if_pos V]at p;exact(k.1.2.1 i v t f p fun h=>h).go (bI.refl BE w) (fun _ h=>h.elim) (fun _ h=>h.elim) fun b a _=>.inl<|.inl<|C b a
      · rw[if_neg r]at f;rw[if_neg V,<-G]at p;exact(k.2.1.2.1 _ v t f p fun h=>h).go (bI.refl BE w) (fun _ h=>h.elim) (fun _ h=>h.elim) fun b a _=>.inl<|.inl<|C b a
    · rw[List.getElem?_append]at f d;by_cases r:i<us.length
      · rw[if_pos r]at f;by_cases g:y<us.length
        · rw[if_pos g]at d;exact k.1.2.2 i y v s u (fun h=>h) (fun h=>h) f d b a l
        · rw[if_neg g]at d;exact k.2.2 b ⟨_,v,f,fun h=>h,a⟩ ⟨_,s,d,fun h=>h,l⟩
      · rw[if_neg r]at f;by_cases g:y<us.length
        · rw[if_pos g]at d;exact k.2.2 b ⟨_,s,d,fun h=>h,l⟩ ⟨_,v,f,fun h=>h,a⟩
        · rw[if_neg g]at d;exact k.2.1.2.2 _ _ v s V (fun h=>h) (fun h=>h) f d b a l
theorem SH.famTake(h:SH w0 M K w hp)(j n:Nat)(l:hp j=.eH (bP R Es hn us (L.map N.sub))):SH w0 M K w (bU hp j (.eH (bP R Es hn (us.take n) ((L.take n).map N.sub)))):=by
  have f:=h.Xq j l;have hat:∀(i:Nat) (u:Value),(us.take n)[i]? =some u->us[i]? =some u/\i<n:=fun i u a=>by
    rw[List.getElem?_take]at a;split at a
    · exact⟨a,by assumption⟩
    · cases a
  have c:∀b,Eo hn (us.take n) b->Eo hn us b:=fun b⟨i,u,o,q,t⟩=>⟨i,u,(hat i u o).1,q,t⟩;refine h.Ji j l ?_ (bI.refl _ _) fun b k _=>c b k;have r:=f.1;rw[List.length_map]at r;refine⟨by rw[List.length_take,List.length_map,List.length_take];omega,fun i u s a m g=>?_,fun i j u v d g e a p=>f.2.2 i j u v d g e (hat i u a).1 (hat j v p).1⟩;rw[List.map_take,List.getElem?_take,if_pos (hat i u a).2]at m;refine(f.2.1 i u s (hat i u a).1 m g).go (bI.refl BE w) (fun _ h=>h.elim) (fun _ h=>h.elim) fun b k _=>.inl<|k.imp id<|c b
theorem zip_take'(n:Nat):(L.zip us).take n=(L.take n).zip (us.take n):=by
 apply List.ext_getElem?;intro i;simp only[List.zip_eq_zipWith,List.getElem?_take,List.getElem?_zipWith];split<;>rfl
theorem Gj{a:List α}(h:us.length=L.length):(L.zip us)++(a.zip uh)=(L++a).zip (us++uh):=(List.zip_append h.symm).symm
theorem sV{P:Program}{ρ:Operand->Value}{d:Option Nat}{ty:TypeId}{pos:String}{af:Array Edge}{g:Option (Nat×Bool)}{a:Operand}{c:Nat}{B A:BS}{b:World}(i:SliceOf P T E c)(e:ρ a=v)(f:dR N.raw b B A v (L.zip us))(j:us.length=L.length):
  (execOp ρ ⟨d,.call {callee:=.builtin .len,args:= #[a],argTypes:= #[T]},ty,pos,af,g⟩).run P w=.ok (.value (.int .i64 L.length)) w:=by
 have h:=gT (P:=P) (w:=w) (d:=d) (ty:=ty) (pos:=pos) (af:=af) (g:=g) i e f;rw[gB j]at h;exact h
theorem SH.Hz{R':kD α}(h:SH w0 M K w hp)(i j:Nat)(r:hp i=.own N.raw E v (L.zip us))(m:hp j=.eH (bP R Es hn us (L.map N.sub)))(p:i≠j)(t:R'.sz=N.sz)(br:∀w A x u,bZ R w A u (N.sub x)->R'.rd w A (N.enc x u) x):SH w0 M K w (bU (bU hp j .no) i (.rd R' v L)):=by
  have s:=h.jD j m;have n:=h.pair i j p;have k:=n.apart i;have C:=n.apM i;have y:=n.ok i;rw[df]at k C;rw[df,r,m]at y;have B:=n.step (c:=.rd R' v L) i (bI.refl BE w) (fun _ h=>h.elim) (fun b f _=>f.elim) ?_
  · rw[Hy]at B;exact B
  · have hno:∀b,(hp i).own' b\/(hp j).own' b->¬(M b\/SH.av (bU (bU hp j .no) i<|.two (hp i)<|hp j) i (.rd R' v L) b):=by
      intro b f g;rcases g with g|⟨q,l,g⟩|g
      · exact C b f g
      · exact k q (fun e=>l e.symm) b f g
      · exact g
    have I:∀b,(M b\/SH.av (bU (bU hp j .no) i<|.two (hp i)<|hp j) i (.rd R' v L) b)->M b\/iE (bU (bU hp j .no) i<|.two (.own N.raw E v<|L.zip us)<|.eH<|bP R Es hn us<|L.map N.sub) b:=by
      rw[r,m];rintro b(f|f|f)
      · exact .inl f
      · exact .inr<|kJ f
      · exact f.elim
    have hr:bZ N.raw w (fun b=>M b\/SH.av (bU (bU hp j .no) i<|.two (hp i)<|hp j) i (.rd R' v L) b) v (L.zip us):=
      cz.rd y.1 (fun b f=>hno b (.inl (by rw[r];exact f))) (fun b f _=>.inl (I b f))
    obtain⟨a,cap,G,J,e3,e4,P⟩:=hr;rw[gB s]at G J;refine⟨a,cap,G,J,e3,e4,fun q l=>?_⟩;obtain⟨b,o,cells,d,fz,Q,X,q3,z⟩:=P q (by rw[gB s];exact l);refine⟨b,o,cells,d,fz,Q,X,q3,?_⟩;rw[t];have T:(L.zip us)[q]'(by rw[gB s];exact l)=(L[q],us[q]'V):=by simp
    rw[T]at z;obtain⟨S,_⟩:=z;have O:((cells.toList.drop<|o+q*N.sz).take N.sz)=N.enc L[q] (us[q]'V):=S;rw[O];refine br _ _ _ _ (cz.rd (y.2.1.2.1 q _ _ (List.getElem?_eq_getElem V) (by rw[List.getElem?_map,List.getElem?_eq_getElem l];rfl) (fun h=>h)) (fun b f=>hno b (.inr (by rw[m];exact⟨q,_,List.getElem?_eq_getElem V,fun h=>h,f⟩))) (fun b f _=>.inl (.inl (I b f))))
theorem SH.moveC(h:SH w0 M K w hp)(j i:Nat){c:Chunk}(r:hp j=c)(v:hp i=.no)(s:j≠i):SH w0 M K w (bU (bU hp j .no) i c):=by
  subst r;have f:∀x b,(bU (bU hp j .no) i (hp j) x).own' b->∃y,(hp y).own' b/\(x=i->y=j)/\(x≠i->y=x/\x≠j):=by
    intro x b a;by_cases e:x=i
    · subst e;rw[df]at a;exact⟨j,a,fun _=>rfl,fun h=>absurd Z h⟩
    · rw[fe e]at a;by_cases d:x=j
      · subst d;rw[df]at a;exact a.elim
      · rw[fe d]at a;exact⟨x,a,fun h=>absurd h e,fun _=>⟨Z,d⟩⟩
  have g:∀b,iE (bU (bU hp j .no) i<|hp j) b->iE hp b:=fun b⟨x,n⟩=>let ⟨y,k,_⟩:=f x b n;⟨y,k⟩;refine⟨h.keep,h.ltM,fun x b a=>let ⟨y,k,_⟩:=f x b a;h.apM y b k,fun x=>?_,fun x y l b n k=>?_,fun x b a=>let ⟨y,k,_⟩:=f x b a;h.old y b k⟩
  · by_cases e:x=i
    · subst e;rw[df];exact Chunk.sub (h.ok j) fun b a _=>g b a
    · rw[fe e];by_cases d:x=j
      · subst d;rw[df];trivial
      · rw[fe d];exact Chunk.sub (h.ok x) (fun b a _=>g b a)
  · obtain⟨p,t,u,m⟩:=f x b n;obtain⟨q,k1,k2,o⟩:=f y b k;have:p≠q:=by
      by_cases e:x=i
      · have d:y≠i:=fun h=>l<|e.trans h.symm;rw[u e,(o d).1];exact fun h=>(o d).2 h.symm
      · by_cases d:y=i
        · rw[k2 d,(m e).1];exact(m e).2
        · rw[(m e).1,(o d).1];exact l
    exact h.apart p q this b t k1
def di(β:Type):Nj (List β) β where
 sz:=1
 enc _ u:=[u]
 sub x:=x
 put _ s:=s
 len _ _:=rfl
 one:=by intro x u h c hc;simp at hc;subst hc;exact h
 pos:=by decide
 O8 _ _ _:=rfl
 O9 _ _:=rfl
theorem Pg{R:kD β}:∀w A (x:List β) u,bZ R w A u ((di β).sub x)->(sU R).rd w A ((di β).enc x u) x:=fun _ _ _ u h=>⟨u,rfl,h⟩
end
open Go.RowKit Go.Proofs
section
variable{P:Program}{w:World}{ρ:Operand->Value}{d:Option Nat}{ty:TypeId}{pos:String}{af:Array Edge}{g:Option (Nat×Bool)}{T:TypeId}{x y:Operand}
theorem SH.Gl{α β:Type}{N:Nj α β}{R:kD β}{E:TypeId}{w0:World}{M K:BS}{hp:Nat->Chunk}{u:Value}{s:List β}(h:SH w0 M K w hp)(m:Nat)(x:α)(a:hp m=.own R E u s)(b:N.sub x=s):SH w0 M K w (bU hp m (.eH (bP R E hn [u] (List.map N.sub [x])))):=by
 subst b;exact h.famNew m a
theorem us_at{α:Type}{us:List Value}{L:List α}{k:Nat}{z:α}(h:us.length=L.length)(a:L[k]? =some z):∃u,us[k]? =some u:=by
 have:=Nk a;exact⟨us[k]'(h▸this),List.getElem?_eq_getElem _⟩
end
open Go.RowKit Go.Proofs
section
variable{α:Type}{R:kD α}{E:TypeId}{w0 w w':World}{M K:BS}{hp:Nat->Chunk}{C C':Chunk}{v:Value}{l:List α}
theorem pE:∀b,iE (bU hno 1 C) b->C.own' b:=by
  rintro b⟨j,a⟩;by_cases e:j=1
  · subst e;rw[df]at a;exact a
  · rw[fe e]at a;exact a.elim
theorem iH{i:Nat}(hn:∀b,iE hp b->C.own' b):∀b,iE (bU hp i (.rd R v l)) b->C.own' b:=by
  rintro b⟨j,a⟩;by_cases e:j=i
  · subst e;rw[df]at a;exact a.elim
  · rw[fe e]at a;exact hn b ⟨j,a⟩
theorem SH.jQ(h:SH w M K w hp)(i:Nat)(ho:bZ R w (fun b=>M b\/C.own' b) v l)(hn:∀b,iE hp b->C.own' b):SH w M K w (bU hp i (.rd R v l)):=
 h.aJ i (ho.sub (fun b a _=>a.imp id (hn b)) (fun b a _=>a.imp id (hn b)))
theorem SH.lendS(h:SH w0 M K w hp)(i:Nat)(c:hp i=C)(a:C.O5):C.holds w (fun b=>M b\/rest hp i b) C.own'/\(∀b,C.own' b->¬(M b\/rest hp i b))/\(∀b,(M b\/rest hp i b)->b<w.heap.size):=by
 subst c;exact h.lendC i a
theorem SH.vo(h:SH w0 M K w hp)(i j:Nat)(d:hp j=.rd R v l)(e:hp i=C):bZ R w (fun b=>(M b\/rest hp i b)\/C.own' b) v l:=by
  have c:∀b,(M b\/rest hp i b)\/C.own' b->SH.A M hp b:=by
    rintro b((a|a)|a)
    · exact .inl a
    · exact .inr<|kJ a
    · exact .inr ⟨i,by rw[e];exact a⟩
  exact(h.bJ j d).sub (fun b a _=>c b a) fun b a _=>c b a
theorem SH.back(h:SH w0 M K w hp)(i:Nat)(d:hp i=C)(c:C'.O5)(e:C'.holds w' (fun b=>M b\/rest hp i b) C'.own')(a:bI C.own' w w')(hn:∀b,C'.own' b->b<w.heap.size->C.own' b):SH w0 M K w' (bU hp i C'):=by
 subst d;exact h.givenC i c e a hn
theorem eU{i:Nat}(h:bZ R w (fun b=>(M b\/rest hp i b)\/C.own' b) v l):bZ R w (SH.A M (bU hp i C)) v l:=by
  have a:∀b,SH.A M (bU hp i C) b->(M b\/rest hp i b)\/C.own' b:=by
    rintro b(c|⟨j,d⟩)
    · exact .inl<|.inl c
    · by_cases e:j=i
      · subst e;rw[df]at d;exact .inr d
      · rw[fe e]at d;exact .inl (.inr ⟨j,e,d⟩)
  exact h.sub (fun b c _=>a b c) fun b c _=>a b c
theorem SH.bQ(h:SH w0 M K w hp)(i j:Nat)(d:hp j=.rd R v l)(e:hp i=C):bZ R w (fun b=>M b\/C.own' b) v l:=by
  have c:∀b,M b\/C.own' b->SH.A M hp b:=by
    rintro b(a|a)
    · exact .inl a
    · exact .inr ⟨i,by rw[e];exact a⟩
  exact(h.bJ j d).sub (fun b a _=>c b a) fun b a _=>c b a
theorem SH.outS(h:SH w0 M K w hp)(i:Nat)(c:hp i=C)(a:C.O5):C.holds w M C.own'/\bI K w0 w/\(∀b,C.own' b->b<w0.heap.size->K b):=h.outC i c a
end
section
variable{P:Program}{ops:Array Oper}{Q:Exit->Act->World->Prop}{n:Nat}{env:Nat->Value}{w:World}
theorem At.hold{w w':World}{L:BS}{b o:Nat}{cs:List Value}(h:At w b o cs)(c:bI L w w')(hn:¬L b):At w' b o cs:=by
 obtain⟨cells,E,d,a,e⟩:=h;exact⟨cells,E,d,c.blk a hn,e⟩
theorem fin4{g:Func}{R:Ending->World->Prop}{t u a c:Tmp}{v1 v2 v3 v4:Value}(k:g.results= #[.tmp t,.tmp u,.tmp a,.tmp c])(i:ev n env (.tmp t)=v1)(j:ev n env (.tmp u)=v2)(l:ev n env (.tmp a)=v3)(m:ev n env (.tmp c)=v4)(h:R (.returned (.tuple #[v1,v2,v3,v4])) w):bodyPost P g R .ret (act n env) w:=by
 refine⟨Z,_,?_,h⟩;have d:=congrFun (gJ n env)<|.tmp t;have f:=congrFun (gJ n env)<|.tmp u;have e:=congrFun (gJ n env)<|.tmp a;have b:=congrFun (gJ n env)<|.tmp c;rw[i]at d;rw[j]at f;rw[l]at e;rw[m]at b;simp only[Act.eval]at d f e b;rw[Array.getD_eq_getD_getElem?]at d f e b;unfold results;rw[k];simp[d,f,e,b]
end
structure Ins where
 op:Int
 a:Int
 b:Int
 c:Int
 args:List Int
deriving DecidableEq
def j4:kD Ins where
 sz:=5
 rd w A cs x:=∃S9,cs=[.int .i64 x.op,.int .i64 x.a,.int .i64 x.b,.int .i64 x.c,S9]/\bZ dh w A S9 x.args
 len:=by rintro w A cs x ⟨S9,rfl,h0⟩;rfl
 one:=by rintro w A cs x ⟨S9,rfl,h0⟩ u hu;simp only[List.mem_cons,List.not_mem_nil,or_false]at hu;rcases hu with rfl|rfl|rfl|rfl|rfl<;>first|rfl|exact h0.one
 pos:=by decide
 go:=by rintro w A cs x w2 A2 K ⟨S9,rfl,h0⟩ hk hK hA;exact⟨_,Z,h0.go hk hK hA⟩
theorem Cb{w:World}{A:BS}{cs:List Value}{x:Ins}(h:j4.rd w A cs x):∃d,cs=[.int .i64 x.op,.int .i64 x.a,.int .i64 x.b,.int .i64 x.c,d]/\bZ dh w A d x.args:=h
structure dm where
 params:Int
 regs:Int
 code:List Ins
deriving DecidableEq
def dD:kD dm where
 sz:=3
 rd w A cs x:=∃Ta,cs=[.int .i64 x.params,.int .i64 x.regs,Ta]/\bZ j4 w A Ta x.code
 len:=by rintro w A cs x ⟨Ta,rfl,h0⟩;rfl
 one:=by rintro w A cs x ⟨Ta,rfl,h0⟩ u hu;simp only[List.mem_cons,List.not_mem_nil,or_false]at hu;rcases hu with rfl|rfl|rfl<;>first|rfl|exact h0.one
 pos:=by decide
 go:=by rintro w A cs x w2 A2 K ⟨Ta,rfl,h0⟩ hk hK hA;exact⟨_,Z,h0.go hk hK hA⟩
theorem qw{w:World}{A:BS}{cs:List Value}{x:dm}(h:dD.rd w A cs x):∃a,cs=[.int .i64 x.params,.int .i64 x.regs,a]/\bZ j4 w A a x.code:=h
structure Frame where
 proc:Int
 at_:Int
 regs:List Val
 mH:Int
deriving DecidableEq
def jv:kD Frame where
 sz:=4
 rd w A cs x:=∃Tc,cs=[.int .i64 x.proc,.int .i64 x.at_,Tc,.int .i64 x.mH]/\bZ bF w A Tc x.regs
 len:=by rintro w A cs x ⟨Tc,rfl,h0⟩;rfl
 one:=by rintro w A cs x ⟨Tc,rfl,h0⟩ u hu;simp only[List.mem_cons,List.not_mem_nil,or_false]at hu;rcases hu with rfl|rfl|rfl|rfl<;>first|rfl|exact h0.one
 pos:=by decide
 go:=by rintro w A cs x w2 A2 K ⟨Tc,rfl,h0⟩ hk hK hA;exact⟨_,Z,h0.go hk hK hA⟩
theorem Dc{w:World}{A:BS}{cs:List Value}{x:Frame}(h:jv.rd w A cs x):∃a,cs=[.int .i64 x.proc,.int .i64 x.at_,a,.int .i64 x.mH]/\bZ bF w A a x.regs:=h
structure State where
 frames:List Frame
 cells:List (List Val)
 status:Int
 cu:Int
deriving DecidableEq
def HV:Nj dm Ins where
 sz:=3
 enc x u:=[.int .i64 x.params,.int .i64 x.regs,u]
 sub x:=x.code
 put x s:={x with code:=s}
 len _ _:=rfl
 one:=by intro x u h c hc;simp only[List.mem_cons,List.not_mem_nil,or_false]at hc;rcases hc with rfl|rfl|rfl<;>first|rfl|exact h
 pos:=by decide
 O8 _ _ _:=rfl
 O9 _ _:=rfl
theorem nProc_br:∀w A (x:dm) u,bZ j4 w A u (HV.sub x)->dD.rd w A (HV.enc x u) x:=fun _ _ _ u h=>⟨u,rfl,h⟩
def aT:Nj Frame Val where
 sz:=4
 enc x u:=[.int .i64 x.proc,.int .i64 x.at_,u,.int .i64 x.mH]
 sub x:=x.regs
 put x s:={x with regs:=s}
 len _ _:=rfl
 one:=by intro x u h c hc;simp only[List.mem_cons,List.not_mem_nil,or_false]at hc;rcases hc with rfl|rfl|rfl|rfl<;>first|rfl|exact h
 pos:=by decide
 O8 _ _ _:=rfl
 O9 _ _:=rfl
theorem HY:∀w A (x:Frame) u,bZ bF w A u (aT.sub x)->jv.rd w A (aT.enc x u) x:=fun _ _ _ u h=>⟨u,rfl,h⟩
open Go.RowKit Go.Proofs
section
variable{P:Program}{ops:Array Oper}{Q:Exit->Act->World->Prop}{n:Nat}{env:Nat->Value}{w w' w0:World}{M K:BS}{hp:Nat->Chunk}{rest:List Oper}
 {d:Option Nat} {op:Op} {ty:TypeId} {pos:String} {af:Array Edge} {v:Value} {g:Option (Nat×Bool)} {T:TypeId} {ρ:Operand->Value} {x y:Operand}
theorem fin_c{e:Func}{R:Ending->World->Prop}{a:Tmp}{T:TypeId}{zs vs:List Value}{b:Nat}(j:e.results= #[.cell a T])(k:ev n env (.tmp a)=.pointer (some ⟨b,0,none⟩))
  (f:SH w0 M K w hp) (i:Nat) (l:hp i=.blk b vs) (g:uN P T zs) (m:vs.length=zs.length) (h:R (.returned (.agg vs.toArray)) w):bodyPost P e R .ret (act n env) w:=by
 refine⟨Z,_,?_,h⟩;have c:=congrFun (gJ n env)<|.tmp a;rw[k]at c;simp only[Act.eval]at c;rw[Array.getD_eq_getD_getElem?]at c;have d:=Ai (P:=P) f l g m Z;unfold results;rw[j];simp[c,asAddr,d]
end
theorem cutS_free{c:UInt8}{s:Str}(h:c∉s)(a:s.length<4294967281):cutS s [c]=some (s,[],false):=by
  unfold cutS;rw[uL a];rcases idx1 c s with⟨h1,h2⟩|⟨x,r,h1,h2,h3⟩
  · unfold Lib.cut;rw[h1,if_neg zq1]
  · exact absurd (by rw[h1];simp) h
theorem cutS_hit{c:UInt8}{x r:Str}(h:c∉x)(a:(x++c::r).length<4294967281):cutS (x++c::r) [c]=some (x,r,true):=by
  unfold cutS;rw[uL a];rcases idx1 c (x++c::r)with⟨h1,h2⟩|⟨y,q,h1,h2,h3⟩
  · exact absurd zq3 h2
  · have e:x=y/\r=q:=by
      have k1:=EW (r:=r) h;have k2:=EW (r:=q) h2;rw[<-h1,k1]at k2;injection k2 with k2 k3;subst k2;refine⟨Z,?_⟩;have:=List.append_cancel_left h1;injection this
    obtain⟨rfl,rfl⟩:=e;unfold Lib.cut;rw[h3,if_pos V];simp only[Int.toNat_natCast];rw[List.take_left,show x.length+[c].length=(x++[c]).length by simp,show x++c::r=(x++[c])++r by simp,List.drop_left]
theorem splitC_cons{c:UInt8}{s x y:Str}{l:List Str}(h:kL c s=x::y::l):∃r,s=x++c::r/\kL c r=y::l/\c∉x:=by
 have b:=(Ca c s x (by rw[h];exact List.mem_cons_self)).2;have a:=zI c s;rw[h,EY]at a;refine⟨EX c<|y::l,a.symm,?_,b⟩;rw[<-a,EW b]at h;injection h
theorem WN{c:UInt8}{s x:Str}(h:kL c s=[x]):s=x/\c∉x:=by
 have b:=(Ca c s x (by rw[h];exact List.mem_cons_self)).2;have a:=zI c s;rw[h,Hw]at a;exact⟨a.symm,b⟩
open Go.RowKit Go.Proofs
def RngP{α:Type}(f:α->Value)(m r:Nat)(c:Option (Int×α))(left:List (Int×α))(w:World):Prop:=
 m≠r/\∃d a b,w.heap[m]? =some (.map d a)/\Jc d a/\w.heap[r]? =some (.mapIter (some m) a b a)/\
  (leftOf d b).toList.map (fun e=>(e.key,e.val))=left.map (fun p=>(Value.int .i64 p.1,f p.2))/\
  ∀p,c=some p->∃e∈d.toList,b.back?=some e.born/\e.key=.int .i64 p.1/\e.val=f p.2
def WO{α:Type}(f:α->Value)(m r:Nat)(last:Option (Int×α))(left:List (Int×α)):Pce where
  own x:=x=m\/x=r
  P w _:=RngP f m r last left w
  lt:=by
    rintro w A x⟨_,es,clock,seen,h1,_,h2,_⟩(rfl|rfl)
    · exact iD h1
    · exact iD h2
  go:=by
    rintro w w' A A' K⟨h0,es,clock,seen,h1,h2,h3,h4⟩hk hK hKo hA;exact⟨h0,es,clock,seen,hk.blk h1 fun h=>hKo m h<|.inl Z,h2,hk.blk h3 fun h=>hKo r h<|.inr Z,h4⟩
section
variable{P:Program}{ops:Array Oper}{Q:Exit->Act->World->Prop}{n:Nat}{env:Nat->Value}{w w' w0:World}{M K:BS}{hp:Nat->Chunk}{rest:List Oper}
 {d:Option Nat} {op:Op} {ty:TypeId} {pos:String} {af:Array Edge} {v:Value} {g:Option (Nat×Bool)} {T:TypeId} {ρ:Operand->Value} {x y:Operand} {α:Type} {f:α->Value}
theorem w_range{z:Value}{m:Nat}{jP:List (Int×Value)}(l:List (Int×α))(h:SH w0 M K w hp)(i:Nat)(t:hp i=.mp m jP)(B:MapOf P T z)(C:ev n env x=.map (some m))(y:jP=l.map fun p=>(p.1,f p.2))
    (k:∀w' r,SH w0 M K w' (bU hp i (.eH (WO f m r none l)))->WL P ops Q rest n (gm env d (.pointer (some ⟨r,0,none⟩))) w'):WL P ops Q (⟨d,.range T x,ty,pos,af,none⟩::rest) n env w:=by
  obtain⟨A,E,u,G,I⟩:=B.desc;obtain⟨e,a,j,g,s⟩:=h.mpAt i t;have c:(execOp (ev n env) ⟨d,.range T x,ty,pos,af,none⟩).run P w=.ok (.value<|.pointer<|some ⟨w.heap.size,0,none⟩) (w.alloc<|.mapIter (some m) a #[] a):=by
    simp only[execOp,C];simp[run_range_map w T A E m e a u j]
  refine F c<|k _ _ ?_;have o:=iD j;refine h.step i (N:=BE) (Grow.alloc _ _) (fun _ h=>h.elim) (fun b q v=>?_) ?_
  · rw[t];rcases q with rfl|rfl
    · rfl
    · exact absurd v<|Nat.lt_irrefl _
  · refine⟨Nat.ne_of_lt o,e,a,#[],by rw[(Grow.alloc _ _).blk j],s,heap_alloc_new _ _,?_,fun p h=>by cases h⟩;have:leftOf e #[]=e:=by unfold leftOf;exact Array.filter_eq_self.2 (fun x _=>by simp)
    rw[this,g,y,List.map_map];rfl
theorem TB{r:Nat}{a:Option Nat}{s c:Nat}{d:Array Nat}(o:Obj)(b:w.heap[r]? =some (.mapIter a s d c)):(setObj r o).run P w=.ok () (uH w r o):=by
 simp only[setObj,Sem.run,b];rfl
theorem run_next_any(ty:TypeId){m r a:Nat}{f:Array MapEntry}{b:Array Nat}(y:w.heap[m]? =some (.map f a))(u:w.heap[r]? =some (.mapIter (some m) a b a))(i:∀e∈f.toList,e.born<a):
    ((leftOf f b).size=0/\(Instr.next (.pointer (some ⟨r,0,none⟩)) false ty).run P w=.ok (.tuple #[.bool false]) w)\/
    ∃e∈(leftOf f b).toList,∃d:World,(d=w\/d=w.drew)/\(Instr.next (.pointer (some ⟨r,0,none⟩)) false ty).run P w=.ok (.tuple #[.bool true,e.key,e.val]) (uH d r (.mapIter (some m) a (b.push e.born) a)):=by
  have l:(getObj r).run P w=.ok (.mapIter (some m) a b a) w:=by simp[getObj,Sem.run,u]
  have o:(getObj m).run P w=.ok (.map f a) w:=by simp[getObj,Sem.run,y]
  simp only[Instr.next,Sem.run_bind,l,o,Result.andThen_ok,next_test_false b f a a i (Nat.le_refl _),Bool.false_eq_true,if_false];unfold leftOf;have c:∀x∈(Array.filter (fun e=> !b.contains e.born) f).toList,x.born<a:=fun x g=>i x (by simp at g⊢;exact g.1);generalize Array.filter (fun e=> !b.contains e.born) f=L at c⊢;have z:L.filter (fun x=>decide<|x.born<a)=L:=Array.filter_eq_self.2 (fun x g=>by simpa using c x (by simpa using g));have A:L.filter (fun x=>decide<|x.born≥a)= #[]:=by
    rw[Array.filter_eq_empty_iff];intro x g;have:=c x (by simpa using g);simp;omega
  simp only[z,A,Array.append_empty];by_cases t:L.size=0
  · left;have:L= #[]:=Array.eq_empty_of_size_eq_zero t;subst this;refine⟨Z,?_⟩;simp[choose,Sem.run,Question.forced]
  · right;have n:L.isEmpty=false:=by simp[Array.isEmpty,t]
    simp only[n,Bool.false_eq_true,if_false,Array.empty_append,Array.size_map];have p:∃(j:Nat) (d:World),j<L.size/\(d=w\/d=w.drew)/\(choose<|Question.mapNext L.size).run P w=.ok j d:=by
      by_cases s:L.size<=1
      · exact⟨0,w,by omega,.inl Z,by simp[choose,Sem.run,Question.forced,s]⟩
      · exact⟨_,w.drew,Nat.mod_lt _ V,.inr Z,by
          simp only[choose,Sem.run,Question.forced,decide_eq_true_eq,s,if_false,Question.cut];rfl⟩
    obtain⟨j,d,v,h,k⟩:=p;refine⟨L[j],by simp,d,h,?_⟩;have q:d.heap[r]? =some (.mapIter (some m) a b a):=by rcases h with rfl|rfl<;>exact u
    simp only[k,Array.getElem?_map,Array.getElem?_eq_getElem v,Option.map_some,Sem.run_bind,TB _ q,Result.andThen_ok];rfl
theorem leftOf_push(c:Array MapEntry)(a:Array Nat)(b:Nat):(leftOf c (a.push b)).toList=(leftOf c a).toList.filter (fun x=>x.born !=b):=by
 unfold leftOf;rw[Array.toList_filter,Array.toList_filter,List.filter_filter];apply List.filter_congr;intro x _;have:(a.push b).contains x.born=(a.contains x.born||(x.born==b)):=by
  rw[Bool.eq_iff_iff];simp[Array.contains_iff_mem]
 rw[this];cases a.contains x.born<;>cases hq:(x.born==b)<;>simp[bne,hq]
theorem w_next{m r:Nat}{s:Option (Int×α)}{left:List (Int×α)}(h:SH w0 M K w hp)(i:Nat)(O:hp i=.eH (WO f m r s left))(k:ev n env x=.pointer (some ⟨r,0,none⟩))
    (k0:left=[]->WL P ops Q rest n (gm env d (.tuple #[.bool false])) w)
    (k1:∀p g w',left.Perm (p::g)->SH w0 M K w' (bU hp i (.eH (WO f m r (some p) g)))->WL P ops Q rest n (gm env d (.tuple #[.bool true,.int .i64 p.1,f p.2])) w'):
    WL P ops Q (⟨d,.next x false,ty,pos,af,none⟩::rest) n env w:=by
  have N:=h.ok i;rw[O]at N;obtain⟨t,q,a,c,G,I,S,C,h5⟩:=N;rcases run_next_any (P:=P) ty G S I.1 with⟨g1,g2⟩|⟨e,he,w1,hw1,g2⟩
  · have hl:left=[]:=by
      have:(leftOf q c).toList=[]:=List.eq_nil_of_length_eq_zero (by simpa using g1);rw[this]at C;cases left with
      |nil=>rfl
      |cons p l=>cases C
    refine F (v:=.tuple #[.bool false]) (w':=w) ?_<|k0 hl;simp only[execOp,k];simp[g2]
  · obtain⟨A,B,o⟩:=List.append_of_mem he;rw[o,List.map_append,List.map_cons]at C;obtain⟨R,l2,rfl,q1,q2⟩:=List.map_eq_append_iff.1 C.symm;obtain⟨p,T,rfl,z,X⟩:=List.map_eq_cons_iff.1 q2;simp only[Prod.mk.injEq]at z;have u:=iD S;have j:Grow w w1:=by
      rcases hw1 with rfl|rfl
      · exact bI.refl _ _
      · exact⟨Z,Z,Z,Nat.le_refl _,fun _ _ _=>rfl⟩
    have hk:bI (fun x=>x=m\/x=r) w (uH w1 r<|.mapIter (some m) a (c.push e.born) a):=bI.step (j.weaken fun _ h _=>h.elim) (bI.uH _ _ _) fun x k _=>.inr k;have E:(uH w1 r<|.mapIter (some m) a (c.push e.born) a).heap[m]? =some (.map q a):=by
      rw[(bI.uH w1 r _).block m t (Nat.lt_of_lt_of_le (iD G) j.size),j.blk G]
    refine F (v:=.tuple #[.bool true,.int .i64 p.1,f p.2]) (w':=uH w1 r<|.mapIter (some m) a (c.push e.born) a) ?_<|k1 p (R++T) _ (List.perm_middle) ?_
    · rw[z.1,z.2];simp only[execOp,k];simp[g2]
    · refine h.Ji (S':=WO f m r (some p)<|R++T) i O ?_ hk fun b hb _=>hb;refine⟨t,q,a,c.push e.born,E,I,tV<|Nat.lt_of_lt_of_le u j.size,?_,fun p' L=>?_⟩
      · rw[leftOf_push,o];have y:((leftOf q c).toList.map (·.born)).Nodup:=by
          unfold leftOf;rw[Array.toList_filter];exact(I.2.sublist ((List.filter_sublist (l:=q.toList)).map _))
        rw[o,List.map_append,List.map_cons,List.nodup_append]at y;obtain⟨n1,n2,n3⟩:=y;rw[List.filter_append,List.filter_cons_of_neg zq3,List.filter_eq_self.2 (fun x k=>?_),List.filter_eq_self.2 (fun x k=>?_),List.map_append,List.map_append,<-q1,<-X]
        · have:=(List.nodup_cons.1 n2).1;simp only[bne_iff_ne,ne_eq,decide_not,Bool.not_eq_true',beq_eq_false_iff_ne];intro J;exact this (by rw[<-J];exact List.mem_map.2 ⟨x,k,Z⟩)
        · simp only[bne_iff_ne,ne_eq,decide_not,Bool.not_eq_true',beq_eq_false_iff_ne];intro J;exact n3 x.born (List.mem_map.2 ⟨x,k,Z⟩) e.born zq3 J
      · cases L;refine⟨e,?_,by simp,z.1.symm,z.2.symm⟩;have:e∈(leftOf q c).toList:=he;unfold leftOf at this;rw[Array.toList_filter]at this;exact(List.mem_filter.1 this).1
theorem r_entry{m r:Nat}{p:Int×α}{left:List (Int×α)}(h:SH w0 M K w hp)(i:Nat)(A:hp i=.eH (WO f m r (some p) left))(u:ρ x=.pointer (some ⟨r,0,none⟩)):
    (execOp ρ ⟨d,.entry x,ty,pos,af,g⟩).run P w=.ok (.value (.tuple #[.int .i64 p.1,f p.2])) w:=by
  have l:=h.ok i;rw[A]at l;obtain⟨z,k,a,b,s,B,n,E,o⟩:=l;obtain⟨e,C,q,t,v⟩:=o p Z;have c:(getObj r).run P w=.ok (.mapIter (some m) a b a) w:=by simp[getObj,Sem.run,n]
  have j:(getObj m).run P w=.ok (.map k a) w:=by simp[getObj,Sem.run,s]
  have y:k.find? (·.born==e.born)=some e:=by rw[<-Array.find?_toList];exact find_born e k.toList B.2 C
  simp only[execOp,u];have:(Instr.entry<|.pointer<|some ⟨r,0,none⟩).run P w=.ok (.tuple #[.int .i64 p.1,f p.2]) w:=by
    simp only[Instr.entry,Sem.run_bind,c,j,Result.andThen_ok,q,bne_self_eq_false,Bool.false_eq_true,if_false,y];rw[t,v];rfl
  simp[this]
theorem SH.Xt{m r:Nat}{c:Option (Int×α)}{left:List (Int×α)}(h:SH w0 M K w hp)(i:Nat)(j:hp i=.eH (WO f m r c left)):SH w0 M K w (bU hp i (.eH (WO f m r none left))):=by
 have g:=h.ok i;rw[j]at g;obtain⟨e,o,a,d,l,s,k,n,t⟩:=g;exact h.Ji (S':=WO f m r none left) i j ⟨e,o,a,d,l,s,k,n,fun p h=>by cases h⟩ (bI.refl _ _) fun b q _=>q
end
def Ul{α σ:Type}(step:α->σ->Option σ):List α->σ->Option σ
 |[],s=>some s
 |a::l,s=>(step a s).bind (Ul step l)
def yX{α σ:Type}(step:α->σ->Option σ)(L:List α)(s a:σ):Prop:=∀p,p.Perm L->Ul step p s=some a
open Classical in
noncomputable def Gm{α σ:Type}(step:α->σ->Option σ)(L:List α)(s:σ):Option σ:=if h:∃a,yX step L s a then some h.choose else none
theorem o_fold{α σ:Type}{step:α->σ->Option σ}{L:List α}{s a:σ}(h:Gm step L s=some a):yX step L s a:=by
  unfold Gm at h;split at h
  · rename_i b;cases h;exact b.choose_spec
  · cases h
theorem foldAny_eq{α σ:Type}{step:α->σ->Option σ}{L:List α}{s a:σ}(h:yX step L s a):Gm step L s=some a:=by
 have c:∃a,yX step L s a:=⟨a,h⟩;unfold Gm;rw[dif_pos c];have b:=c.choose_spec L<|List.Perm.refl _;rw[h L (List.Perm.refl _)]at b;exact b.symm
theorem yX.nil{α σ:Type}{step:α->σ->Option σ}{s a:σ}(h:yX step [] s a):s=a:=by
 have:=h []<|List.Perm.refl _;exact Option.some.inj this
theorem yX.cons{α σ:Type}{step:α->σ->Option σ}{L L':List α}{p:α}{s a:σ}(h:yX step L s a)(hp:L.Perm (p::L')):∃b,step p s=some b/\yX step L' b a:=by
 have e:=h (p::L') hp.symm;obtain⟨b,c,f⟩:=az e;refine⟨b,c,fun q d=>?_⟩;have:=h (p::q) ((d.cons p).trans hp.symm);unfold Ul at this;rw[c]at this;exact this
open Go.RowKit Go.Proofs
section
variable{w0 w w':World}{M K:BS}{hp:Nat->Chunk}{C:Chunk}
theorem SH.Jj{b:Nat}{cs:List Value}(h:SH w M K w hp)(i:Nat)(ho:∃E,w.heap[b]? =some (.cells cs.toArray E (0,0)))(c:¬C.own' b)(hn:∀b,iE hp b->C.own' b):SH w M K w (bU hp i (.pt b 0 cs)):=by
 obtain⟨E,a⟩:=ho;exact h.pt i (fun h=>c<|hn b h) ⟨_,E,_,a,by simp⟩
theorem xM{i b o:Nat}{cs:List Value}(hn:∀b,iE hp b->C.own' b):∀x,iE (bU hp i (.pt b o cs)) x->C.own' x:=by
  rintro x⟨j,a⟩;by_cases e:j=i
  · subst e;rw[df]at a;exact a.elim
  · rw[fe e]at a;exact hn x ⟨j,a⟩
theorem SH.loseC3{c e f:Chunk}(h:SH w0 M K w hp)(i j k:Nat)(m:i≠j)(d:i≠k)(g:j≠k)(q:hp i=c)(p:hp j=e)(l:hp k=f)(n:bI (fun b=>c.own' b\/e.own' b\/f.own' b) w w'):
    SH w0 M K w' (bU (bU (bU (bU (bU hp j .no) i (.two (hp i) (hp j))) k .no) i (.two ((bU (bU hp j .no) i (.two (hp i) (hp j))) i) ((bU (bU hp j .no) i (.two (hp i) (hp j))) k))) i .no):=by
  have o:=h.pair i j m;have r:=o.pair i k d;refine r.lL i (df _ _ _) ?_;rw[df,fe (fun e=>d e.symm),fe (fun e=>g e.symm),q,p,l];refine n.weaken fun b a _=>?_;rcases a with a|a|a
  · exact .inl<|.inl a
  · exact .inl<|.inr a
  · exact .inr a
end
section
variable{α:Type}{R:kD α}{E:TypeId}{w0 w w':World}{M K A:BS}{hp:Nat->Chunk}{C:Chunk}{v:Value}{l:List α}
theorem cz.srcB{B:BS}(h:cz R E w A v l)(t:∀b,ob v b->¬B b):dR R w B A v l:=by
  have p:=h.src;obtain⟨xs,k,z⟩:=h;rcases k.2 with⟨rfl,hn⟩|⟨g,cap,cur,rfl,e1,e2,e3,e4,e5,e6⟩
  · have:l=[]:=List.eq_nil_of_length_eq_zero hn;subst this;exact dR.nil
  · obtain⟨a,d,e,m,q,r,j⟩:=p;refine⟨a,d,e,m,q,r,fun i n=>?_⟩;obtain⟨b,o,cells,c,u,f,y,x,s⟩:=j i n;refine⟨b,o,cells,c,u,f,?_,x,s⟩;subst f;simp only[Value.slice.injEq,Option.some.injEq,Addr.mk.injEq]at e;exact t b (by simp[ob,e.1.1])
theorem Gn{i:Nat}(hn:∀b,iE hp b->C.own' b):∀b,iE (bU hp i (.sr R v l)) b->C.own' b:=by
  rintro b⟨j,a⟩;by_cases e:j=i
  · subst e;rw[df]at a;exact a.elim
  · rw[fe e]at a;exact hn b ⟨j,a⟩
theorem SH.argSrC(h:SH w M K w hp)(i:Nat)(ho:dR R w C.own' (fun b=>M b\/C.own' b) v l)(hn:∀b,iE hp b->C.own' b):SH w M K w (bU hp i (.sr R v l)):=
 h.know i (fun _ h=>h) (ho.sub (fun b a _=>hn b a) (fun b a _=>a.imp id (hn b)))
theorem av_all{i:Nat}(c:hp i=C):∀b,(M b\/rest hp i b)\/C.own' b->SH.A M hp b:=by
  rintro b((a|a)|a)
  · exact .inl a
  · exact .inr<|kJ a
  · exact .inr ⟨i,by rw[c];exact a⟩
theorem SH.ownSr(h:SH w0 M K w hp)(i j:Nat)(a:i≠j)(d:hp j=.own R E v l)(e:hp i=C):dR R w C.own' (fun b=>(M b\/rest hp i b)\/C.own' b) v l:=
 ((h.bE j d).srcB (B:=C.own') (fun b c f=>h.apart i j a b (by rw[e];exact f) (by rw[d];exact c))).sub (fun _ h _=>h) (fun b c _=>av_all e b c)
theorem SH.srSr(h:SH w0 M K w hp)(i j:Nat)(d:hp j=.sr R v l)(c:hp i=C):dR R w C.own' (fun b=>(M b\/rest hp i b)\/C.own' b) v l:=
 (h.srAt j d).sub (fun b a _=>⟨i,by rw[c];exact a⟩) (fun b a _=>av_all c b a)
end
def Ph(s:Str):Option (List Str):=iC (s.length<4294967281/\(s.all fun b=>decide (b.toNat<128))=true/\(Lib.fields s).length<=4294967281) (some (Lib.fields s))
theorem fields_w{P:Program}{f:FuncId}{E:TypeId}{g q:Nat}{w0:World}{M:BS}(i:∀(s:ByteArray) (w:World),s.size<4294967281->(∀(j:Nat) b,s.data.toList[j]? =some b->b.toNat<128)->Lib.TabIs P w "strings.asciiSpace" .u8 Lib.asciiSpaceTab->
    Calls P f #[.string s] w fun e w'=>e=.returned (.slice (some ⟨w.heap.size,0,none⟩) (Lib.fields s.data.toList).length (Lib.fields s.data.toList).length)/\w'=w.alloc (.cells ((Lib.fields s.data.toList).map fun l=>Value.string ⟨l.toArray⟩).toArray E))
    (d:P.globalNamed "strings.asciiSpace" =some q) (c:∀b,M b->b<w0.heap.size) (h:ql P g w0) {s:Str} {r:List Str} (a:Ph s=some r):Calls P f #[bB s] w0 (fun e w'=>Grow w0 w'/\∃u,e=.returned u/\bZ sD w' M u r):=by
  obtain⟨⟨k,n,o⟩,a⟩:=bC a;cases a;refine(i ⟨s.toArray⟩ w0 (by rw[ug];exact k) (fun j b m=>?_) (h.asc q d)).mono ?_
  · have:=List.all_eq_true.1 n b<|List.mem_of_getElem? (by simpa using m);simpa using this
  · rintro e w'⟨rfl,rfl⟩;refine⟨Grow.alloc _ _,_,Z,?_⟩;have:=strs_rd (E:=E) (l:=(Lib.fields s).map fun l=>(⟨l.toArray⟩:ByteArray)) (cap:=(Lib.fields s).length) (cells:=((Lib.fields s).map fun l=>Value.string ⟨l.toArray⟩).toArray) w0 c (by rw[List.length_map];exact Nat.le_refl _) (by unfold maxLen;omega) (fun j p=>by simp);rw[List.length_map,List.map_map]at this;have e:(List.map (((fun x=>x.data.toList):ByteArray->Str)∘fun l=>⟨l.toArray⟩)<|Lib.fields s)=Lib.fields s:=by simp[Function.comp_def]
    simpa[Function.comp_def]using this
open Go.RowKit Go.Proofs Go.ChangeShapes
def MV(b o:Nat)(r:Nat×Nat×Nat):Bool:=Nat.beq r.1 b&&(Nat.ble r.2.1 o&&Nat.blt o (r.2.1+r.2.2))
def QK(b o:Nat):List (Nat×Nat×Nat)->List (Nat×Nat×Nat)
 |[]=>[(b,o,1)]
 |(c,s,l)::r=>bif Nat.beq c b&&Nat.beq (o+1) s then(b,o,l+1)::r else(b,o,1)::(c,s,l)::r
def YX:List MemPlace->Option (List (Nat×Nat×Nat))
 |[]=>some []
 | .cell b o::r=>(YX r).bind fun a=>bif a.any (MV b o)then none else some (QK b o a)
 |_::_=>none
theorem addRun_old{b o c q:Nat}{a:List (Nat×Nat×Nat)}(h:a.any (MV c q)=true):(QK b o a).any (MV c q)=true:=by
  cases a with
  |nil=>cases h
  |cons r a=>
    obtain⟨d,s,l⟩:=r;have e:QK b o ((d,s,l)::a)=bif Nat.beq d b&&Nat.beq (o+1) s then(b,o,l+1)::a else(b,o,1)::(d,s,l)::a:=rfl;rw[e];cases hc:(Nat.beq d b&&Nat.beq (o+1) s)with
    |false=>rw[cond_false,List.any_cons,h,Bool.or_true]
    |true=>
      rw[cond_true];simp only[Bool.and_eq_true,Nat.beq_eq]at hc;obtain⟨rfl,rfl⟩:=hc;rw[List.any_cons]at h⊢;rcases Bool.or_eq_true_iff.1 h with h|h
      · unfold MV at h⊢;simp only[Bool.and_eq_true,Nat.beq_eq,Nat.ble_eq,Nat.blt_eq]at h;have:(Nat.beq d c&&(Nat.ble o q&&Nat.blt q (o+(l+1))))=true:=by
          simp only[Bool.and_eq_true,Nat.beq_eq,Nat.ble_eq,Nat.blt_eq];omega
        rw[this,Bool.true_or]
      · rw[h,Bool.or_true]
theorem addRun_new{b o:Nat}{a:List (Nat×Nat×Nat)}:(QK b o a).any (MV b o)=true:=by
 cases a with
 |nil=>simp[QK,MV]
 |cons r a=>
  obtain⟨d,s,l⟩:=r;have e:QK b o ((d,s,l)::a)=bif Nat.beq d b&&Nat.beq (o+1) s then(b,o,l+1)::a else(b,o,1)::(d,s,l)::a:=rfl;rw[e];cases (Nat.beq d b&&Nat.beq (o+1) s)with
  |false=>simp[MV]
  |true=>simp[MV]
theorem Pj:∀{f:List MemPlace} {d:List (Nat×Nat×Nat)},YX f=some d->f.Nodup/\∀b o,MemPlace.cell b o∈f->d.any (MV b o)=true
  |[],d,h=>⟨List.nodup_nil,fun _ _ a=>by cases a⟩
  | .cell b o::r,d,h=>by
    unfold YX at h;obtain⟨q,j,h⟩:=Option.bind_eq_some_iff.1 h;obtain⟨i,g⟩:=Pj j;cases hc:q.any (MV b o)with
    |true=>rw[hc]at h;cases h
    |false=>
      rw[hc,cond_false]at h;cases h;refine⟨List.nodup_cons.2 ⟨fun a=>(by rw[g b o a]at hc;cases hc),i⟩,fun c p a=>?_⟩;rcases List.mem_cons.1 a with e|a
      · cases e;exact addRun_new
      · exact addRun_old<|g c p a
  | .map _::_,d,h=>by cases h
theorem TC{P:Program}{w:World}{l:List (String×DataW Unit)}(fuel:Nat)(h:(DataW.laidRun P w fuel (l.map (·.1))).map (·.1)=some l)
    (a:(DataW.laidRun P w fuel (l.map (·.1))).map (fun x=>(YX x.2).isSome&&laidRowsB P w x.2)=some true):laidMet P l w:=by
  cases hx:DataW.laidRun P w fuel (l.map (·.1))with
  |none=>simp[hx]at h
  |some x=>
    obtain⟨d,e⟩:=x;simp only[hx,Option.map_some,Option.some.injEq]at h a;subst h;simp only[Bool.and_eq_true]at a;obtain⟨c,b⟩:=Option.isSome_iff_exists.1 a.1;exact laidMet_of_run fuel hx (decide_eq_true (Pj b).1) a.2
structure gu where
 at_:Int
 ok:Bool
deriving DecidableEq
open Go.RowKit Go.Proofs
section
variable{α β:Type}{N:Nj α β}{R:kD β}{E Es T:TypeId}{w0 w w':World}{M K A:BS}{hp:Nat->Chunk}{v u u':Value}{us us':List Value}{L L':List α}{ss ss':List (List β)}{s:List β}{x y:α}{k:Nat}{ho ho':Nat->Prop}{C:Chunk}
theorem Td{b:Type}(P:Nat->b->Prop):∀(n:Nat),(∀i,i<n->∃u,P i u)->∃us:List b,us.length=n/\∀i u,us[i]? =some u->P i u
  |0,_=>⟨[],rfl,fun i u h=>by cases h⟩
  |n+1,h=>by
    obtain⟨us,c,e⟩:=Td P n fun i f=>h i V;obtain⟨u,d⟩:=h n V;refine⟨us++[u],by simp[c],fun i z a=>?_⟩;rw[List.getElem?_append]at a;split at a
    · exact e i z a
    · rename_i g;have:i-us.length=0:=by
        rcases Nat.eq_zero_or_pos (i-us.length)with h0|h0
        · exact h0
        · rw[List.getElem?_eq_none (by simp;omega)]at a;cases a
      rw[this]at a;cases a;obtain rfl:i=n:=by omega
      exact d
def hge(k:Nat):Nat->Prop:=fun i=>k<=i
def Jk{β:Type}(R:kD β)(k:Nat)(us:List Value)(ss:List (List β)):Pce where
 own:=BE
 P w A:=∀i u s,k<=i->us[i]? =some u->ss[i]? =some s->bZ R w A u s
 lt:=fun _ h=>h.elim
 go:=fun h hk hK hKo hA i u s hi hu hs=>bZ.go (h i u s hi hu hs) hk hK (fun b hb hl=>(hA b hb hl).elim id (fun h=>h.elim))
theorem SH.famHo(h:SH w0 M K w hp)(j:Nat)(ho':Nat->Prop)(a:hp j=.eH (bP R E ho us ss))(c:∀i,ho i↔ho' i):SH w0 M K w (bU hp j (.eH (bP R E ho' us ss))):=by
 have e:ho=ho':=funext fun i=>propext<|c i;subst e;exact h.Ji (S':=bP R E ho us ss) j a (h.Xq j a) (bI.refl _ _) fun b d _=>d
theorem SH.thaw{R':kD α}(h:SH w0 M K w hp)(i j q:Nat)(k:hp i=.own R' E v L)(J:i≠j)(T:i≠q)(G:j≠q)(l:R'.sz=N.sz)(op:∀w A cs x,R'.rd w A cs x->∃u,cs=N.enc x u/\bZ R w A u (N.sub x)):
    ∃us,us.length=L.length/\SH w0 M K w (bU (bU (bU hp i (.own N.raw E v (L.zip us))) j (.eH (bP R Es (hge 0) us (L.map N.sub)))) q (.eH (Jk R 0 us (L.map N.sub)))):=by
  have ho:=h.bE i k;have P:=ho;obtain⟨xs,O,Q⟩:=ho;obtain⟨us,o,n⟩:=Td (fun i u=>∃k:i<L.length,(xs.drop (i*R'.sz)).take R'.sz=N.enc L[i] u/\bZ R w (fun b=>SH.A M hp b\/ob v b) u (N.sub L[i])) L.length (fun i k=>by
    obtain⟨u,r,m⟩:=op _ _ _ _<|Q i k;exact⟨u,k,r,m⟩)
  refine⟨us,o,?_⟩;have s1:SH w0 M K w (bU hp i<|.own N.raw E v<|L.zip us):=by
    refine h.step i (bI.refl BE w) (fun _ h=>h.elim) (fun b d _=>by rw[k];exact d) ⟨xs,?_,?_⟩
    · rw[gB o];show w.ownsRow 0 E N.sz v L.length xs;rw[<-l];exact O
    · intro q z;have I:q<L.length:=by rw[gB o]at z;exact z
      have t:q<us.length:=by omega
      obtain⟨_,r,m⟩:=n q us[q]<|List.getElem?_eq_getElem t;refine⟨?_,?_⟩
      · show(xs.drop<|q*N.sz).take N.sz=N.enc ((L.zip us)[q]).1 ((L.zip us)[q]).2;rw[List.getElem_zip,<-l];exact r
      · rw[List.getElem_zip];exact m.one
  have a:∀b,¬Eo (hge 0) us b:=fun b⟨i,u,_,hn,_⟩=>hn<|Nat.zero_le i;have X:SH w0 M K w (bU (bU hp i<|.own N.raw E v<|L.zip us) j<|.eH<|bP R Es (hge 0) us<|L.map N.sub):=
    s1.know j (c:=.eH (bP R Es (hge 0) us (L.map N.sub))) (fun b d=>a b d) ⟨by rw[List.length_map];exact o,fun i u s _ _ hn=>absurd (Nat.zero_le i) hn,fun i j u v _ hn=>absurd (Nat.zero_le i) hn⟩
  refine X.know q (c:=.eH<|Jk R 0 us<|L.map N.sub) (fun b d=>d) ?_;intro p u s _ S B;obtain⟨y,r,m⟩:=n p u S;rw[List.getElem?_map,List.getElem?_eq_getElem y]at B;cases B;have f:∀b,(M b\/iE (bU (bU hp i<|.own N.raw E v<|L.zip us) j<|.eH<|bP R Es (hge 0) us<|L.map N.sub) b)->SH.A M hp b\/ob v b:=by
    rintro b(d|⟨c,g⟩)
    · exact .inl<|.inl d
    · by_cases e:c=j
      · subst e;rw[df]at g;exact absurd g (a b)
      · rw[fe e]at g;by_cases C:c=i
        · subst C;rw[df]at g;exact .inr g
        · rw[fe C]at g;exact .inl (.inr ⟨c,g⟩)
  exact m.sub (fun b d _=>f b d) fun b d _=>f b d
theorem SH.rdpAt(h:SH w0 M K w hp)(q:Nat)(c:hp q=.eH (Jk R k us (L.map N.sub)))(d:us.length=L.length)(a:L[k]? =some x):∃u,us[k]? =some u/\bZ R w (SH.A M hp) u (N.sub x):=by
 obtain⟨u,b⟩:=us_at d a;exact⟨u,b,h.pceAt q c k u _ (Nat.le_refl _) b (by rw[List.getElem?_map,a];rfl)⟩
theorem SH.rdpStep(h:SH w0 M K w hp)(q:Nat)(c:hp q=.eH (Jk R k us ss)):SH w0 M K w (bU hp q (.eH (Jk R (k+1) (us.set k u) (ss.set k s)))):=by
 have e:=h.pceAt q c;refine h.Ji (S':=Jk R (k+1) (us.set k u)<|ss.set k s) q c ?_ (bI.refl _ _) fun b f _=>f;intro i z t g d a;rw[List.getElem?_set_ne V]at d a;exact e i z t V d a
theorem SH.pendPut(h:SH w0 M K w hp)(j q m:Nat)(y:α)(g:hp j=.eH (bP R Es (hge k) us (L.map N.sub)))(r:hp q=.eH (Jk R k us (L.map N.sub)))(v:hp m=.own R Es u s)(c:j≠q)(b:j≠m)(d:q≠m)(z:L[k]? =some x)(f:us[k]? =some u')(p:N.sub y=s):
    SH w0 M K w (bU (bU (bU (bU (bU hp q (.eH (Jk R (k+1) (us.set k u) ((L.map N.sub).set k s)))) j (.eH (bP R Es (hge k) (us.set k u) ((L.map N.sub).set k s)))) m .no) j (.eH (bP R Es (hge (k+1)) (us.set k u) (((L.map N.sub).set k s).set k s)))) j (.eH (bP R Es (hge (k+1)) (us.set k u) ((L.set k y).map N.sub)))):=by
  have n:=h.rdpStep (u:=u) (s:=s) q r;have l:=h.jD j g;have o:=n.famRe (us':=us.set k u) (ss':=(L.map N.sub).set k s) j (by rw[fe c];exact g) (by simp[l]) (fun i a=>by
    have:k≠i:=fun e=>a (by subst e;exact Nat.le_refl _);rw[List.getElem?_set_ne this,List.getElem?_set_ne this];exact⟨Z,Z⟩)
  have B:=Nk z;have t:=o.Pf j m (k:=k) (u:=u) (s:=s) (df _ _ _) (by rw[fe (fun e=>b e.symm),fe (fun e=>d e.symm)];exact v) b (Xr f) (Nat.le_refl k) (hge (k+1)) (fun i=>⟨fun a=>by
    rcases Nat.eq_or_lt_of_le (show k<=i from a)with e|e
    · exact .inr e.symm
    · exact .inl e,fun a=>a.elim (fun a=>Nat.le_of_succ_le a) (fun e=>by subst e;exact Nat.le_refl _)⟩) (fun a=>absurd a (Nat.not_succ_le_self k))
  have e:((L.map N.sub).set k s).set k s=(L.set k y).map N.sub:=by rw[List.set_set,List.map_set,p]
  have A:=t.famRe (us':=us.set k u) (ss':=(L.set k y).map N.sub) j (df _ _ _) (by simp[l]) (fun i a=>⟨Z,by rw[e]⟩);exact A
theorem SH.YY(h:SH w0 M K w hp)(j:Nat)(e:hp j=.eH (bP R Es (hge k) us (L.map N.sub)))(q:L.length<=k):SH w0 M K w (bU hp j (.eH (bP R Es hn us (L.map N.sub)))):=by
  have r:=h.jD j e;have g:=h.Xq j e;have a:∀i (z:Value),us[i]? =some z->¬hge k i:=fun i z c p=>by
    have:=Nk c;have:k<=i:=p;omega
  refine h.Ji (S':=bP R Es hn us<|L.map N.sub) j e ⟨g.1,fun i z t c o _=>?_,fun i j z v f _ _ c n=>g.2.2 i j z v f (a i z c) (a j v n) c n⟩ (bI.refl _ _) fun b⟨i,z,d,_,m⟩_=>⟨i,z,d,a i z d,m⟩;refine(g.2.1 i z t c o<|a i z c).go (bI.refl BE w) (fun _ h=>h.elim) (fun _ h=>h.elim) fun b l _=>?_;rcases l with l|⟨i,z,d,_,m⟩
  · exact .inl<|.inl l
  · exact .inl<|.inr ⟨i,z,d,a i z d,m⟩
def hmv(a:List Int):Nat->Prop:=fun i=>(i:Int)∈a
theorem SH.famMv0(h:SH w0 M K w hp)(j:Nat)(a:hp j=.eH (bP R Es hn us ss)):SH w0 M K w (bU hp j (.eH (bP R Es (hmv []) us ss))):=
 h.famHo j (hmv []) a (fun i=>⟨fun h=>h.elim,fun h=>by cases h⟩)
theorem SH.mvOpen{c:List Int}{a:Int}(h:SH w0 M K w hp)(j m:Nat)(k:hp j=.eH (bP R Es (hmv c) us (L.map N.sub)))(l:hp m=.no)(d:j≠m)(n:0<=a)(f:L[a.toNat]? =some x)(b:a∉c):
    ∃u,us[a.toNat]? =some u/\SH w0 M K w (bU (bU hp j (.eH (bP R Es (hmv (c++[a])) us (L.map N.sub)))) m (.own R Es u (N.sub x))):=by
  have o:=h.jD j k;obtain⟨u,g⟩:=us_at o f;have e:((a.toNat:Nat):Int)=a:=Int.toNat_of_nonneg n;refine⟨u,g,h.famOpen j m k l d g (by rw[List.getElem?_map,f];rfl) (fun h=>b (by rw[<-e];exact h)) (hmv (c++[a])) (fun i=>?_)⟩;unfold hmv;rw[List.mem_append,List.mem_singleton];constructor
  · rintro(h|h)
    · exact .inl h
    · exact .inr V
  · rintro(h|h)
    · exact .inl h
    · exact .inr (by rw[h];exact e)
theorem SH.YZ(h:SH w0 M K w hp)(i:Nat)(c:Grow w w')(d:C.O5)(e:C.holds w' (SH.A M hp) C.own')(hn:∀b,C.own' b->w.heap.size<=b):SH w0 M K w' (bU hp i C):=
  h.learn i c hn (Chunk.re d e (fun b a _=>by
    rcases a with a|a|a
    · exact .inl<|.inl a
    · exact .inl<|.inr a
    · exact .inr a))
theorem Y0(ho:∀b,C.own' b->b<w0.heap.size->BE b):∀b,C.own' b->w0.heap.size<=b:=fun b a=>Nat.le_of_not_lt (fun c=>ho b a c)
theorem nLst_op{R:kD β}:∀(w:World) (A:BS) cs (x:List β),(sU R).rd w A cs x->∃u,cs=(di β).enc x u/\bZ R w A u ((di β).sub x):=fun _ _ _ _ h=>h
end
theorem QL:∀(w:World) (A:BS) cs (x:Frame),jv.rd w A cs x->∃u,cs=aT.enc x u/\bZ bF w A u (aT.sub x):=fun _ _ _ _ h=>h
def Jl{α:Type}(k:Int)(v:α):List (Int×α)->List (Int×α)
 |[]=>[(k,v)]
 |p::r=>if k=p.1 then(p.1,v)::r else p::Jl k v r
theorem L8{α:Type}{f:α->Value}{k:Int}{v:α}:∀(l:List (Int×α)),Ud (l.map fun p=>(p.1,f p.2)) k (f v)=(Jl k v l).map fun p=>(p.1,f p.2)
  |[]=>rfl
  |p::r=>by
    show(if k=p.1 then(p.1,f v)::_ else(p.1,f p.2)::Ud _ k (f v))=_;unfold Jl;split
    · rfl
    · rw[L8 r];rfl
theorem Gd.keep{w w':World}{K:BS}{b:Nat}{jP:List (Int×Value)}(h:Gd w b jP)(e:bI K w w')(hn:¬K b):Gd w' b jP:=by
 obtain⟨f,c,d,g,a⟩:=h;exact⟨f,c,e.blk d hn,g,a⟩
section
variable{P:Program}{w:World}{ρ:Operand->Value}{d:Option Nat}{ty:TypeId}{pos:String}{af:Array Edge}{g:Option (Nat×Bool)}{T:TypeId}
theorem r_lk1M{α:Type}{f:α->Value}{zz:α}{z:Value}{x y:Operand}{b:Nat}{k:Int}(l:List (Int×α))(h:Gd w b (l.map fun p=>(p.1,f p.2)))(c:MapOf P T z)(a:ρ x=.map (some b))(i:ρ y=.int .i64 k)(e:z=f zz):
  (execOp ρ ⟨d,.lookup T x y false,ty,pos,af,g⟩).run P w=.ok (.value (f ((lk k l).getD zz))) w:=by
 have:=r_lookup (d:=d) (ty:=ty) (pos:=pos) (af:=af) (g:=g) c a i h;rw[e,TN]at this;exact this
end
open Go.RowKit Go.Proofs Go.MapKept
section
variable{P:Program}{ops:Array Oper}{Q:Exit->Act->World->Prop}{n:Nat}{env:Nat->Value}{w w' w0:World}{M K:BS}{hp:Nat->Chunk}{rest:List Oper}
 {d:Option Nat} {op:Op} {ty:TypeId} {pos:String} {af:Array Edge} {v:Value} {g:Option (Nat×Bool)} {T:TypeId} {ρ:Operand->Value}
theorem made_drop(zs:List Value)(m q:Nat)(c:q<m):((madeCells zs.toArray (m*zs.length)).toList.drop (q*zs.length)).take zs.length=zs:=by
  apply List.ext_getElem?;intro i;rw[List.getElem?_take];split
  · rename_i a;rw[List.getElem?_drop];have b:q*zs.length+i<m*zs.length:=by
      have:=Nat.mul_le_mul_right zs.length (show q+1<=m from c);rw[Nat.succ_mul]at this;omega
    have d:(q*zs.length+i)%zs.length=i:=by rw[Nat.mul_comm,Nat.mul_add_mod];exact Nat.mod_eq_of_lt a
    simp[madeCells,b,d,a]
  · rename_i a;rw[List.getElem?_eq_none V]
theorem HZ{α:Type}{R:kD α}{E:TypeId}{c l:Nat}{k:Int}{zs:List Value}{x y:Operand}{a:α}(h:SH w0 M K w hp)(i:Nat)(G:jX P T E l c)(hz:uN P E zs)(I:R.sz=l)(r:0<c)(hx:ev n env x=.int .i64 k)(X:ev n env y=.int .i64 k)
    (hk:0<=k/\k*c<=140737488355328) (S:zs.length=l) (J:∀w A,R.rd w A zs a)
    (L:∀w' u,SH w0 M K w' (bU hp i (.own R E u (List.replicate k.toNat a)))->Grow w w'->(∀b,ob u b->w.heap.size<=b)->WL P ops Q rest n (gm env d u) w'):
    WL P ops Q (⟨d,.makeSlice T x y,ty,pos,af,none⟩::rest) n env w:=by
  obtain⟨h0,h1⟩:=hk;obtain⟨m,rfl⟩:=Int.eq_ofNat_of_zero_le h0;obtain⟨j,z',B,a1,t,z,a2⟩:=G.info;have g:=hz.info;rw[B]at g;simp only[Option.map_some,Option.some.injEq,Prod.mk.injEq]at g;have a0:m<=m*c:=Nat.le_mul_of_pos_right _ r;have N:m*c<=140737488355328:=by
    have:((m*c:Nat):Int)<=140737488355328:=by rw[Int.natCast_mul];exact h1
    omega
  obtain⟨w',hr,ho,O⟩:=run_make_full (P:=P) w 0 T E j _ l G.desc B g.1 t .i64 .i64 m (by rw[z,Nat.mul_comm];omega) (by unfold maxLen;omega) (Nat.zero_le _);have o:Grow w w':=(yT (v:=.slice none 0 0) O).weaken fun _ h _=>h.elim;have p:(execOp (ev n env) ⟨d,.makeSlice T x y,ty,pos,af,none⟩).run P w=.ok (.value<|.slice (some ⟨w.heap.size,0,none⟩) m m) w':=by
    simp only[execOp,Sem.run_bind,Sem.run_pure,Result.andThen_ok,hx,X,hr]
  have f:∀b,ob (.slice (some ⟨w.heap.size,0,none⟩) m m) b->w.heap.size<=b:=fun b r=>by
    have:b=w.heap.size:=r;omega
  refine F p<|L w' _ (h.vU i o ⟨(madeCells zs.toArray<|m*l).toList,?_,?_⟩ f) o f
  · rw[I];rw[List.length_replicate];exact ho
  · intro q C;simp only[List.length_replicate]at C;have s:q<m:=C;have e:((madeCells zs.toArray<|m*l).toList.drop<|q*R.sz).take R.sz=zs:=by rw[I,<-S];exact made_drop zs m q s
    rw[e];simp only[List.getElem_replicate];exact J _ _
end
open Go.RowKit Go.Proofs
section
variable{α β:Type}{N:Nj α β}{R:kD β}{E Es T:TypeId}{w0 w w':World}{M K A:BS}{hp:Nat->Chunk}{u u':Value}{us:List Value}{L:List α}{s:List β}{x:α}{k:Nat}
theorem H5{a:Type}{l:List a}{z:a}{i:Int}(b:i=(k:Int))(h:l[i.toNat]? =some z):l[k]? =some z:=by subst b;simpa using h
theorem at_pd{a:Type}{l:List a}{z:a}{i:Int}(b:i=(k:Int))(h:l[k]? =some z):l[i.toNat]? =some z:=by subst b;simpa using h
theorem Um{i:Int}(a:i=(k:Int)):i.toNat=k:=by subst a;simp
theorem SH.Un(h:SH w0 M K w hp)(j q m:Nat)(o:hp j=.eH (bP R Es (hge k) us (L.map N.sub)))(l:hp q=.eH (Jk R k us (L.map N.sub)))(n:hp m=.own R Es u s)(b:j≠q)(f:j≠m)(c:q≠m)(a:L[k]? =some x)(d:us[k]? =some u')(i:N.sub x=s):
  SH w0 M K w (bU (bU (bU (bU (bU hp q (.eH (Jk R (k+1) (us.set k u) (L.map N.sub)))) j (.eH (bP R Es (hge k) (us.set k u) (L.map N.sub)))) m .no) j (.eH (bP R Es (hge (k+1)) (us.set k u) (L.map N.sub)))) j (.eH (bP R Es (hge (k+1)) (us.set k u) (L.map N.sub)))):=by
 have g:=h.pendPut (y:=x) j q m o l n b f c a d i;have e:(L.map N.sub).set k s=L.map N.sub:=by rw[<-i,<-List.map_set,Db a]
 rw[e,e,Db a]at g;exact g
end
theorem Ak{α:Type}{b:Nat}{a r:List α}(h:clone b a=some r):a=r:=by
 unfold clone at h;obtain⟨_,h⟩:=bC h;exact Option.some.inj h
theorem Uo{α β:Type}{N:Nj α β}{w:World}{B A:BS}{v:Value}{L:List α}{us:List Value}(h:dR N.raw w B A v (L.zip us))(a:us.length=L.length):L.length<=9223372036854775807:=by
 have:=h.bG;rwa[gB a]at this
theorem r_mul{P:Program}{w:World}{ρ:Operand->Value}{d:Option Nat}{ty:TypeId}{pos:String}{af:Array Edge}{g:Option (Nat×Bool)}{x y:Operand}{T T2:TypeId}{p q:Int}(a:ρ x=.int .i64 p)(b:ρ y=.int .i64 q)(h: -9223372036854775808<=p*q/\p*q<=9223372036854775807):
  (execOp ρ ⟨d,.binOp .mul T x y T2,ty,pos,af,g⟩).run P w=.ok (.value (.int .i64 (p*q))) w:=by
 simp[execOp,a,b,eqGuard,binOp,Op.intArith,YK h.1 h.2]
open Go.RowKit Go.Proofs
theorem L9{cs vs:List Value}{o:Nat}(h:o+vs.length<=cs.length)(j:Nat):(I9 cs o vs)[j]? =if j<o then cs[j]? else if j<o+vs.length then vs[j-o]? else cs[j]? :=by
  unfold I9;have b:(cs.take o).length=o:=by rw[List.length_take];omega
  by_cases a:j<o
  · rw[if_pos a,List.append_assoc,List.getElem?_append_left V,List.getElem?_take,if_pos a]
  · rw[if_neg a];by_cases c:j<o+vs.length
    · rw[if_pos c,List.append_assoc,List.getElem?_append_right V,b,List.getElem?_append_left V]
    · rw[if_neg c,List.getElem?_append_right (by rw[List.length_append,b];omega),List.length_append,b,List.getElem?_drop];congr 1;omega
theorem TR{cs vs:List Value}{o:Nat}(h:o+vs.length<=cs.length):(I9 cs o vs).length=cs.length:=by
 unfold I9;simp only[List.length_append,List.length_take,List.length_drop];omega
theorem spl_take{cs vs:List Value}{o n:Nat}(h:o+vs.length<=n)(hn:n<=cs.length):(I9 cs o vs).take n=I9 (cs.take n) o vs:=by
  apply List.ext_getElem?;intro j;have b:(cs.take n).length=n:=by rw[List.length_take];omega
  rw[List.getElem?_take,L9 V,L9 V,List.getElem?_take];by_cases a:j<n
  · rw[if_pos a,if_pos a]
  · rw[if_neg a,if_neg V,if_neg V,if_neg a]
theorem spl_self{cs vs:List Value}{o:Nat}(h:o+vs.length<=cs.length):((I9 cs o vs).drop o).take vs.length=vs:=by
  apply List.ext_getElem?;intro j;rw[List.getElem?_take,List.getElem?_drop,L9 h];by_cases a:j<vs.length
  · rw[if_pos a,if_neg V,if_pos V];congr 1;omega
  · rw[if_neg a,List.getElem?_eq_none V]
theorem Xu{cs vs:List Value}{o p s:Nat}(h:o+vs.length<=cs.length)(hp:p+s<=o\/o+vs.length<=p):((I9 cs o vs).drop p).take s=(cs.drop p).take s:=by
  apply List.ext_getElem?;intro j;rw[List.getElem?_take,List.getElem?_drop,L9 h,List.getElem?_take,List.getElem?_drop];by_cases a:j<s
  · rw[if_pos a,if_pos a];by_cases b:p+j<o
    · rw[if_pos b]
    · rw[if_neg b,if_neg V]
  · rw[if_neg a,if_neg a]
section
variable{P:Program}{ops:Array Oper}{Q:Exit->Act->World->Prop}{n:Nat}{env:Nat->Value}{w w' w0:World}{M K:BS}{hp:Nat->Chunk}{rest:List Oper}
 {d:Option Nat} {op:Op} {ty:TypeId} {pos:String} {af:Array Edge} {v:Value} {g:Option (Nat×Bool)} {T:TypeId} {ρ:Operand->Value} {x y:Operand}
theorem Cc{α:Type}{R:kD α}{E:TypeId}{v:Nat}{l:List α}{k:Int}{a a':α}{b:Nat}{zs vs:List Value}{u:Value}(h:SH w0 M K w hp)(i:Nat)(t:hp i=.own R E u l)(G:ob u b)(hs:R.sz=v)(hk:l[k.toNat]? =some a)(hT:uN P T zs)(c:ev n env x=.pointer (some ⟨b,k.toNat*v,none⟩))
    (hy:ev n env y=.agg vs.toArray) (hl:vs.length=zs.length) (X:zs.length=v) (hset:R.rd w (SH.A M hp) vs a')
    (kk:∀w',SH w0 M K w' (bU hp i (.own R E u (l.set k.toNat a')))->bI (ob u) w w'->WL P ops Q rest n (gm env d undef) w'):
    WL P ops Q (⟨d,.store T x y,ty,pos,af,none⟩::rest) n env w:=by
  subst hs;have S:k.toNat<l.length:=Nk hk;generalize k.toNat=k at*;have f:∀b,ob u b->SH.A M hp b:=fun b G=>.inr ⟨i,by rw[t];exact G⟩;obtain⟨xs,L,q3⟩:=h.bE i t;rcases L.2 with⟨rfl,hn⟩|⟨g',cap,cur,rfl,e1,e2,e3,e4,e5,e6⟩
  · omega
  have I:b=g':=G;subst I;have J:(k+1)*R.sz<=l.length*R.sz:=Nat.mul_le_mul_right _ S;have a1:l.length*R.sz<=cap*R.sz:=Nat.mul_le_mul_right _ e3;rw[Nat.add_mul]at J;have C:vs.length=R.sz:=hl.trans X;have O:cur.toList.length=cap*R.sz:=by simpa using e5
  have a0:xs.length=l.length*R.sz:=L.1;have q:k*R.sz+vs.length<=cur.toList.length:=by omega
  have o:k*R.sz+vs.length<=xs.length:=by omega
  have m:=bI.uH w b<|.cells (I9 cur.toList (k*R.sz) vs).toArray E (0,0);have z:=OY (P:=P) (w:=w) (ρ:=ev n env) (d:=d) (ty:=ty) (pos:=pos) (af:=af) (g:=none) (cs:=cur.toList) (E:=E) hT c (by simpa using e2) hy hl q<|R.one hset;refine yS z (kk _ (h.step i m (fun x c _=>by rw[t];exact c) (fun x c _=>by rw[t];exact c) ⟨I9 xs (k*R.sz) vs,⟨?_,.inr ⟨b,cap,(I9 cur.toList (k*R.sz) vs).toArray,?_,e1,?_,?_,e4,?_,?_⟩⟩,?_⟩) (m.weaken (fun x c _=>c)))
  · rw[TR o,List.length_set];exact L.1
  · rw[List.length_set]
  · rw[tV (iD e2)]
  · rw[List.length_set];exact e3
  · rw[List.size_toArray,TR q];exact O
  · rw[List.length_set];show(I9 cur.toList (k*R.sz) vs).take (l.length*R.sz)=I9 xs (k*R.sz) vs;rw[spl_take V V,e6]
  · intro p N;have B:p<l.length:=by rwa[List.length_set]at N
    have s:=fun cs a(h:R.rd w (SH.A M hp) cs a)=>R.go (A':=fun x=>(M x\/(SH.av hp i (.own R E (.slice (some ⟨b,0,none⟩) l.length cap) (l.set k a'))) x)\/ob (.slice (some ⟨b,0,none⟩) l.length cap) x) h m (fun x c _=>f x c) (fun x c _=>by
      rcases c with(c|c|c)|c
      · exact .inl c
      · exact .inr<|kJ c
      · exact f x c
      · exact f x c)
    have hq:=fun j(hj:j<l.length)=>R.go (A':=SH.A M hp) (q3 j hj) (bI.refl BE w) (fun _ h=>h.elim) fun x c _=>.inl c;by_cases r:p=k
    · subst r;rw[List.getElem_set_self];have e:=spl_self o;rw[C]at e;rw[e];exact s _ _ hset
    · rw[List.getElem_set_ne (Ne.symm r),Xu o]
      · exact s _ _<|hq p B
      · rcases Nat.lt_or_ge k p with h5|h5
        · right;have:(k+1)*R.sz<=p*R.sz:=Nat.mul_le_mul_right _ h5;rw[Nat.add_mul]at this;omega
        · left;have:(p+1)*R.sz<=k*R.sz:=Nat.mul_le_mul_right _ V;rw[Nat.add_mul]at this;omega
end
section
variable{α β:Type}{N:Nj α β}{R:kD β}{E Es T:TypeId}{w0 w w':World}{M K A:BS}{hp:Nat->Chunk}{us:List Value}{L:List α}{x:α}{k:Nat}
theorem SH.wE(h:SH w0 M K w hp)(j m:Nat)(s:List β)(d:hp j=.eH (bP R Es hn us (L.map N.sub)))(c:hp m=.no)(a:j≠m)(b:L[k]? =some x)(e:N.sub x=s):
 ∃u,us[k]? =some u/\SH w0 M K w (bU (bU hp j (.eH (bP R Es (hat k) us (L.map N.sub)))) m (.own R Es u s)):=by subst e;exact h.dnOpen j m d c a b
theorem SH.mvOpenL{c:List Int}{a:Int}(h:SH w0 M K w hp)(j m:Nat)(s:List β)(i:hp j=.eH (bP R Es (hmv c) us (L.map N.sub)))(f:hp m=.no)(d:j≠m)(g:0<=a)(e:L[a.toNat]? =some x)(b:a∉c)(k:N.sub x=s):
 ∃u,us[a.toNat]? =some u/\SH w0 M K w (bU (bU hp j (.eH (bP R Es (hmv (c++[a])) us (L.map N.sub)))) m (.own R Es u s)):=by subst k;exact h.mvOpen j m i f d g e b
theorem SH.Y1(h:SH w0 M K w hp)(q:Nat)(s:List β)(c:hp q=.eH (Jk R k us (L.map N.sub)))(d:us.length=L.length)(a:L[k]? =some x)(b:N.sub x=s):∃u,us[k]? =some u/\bZ R w (SH.A M hp) u s:=by subst b;exact h.rdpAt q c d a
end
open Go.RowKit Go.Proofs
def Chunk.flat:Chunk->Prop
 | .no=>True
 | .own R _ _ _=>∀w A A' cs x,R.rd w A cs x->R.rd w A' cs x
 | .two a b=>a.flat/\b.flat
 | .eH S=>∀w A A',S.P w A->S.P w A'
 |_=>False
theorem cz.flat{α:Type}{R:kD α}{E:TypeId}{w:World}{A A':BS}{v:Value}{l:List α}(b:∀w A A' cs x,R.rd w A cs x->R.rd w A' cs x)(h:cz R E w A v l):cz R E w A' v l:=by
 obtain⟨xs,a,d⟩:=h;exact⟨xs,a,fun i c=>b _ _ _ _ _<|d i c⟩
theorem Chunk.flatten{c:Chunk}{w:World}{M O e f:BS}(d:c.flat)(h:c.holds w M O):c.holds w e f:=by
 induction c with
 |no=>trivial
 |own R E v l=>exact cz.flat d h
 |two a b ha hb=>exact⟨ha d.1 h.1,hb d.2 h.2.1,h.2.2⟩
 |eH S=>exact d _ _ _ h
 |_=>exact d.elim
theorem Ma{β:Type}{R:kD β}{E:TypeId}{ho:Nat->Prop}{us:List Value}{ss:List (List β)}(e:∀w A A' cs x,R.rd w A cs x->R.rd w A' cs x):∀w A A',(bP R E ho us ss).P w A->(bP R E ho us ss).P w A':=by
 rintro w A A'⟨d,g,b⟩;exact⟨d,fun i u s a c f=>cz.flat e<|g i u s a c f,b⟩
theorem dR.toBE{α:Type}{R:kD α}{w:World}{B A:BS}{v:Value}{l:List α}(h:dR R w B A v l):dR R w BE BE v l:=
 dR.go h (bI.refl BE w) (fun _ h=>h.elim) (fun _ h=>h.elim) (fun _ h=>h.elim) (fun _ h=>h.elim)
section
variable{α β:Type}{N:Nj α β}{R:kD β}{E Es T:TypeId}{w0 w w':World}{M K A:BS}{hp:Nat->Chunk}{v u u':Value}{us us':List Value}{L L':List α}
theorem SH.QM{R':kD α}(h:SH w0 M K w hp)(i j:Nat)(e:hp i=.own N.raw E v (L.zip us))(d:hp j=.eH (bP R Es hn us (L.map N.sub)))(b:i≠j)(a:R'.sz=N.sz)(c:∀w A x u,bZ R w A u (N.sub x)->R'.rd w A (N.enc x u) x):dR R' w BE BE v L:=
 dR.toBE ((h.Hz i j e d b a c).bJ i (df _ _ _))
theorem SH.gotCF{C:Chunk}{O:BS}(h:SH w0 M K w hp)(i:Nat)(c:Grow w w')(d:C.O5)(a:C.flat)(e:C.holds w' BE O)(hn:∀b,C.own' b->w.heap.size<=b):SH w0 M K w' (bU hp i C):=
 h.YZ i c d (Chunk.flatten a e) hn
end
section
variable{P:Program}{Q:Exit->Act->World->Prop}{n:Nat}{env:Nat->Value}{w w' w0:World}{M K:BS}{hp:Nat->Chunk}
theorem Pk{k:Func}{R:Ending->World->Prop}{t u g a:Tmp}{T:TypeId}{v2 v3 v4:Value}{zs vs:List Value}{b:Nat}(o:k.results= #[.cell a T,.tmp t,.tmp u,.tmp g])(p:ev n env (.tmp a)=.pointer (some ⟨b,0,none⟩))(q:ev n env (.tmp t)=v2)(v:ev n env (.tmp u)=v3)(r:ev n env (.tmp g)=v4)
  (l:SH w0 M K w hp) (i:Nat) (s:hp i=.blk b vs) (m:uN P T zs) (x:vs.length=zs.length) (h:R (.returned (.tuple #[.agg vs.toArray,v2,v3,v4])) w):bodyPost P k R .ret (act n env) w:=by
 refine⟨Z,_,?_,h⟩;have d:=congrFun (gJ n env)<|.tmp t;have f:=congrFun (gJ n env)<|.tmp u;have c:=congrFun (gJ n env)<|.tmp g;have e:=congrFun (gJ n env)<|.tmp a;rw[q]at d;rw[v]at f;rw[r]at c;rw[p]at e;simp only[Act.eval]at d f e c;rw[Array.getD_eq_getD_getElem?]at d f e c;have j:=Ai (P:=P) l s m x Z;unfold results;rw[o];simp[d,f,e,c,asAddr,j]
end
section
variable{α β:Type}{R:kD α}{E:TypeId}{w0 w:World}{M K:BS}{hp:Nat->Chunk}{v:Value}{l:List α}{C:Chunk}
theorem SH.ownSrB(h:SH w0 M K w hp)(i j:Nat)(a:i≠j)(d:hp j=.own R E v l)(f:hp i=C):bZ R w (fun b=>BE b\/C.own' b) v l:=
 (h.ownSr i j a d f).sub (fun b c _=>c.elim (fun e=>e.elim) id) (fun b c _=>c.elim (fun e=>e.elim) .inr)
theorem ap_BE{C:Chunk}:∀b,C.own' b->¬BE b:=fun _ _ h=>h
end
structure QN where
 said:Bool
 n:Int
 Y2:Bool
structure mJ where
 l:List Int
 bad:Bool
open Go.RowKit Go.Proofs
theorem spl_mid{xs vs:List Value}{p s off:Nat}(h:off+vs.length<=s)(hp:p+s<=xs.length):((I9 xs (p+off) vs).drop p).take s=I9 ((xs.drop p).take s) off vs:=by
  apply List.ext_getElem?;intro j;have d:((xs.drop p).take s).length=s:=by rw[List.length_take,List.length_drop];omega
  rw[L9 V,List.getElem?_take];by_cases a:j<s
  · rw[if_pos a,List.getElem?_drop,L9 V,List.getElem?_take,if_pos a,List.getElem?_drop];by_cases b:j<off
    · rw[if_pos b,if_pos V]
    · rw[if_neg b,if_neg V];by_cases c:j<off+vs.length
      · rw[if_pos c,if_pos V,show p+j-(p+off)=j-off by omega]
      · rw[if_neg c,if_neg V]
  · rw[if_neg a,if_neg V,if_neg V,List.getElem?_take,if_neg a]
section
variable{P:Program}{ops:Array Oper}{Q:Exit->Act->World->Prop}{n:Nat}{env:Nat->Value}{w w' w0:World}{M K:BS}{hp:Nat->Chunk}{rest:List Oper}
 {d:Option Nat} {op:Op} {ty:TypeId} {pos:String} {af:Array Edge} {v:Value} {g:Option (Nat×Bool)} {T:TypeId} {ρ:Operand->Value} {x y:Operand}
theorem w_stOP{α:Type}{R:kD α}{E:TypeId}{B:Nat}{l:List α}{k:Int}{a a':α}{b off:Nat}{zs vs:List Value}{u:Value}(h:SH w0 M K w hp)(i:Nat)(z:hp i=.own R E u l)(I:ob u b)(hs:R.sz=B)(S:l[k.toNat]? =some a)(hT:uN P T zs)(c:ev n env x=.pointer (some ⟨b,k.toNat*B+off,none⟩))
    (hy:ev n env y=.agg vs.toArray) (hl:vs.length=zs.length) (v:Nat.ble (off+vs.length) B=true) (p:∀u∈vs,u.oneCell'=true) (hset:∀cs,R.rd w (SH.A M hp) cs a->R.rd w (SH.A M hp) (I9 cs off vs) a')
    (kk:∀w',SH w0 M K w' (bU hp i (.own R E u (l.set k.toNat a')))->bI (ob u) w w'->WL P ops Q rest n (gm env d undef) w'):
    WL P ops Q (⟨d,.store T x y,ty,pos,af,none⟩::rest) n env w:=by
  subst hs;rw[Nat.ble_eq]at v;have o:k.toNat<l.length:=Nk S;have L:l[k.toNat]=a:=by rw[List.getElem?_eq_getElem o]at S;exact Option.some.inj S
  generalize k.toNat=k at*;have e:∀b,ob u b->SH.A M hp b:=fun b I=>.inr ⟨i,by rw[z];exact I⟩;obtain⟨xs,O,q3⟩:=h.bE i z;rcases O.2 with⟨rfl,hn⟩|⟨g',cap,cur,rfl,e1,e2,e3,e4,e5,e6⟩
  · omega
  have J:b=g':=I;subst J;have N:(k+1)*R.sz<=l.length*R.sz:=Nat.mul_le_mul_right _ o;have a2:l.length*R.sz<=cap*R.sz:=Nat.mul_le_mul_right _ e3;rw[Nat.add_mul]at N;have a0:cur.toList.length=cap*R.sz:=by simpa using e5
  have a1:xs.length=l.length*R.sz:=O.1;have q:k*R.sz+off+vs.length<=cur.toList.length:=by omega
  have s:k*R.sz+off+vs.length<=xs.length:=by omega
  have m:=bI.uH w b<|.cells (I9 cur.toList (k*R.sz+off) vs).toArray E (0,0);have C:=OY (P:=P) (w:=w) (ρ:=ev n env) (d:=d) (ty:=ty) (pos:=pos) (af:=af) (g:=none) (cs:=cur.toList) (E:=E) hT c (by simpa using e2) hy hl q p;refine yS C (kk _ (h.step i m (fun x c _=>by rw[z];exact c) (fun x c _=>by rw[z];exact c) ⟨I9 xs (k*R.sz+off) vs,⟨?_,.inr ⟨b,cap,(I9 cur.toList (k*R.sz+off) vs).toArray,?_,e1,?_,?_,e4,?_,?_⟩⟩,?_⟩) (m.weaken (fun x c _=>c)))
  · rw[TR s,List.length_set];exact O.1
  · rw[List.length_set]
  · rw[tV (iD e2)]
  · rw[List.length_set];exact e3
  · rw[List.size_toArray,TR q];exact a0
  · rw[List.length_set];show(I9 cur.toList (k*R.sz+off) vs).take (l.length*R.sz)=I9 xs (k*R.sz+off) vs;rw[spl_take V V,e6]
  · intro f X;have G:f<l.length:=by rwa[List.length_set]at X
    have t:=fun cs a(h:R.rd w (SH.A M hp) cs a)=>R.go (A':=fun x=>(M x\/(SH.av hp i (.own R E (.slice (some ⟨b,0,none⟩) l.length cap) (l.set k a'))) x)\/ob (.slice (some ⟨b,0,none⟩) l.length cap) x) h m (fun x c _=>e x c) (fun x c _=>by
      rcases c with(c|c|c)|c
      · exact .inl c
      · exact .inr<|kJ c
      · exact e x c
      · exact e x c)
    have hq:=fun j(hj:j<l.length)=>R.go (A':=SH.A M hp) (q3 j hj) (bI.refl BE w) (fun _ h=>h.elim) fun x c _=>.inl c;by_cases r:f=k
    · subst r;rw[List.getElem_set_self];rw[spl_mid v V];exact t _ _<|hset _<|L▸hq f o
    · rw[List.getElem_set_ne (Ne.symm r),Xu s]
      · exact t _ _<|hq f G
      · rcases Nat.lt_or_ge k f with h5|h5
        · right;have:(k+1)*R.sz<=f*R.sz:=Nat.mul_le_mul_right _ h5;rw[Nat.add_mul]at this;omega
        · left;have:(f+1)*R.sz<=k*R.sz:=Nat.mul_le_mul_right _ V;rw[Nat.add_mul]at this;omega
end
open Go.RowKit Go.Proofs
def Y3:Nj Ins Int where
 sz:=5
 enc x u:=[.int .i64 x.op,.int .i64 x.a,.int .i64 x.b,.int .i64 x.c,u]
 sub x:=x.args
 put x s:={x with args:=s}
 len _ _:=rfl
 one:=by intro x u h c hc;simp only[List.mem_cons,List.not_mem_nil,or_false]at hc;rcases hc with rfl|rfl|rfl|rfl|rfl<;>first|rfl|exact h
 pos:=by decide
 O8 _ _ _:=rfl
 O9 _ _:=rfl
theorem nIns_br:∀w A (x:Ins) u,bZ dh w A u (Y3.sub x)->j4.rd w A (Y3.enc x u) x:=fun _ _ _ u h=>⟨u,rfl,h⟩
theorem nIns_op:∀(w:World) (A:BS) cs (x:Ins),j4.rd w A cs x->∃u,cs=Y3.enc x u/\bZ dh w A u (Y3.sub x):=fun _ _ _ _ h=>h
theorem nProc_op:∀(w:World) (A:BS) cs (x:dm),dD.rd w A cs x->∃u,cs=HV.enc x u/\bZ j4 w A u (HV.sub x):=fun _ _ _ _ h=>h
theorem cells_two{cs:List Value}{k:Nat}{u v:Value}(h:(cs.drop k).take 2=[u,v]):(cs.drop k).take 1=[u]/\(cs.drop (k+1)).take 1=[v]:=by
  constructor
  · have:=congrArg (List.take 1) h;rw[List.take_take]at this;exact this
  · have:=congrArg (List.drop 1) h;rw[List.drop_take,List.drop_drop]at this;exact this
section
variable{α β:Type}{N:Nj α β}{R:kD β}{E Es T:TypeId}{w0 w w':World}{M K A:BS}{hp:Nat->Chunk}{v u u':Value}{us us':List Value}{L L':List α}{ss ss':List (List β)}{s:List β}{x y:α}{k:Nat}
theorem SH.pendSet(h:SH w0 M K w hp)(j q:Nat)(b:hp j=.eH (bP R Es (hge k) us (L.map N.sub)))(d:hp q=.eH (Jk R k us (L.map N.sub)))(a:j≠q)(g:L[k]? =some x):
  SH w0 M K w (bU (bU hp q (.eH (Jk R (k+1) (us.set k u) (L.map N.sub)))) j (.eH (bP R Es (hge k) (us.set k u) (L.map N.sub)))):=by
 have f:=h.rdpStep (u:=u) (s:=N.sub x) q d;have m:=h.jD j b;have c:=f.famRe (us':=us.set k u) (ss':=(L.map N.sub).set k (N.sub x)) j (by rw[fe a];exact b) (by simp[m]) (fun i l=>by
  have:k≠i:=fun e=>l (by subst e;exact Nat.le_refl _);rw[List.getElem?_set_ne this,List.getElem?_set_ne this];exact⟨Z,Z⟩)
 have e:(L.map N.sub).set k (N.sub x)=L.map N.sub:=by rw[<-List.map_set,Db g]
 rw[e]at c;exact c
theorem SH.pendDel(h:SH w0 M K w hp)(j m:Nat)(l:hp j=.eH (bP R Es (hge k) us (L.map N.sub)))(g:hp m=.own R Es u s)(b:j≠m)(d:L[k]? =some x)(f:us[k]? =some u)(n:N.sub x=s):
    SH w0 M K w (bU (bU hp m .no) j (.eH (bP R Es (hge (k+1)) us (L.map N.sub)))):=by
  have c:=h.Pf j m (k:=k) (u:=u) (s:=s) l g b f (Nat.le_refl k) (hge (k+1)) (fun i=>⟨fun a=>by
    rcases Nat.eq_or_lt_of_le (show k<=i from a)with e|e
    · exact .inr e.symm
    · exact .inl e,fun a=>a.elim (fun a=>Nat.le_of_succ_le a) (fun e=>by subst e;exact Nat.le_refl _)⟩) (fun a=>absurd a (Nat.not_succ_le_self k))
  have e:(L.map N.sub).set k s=L.map N.sub:=by rw[<-n,<-List.map_set,Db d]
  rw[e]at c;exact c
theorem SH.dnOwn{R':kD α}(h:SH w0 M K w hp)(i j:Nat)(r:hp i=.own N.raw E v (L.zip us))(f:hp j=.eH (bP R Es hn us (L.map N.sub)))(o:i≠j)(k:R'.sz=N.sz)(Q:∀w A x u,bZ R w A u (N.sub x)->R'.rd w A (N.enc x u) x):SH w0 M K w (bU (bU hp j .no) i (.own R' E v L)):=by
  have z:=h.jD j f;have m:=h.pair i j o;have g:=m.apart i;have B:=m.apM i;have l:=m.ok i;rw[df]at g B;rw[df,r,f]at l;have y:=m.step (c:=.own R' E v L) i (bI.refl BE w) (fun _ h=>h.elim) (fun b a _=>by rw[df,r];exact .inl a) ?_
  · rw[Hy]at y;exact y
  · have hno:∀b,(hp j).own' b->¬((M b\/SH.av (bU (bU hp j .no) i<|.two (hp i)<|hp j) i (.own R' E v L) b)\/ob v b):=by
      intro b a d;rcases d with(d|⟨q,n,d⟩|d)|d
      · exact B b (.inr a) d
      · exact g q (fun e=>n e.symm) b (.inr a) d
      · exact l.2.2 b d (by rw[<-f];exact a)
      · exact l.2.2 b d (by rw[<-f];exact a)
    have O:∀b,((M b\/SH.av (bU (bU hp j .no) i<|.two (hp i)<|hp j) i (.own R' E v L) b)\/ob v b)->M b\/iE (bU (bU hp j .no) i<|.two (.own N.raw E v<|L.zip us)<|.eH<|bP R Es hn us<|L.map N.sub) b:=by
      rw[r,f];have t:∀b,ob v b->iE (bU (bU hp j .no) i (.two (.own N.raw E v (L.zip us)) (.eH (bP R Es hn us (L.map N.sub))))) b:=fun b a=>⟨i,by rw[df];exact .inl a⟩;rintro b((a|a|a)|a)
      · exact .inl a
      · exact .inr<|kJ a
      · exact .inr<|t b a
      · exact .inr<|t b a
    obtain⟨xs,C,P⟩:=l.1;refine⟨xs,?_,fun q n=>?_⟩
    · rw[gB z]at C;show w.ownsRow 0 E R'.sz v L.length xs;rw[k];exact C
    · have p:q<(L.zip us).length:=by rw[gB z];exact n
      have s:=P q p;have J:(L.zip us)[q]=(L[q],us[q]'V):=by simp
      rw[J]at s;obtain⟨I,_⟩:=s;have G:((xs.drop<|q*N.sz).take N.sz)=N.enc L[q] (us[q]'V):=I;show R'.rd w _ ((xs.drop<|q*R'.sz).take R'.sz) L[q];rw[k,G];exact Q _ _ _ _ (cz.rd (l.2.1.2.1 q _ _ (List.getElem?_eq_getElem V) (by rw[List.getElem?_map,List.getElem?_eq_getElem n];rfl) (fun h=>h)) (fun b a=>hno b (by rw[f];exact⟨q,_,List.getElem?_eq_getElem V,fun h=>h,a⟩)) (fun b a _=>.inl (.inl (O b a))))
end
structure ig where
 cos:List Co
 safe:List UInt8
 wait:List UInt8
 up:Bool
def fU:kD ig where
 sz:=4
 rd w A cs x:=∃vcos,∃C9,∃Da,cs=[vcos,C9,Da,.bool x.up]/\bZ En w A vcos x.cos/\bZ fD w A C9 x.safe/\bZ fD w A Da x.wait
 len:=by rintro w A cs x ⟨vcos,C9,Da,rfl,h0,h1,h2⟩;rfl
 one:=by rintro w A cs x ⟨vcos,C9,Da,rfl,h0,h1,h2⟩ u hu;simp only[List.mem_cons,List.not_mem_nil,or_false]at hu;rcases hu with rfl|rfl|rfl|rfl<;>first|rfl|exact h0.one|exact h1.one|exact h2.one
 pos:=by decide
 go:=by rintro w A cs x w2 A2 K ⟨vcos,C9,Da,rfl,h0,h1,h2⟩ hk hK hA;exact⟨_,_,_,Z,h0.go hk hK hA,h1.go hk hK hA,h2.go hk hK hA⟩
theorem eP{w:World}{A:BS}{cs:List Value}{x:ig}(h:fU.rd w A cs x):∃a,∃c,∃b,cs=[a,c,b,.bool x.up]/\bZ En w A a x.cos/\bZ fD w A c x.safe/\bZ fD w A b x.wait:=h
structure aX where
 prog:List dm
 places:List ig
 eB:List jg
def rWorld:kD aX where
 sz:=3
 rd w A cs x:=∃Te,∃Gp,∃Tf,cs=[Te,Gp,Tf]/\bZ dD w A Te x.prog/\bZ fU w A Gp x.places/\bZ ed w A Tf x.eB
 len:=by rintro w A cs x ⟨Te,Gp,Tf,rfl,h0,h1,h2⟩;rfl
 one:=by rintro w A cs x ⟨Te,Gp,Tf,rfl,h0,h1,h2⟩ u hu;simp only[List.mem_cons,List.not_mem_nil,or_false]at hu;rcases hu with rfl|rfl|rfl<;>first|rfl|exact h0.one|exact h1.one|exact h2.one
 pos:=by decide
 go:=by rintro w A cs x w2 A2 K ⟨Te,Gp,Tf,rfl,h0,h1,h2⟩ hk hK hA;exact⟨_,_,_,Z,h0.go hk hK hA,h1.go hk hK hA,h2.go hk hK hA⟩
theorem rWorld_open{w:World}{A:BS}{cs:List Value}{x:aX}(h:rWorld.rd w A cs x):∃c,∃a,∃b,cs=[c,a,b]/\bZ dD w A c x.prog/\bZ fU w A a x.places/\bZ ed w A b x.eB:=h
structure rP where
 kind:Int
 place:Int
 co:Int
 n:Int
def rHap:kD rP where
 sz:=4
 rd w A cs x:=cs=[.int .i64 x.kind,.int .i64 x.place,.int .i64 x.co,.int .i64 x.n]
 len:=by rintro w A cs x rfl;rfl
 one:=by rintro w A cs x rfl u hu;simp only[List.mem_cons,List.not_mem_nil,or_false]at hu;rcases hu with rfl|rfl|rfl|rfl<;>first|rfl
 pos:=by decide
 go:=fun h _ _ _=>h
open Go Go.RowKit Go.Proofs
section
variable{P:Program}{ops:Array Oper}{Q:Exit->Act->World->Prop}{rest:List Oper}{n:Nat}{env:Nat->Value}{w w0:World}{M K:BS}{hp:Nat->Chunk}{d:Option Nat}{ty:TypeId}{pos:String}{af:Array Edge}{x y:Operand}{T:TypeId}{v:Value}
theorem mI{i:Int}(a:ev n env x=.int .i64 i)(h:WL P ops Q rest n (gm env d (.int .i64 i)) w):WL P ops Q (⟨d,.move x,ty,pos,af,none⟩::rest) n env w:=F (bK a) h
theorem mB{i:Bool}(a:ev n env x=.bool i)(h:WL P ops Q rest n (gm env d (.bool i)) w):WL P ops Q (⟨d,.move x,ty,pos,af,none⟩::rest) n env w:=F (bK a) h
theorem mP{i:Option Addr}(a:ev n env x=.pointer i)(h:WL P ops Q rest n (gm env d (.pointer i)) w):WL P ops Q (⟨d,.move x,ty,pos,af,none⟩::rest) n env w:=F (bK a) h
theorem mV(v:Value)(a:ev n env x=v)(h:WL P ops Q rest n (gm env d v) w):WL P ops Q (⟨d,.move x,ty,pos,af,none⟩::rest) n env w:=F (bK a) h
theorem aI{i:Int}(a:ev n env x=.int .i64 i)(h:WL P ops Q rest n (gm env d (.int .i64 i)) w):WL P ops Q (⟨d,.assign x,ty,pos,af,none⟩::rest) n env w:=F (eO a) h
theorem aB{i:Bool}(a:ev n env x=.bool i)(h:WL P ops Q rest n (gm env d (.bool i)) w):WL P ops Q (⟨d,.assign x,ty,pos,af,none⟩::rest) n env w:=F (eO a) h
theorem aP{i:Option Addr}(a:ev n env x=.pointer i)(h:WL P ops Q rest n (gm env d (.pointer i)) w):WL P ops Q (⟨d,.assign x,ty,pos,af,none⟩::rest) n env w:=F (eO a) h
theorem aV(v:Value)(a:ev n env x=v)(h:WL P ops Q rest n (gm env d v) w):WL P ops Q (⟨d,.assign x,ty,pos,af,none⟩::rest) n env w:=F (eO a) h
theorem lB{z:Value}{b o:Nat}{cs:List Value}(h:SH w0 M K w hp)(i:Nat)(a:One P T z)(e:(hp i,ev n env x,cs[o]?)=(Chunk.blk b cs,Value.pointer (some ⟨b,o,none⟩),some v))(k:WL P ops Q rest n (gm env d v) w):WL P ops Q (⟨d,.load T x,ty,pos,af,none⟩::rest) n env w:=by
 injection e with e1 e2;injection e2 with e2 e3;exact F (bV h i e1 a e2 e3) k
theorem mK{zs vs:List Value}{b o:Nat}{cs:List Value}(h:SH w0 M K w hp)(i:Nat)(a:uN P T zs)(e:(hp i,ev n env x,(cs.drop o).take zs.length,vs.length)=(Chunk.blk b cs,Value.pointer (some ⟨b,o,none⟩),vs,zs.length))(k:WL P ops Q rest n (gm env d (.agg vs.toArray)) w):WL P ops Q (⟨d,.load T x,ty,pos,af,none⟩::rest) n env w:=by
 injection e with e1 e2;injection e2 with e2 e3;injection e3 with e3 e4;exact F (vV h i e1 a e2 e3 e4) k
theorem dn{b o k off:Nat}(a:dM P T k off)(c:ev n env x=.pointer (some ⟨b,o,none⟩))(h:WL P ops Q rest n (gm env d (.pointer (some ⟨b,o+off,none⟩))) w):WL P ops Q (⟨d,.fieldAddr T x k,ty,pos,af,none⟩::rest) n env w:=F (aL a c) h
theorem w_stA{zs:List Value}{b:Nat}{cs:List Value}(h:SH w0 M K w hp)(i:Nat)(vs:List Value)(c:uN P T zs)(e:(hp i,ev n env x,ev n env y,vs.length,cs.length)=(Chunk.blk b cs,Value.pointer (some ⟨b,0,none⟩),Value.agg vs.toArray,zs.length,vs.length))(a:∀v∈vs,v.oneCell'=true)
  (k:∀w',SH w0 M K w' (bU hp i (.blk b vs))->WL P ops Q rest n (gm env d undef) w'):WL P ops Q (⟨d,.store T x y,ty,pos,af,none⟩::rest) n env w:=by
 injection e with e1 e2;injection e2 with e2 e3;injection e3 with e3 e4;injection e4 with e4 e5;refine w_stN h i vs e1 c e2 e3 e4 ?_ (by rw[Nat.ble_eq];omega) a k;unfold I9;simp[e5]
theorem bH{f:FuncId}{first captured:Array Value}{xs:Array Operand}{c:Array TypeId}{args:List Value}(h:SH w0 M K w hp)(a:OZ P f)(b:ev n env x=.func (.func f) first captured)
  (i:first.toList++xs.toList.map (ev n env)++captured.toList=args) (j:Calls P f args.toArray w (fun e w'=>Grow w w'/\e=.returned v)) (k:∀w',SH w0 M K w' hp->WL P ops Q rest n (gm env d v) w'):
  WL P ops Q (⟨d,.call {callee:=.value x,args:=xs,argTypes:=c},ty,pos,af,none⟩::rest) n env w:=
 bT a b i j (by rintro _ w' ⟨g,rfl⟩;exact⟨_,Z,k w' (h.grow g)⟩)
theorem TS{α:Type}{R:kD α}{l:List α}{f:FuncId}{first captured:Array Value}{xs:Array Operand}{o:Array TypeId}{args:List Value}{a:Value->Value}(h:SH w0 M K w hp)(i:Nat)(j:OZ P f)(m:ev n env x=.func (.func f) first captured)
  (b:first.toList++xs.toList.map (ev n env)++captured.toList=args) (c:Calls P f args.toArray w (fun e w'=>Grow w w'/\∃u,e=.returned (a u)/\bZ R w' (SH.A M hp) u l)) (k:∀w' u,SH w0 M K w' (bU hp i (.rd R u l))->WL P ops Q rest n (gm env d (a u)) w'):
  WL P ops Q (⟨d,.call {callee:=.value x,args:=xs,argTypes:=o},ty,pos,af,none⟩::rest) n env w:=
 bT j m b c (by rintro _ w' ⟨g,u,rfl,g2⟩;exact⟨_,Z,k w' u (h.yD i g g2)⟩)
theorem jy{α:Type}{R:kD α}{E:TypeId}{l:List α}{f:FuncId}{first captured:Array Value}{xs:Array Operand}{q:Array TypeId}{args:List Value}{a:Value->Value}(h:SH w0 M K w hp)(i:Nat)(m:OZ P f)(p:ev n env x=.func (.func f) first captured)
  (c:first.toList++xs.toList.map (ev n env)++captured.toList=args) (j:Calls P f args.toArray w (fun e w'=>Grow w w'/\∃u,e=.returned (a u)/\cz R E w' (SH.A M hp) u l/\(∀b,ob u b->w.heap.size<=b))) (k:∀w' u,SH w0 M K w' (bU hp i (.own R E u l))->WL P ops Q rest n (gm env d (a u)) w'):
  WL P ops Q (⟨d,.call {callee:=.value x,args:=xs,argTypes:=q},ty,pos,af,none⟩::rest) n env w:=
 bT m p c j (by rintro _ w' ⟨g,u,rfl,g2,o⟩;exact⟨_,Z,k w' u (h.vU i g g2 o)⟩)
end
section
variable{w w' w0:World}{M K:BS}{hp:Nat->Chunk}{C:Chunk}
theorem SH.eF(h:SH w0 M K w hp)(i:Nat)(a:(hp i).O5):(hp i).holds w M (hp i).own'/\bI K w0 w/\(∀b,(hp i).own' b->b<w0.heap.size->K b):=h.outS i Z a
theorem SH.gP(h:SH w0 M K w hp)(i:Nat)(a:(hp i).O5):(hp i).holds w (fun b=>M b\/rest hp i b) (hp i).own'/\(∀b,(hp i).own' b->¬(M b\/rest hp i b))/\(∀b,(M b\/rest hp i b)->b<w.heap.size):=h.lendS i Z a
theorem SH.j6(h:SH w0 M K w hp)(i:Nat)(d:C.holds w' (fun b=>M b\/rest hp i b) C.own')(c:C.O5)(a:bI (hp i).own' w w')(hn:∀b,C.own' b->b<w.heap.size->(hp i).own' b):SH w0 M K w' (bU hp i C):=h.back i Z c d a hn
end
section
variable{σ ρ α:Type}{b:Int->σ->(σ->ρ)->ρ}{bx:Int->α->σ->(σ->ρ)->ρ}{be:α->σ->(σ->ρ)->ρ}{K:σ->ρ}{s:σ}{r:ρ}{i c:Int}{k:Nat}{L:List α}
theorem rQ(f:i=(k:Int))(e:decide (i<c)=true)(a:upto b K i (c.toNat-k) s=r):∃d,upto b K (i+1) (c.toNat-(k+1))=d/\b i s d=r:=by
 rw[upto_lt (by have:=of_decide_eq_true e;omega)]at a;exact⟨_,Z,a⟩
theorem yj(d:i=(k:Int))(e:decide (i<c)=false)(a:upto b K i (c.toNat-k) s=r):K s=r:=by
 rw[upto_ge (by have:=of_decide_eq_false e;omega)]at a;exact a
theorem ym(a:i=(k:Int))(e:decide (i<c)=true)(b:c<=9223372036854775807):lK (i+1):=by
 have:=of_decide_eq_true e;exact lK.mk V V
theorem GM(a:i=(k:Int))(e:decide (i<c)=true):c.toNat-(k+1)<c.toNat-k:=by
 have:=of_decide_eq_true e;omega
theorem lM(a:i=(k:Int))(e:decide (i<(L.length:Int))=true)(b:each be K (L.drop k) s=r):∃x c,L[k]? =some x/\each be K (L.drop (k+1))=c/\be x s c=r:=by
 obtain⟨x,d,f⟩:=drop_lt<|a▸e;rw[f,jC]at b;exact⟨x,_,d,Z,b⟩
theorem qh(a:i=(k:Int))(e:decide (i<(L.length:Int))=false)(b:each be K (L.drop k) s=r):K s=r:=by
 rw[drop_ge (a▸e),vw]at b;exact b
theorem vY(a:i=(k:Int))(e:decide (i<(L.length:Int))=true)(b:fO bx K i (L.drop k) s=r):∃x c,L[k]? =some x/\fO bx K (i+1) (L.drop (k+1))=c/\bx i x s c=r:=by
 obtain⟨x,d,f⟩:=drop_lt<|a▸e;rw[f,zl]at b;exact⟨x,_,d,Z,b⟩
theorem BM(a:i=(k:Int))(e:decide (i<(L.length:Int))=false)(b:fO bx K i (L.drop k) s=r):K s=r:=by
 rw[drop_ge (a▸e),QD]at b;exact b
theorem rE(a:i=(k:Int))(e:decide (i<(L.length:Int))=true):L.length-(k+1)<L.length-k:=by
 have:=of_decide_eq_true e;omega
end
abbrev cW(b:Nat)(a v1 v2:Value)(l:List ig):Chunk:=.two (.blk b [a,v1,v2]) (.own fU 40 v1 l)
abbrev lW(M:BS)(w:World):Prop:=∀b,M b->b<w.heap.size
open Go Go.RowKit Go.Proofs
section
variable{P:Program}{ops:Array Oper}{Q:Exit->Act->World->Prop}{rest:List Oper}{n:Nat}{env:Nat->Value}{w w0:World}{M K:BS}{hp:Nat->Chunk}{d:Option Nat}{ty:TypeId}{pos:String}{af:Array Edge}{x y:Operand}{T T2:TypeId}{v:Value}
theorem l7{k:Int}{p:Value}(i:IxOk P T v k p)(e:(ev n env x,ev n env y)=(v,Value.int .i64 k))(h:WL P ops Q rest n (gm env d p) w):WL P ops Q (⟨d,.indexAddr T x y,ty,pos,af,none⟩::rest) n env w:=by
 injection e with e1 e2;exact F (i _ _ _ _ _ _ _ _ _ e1 e2) h
theorem dW{p q:Int}{k:IntKind}(e:(ev n env x,ev n env y)=(Value.int k p,Value.int k q))(h:WL P ops Q rest n (gm env d (.bool (decide (p=q)))) w):WL P ops Q (⟨d,.binOp .eql T x y T2,ty,pos,af,none⟩::rest) n env w:=by
 injection e with e1 e2;exact F (lX e1 e2) h
theorem jh{p q:Int}{k:IntKind}(e:(ev n env x,ev n env y)=(Value.int k p,Value.int k q))(h:WL P ops Q rest n (gm env d (.bool (decide (p≠q)))) w):WL P ops Q (⟨d,.binOp .neq T x y T2,ty,pos,af,none⟩::rest) n env w:=by
 injection e with e1 e2;exact F (yC e1 e2) h
theorem gp{p q:Int}(e:(ev n env x,ev n env y)=(Value.int .i64 p,Value.int .i64 q))(h:WL P ops Q rest n (gm env d (.bool (decide (p<q)))) w):WL P ops Q (⟨d,.binOp .lss T x y T2,ty,pos,af,none⟩::rest) n env w:=by
 injection e with e1 e2;exact F (tT e1 e2) h
theorem fE{p q:Int}(e:(ev n env x,ev n env y)=(Value.int .i64 p,Value.int .i64 q))(a:lK (p+q))(h:WL P ops Q rest n (gm env d (.int .i64 (p+q))) w):WL P ops Q (⟨d,.binOp .add T x y T2,ty,pos,af,none⟩::rest) n env w:=by
 injection e with e1 e2;exact F (Hq e1 e2 a) h
theorem ic{i:Nat}{vs:List Value}(e:(ev n env x,vs[i]?)=(Value.tuple vs.toArray,some v))(h:WL P ops Q rest n (gm env d v) w):WL P ops Q (⟨d,.extract x i,ty,pos,af,none⟩::rest) n env w:=by
 injection e with e1 e2;exact F (dN e1 e2) h
theorem eX{α:Type}{R:kD α}{E:TypeId}{a:Nat}{l:List α}(h:SH w0 M K w hp)(i:Nat)(b:SliceOf P T E a)(e:(hp i,ev n env x)=(Chunk.sr R v l,v))(k:WL P ops Q rest n (gm env d (.int .i64 l.length)) w):WL P ops Q (⟨d,.call {callee:=.builtin .len,args:= #[x],argTypes:= #[T]},ty,pos,af,none⟩::rest) n env w:=by
 injection e with e1 e2;exact F (gT b e2<|h.fH i e1) k
theorem mM{α:Type}{R:kD α}{E:TypeId}{a:Nat}{l:List α}(h:SH w0 M K w hp)(i:Nat)(b:SliceOf P T E a)(e:(hp i,ev n env x)=(Chunk.rd R v l,v))(k:WL P ops Q rest n (gm env d (.int .i64 l.length)) w):WL P ops Q (⟨d,.call {callee:=.builtin .len,args:= #[x],argTypes:= #[T]},ty,pos,af,none⟩::rest) n env w:=by
 injection e with e1 e2;exact F (gT b e2<|h.kK i e1) k
theorem oD{j dj b' o:Nat}{b a:Bool}{z:Value}{cs:List Value}(h:SH w0 M K w hp)(i:Nat)(c:One P T z)(e:((ops[j]?).bind (·.dst),ev n env (.tmp dj),hp i,ev n env x,cs[o]?)=(some dj,Value.bool b,Chunk.blk b' cs,gv (b==a) (.pointer (some ⟨b',o,none⟩)),some v))
    (k:WL P ops Q rest n (gm env d (gv (b==a) v)) w):WL P ops Q (⟨d,.load T x,ty,pos,af,some (j,a)⟩::rest) n env w:=by
  injection e with e1 e2;injection e2 with e2 e3;injection e3 with e3 e4;injection e4 with e4 e5;exact aQ e1 e2 (fun q=>bV h i e3 c (e4.trans<|dZ q) e5) k
theorem oG{j dj b' o f off:Nat}{b a:Bool}(c:dM P T f off)(e:((ops[j]?).bind (·.dst),ev n env (.tmp dj),ev n env x)=(some dj,Value.bool b,Value.pointer (some ⟨b',o,none⟩)))
    (k:WL P ops Q rest n (gm env d (gv (b==a) (.pointer (some ⟨b',o+off,none⟩)))) w):WL P ops Q (⟨d,.fieldAddr T x f,ty,pos,af,some (j,a)⟩::rest) n env w:=by
  injection e with e1 e2;injection e2 with e2 e3;exact aQ e1 e2 (fun q=>aL c e3) k
end
theorem cst{P:Program}{f:FuncId}{a:Func}{c:Code}{args:List Value}{R:Ending->World->Prop}{n:Nat}{w:World}(b:P.funcs[f]? =some a)(hn:a.ntmps=n)(e:(a.body,Nat.ble args.length n)=(some c,true))
  (h:WC P c (bodyPost P a R) n (QB args) w):Calls P f args.toArray w R:=by
 injection e with e1 e2;exact calls_start b e1 hn (Nat.le_of_ble_eq_true e2) h
open Go Go.RowKit Go.Proofs
def fillF(a:List (Nat×Nat))(cs:List Value):List (Nat×Value)->Option (List Value)
 |[]=>some cs
 |(i,v)::r=>match a[i]? with
  |some (off,1)=>if off<cs.length then fillF a (cs.set off v) r else none
  |_=>none
theorem fillF_ok{a:List (Nat×Nat)}:∀{pv:List (Nat×Value)} {cs out:List Value},(∀v∈pv.map (·.2),v.oneCell'=true)->fillF a cs pv=some out->YO a cs pv out
  |[],cs,out,_,h=>Option.some.inj h
  |(i,v)::r,cs,out,ho,h=>by
    unfold fillF at h;split at h
    · rename_i off e;split at h
      · rename_i c;refine⟨off,1,[v],e,dO<|ho v zq3,Z,by omega,?_⟩;rw[show I9 cs off [v]=cs.set off v by unfold I9;rw[List.set_eq_take_append_cons_drop,if_pos c];simp];exact fillF_ok (fun x b=>ho x<|List.mem_cons_of_mem _ b) h
      · cases h
    · cases h
section
variable{P:Program}{ops:Array Oper}{Q:Exit->Act->World->Prop}{rest:List Oper}{n:Nat}{env:Nat->Value}{w w0:World}{M K:BS}{hp:Nat->Chunk}{d:Option Nat}{op:Op}{ty:TypeId}{pos:String}{af:Array Edge}{x y c:Operand}{T T2:TypeId}{v:Value}{j dj:Nat}{b b0 r:Bool}{i:Int}
theorem jY{zs out:List Value}{b:List (Nat×Nat)}{a:Array (Nat×Operand)}{pv:List (Nat×Value)}(c:Struct P T zs b)(e:(a.toList.map fun p=>(p.1,ev n env p.2),fillF b zs pv)=(pv,some out))(ho:∀v∈pv.map (·.2),v.oneCell'=true)
    (h:WL P ops Q rest n (gm env d (.agg out.toArray)) w):WL P ops Q (⟨d,.build T a,ty,pos,af,none⟩::rest) n env w:=by
  injection e with e1 e2;exact F (nM c e1<|fillF_ok ho e2) h
theorem Kj(a:b0=true)(e:(ev n env c,ev n env x)=(Value.bool b0,Value.bool r))(h:WL P ops Q rest n (gm env d (.bool r)) w):WL P ops Q (⟨d,.pick c x y,ty,pos,af,none⟩::rest) n env w:=by
 injection e with e1 e2;exact F (jr (b:=true) (by rw[e1,a]) e2) h
theorem OQ(a:b0=false)(e:(ev n env c,ev n env y)=(Value.bool b0,Value.bool r))(h:WL P ops Q rest n (gm env d (.bool r)) w):WL P ops Q (⟨d,.pick c x y,ty,pos,af,none⟩::rest) n env w:=by
 injection e with e1 e2;exact F (jr (b:=false) (by rw[e1,a]) e2) h
theorem nO(a:b0=false)(e:((ops[j]?).bind (·.dst),ev n env (.tmp dj),(false==b))=(some dj,Value.bool b0,false))(h:WL P ops Q rest n (gm env d undef) w):WL P ops Q (⟨d,op,ty,pos,af,some (j,b)⟩::rest) n env w:=by
  injection e with e1 e2;injection e2 with e2 e3;exact bN e1 (by rw[e2,a]) e3 h
theorem Gq(a:b0=true)(e:((ops[j]?).bind (·.dst),ev n env (.tmp dj),(true==b))=(some dj,Value.bool b0,false))(h:WL P ops Q rest n (gm env d undef) w):WL P ops Q (⟨d,op,ty,pos,af,some (j,b)⟩::rest) n env w:=by
  injection e with e1 e2;injection e2 with e2 e3;exact bN e1 (by rw[e2,a]) e3 h
theorem oN(a:b0=b)(e:((ops[j]?).bind (·.dst),ev n env (.tmp dj))=(some dj,Value.bool b0))(h:WL P ops Q (⟨d,op,ty,pos,af,none⟩::rest) n env w):WL P ops Q (⟨d,op,ty,pos,af,some (j,b)⟩::rest) n env w:=by
  injection e with e1 e2;exact Ho e1 (by rw[e2,a]) h
theorem Tg{a:Bool}(e:((ops[j]?).bind (·.dst),ev n env (.tmp dj),ev n env x)=(some dj,Value.bool b,Value.int .i64 i))(h:WL P ops Q rest n (gm env d (gv (b==a) (.int .i64 i))) w):WL P ops Q (⟨d,.move x,ty,pos,af,some (j,a)⟩::rest) n env w:=by
  injection e with e1 e2;injection e2 with e2 e3;exact aQ e1 e2 (fun _=>bK e3) h
theorem g0B'{a:Bool}(e:((ops[j]?).bind (·.dst),ev n env (.tmp dj),ev n env x)=(some dj,Value.bool b,Value.bool r))(h:WL P ops Q rest n (gm env d (gv (b==a) (.bool r))) w):WL P ops Q (⟨d,.move x,ty,pos,af,some (j,a)⟩::rest) n env w:=by
  injection e with e1 e2;injection e2 with e2 e3;exact aQ e1 e2 (fun _=>bK e3) h
theorem F8{zs vs:List Value}{a o k:Nat}{cs:List Value}(h:SH w0 M K w hp)(i:Nat)(b:uN P T zs)(e:(hp i,ev n env x,(cs.drop k).take zs.length,vs.length,Nat.ble (k+zs.length) cs.length)=(Chunk.pt a o cs,Value.pointer (some ⟨a,o+k,none⟩),vs,zs.length,true))(q:WL P ops Q rest n (gm env d (.agg vs.toArray)) w):WL P ops Q (⟨d,.load T x,ty,pos,af,none⟩::rest) n env w:=by
 injection e with e1 e2;injection e2 with e2 e3;injection e3 with e3 e4;injection e4 with e4 e5;exact F (Nf h i e1 b e2 e3 e4<|Nat.le_of_ble_eq_true e5) q
theorem iV{L:BS}{ws:World}{u:Value}(a:bI L ws w)(g:∀b,ob u b->w.heap.size<=b):∀b,ob u b->ws.heap.size<=b:=fun b c=>Nat.le_trans a.size (g b c)
end
section
variable{P:Program}{ops:Array Oper}{Q:Exit->Act->World->Prop}{n:Nat}{env:Nat->Value}{w ws:World}{d:Option Nat}{op:Op}{ty:TypeId}{pos:String}{af:Array Edge}{fuel:Nat}{listed:Array Bool}{v:Value}{L:BS}
theorem bS(i:Nat)(c:Grow ws w)(e:ops[i]? =some ⟨d,op,ty,pos,af,none⟩)(f:∀b,Grow ws b->(execOp (ev n env) ⟨d,op,ty,pos,af,none⟩).run P b=.ok (.value v) b)(h:WH P ops ws Q fuel (listed.setIfInBounds i true) n (gm env d v) w)(a:(Region.noSelect ops&&(Region.free .any ops listed i&&(Region.ready .any ops listed).contains i))=true:=by kernel_rfl):WH P ops ws Q (fuel+1) listed n env w:=by
 simp only[Bool.and_eq_true]at a;exact wh_ok i c e bz a.1 a.2.1 a.2.2 f h
theorem bg(i:Nat)(c:bI L ws w)(e:ops[i]? =some ⟨d,op,ty,pos,af,none⟩)(f:∀b,bI L ws b->(execOp (ev n env) ⟨d,op,ty,pos,af,none⟩).run P b=.ok (.value v) b)(h:TP P ops L ws Q fuel (listed.setIfInBounds i true) n (gm env d v) w)(a:(Region.noSelect ops&&(Region.free .any ops listed i&&(Region.ready .any ops listed).contains i))=true:=by kernel_rfl):TP P ops L ws Q (fuel+1) listed n env w:=by
 simp only[Bool.and_eq_true]at a;exact whk_ok i c e bz a.1 a.2.1 a.2.2 f h
end
section
variable{P:Program}{ops:Array Oper}{w:World}{Q1:Act->Prop}{rest:List Oper}{n:Nat}{env:Nat->Value}{d:Option Nat}{ty:TypeId}{pos:String}{af:Array Edge}{x:Operand}
theorem kI{i:Int}(a:ev n env x=.int .i64 i)(h:WK P ops w Q1 rest n (gm env d (.int .i64 i))):WK P ops w Q1 (⟨d,.move x,ty,pos,af,none⟩::rest) n env:=aG (bK a) h
theorem kB{i:Bool}(a:ev n env x=.bool i)(h:WK P ops w Q1 rest n (gm env d (.bool i))):WK P ops w Q1 (⟨d,.move x,ty,pos,af,none⟩::rest) n env:=aG (bK a) h
end
abbrev Ep(w:World)(M:BS)(C:Chunk):Prop:=Chunk.holds w M (Chunk.own' C) C
abbrev ApC(C:Chunk)(M:BS):Prop:=∀b,Chunk.own' C b->¬M b
abbrev Uq(C':Chunk)(w:World)(C:Chunk):Prop:=∀b,Chunk.own' C' b->b<w.heap.size->Chunk.own' C b
abbrev De(M:BS)(C:Chunk):BS:=fun b=>M b\/Chunk.own' C b
open Go Go.RowKit Go.Proofs
section
variable{P:Program}{ops:Array Oper}{Q:Exit->Act->World->Prop}{n:Nat}{env:Nat->Value}{w ws:World}{d:Option Nat}{ty:TypeId}{pos:String}{af:Array Edge}{fuel:Nat}{listed:Array Bool}{v:Value}{L:BS}{T:TypeId}{x:Operand}
theorem Er(i:Nat)(a:Grow ws w){k off b o:Nat}(c:dM P T k off)(e:(ops[i]?,ev n env x)=(some ⟨d,.fieldAddr T x k,ty,pos,af,none⟩,Value.pointer (some ⟨b,o,none⟩)))(h:WH P ops ws Q fuel (listed.setIfInBounds i true) n (gm env d (.pointer (some ⟨b,o+off,none⟩))) w)(f:(Region.noSelect ops&&(Region.free .any ops listed i&&(Region.ready .any ops listed).contains i))=true:=by kernel_rfl):WH P ops ws Q (fuel+1) listed n env w:=by
 injection e with e1 e2;exact bS i a e1 (fun _ _=>aL c e2) h f
theorem dz(i:Nat)(a:bI L ws w){k off b o:Nat}(c:dM P T k off)(e:(ops[i]?,ev n env x)=(some ⟨d,.fieldAddr T x k,ty,pos,af,none⟩,Value.pointer (some ⟨b,o,none⟩)))(h:TP P ops L ws Q fuel (listed.setIfInBounds i true) n (gm env d (.pointer (some ⟨b,o+off,none⟩))) w)(f:(Region.noSelect ops&&(Region.free .any ops listed i&&(Region.ready .any ops listed).contains i))=true:=by kernel_rfl):TP P ops L ws Q (fuel+1) listed n env w:=by
 injection e with e1 e2;exact bg i a e1 (fun _ _=>aL c e2) h f
theorem vz(i:Nat)(a:Grow ws w)(v:Value)(e:(ops[i]?,ev n env x)=(some ⟨d,.move x,ty,pos,af,none⟩,v))(h:WH P ops ws Q fuel (listed.setIfInBounds i true) n (gm env d v) w)(b:(Region.noSelect ops&&(Region.free .any ops listed i&&(Region.ready .any ops listed).contains i))=true:=by kernel_rfl):WH P ops ws Q (fuel+1) listed n env w:=by
 injection e with e1 e2;exact bS i a e1 (fun _ _=>bK e2) h b
theorem jN(i:Nat)(a:bI L ws w)(v:Value)(e:(ops[i]?,ev n env x)=(some ⟨d,.move x,ty,pos,af,none⟩,v))(h:TP P ops L ws Q fuel (listed.setIfInBounds i true) n (gm env d v) w)(b:(Region.noSelect ops&&(Region.free .any ops listed i&&(Region.ready .any ops listed).contains i))=true:=by kernel_rfl):TP P ops L ws Q (fuel+1) listed n env w:=by
 injection e with e1 e2;exact bg i a e1 (fun _ _=>bK e2) h b
theorem F9(i:Nat)(a:Grow ws w)(v:Value)(e:(ops[i]?,ev n env x)=(some ⟨d,.assign x,ty,pos,af,none⟩,v))(h:WH P ops ws Q fuel (listed.setIfInBounds i true) n (gm env d v) w)(b:(Region.noSelect ops&&(Region.free .any ops listed i&&(Region.ready .any ops listed).contains i))=true:=by kernel_rfl):WH P ops ws Q (fuel+1) listed n env w:=by
 injection e with e1 e2;exact bS i a e1 (fun _ _=>eO e2) h b
theorem ui(i:Nat)(a:bI L ws w)(v:Value)(e:(ops[i]?,ev n env x)=(some ⟨d,.assign x,ty,pos,af,none⟩,v))(h:TP P ops L ws Q fuel (listed.setIfInBounds i true) n (gm env d v) w)(b:(Region.noSelect ops&&(Region.free .any ops listed i&&(Region.ready .any ops listed).contains i))=true:=by kernel_rfl):TP P ops L ws Q (fuel+1) listed n env w:=by
 injection e with e1 e2;exact bg i a e1 (fun _ _=>eO e2) h b
end
section
variable{P:Program}{ops:Array Oper}{Q:Exit->Act->World->Prop}{rest:List Oper}{n:Nat}{env:Nat->Value}{w w0:World}{M K:BS}{hp:Nat->Chunk}{d:Option Nat}{ty:TypeId}{pos:String}{af:Array Edge}{x y:Operand}{T:TypeId}
theorem bO{zs vs:List Value}{b:Nat}{cs:List Value}(h:SH w0 M K w hp)(i:Nat)(c:uN P T zs)(e:(hp i,ev n env x,ev n env y,vs.length,cs.length)=(Chunk.blk b cs,Value.pointer (some ⟨b,0,none⟩),Value.agg vs.toArray,zs.length,vs.length))(a:∀v∈vs,v.oneCell'=true)
 (k:∀w',SH w0 M K w' (bU hp i (.blk b vs))->WL P ops Q rest n (gm env d undef) w'):WL P ops Q (⟨d,.store T x y,ty,pos,af,none⟩::rest) n env w:=w_stA h i vs c e a k
theorem SH.pr(h:SH w0 M K w hp)(i j:Nat)(a:i≠j:=by decide):SH w0 M K w (bU (bU hp j .no) i (.two (hp i) (hp j))):=h.pair i j a
theorem SH.un{a c:Chunk}(h:SH w0 M K w hp)(i j:Nat)(e:hp i=.two a c)(d:hp j=.no)(b:i≠j:=by decide):SH w0 M K w (bU (bU hp i a) j c):=h.unpair i j b e d
end
open Go Go.RowKit Go.Proofs
theorem kR{L:BS}{w:World}:bI L w w:=bI.refl L w
theorem dK{vs:List Value}(e:vs.all Value.oneCell'=true):∀v∈vs,v.oneCell'=true:=fun v h=>List.all_eq_true.1 e v h
section
variable{P:Program}{ops:Array Oper}{Q:Exit->Act->World->Prop}{n:Nat}{env:Nat->Value}{w:World}{fuel:Nat}{listed:Array Bool}{L:BS}
theorem ik(h:∀ws,bI L ws w->TP P ops L ws Q fuel listed n env w):TP P ops L w Q fuel listed n env w:=h w (bI.refl _ _)
theorem pK(h:∀ws,Grow ws w->WH P ops ws Q fuel listed n env w):WH P ops w Q fuel listed n env w:=h w (bI.refl _ _)
end
section
variable{P:Program}{ops:Array Oper}{Q:Exit->Act->World->Prop}{rest:List Oper}{n:Nat}{env:Nat->Value}{w w0:World}{M K:BS}{hp:Nat->Chunk}{d:Option Nat}{ty:TypeId}{pos:String}{af:Array Edge}{x:Operand}{v:Value}
theorem Df{f:FuncId}{first captured:Array Value}{xs:Array Operand}{c:Array TypeId}{args:List Value}(h:SH w0 M K w hp)(a:OZ P f)(b:ev n env x=.func (.func f) first captured)
  (i:first.toList++xs.toList.map (ev n env)++captured.toList=args) (j:Calls P f args.toArray w (fun e w'=>Grow w w'/\e=.returned v)) (k:∀w',Grow w w'->SH w0 M K w' hp->WL P ops Q rest n (gm env d v) w'):
  WL P ops Q (⟨d,.call {callee:=.value x,args:=xs,argTypes:=c},ty,pos,af,none⟩::rest) n env w:=
 bT a b i j (by rintro _ w' ⟨g,rfl⟩;exact⟨_,Z,k w' g (h.grow g)⟩)
theorem vB{α:Type}{R:kD α}{l:List α}{f:FuncId}{first captured:Array Value}{xs:Array Operand}{o:Array TypeId}{args:List Value}{a:Value->Value}(h:SH w0 M K w hp)(i:Nat)(j:OZ P f)(m:ev n env x=.func (.func f) first captured)
  (b:first.toList++xs.toList.map (ev n env)++captured.toList=args) (c:Calls P f args.toArray w (fun e w'=>Grow w w'/\∃u,e=.returned (a u)/\bZ R w' (SH.A M hp) u l)) (k:∀w' u,Grow w w'->SH w0 M K w' (bU hp i (.rd R u l))->WL P ops Q rest n (gm env d (a u)) w'):
  WL P ops Q (⟨d,.call {callee:=.value x,args:=xs,argTypes:=o},ty,pos,af,none⟩::rest) n env w:=
 bT j m b c (by rintro _ w' ⟨g,u,rfl,g2⟩;exact⟨_,Z,k w' u g (h.yD i g g2)⟩)
theorem dE{α:Type}{R:kD α}{E:TypeId}{l:List α}{f:FuncId}{first captured:Array Value}{xs:Array Operand}{q:Array TypeId}{args:List Value}{a:Value->Value}(h:SH w0 M K w hp)(i:Nat)(o:OZ P f)(p:ev n env x=.func (.func f) first captured)
  (j:first.toList++xs.toList.map (ev n env)++captured.toList=args) (m:Calls P f args.toArray w (fun e w'=>Grow w w'/\∃u,e=.returned (a u)/\cz R E w' (SH.A M hp) u l/\(∀b,ob u b->w.heap.size<=b))) (k:∀w' u,Grow w w'->(∀b,ob u b->w.heap.size<=b)->SH w0 M K w' (bU hp i (.own R E u l))->WL P ops Q rest n (gm env d (a u)) w'):
  WL P ops Q (⟨d,.call {callee:=.value x,args:=xs,argTypes:=q},ty,pos,af,none⟩::rest) n env w:=
 bT o p j m (by rintro _ w' ⟨g,u,rfl,g2,c⟩;exact⟨_,Z,k w' u g c (h.vU i g g2 c)⟩)
end
open Go Go.RowKit Go.Proofs
abbrev pT(b:Nat):Value:=.pointer (some ⟨b,0,none⟩)
abbrev nS:Value:=.slice none 0 0
def fchk(P:Program)(f:FuncId):Bool:=match P.funcs[f]? with
 |some fn=> !(fn.name== "runtime.NumGoroutine")&& !fn.body.isNone
 |none=>false
theorem fo{P:Program}{f:FuncId}(h:fchk P f=true:=by kernel_rfl):OZ P f:=by
  unfold fchk at h;split at h
  · rename_i a e;simp only[Bool.and_eq_true,Bool.not_eq_true']at h;exact⟨a,e,h.1,h.2⟩
  · cases h
section
variable{P:Program}{ops:Array Oper}{Q:Exit->Act->World->Prop}{n:Nat}{env:Nat->Value}{w ws:World}{d:Option Nat}{op:Op}{ty:TypeId}{pos:String}{af:Array Edge}{fuel:Nat}{listed:Array Bool}{L:BS}
theorem aY(i:Nat)(b:ops[i]? =some ⟨d,op,ty,pos,af,none⟩)(h:WL P ops (QG P ops L ws Q fuel (listed.setIfInBounds i true)) [⟨d,op,ty,pos,af,none⟩] n env w)(a:Region.ready .any ops listed=[i]:=by kernel_rfl):TP P ops L ws Q (fuel+1) listed n env w:=whk_eff i a b bz h
theorem sF(i:Nat)(b:ops[i]? =some ⟨d,op,ty,pos,af,none⟩)(h:WL P ops (after P ops ws Q fuel (listed.setIfInBounds i true)) [⟨d,op,ty,pos,af,none⟩] n env w)(a:Region.ready .any ops listed=[i]:=by kernel_rfl):WH P ops ws Q (fuel+1) listed n env w:=wh_eff i a b bz h
theorem iO(h:Q .normal (act n env) w)(a:Region.ready .any ops listed=[]:=by kernel_rfl):TP P ops L ws Q fuel listed n env w:=whk_done a h
theorem Et(h:Q .normal (act n env) w)(a:Region.ready .any ops listed=[]:=by kernel_rfl):WH P ops ws Q fuel listed n env w:=wh_done a h
end
end Go.LX
namespace Go.Proofs
set_option maxHeartbeats 1000000 in
set_option maxRecDepth 100000 in
theorem Tryz.stringslite_IndexByte(s:ByteArray)(c:Int)(w:World):
  Calls Tryz.prog 210 #[.string s,.int .u8 c] w fun e w'=>e=.returned (.int .i64 (Lib.indexByte s.data.toList c.toNat.toUInt8))/\w'=w:=by
 go_enter Tryz.func210,Tryz.ntmps210
 go_wp2
 rw[run_callFunc_extern Tryz.func225 zq2 zq2 zq2 (e:=Extern.BytealgIndexByte.indexByte) zq2,Lib.run_indexByteString];simp only[Result.andThen];rw[Oper.upon_value]
 go_wp2
 go_ret
 exact⟨Z,Z⟩
set_option maxHeartbeats 2000000 in
set_option maxRecDepth 100000 in
theorem Tryz.stringslite_Index_one(s:ByteArray)(c:UInt8)(w:World):
    Calls Tryz.prog 195 #[.string s,.string ⟨#[c]⟩] w fun e w'=>e=.returned (.int .i64 (Lib.indexByte s.data.toList c))/\w'=w:=by
  go_enter Tryz.func195,Tryz.ntmps195
  go_wp2_with (go_at_call 210;refine(Tryz.stringslite_IndexByte _ _ _).mono ?_;rintro e w'⟨rfl,rfl⟩)
  · have h:([c]==s.toList)=true:=by assumption
    go_ret
    refine⟨?_,Z⟩;have e:s.data.toList=[c]:=by rw[<-Lib.toList_data];exact(beq_iff_eq.1 h).symm
    rw[e];simp[Lib.indexByte]
  · go_ret
    exact⟨Z,Z⟩
set_option maxHeartbeats 1000000 in
theorem Tryz.strings_Index_one(s:ByteArray)(c:UInt8)(w:World):
  Calls Tryz.prog 178 #[.string s,.string ⟨#[c]⟩] w fun e w'=>e=.returned (.int .i64 (Lib.indexByte s.data.toList c))/\w'=w:=by
 go_enter Tryz.func178,Tryz.ntmps178
 go_wp2_with (go_at_call 195;refine(Tryz.stringslite_Index_one _ _ _).mono ?_;rintro e w'⟨rfl,rfl⟩)
 go_ret
 exact⟨Z,Z⟩
set_option maxHeartbeats 1000000 in
theorem Tryz.strings_Contains_one(s:ByteArray)(c:UInt8)(w:World):
  Calls Tryz.prog 188 #[.string s,.string ⟨#[c]⟩] w fun e w'=>e=.returned (.bool (decide (0<=Lib.indexByte s.data.toList c)))/\w'=w:=by
 go_enter Tryz.func188,Tryz.ntmps188
 go_wp2_with (go_at_call 178;refine(Tryz.strings_Index_one _ _ _).mono ?_;rintro e w'⟨rfl,rfl⟩)
 go_ret
 exact⟨Z,Z⟩
open Go.Shelf
def Tryz.lays146_ren:Go.Shelf.Ren:=⟨fun|146=>96|221=>145|268=>176|138=>177|143=>178|195=>197|197=>198|218=>199|219=>195|260=>215|217=>210|225=>211|224=>212|267=>213|266=>225|314=>226|n=>n,fun|9=>9|31=>173|3=>3|4=>4|0=>0|105=>293|21=>21|5=>5|46=>299|119=>242|139=>340|138=>339|146=>336|51=>277|n=>n,fun|1=>4|3=>5|4=>6|n=>n⟩
theorem Tryz.lays146:Go.Proofs.Lays.n146 Tryz.prog Tryz.lays146_ren:={
 mixed:=zq2
 f138:=Tryz.func177.trans (congrArg some zq2)
 f143:=Tryz.func178.trans (congrArg some zq2)
 f146:=Tryz.func96.trans (congrArg some zq2)
 f195:=Tryz.func197.trans (congrArg some zq2)
 f197:=Tryz.func198.trans (congrArg some zq2)
 f217:=Tryz.func210.trans (congrArg some zq2)
 f218:=Tryz.func199.trans (congrArg some zq2)
 f219:=Tryz.func195.trans (congrArg some zq2)
 f221:=Tryz.func145.trans (congrArg some zq2)
 f224:=Tryz.func212.trans (congrArg some zq2)
 f225:=Tryz.func211.trans (congrArg some zq2)
 f260:=Tryz.func215.trans (congrArg some zq2)
 f266:=Tryz.func225.trans (congrArg some zq2)
 f267:=Tryz.func213.trans (congrArg some zq2)
 f268:=Tryz.func176.trans (congrArg some zq2)
 f314:=Tryz.func226.trans (congrArg some zq2)
 t0:=Tryz.underlying0
 a0:=Tryz.isAgg0
 z0:=Tryz.sizeOf0
 v0:=Tryz.zeroValue0
 t3:=Tryz.underlying3
 a3:=Tryz.isAgg3
 z3:=Tryz.sizeOf3
 v3:=Tryz.zeroValue3
 t4:=Tryz.underlying4
 a4:=Tryz.isAgg4
 z4:=Tryz.sizeOf4
 v4:=Tryz.zeroValue4
 t5:=Tryz.underlying5
 a5:=Tryz.isAgg5
 z5:=Tryz.sizeOf5
 v5:=Tryz.zeroValue5
 t9:=Tryz.underlying9
 a9:=Tryz.isAgg9
 z9:=Tryz.sizeOf9
 v9:=Tryz.zeroValue9
 t21:=Tryz.underlying21
 a21:=Tryz.isAgg21
 z21:=Tryz.sizeOf21
 v21:=Tryz.zeroValue21
 t31:=Tryz.underlying173
 a31:=Tryz.isAgg173
 z31:=Tryz.sizeOf173
 v31:=Tryz.zeroValue173
 t46:=Tryz.underlying299
 a46:=Tryz.isAgg299
 z46:=Tryz.sizeOf299
 v46:=Tryz.zeroValue299
 t51:=Tryz.underlying277
 a51:=Tryz.isAgg277
 z51:=Tryz.sizeOf277
 v51:=Tryz.zeroValue277
 t105:=Tryz.underlying293
 a105:=Tryz.isAgg293
 z105:=Tryz.sizeOf293
 v105:=Tryz.zeroValue293
 t119:=Tryz.underlying242
 a119:=Tryz.isAgg242
 z119:=Tryz.sizeOf242
 t138:=Tryz.underlying339
 a138:=Tryz.isAgg339
 z138:=Tryz.sizeOf339
 v138:=Tryz.zeroValue339
 t139:=Tryz.underlying340
 a139:=Tryz.isAgg340
 z139:=Tryz.sizeOf340
 v139:=Tryz.zeroValue340
 t146:=Tryz.underlying336
 a146:=Tryz.isAgg336
 z146:=Tryz.sizeOf336
 v146:=Tryz.zeroValue336
 g1:=zq2
 g3:=zq2
 g4:=by kernel_rfl}
open Go.RowKit Go.Lib in
theorem Tryz.strings_Split(s a:ByteArray)(m:Int)(w:World)(b:s.size<4294967281)(c:w.cell? ⟨4,0,none⟩=some (.int .i64 m))(d:1<=a.size):
 Calls Tryz.prog 96 #[.string s,.string a] w fun e w'=>
  e=.returned (.slice (some ⟨w.heap.size,0,none⟩) (Lib.countB s a+1) (Lib.countB s a+1))/\w'=w.alloc (.cells ((Lib.splitB a 0 (Lib.countB s a) s).map Value.string).toArray 9):=Any.strings_Split Tryz.lays146 zq2 s a m w b c d
def Tryz.Y4:Go.Shelf.Ren:=⟨fun|172=>97|244=>146|245=>147|247=>179|279=>180|280=>181|281=>182|282=>183|287=>200|316=>201|171=>149|205=>202|321=>216|322=>217|243=>185|246=>203|283=>218|284=>219|285=>220|286=>221|129=>228|317=>227|318=>229|319=>230|320=>231|337=>232|338=>233|n=>n,fun|9=>9|3=>3|75=>176|76=>177|4=>4|5=>5|167=>267|37=>36|0=>0|85=>268|2=>2|168=>270|53=>296|175=>297|46=>299|210=>302|127=>317|145=>323|143=>321|21=>21|171=>324|173=>327|212=>342|51=>277|20=>20|213=>343|232=>346|233=>347|80=>180|n=>n,fun|15=>2|16=>3|17=>7|18=>8|19=>9|n=>n⟩
theorem Tryz.Ur:Go.Proofs.LaysC.n172 Tryz.prog Tryz.Y4:={
 mixed:=zq2
 f129:=Tryz.func228.trans (congrArg some zq2)
 f171:=Tryz.func149.trans (congrArg some zq2)
 f172:=Tryz.func97.trans (congrArg some zq2)
 f205:=Tryz.func202.trans (congrArg some zq2)
 f243:=Tryz.func185.trans (congrArg some zq2)
 f244:=Tryz.func146.trans (congrArg some zq2)
 f245:=Tryz.func147.trans (congrArg some zq2)
 f246:=Tryz.func203.trans (congrArg some zq2)
 f247:=Tryz.func179.trans (congrArg some zq2)
 f279:=Tryz.func180.trans (congrArg some zq2)
 f280:=Tryz.func181.trans (congrArg some zq2)
 f281:=Tryz.func182.trans (congrArg some zq2)
 f282:=Tryz.func183.trans (congrArg some zq2)
 f283:=Tryz.func218.trans (congrArg some zq2)
 f284:=Tryz.func219.trans (congrArg some zq2)
 f285:=Tryz.func220.trans (congrArg some zq2)
 f286:=Tryz.func221.trans (congrArg some zq2)
 f287:=Tryz.func200.trans (congrArg some zq2)
 f316:=Tryz.func201.trans (congrArg some zq2)
 f317:=Tryz.func227.trans (congrArg some zq2)
 f318:=Tryz.func229.trans (congrArg some zq2)
 f319:=Tryz.func230.trans (congrArg some zq2)
 f320:=Tryz.func231.trans (congrArg some zq2)
 f321:=Tryz.func216.trans (congrArg some zq2)
 f322:=Tryz.func217.trans (congrArg some zq2)
 f337:=Tryz.func232.trans (congrArg some zq2)
 f338:=Tryz.func233.trans (congrArg some zq2)
 t0:=Tryz.underlying0
 a0:=Tryz.isAgg0
 z0:=Tryz.sizeOf0
 v0:=Tryz.zeroValue0
 t2:=Tryz.underlying2
 a2:=Tryz.isAgg2
 z2:=Tryz.sizeOf2
 v2:=Tryz.zeroValue2
 t3:=Tryz.underlying3
 a3:=Tryz.isAgg3
 z3:=Tryz.sizeOf3
 v3:=Tryz.zeroValue3
 t4:=Tryz.underlying4
 a4:=Tryz.isAgg4
 z4:=Tryz.sizeOf4
 v4:=Tryz.zeroValue4
 t5:=Tryz.underlying5
 a5:=Tryz.isAgg5
 z5:=Tryz.sizeOf5
 v5:=Tryz.zeroValue5
 t9:=Tryz.underlying9
 a9:=Tryz.isAgg9
 z9:=Tryz.sizeOf9
 v9:=Tryz.zeroValue9
 t20:=Tryz.underlying20
 a20:=Tryz.isAgg20
 z20:=Tryz.sizeOf20
 v20:=Tryz.zeroValue20
 t21:=Tryz.underlying21
 a21:=Tryz.isAgg21
 z21:=Tryz.sizeOf21
 v21:=Tryz.zeroValue21
 t37:=Tryz.underlying36
 a37:=Tryz.isAgg36
 z37:=Tryz.sizeOf36
 v37:=Tryz.zeroValue36
 t46:=Tryz.underlying299
 a46:=Tryz.isAgg299
 z46:=Tryz.sizeOf299
 v46:=Tryz.zeroValue299
 t51:=Tryz.underlying277
 a51:=Tryz.isAgg277
 z51:=Tryz.sizeOf277
 v51:=Tryz.zeroValue277
 t53:=Tryz.underlying296
 a53:=Tryz.isAgg296
 z53:=Tryz.sizeOf296
 v53:=Tryz.zeroValue296
 t75:=Tryz.underlying176
 a75:=Tryz.isAgg176
 z75:=Tryz.sizeOf176
 v75:=Tryz.zeroValue176
 t76:=Tryz.underlying177
 a76:=Tryz.isAgg177
 z76:=Tryz.sizeOf177
 v76:=Tryz.zeroValue177
 t85:=Tryz.underlying268
 a85:=Tryz.isAgg268
 z85:=Tryz.sizeOf268
 v85:=Tryz.zeroValue268
 t127:=Tryz.underlying317
 a127:=Tryz.isAgg317
 z127:=Tryz.sizeOf317
 v127:=Tryz.zeroValue317
 t143:=Tryz.underlying321
 a143:=Tryz.isAgg321
 z143:=Tryz.sizeOf321
 v143:=Tryz.zeroValue321
 t145:=Tryz.underlying323
 a145:=Tryz.isAgg323
 z145:=Tryz.sizeOf323
 v145:=Tryz.zeroValue323
 t167:=Tryz.underlying267
 a167:=Tryz.isAgg267
 z167:=Tryz.sizeOf267
 v167:=Tryz.zeroValue267
 t168:=Tryz.underlying270
 a168:=Tryz.isAgg270
 z168:=Tryz.sizeOf270
 v168:=Tryz.zeroValue270
 t171:=Tryz.underlying324
 a171:=Tryz.isAgg324
 z171:=Tryz.sizeOf324
 v171:=Tryz.zeroValue324
 t173:=Tryz.underlying327
 a173:=Tryz.isAgg327
 z173:=Tryz.sizeOf327
 v173:=Tryz.zeroValue327
 t175:=Tryz.underlying297
 a175:=Tryz.isAgg297
 z175:=Tryz.sizeOf297
 v175:=Tryz.zeroValue297
 t210:=Tryz.underlying302
 a210:=Tryz.isAgg302
 z210:=Tryz.sizeOf302
 v210:=Tryz.zeroValue302
 t212:=Tryz.underlying342
 a212:=Tryz.isAgg342
 z212:=Tryz.sizeOf342
 v212:=Tryz.zeroValue342
 t213:=Tryz.underlying343
 a213:=Tryz.isAgg343
 z213:=Tryz.sizeOf343
 t232:=Tryz.underlying346
 a232:=Tryz.isAgg346
 z232:=Tryz.sizeOf346
 v232:=Tryz.zeroValue346
 t233:=Tryz.underlying347
 a233:=Tryz.isAgg347
 z233:=Tryz.sizeOf347
 v233:=Tryz.zeroValue347
 g15:=zq2
 g16:=zq2
 g17:=zq2
 g18:=zq2
 g19:=zq2
 t80:=Tryz.underlying180
 a80:=Tryz.isAgg180
 z80:=Tryz.sizeOf180
 v80:=Tryz.zeroValue180
 i0:=zq2
 i2:=zq2
 i3:=zq2
 i4:=zq2
 i5:=zq2
 i9:=zq2
 i20:=zq2
 i21:=zq2
 i37:=zq2
 i46:=zq2
 i51:=zq2
 i53:=zq2
 i75:=zq2
 i76:=zq2
 i80:=zq2
 i85:=zq2
 i127:=zq2
 i143:=zq2
 i145:=zq2
 i167:=zq2
 i168:=zq2
 i171:=zq2
 i173:=zq2
 i175:=zq2
 i210:=zq2
 i212:=zq2
 i232:=zq2
 i233:=zq2
 m15:=zq2
 m16:=zq2
 m17:=zq2
 m18:=zq2
 m19:=zq2
 c0:=zq2
 c2:=zq2
 c3:=zq2
 c4:=zq2
 c5:=zq2
 c9:=zq2
 c20:=zq2
 c21:=zq2
 c37:=zq2
 c46:=zq2
 c51:=zq2
 c53:=zq2
 c75:=zq2
 c76:=zq2
 c80:=zq2
 c85:=zq2
 c127:=zq2
 c143:=zq2
 c145:=zq2
 c167:=zq2
 c168:=zq2
 c171:=zq2
 c173:=zq2
 c175:=zq2
 c210:=zq2
 c212:=zq2
 c213:=zq2
 c232:=zq2
 c233:=by kernel_rfl}
open Go.RowKit in
theorem Tryz.strconv_Atoi_ok(s:ByteArray)(a:s.size<=9223372036854775806)(v:Int)(h:Lib.atoiAll s.data.toList=.ok v)(w:World):
 Calls Tryz.prog 97 #[.string s] w fun e w'=>e=.returned (.tuple #[.int .i64 v,.nilIface])/\(w'=w\/∃t,w'=Lib.bytesWorld w 5 t):=Any.strconv_Atoi_ok Tryz.Ur s a v h w
open Go.RowKit in
theorem Tryz.strconv_Atoi_syntax_var(s:ByteArray)(a:s.size<=281474976710656)(e:Lib.NumEnd Int)(h:Lib.atoiAll s.data.toList=e)(d:∀v,e≠ .ok v)(f:e≠ .range)(c:TypeId)(p:Value)(w:World)(b:w.var? Tryz.prog "strconv.ErrSyntax" =some #[.iface c p]):
 Calls Tryz.prog 97 #[.string s] w fun e w'=>∃N,e=.returned (.tuple #[.int .i64 0,.iface 270 (.pointer (some ⟨N,0,none⟩))])/\w.heap.size<=N/\w'.heap[N]? =some (.cells #[.string ⟨#[65,116,111,105]⟩,.string s,.iface c p] 302 (0,0))/\Below w.heap.size w w':=Any.strconv_Atoi_syntax_var Tryz.Ur s a (by cases e with|ok v=>exact absurd Z (d v)|range=>exact absurd Z f|_=>exact h) c p w b
open Go.RowKit in
theorem Tryz.strconv_Atoi_range_var(s:ByteArray)(b:s.size<=281474976710656)(h:Lib.atoiAll s.data.toList=.range)(c:TypeId)(p:Value)(w:World)(a:w.var? Tryz.prog "strconv.ErrRange" =some #[.iface c p]):
 Calls Tryz.prog 97 #[.string s] w fun e w'=>∃N,e=.returned (.tuple #[.int .i64 (Lib.atoiSat s.data.toList),.iface 270 (.pointer (some ⟨N,0,none⟩))])/\w.heap.size<=N/\w'.heap[N]? =some (.cells #[.string ⟨#[65,116,111,105]⟩,.string s,.iface c p] 302 (0,0))/\Below w.heap.size w w':=Any.strconv_Atoi_range_var Tryz.Ur s b h c p w a
def Tryz.Y5:Go.Shelf.Ren:=⟨fun|171=>149|243=>185|246=>203|283=>218|284=>219|285=>220|286=>221|129=>228|317=>227|318=>229|319=>230|320=>231|337=>232|338=>233|n=>n,fun|3=>3|9=>9|2=>2|4=>4|171=>324|0=>0|53=>296|37=>36|5=>5|173=>327|212=>342|51=>277|20=>20|213=>343|46=>299|232=>346|233=>347|n=>n,fun|17=>7|18=>8|19=>9|n=>n⟩
theorem Tryz.laysM171:Go.Proofs.LaysM.n171 Tryz.prog Tryz.Y5:={
 mixed:=zq2
 f129:=Tryz.func228.trans (congrArg some zq2)
 f171:=Tryz.func149.trans (congrArg some zq2)
 f243:=Tryz.func185.trans (congrArg some zq2)
 f246:=Tryz.func203.trans (congrArg some zq2)
 f283:=Tryz.func218.trans (congrArg some zq2)
 f284:=Tryz.func219.trans (congrArg some zq2)
 f285:=Tryz.func220.trans (congrArg some zq2)
 f286:=Tryz.func221.trans (congrArg some zq2)
 f317:=Tryz.func227.trans (congrArg some zq2)
 f318:=Tryz.func229.trans (congrArg some zq2)
 f319:=Tryz.func230.trans (congrArg some zq2)
 f320:=Tryz.func231.trans (congrArg some zq2)
 f337:=Tryz.func232.trans (congrArg some zq2)
 f338:=Tryz.func233.trans (congrArg some zq2)
 t0:=Tryz.underlying0
 a0:=Tryz.isAgg0
 z0:=Tryz.sizeOf0
 v0:=Tryz.zeroValue0
 t2:=Tryz.underlying2
 a2:=Tryz.isAgg2
 z2:=Tryz.sizeOf2
 v2:=Tryz.zeroValue2
 t3:=Tryz.underlying3
 a3:=Tryz.isAgg3
 z3:=Tryz.sizeOf3
 v3:=Tryz.zeroValue3
 t4:=Tryz.underlying4
 a4:=Tryz.isAgg4
 z4:=Tryz.sizeOf4
 v4:=Tryz.zeroValue4
 t5:=Tryz.underlying5
 a5:=Tryz.isAgg5
 z5:=Tryz.sizeOf5
 v5:=Tryz.zeroValue5
 t9:=Tryz.underlying9
 a9:=Tryz.isAgg9
 z9:=Tryz.sizeOf9
 v9:=Tryz.zeroValue9
 t20:=Tryz.underlying20
 a20:=Tryz.isAgg20
 z20:=Tryz.sizeOf20
 v20:=Tryz.zeroValue20
 t37:=Tryz.underlying36
 a37:=Tryz.isAgg36
 z37:=Tryz.sizeOf36
 v37:=Tryz.zeroValue36
 t46:=Tryz.underlying299
 a46:=Tryz.isAgg299
 z46:=Tryz.sizeOf299
 v46:=Tryz.zeroValue299
 t51:=Tryz.underlying277
 a51:=Tryz.isAgg277
 z51:=Tryz.sizeOf277
 v51:=Tryz.zeroValue277
 t53:=Tryz.underlying296
 a53:=Tryz.isAgg296
 z53:=Tryz.sizeOf296
 v53:=Tryz.zeroValue296
 t171:=Tryz.underlying324
 a171:=Tryz.isAgg324
 z171:=Tryz.sizeOf324
 v171:=Tryz.zeroValue324
 t173:=Tryz.underlying327
 a173:=Tryz.isAgg327
 z173:=Tryz.sizeOf327
 v173:=Tryz.zeroValue327
 t212:=Tryz.underlying342
 a212:=Tryz.isAgg342
 z212:=Tryz.sizeOf342
 v212:=Tryz.zeroValue342
 t213:=Tryz.underlying343
 a213:=Tryz.isAgg343
 z213:=Tryz.sizeOf343
 t232:=Tryz.underlying346
 a232:=Tryz.isAgg346
 z232:=Tryz.sizeOf346
 v232:=Tryz.zeroValue346
 t233:=Tryz.underlying347
 a233:=Tryz.isAgg347
 z233:=Tryz.sizeOf347
 v233:=Tryz.zeroValue347
 g17:=zq2
 g18:=zq2
 g19:=zq2
 i0:=zq2
 i2:=zq2
 i3:=zq2
 i4:=zq2
 i5:=zq2
 i9:=zq2
 i20:=zq2
 i37:=zq2
 i46:=zq2
 i51:=zq2
 i53:=zq2
 i171:=zq2
 i173:=zq2
 i212:=zq2
 i232:=zq2
 i233:=zq2
 m17:=zq2
 m18:=zq2
 m19:=by kernel_rfl}
open Go.RowKit Go.Sort Go.Lib in
theorem Tryz.strconv_Itoa(n:Int)(b: -9223372036854775808<=n)(c:n<=9223372036854775807)(w:World)(a:Lib.TabIs Tryz.prog w "internal/strconv.uint64pow10" .u64 Lib.pow10Tab):
 Calls Tryz.prog 149 #[.int .i64 n] w fun e w'=>e=.returned (.string ⟨(Lib.itoa n).toArray⟩)/\∃k os,w'=grow (w.drewN k) os:=Any.strconv_Itoa Tryz.laysM171 n b c w a
def Tryz.lays157_ren:Go.Shelf.Ren:=⟨fun|157=>107|229=>152|199=>153|261=>186|311=>204|312=>205|n=>n,fun|9=>9|31=>173|3=>3|5=>5|4=>4|119=>242|0=>0|40=>244|152=>274|21=>21|154=>276|51=>277|141=>279|196=>308|193=>305|198=>311|49=>309|194=>306|201=>314|226=>329|46=>299|227=>330|n=>n,fun|0=>0|6=>1|n=>n⟩
theorem Tryz.lays157:Go.Proofs.Lays.n157 Tryz.prog Tryz.lays157_ren:={
 mixed:=zq2
 f157:=Tryz.func107.trans (congrArg some zq2)
 f199:=Tryz.func153.trans (congrArg some zq2)
 f229:=Tryz.func152.trans (congrArg some zq2)
 f261:=Tryz.func186.trans (congrArg some zq2)
 f311:=Tryz.func204.trans (congrArg some zq2)
 f312:=Tryz.func205.trans (congrArg some zq2)
 t0:=Tryz.underlying0
 a0:=Tryz.isAgg0
 z0:=Tryz.sizeOf0
 v0:=Tryz.zeroValue0
 t3:=Tryz.underlying3
 a3:=Tryz.isAgg3
 z3:=Tryz.sizeOf3
 v3:=Tryz.zeroValue3
 t4:=Tryz.underlying4
 a4:=Tryz.isAgg4
 z4:=Tryz.sizeOf4
 v4:=Tryz.zeroValue4
 t5:=Tryz.underlying5
 a5:=Tryz.isAgg5
 z5:=Tryz.sizeOf5
 v5:=Tryz.zeroValue5
 t9:=Tryz.underlying9
 a9:=Tryz.isAgg9
 z9:=Tryz.sizeOf9
 v9:=Tryz.zeroValue9
 t21:=Tryz.underlying21
 a21:=Tryz.isAgg21
 z21:=Tryz.sizeOf21
 v21:=Tryz.zeroValue21
 t31:=Tryz.underlying173
 a31:=Tryz.isAgg173
 z31:=Tryz.sizeOf173
 v31:=Tryz.zeroValue173
 t40:=Tryz.underlying244
 a40:=Tryz.isAgg244
 z40:=Tryz.sizeOf244
 v40:=Tryz.zeroValue244
 t46:=Tryz.underlying299
 a46:=Tryz.isAgg299
 z46:=Tryz.sizeOf299
 v46:=Tryz.zeroValue299
 t49:=Tryz.underlying309
 a49:=Tryz.isAgg309
 z49:=Tryz.sizeOf309
 v49:=Tryz.zeroValue309
 t51:=Tryz.underlying277
 a51:=Tryz.isAgg277
 z51:=Tryz.sizeOf277
 v51:=Tryz.zeroValue277
 t119:=Tryz.underlying242
 a119:=Tryz.isAgg242
 z119:=Tryz.sizeOf242
 t141:=Tryz.underlying279
 a141:=Tryz.isAgg279
 z141:=Tryz.sizeOf279
 v141:=Tryz.zeroValue279
 t152:=Tryz.underlying274
 a152:=Tryz.isAgg274
 z152:=Tryz.sizeOf274
 v152:=Tryz.zeroValue274
 t154:=Tryz.underlying276
 a154:=Tryz.isAgg276
 z154:=Tryz.sizeOf276
 v154:=Tryz.zeroValue276
 t193:=Tryz.underlying305
 a193:=Tryz.isAgg305
 z193:=Tryz.sizeOf305
 v193:=Tryz.zeroValue305
 t194:=Tryz.underlying306
 a194:=Tryz.isAgg306
 z194:=Tryz.sizeOf306
 v194:=Tryz.zeroValue306
 t196:=Tryz.underlying308
 a196:=Tryz.isAgg308
 z196:=Tryz.sizeOf308
 v196:=Tryz.zeroValue308
 t198:=Tryz.underlying311
 a198:=Tryz.isAgg311
 z198:=Tryz.sizeOf311
 v198:=Tryz.zeroValue311
 t201:=Tryz.underlying314
 a201:=Tryz.isAgg314
 z201:=Tryz.sizeOf314
 v201:=Tryz.zeroValue314
 t226:=Tryz.underlying329
 a226:=Tryz.isAgg329
 z226:=Tryz.sizeOf329
 v226:=Tryz.zeroValue329
 t227:=Tryz.underlying330
 a227:=Tryz.isAgg330
 z227:=Tryz.sizeOf330
 v227:=Tryz.zeroValue330
 g0:=zq2
 g6:=by kernel_rfl}
open Go.RowKit Go.Lib in
theorem Tryz.strings_Fields(s:ByteArray)(w:World)(d:s.size<4294967281)(a:∀(j:Nat) b,s.data.toList[j]? =some b->b.toNat<128)(c:Lib.TabIs Tryz.prog w "strings.asciiSpace" .u8 Lib.asciiSpaceTab):
 Calls Tryz.prog 107 #[.string s] w fun e w'=>
  e=.returned (.slice (some ⟨w.heap.size,0,none⟩) (Lib.fields s.data.toList).length (Lib.fields s.data.toList).length)/\w'=w.alloc (.cells ((Lib.fields s.data.toList).map fun l=>Value.string ⟨l.toArray⟩).toArray 9):=Any.strings_Fields Tryz.lays157 zq2 zq2 s w d a c
def Tryz.Ti:Go.Shelf.Ren:=⟨fun|156=>157|165=>191|166=>192|169=>193|240=>207|241=>208|276=>222|277=>223|n=>n,fun|31=>173|9=>9|3=>3|4=>4|0=>0|20=>20|72=>287|76=>177|70=>285|37=>36|75=>176|127=>317|164=>331|5=>5|80=>180|n=>n,fun|n=>n⟩
theorem Tryz.lays156:Go.Proofs.Lays.n156 Tryz.prog Tryz.Ti:={
 mixed:=zq2
 f156:=Tryz.func157.trans (congrArg some zq2)
 f165:=Tryz.func191.trans (congrArg some zq2)
 f166:=Tryz.func192.trans (congrArg some zq2)
 f169:=Tryz.func193.trans (congrArg some zq2)
 f240:=Tryz.func207.trans (congrArg some zq2)
 f241:=Tryz.func208.trans (congrArg some zq2)
 f276:=Tryz.func222.trans (congrArg some zq2)
 f277:=Tryz.func223.trans (congrArg some zq2)
 t0:=Tryz.underlying0
 a0:=Tryz.isAgg0
 z0:=Tryz.sizeOf0
 v0:=Tryz.zeroValue0
 t3:=Tryz.underlying3
 a3:=Tryz.isAgg3
 z3:=Tryz.sizeOf3
 v3:=Tryz.zeroValue3
 t4:=Tryz.underlying4
 a4:=Tryz.isAgg4
 z4:=Tryz.sizeOf4
 v4:=Tryz.zeroValue4
 t9:=Tryz.underlying9
 a9:=Tryz.isAgg9
 z9:=Tryz.sizeOf9
 v9:=Tryz.zeroValue9
 t20:=Tryz.underlying20
 a20:=Tryz.isAgg20
 z20:=Tryz.sizeOf20
 v20:=Tryz.zeroValue20
 t31:=Tryz.underlying173
 a31:=Tryz.isAgg173
 z31:=Tryz.sizeOf173
 v31:=Tryz.zeroValue173
 t37:=Tryz.underlying36
 a37:=Tryz.isAgg36
 z37:=Tryz.sizeOf36
 v37:=Tryz.zeroValue36
 t70:=Tryz.underlying285
 a70:=Tryz.isAgg285
 z70:=Tryz.sizeOf285
 v70:=Tryz.zeroValue285
 t72:=Tryz.underlying287
 a72:=Tryz.isAgg287
 z72:=Tryz.sizeOf287
 v72:=Tryz.zeroValue287
 t75:=Tryz.underlying176
 a75:=Tryz.isAgg176
 z75:=Tryz.sizeOf176
 v75:=Tryz.zeroValue176
 t76:=Tryz.underlying177
 a76:=Tryz.isAgg177
 z76:=Tryz.sizeOf177
 v76:=Tryz.zeroValue177
 t127:=Tryz.underlying317
 a127:=Tryz.isAgg317
 z127:=Tryz.sizeOf317
 v127:=Tryz.zeroValue317
 t164:=Tryz.underlying331
 a164:=Tryz.isAgg331
 z164:=Tryz.sizeOf331
 v164:=Tryz.zeroValue331}
theorem Tryz.Gr:Builder.Extra Tryz.prog Tryz.Ti:={
 sizeBuilder:=zq2
 liesBuilder:=zq2
 t5:=Tryz.underlying5
 a5:=Tryz.isAgg5
 z5:=Tryz.sizeOf5
 v5:=Tryz.zeroValue5
 infoByte:=zq2
 cellsByte:=zq2
 sizeByte:=zq2
 neB5:=by decide}
open Go.RowKit in
theorem Tryz.strings_Join_none(a:Option Addr)(c:Nat)(b:ByteArray)(w:World):
 Calls Tryz.prog 157 #[.slice a 0 c,.string b] w fun e w'=>e=.returned (.string ⟨#[]⟩)/\w'=w:=Any.strings_Join_none Tryz.lays156 Tryz.Gr a c b w
open Go.RowKit in
theorem Tryz.strings_Join(g o c:Nat)(xs:List ByteArray)(a:ByteArray)(w:World)(b:∀(j:Nat) x,xs[j]? =some x->w.cell? ⟨g,o+j,none⟩=some (.string x))(h:g<w.heap.size)(hN:xs.length<=140737488355328)(f:xs.length<=c)(d:(Lib.join (xs.map (·.data.toList)) a.data.toList).length<=140737488355328):
    Calls Tryz.prog 157 #[.slice (some ⟨g,o,none⟩) xs.length c,.string a] w fun e w'=>e=.returned (.string ⟨(Lib.join (xs.map (·.data.toList)) a.data.toList).toArray⟩)/\Below w.heap.size w w':=Any.strings_Join Tryz.lays156 Tryz.Gr g o c xs a w b h hN f d
def Tryz.lays145_ren:Go.Shelf.Ren:=⟨fun|145=>130|220=>171|219=>195|217=>210|225=>211|224=>212|267=>213|266=>225|314=>226|n=>n,fun|9=>9|4=>4|59=>217|3=>3|5=>5|46=>299|146=>336|51=>277|n=>n,fun|1=>4|n=>n⟩
theorem Tryz.lays145:Go.Proofs.Lays.n145 Tryz.prog Tryz.lays145_ren:={
 mixed:=zq2
 f145:=Tryz.func130.trans (congrArg some zq2)
 f217:=Tryz.func210.trans (congrArg some zq2)
 f219:=Tryz.func195.trans (congrArg some zq2)
 f220:=Tryz.func171.trans (congrArg some zq2)
 f224:=Tryz.func212.trans (congrArg some zq2)
 f225:=Tryz.func211.trans (congrArg some zq2)
 f266:=Tryz.func225.trans (congrArg some zq2)
 f267:=Tryz.func213.trans (congrArg some zq2)
 f314:=Tryz.func226.trans (congrArg some zq2)
 t3:=Tryz.underlying3
 a3:=Tryz.isAgg3
 z3:=Tryz.sizeOf3
 v3:=Tryz.zeroValue3
 t4:=Tryz.underlying4
 a4:=Tryz.isAgg4
 z4:=Tryz.sizeOf4
 v4:=Tryz.zeroValue4
 t5:=Tryz.underlying5
 a5:=Tryz.isAgg5
 z5:=Tryz.sizeOf5
 v5:=Tryz.zeroValue5
 t9:=Tryz.underlying9
 a9:=Tryz.isAgg9
 z9:=Tryz.sizeOf9
 v9:=Tryz.zeroValue9
 t46:=Tryz.underlying299
 a46:=Tryz.isAgg299
 z46:=Tryz.sizeOf299
 v46:=Tryz.zeroValue299
 t51:=Tryz.underlying277
 a51:=Tryz.isAgg277
 z51:=Tryz.sizeOf277
 v51:=Tryz.zeroValue277
 t59:=Tryz.underlying217
 a59:=Tryz.isAgg217
 z59:=Tryz.sizeOf217
 v59:=Tryz.zeroValue217
 t146:=Tryz.underlying336
 a146:=Tryz.isAgg336
 z146:=Tryz.sizeOf336
 v146:=Tryz.zeroValue336
 g1:=by kernel_rfl}
open Go.RowKit Go.Lib in
theorem Tryz.strings_Cut(s a:ByteArray)(m:Int)(w:World)(b:s.size<4294967281)(c:w.cell? ⟨4,0,none⟩=some (.int .i64 m)):
 Calls Tryz.prog 130 #[.string s,.string a] w fun e w'=>e=.returned (.tuple #[.string ⟨(Lib.cut s.data.toList a.data.toList).1.toArray⟩,.string ⟨(Lib.cut s.data.toList a.data.toList).2.1.toArray⟩,.bool (Lib.cut s.data.toList a.data.toList).2.2])/\∃n,w'=w.drewN n:=Any.strings_Cut Tryz.lays145 s a m w b c
end Go.Proofs