/-
  What the law WorldTwice needs of our own library and of the walks, no more.
-/
import Derived.Shelf.Strings.Builder1
import Derived.Laws.IdiomRangeMap
import Derived.Lib.FieldsLaws
import Derived.KernelRfl
import Derived.Test.YtodkbibbgakkdaaGreatDoorProg
import Derived.Lib.Slices
import Derived.Lib.Walk
import Derived.Shelf.Strings.OnBuilder
import Derived.Shelf.LaysM
import Derived.Shelf.Strconv.Itoa3
import Derived.Shelf.LaysC
import Derived.Shelf.Strconv.AtoiAll
import Derived.Shelf.Strconv.ErrVarAll
import Derived.Shelf.Strings.Cut
import Derived.Shelf.Strings.Split
import Derived.Shelf.Strings.Fields
import Derived.Shelf.Strings.BuilderX
import Derived.Test.YtodkbibbgakkdaaGreatDoorWorldTwiceTa
set_option linter.unusedSimpArgs false
set_option linter.unusedVariables false
set_option maxRecDepth 10000
namespace Go.LX
open Go.RowKit Go.Proofs
section
variable{P:Program}{ops:Array Oper}{Q:Exit->Act->World->Prop}{n:Nat}{env:Nat->Value}{w w' w0:World}{M K:BS}{hp:Nat->Chunk}{rest:List Oper}
 {d:Option Nat} {op:Op} {ty:TypeId} {pos:String} {af:Array Edge} {v:Value} {g:Option (Nat×Bool)} {T:TypeId} {ρ:Operand->Value} {x y:Operand} {i fuel:Nat} {listed:Array Bool}
theorem SH.pceAt{S:Pce}(h:SH w0 M K w hp)(i:Nat)(a:hp i=.eH S):S.P w (SH.A M hp):=by
 have:=h.ok i;rw[a]at this;exact this
theorem SH.JB{S S':Pce}(h:SH w0 M K w hp)(i:Nat)(c:hp i=.eH S)(f:S'.P w' (SH.A M hp))(e:bH S.own w w')(hn:∀b,S'.own b->b<w.heap.size->S.own b):SH w0 M K w' (bV hp i (.eH S')):=by
  refine h.step i e (fun b a _=>by rw[c];exact a) (fun b a d=>by rw[c];exact hn b a d) ?_;refine S'.go f (bH.refl BE w') (fun _ h=>h.elim) (fun _ h=>h.elim) fun b a _=>?_;rcases a with a|a|a
  · exact .inl<|.inl a
  · exact .inl<|.inr<|kP a
  · exact .inr a
end
open Go.RowKit Go.Proofs
structure NW(α β:Type)where
 sz:Nat
 enc:α->Value->List Value
 sub:α->List β
 put:α->List β->α
 len:∀x u,(enc x u).length=sz
 one:∀x u,u.oneCell'=true->∀c∈enc x u,c.oneCell'=true
 pos:0<sz
 PY:∀x s u,enc (put x s) u=enc x u
 PZ:∀x s,sub (put x s)=s
def NW.raw{α β:Type}(N:NW α β):kL (α×Value) where
 sz:=N.sz
 rd _ _ cs p:=cs=N.enc p.1 p.2/\p.2.oneCell'=true
 len:=by rintro w A cs x ⟨rfl,_⟩;exact N.len _ _
 one:=by rintro w A cs x ⟨rfl,h⟩;exact N.one _ _ h
 pos:=N.pos
 go:=fun h _ _ _=>h
def hn:Nat->Prop:=fun _=>False
def hat(k:Nat):Nat->Prop:=fun i=>i=k
def EK(ho:Nat->Prop)(us:List Value):BS:=fun b=>∃i u,us[i]? =some u/\¬ho i/\ob u b
def FamP{β:Type}(R:kL β)(E:TypeId)(ho:Nat->Prop)(us:List Value)(ss:List (List β))(w:World)(A:BS):Prop:=
 us.length=ss.length/\
 (∀i u s,us[i]? =some u->ss[i]? =some s->¬ho i->cK R E w (fun b=>A b\/EK ho us b) u s)/\
 (∀i j u v,i≠j->¬ho i->¬ho j->us[i]? =some u->us[j]? =some v->∀b,ob u b->¬ob v b)
theorem FamP.at{β:Type}{R:kL β}{E:TypeId}{ho:Nat->Prop}{us:List Value}{ss:List (List β)}{w:World}{A:BS}(h:FamP R E ho us ss w A){i:Nat}{u:Value}(a:us[i]? =some u):∃s,ss[i]? =some s:=by
  have:i<us.length:=by
    rcases Nat.lt_or_ge i us.length with h|h
    · exact h
    · rw[List.getElem?_eq_none h]at a;cases a
  exact⟨ss[i]'(h.1▸this),List.getElem?_eq_getElem _⟩
def bO{β:Type}(R:kL β)(E:TypeId)(ho:Nat->Prop)(us:List Value)(ss:List (List β)):Pce where
  own:=EK ho us
  P w A:=FamP R E ho us ss w A
  lt:=by
    rintro w A b h⟨i,u,h1,h2,h3⟩;obtain⟨s,hs⟩:=h.at h1;exact(h.2.1 i u s h1 hs h2).lt b h3
  go:=by
    rintro w w' A A' K⟨h1,h2,h3⟩hk hK hKo hA;refine⟨h1,fun i u s hu hs hi=>(h2 i u s hu hs hi).go hk (fun b hb hl=>.inl<|hK b hb hl) (fun b hb ho=>hKo b hb ⟨i,u,hu,hi,ho⟩) fun b hb hl=>?_,h3⟩;rcases hb with hb|hb
    · exact .inl<|hA b hb hl
    · exact .inl<|.inr hb
section
variable{α β:Type}{N:NW α β}{R:kL β}{E Es T:TypeId}{w0 w w':World}{M K A:BS}{hp:Nat->Chunk}{v u u':Value}{us us':List Value}{L L':List α}{ss ss':List (List β)}{s:List β}{x y:α}{k:Nat}{ho ho':Nat->Prop}
theorem Ia(hp:Nat->Chunk)(i:Nat)(a c:Chunk):bV (bV hp i a) i c=bV hp i c:=by
  funext j;by_cases e:j=i
  · subst e;rw[dh,dh]
  · rw[eZ e,eZ e,eZ e]
theorem SH.Yn(h:SH w0 M K w hp)(j:Nat)(a:hp j=.eH (bO R E ho us ss)):FamP R E ho us ss w (SH.A M hp):=h.pceAt j a
theorem SH.jE(h:SH w0 M K w hp)(j:Nat)(a:hp j=.eH (bO R E ho us (L.map N.sub))):us.length=L.length:=by
 have:=(h.Yn j a).1;rw[List.length_map]at this;exact this
theorem gq(h:us.length=L.length):(L.zip us).length=L.length:=by rw[List.length_zip];omega
theorem gu(b:L[k]? =some x)(a:us[k]? =some u):(L.zip us)[k]? =some (x,u):=by
 rw[List.getElem?_zip_eq_some];exact⟨b,a⟩
theorem U9(a:us[k]? =some u):(L.zip us).set k (y,u)=(L.set k y).zip us:=by
  apply List.ext_getElem?;intro i;rw[List.getElem?_set];by_cases e:k=i
  · subst e;rw[if_pos rfl];by_cases b:k<L.length
    · rw[gu (x:=y) (u:=u) (by rw[List.getElem?_set_self b]) a];have:k<us.length:=by
        rcases Nat.lt_or_ge k us.length with h|h
        · exact h
        · rw[List.getElem?_eq_none h]at a;cases a
      rw[if_pos (by rw[List.length_zip];omega)]
    · rw[if_neg (by rw[List.length_zip];omega),List.getElem?_eq_none (by rw[List.length_zip,List.length_set];omega)]
  · rw[if_neg e];simp only[List.zip_eq_zipWith,List.getElem?_zipWith,List.getElem?_set_ne e]
theorem P5(a:L[k]? =some x):(L.zip us).set k (x,u)=L.zip (us.set k u):=by
  apply List.ext_getElem?;intro i;rw[List.getElem?_set];by_cases e:k=i
  · subst e;rw[if_pos rfl];by_cases b:k<us.length
    · rw[gu (x:=x) (u:=u) a (by rw[List.getElem?_set_self b])];have:k<L.length:=by
        rcases Nat.lt_or_ge k L.length with h|h
        · exact h
        · rw[List.getElem?_eq_none h]at a;cases a
      rw[if_pos (by rw[List.length_zip];omega)]
    · rw[if_neg (by rw[List.length_zip];omega),List.getElem?_eq_none (by rw[List.length_zip,List.length_set];omega)]
  · rw[if_neg e];simp only[List.zip_eq_zipWith,List.getElem?_zipWith,List.getElem?_set_ne e]
theorem Dx(a:L[k]? =some y):L.set k y=L:=by
  apply List.ext_getElem?;intro i;rw[List.getElem?_set];by_cases e:k=i
  · subst e;by_cases b:k<L.length
    · rw[if_pos rfl,if_pos b,a]
    · rw[List.getElem?_eq_none V]at a;cases a
  · rw[if_neg e]
theorem nI{z:α}(a:L[k]? =some x):(L.set k z)[k]? =some z:=by
  rw[List.getElem?_set_self];rcases Nat.lt_or_ge k L.length with h|h
  · exact h
  · rw[List.getElem?_eq_none h]at a;cases a
theorem Yo(a:us[k]? =some u):(us.set k u')[k]? =some u':=nI a
theorem own_re{l d:List (α×Value)}(h:cK N.raw E w A v l)(b:d.length=l.length)(m:∀(i:Nat) (p a:α×Value),l[i]? =some p->d[i]? =some a->N.enc a.1 a.2=N.enc p.1 p.2/\a.2=p.2):cK N.raw E w A v d:=by
 obtain⟨xs,j,f⟩:=h;refine⟨xs,by rw[b];exact j,fun i c=>?_⟩;obtain⟨k,n⟩:=f i<|b▸c;obtain⟨e,g⟩:=m i _ _ (List.getElem?_eq_getElem<|b▸c)<|List.getElem?_eq_getElem c;exact⟨k.trans e.symm,by rw[g];exact n⟩
theorem SH.rawRe(h:SH w0 M K w hp)(i:Nat)(j:hp i=.own N.raw E v (L.zip us))(g:L[k]? =some x)(o:∀u,N.enc y u=N.enc x u):SH w0 M K w (bV hp i (.own N.raw E v ((L.set k y).zip us))):=by
  refine h.step i (bH.refl BE w) (fun _ h=>h.elim) (fun b d _=>by rw[j];exact d) ?_;have ho:=h.ok i;rw[j]at ho;refine Chunk.sub (O:=iC hp) (c:=.own N.raw E v ((L.set k y).zip us)) ?_ fun b d _=>?_
  · refine own_re ho (by rw[List.length_zip,List.length_zip,List.length_set]) fun i p q hp a=>?_;rw[List.getElem?_zip_eq_some]at hp a;rw[List.getElem?_set]at a;have l:=Option.some.inj<|hp.2.symm.trans a.2;by_cases e:k=i
    · subst e;have n:k<L.length:=by
        rcases Nat.lt_or_ge k L.length with h|h
        · exact h
        · rw[List.getElem?_eq_none h]at g;cases g
      rw[if_pos rfl,if_pos n]at a;have f:=Option.some.inj a.1;have m:=Option.some.inj<|g.symm.trans hp.1;rw[<-l,<-f,<-m];exact⟨o _,Z⟩
    · rw[if_neg e]at a;have f:=Option.some.inj<|hp.1.symm.trans a.1;rw[<-l,<-f];exact⟨Z,Z⟩
  · rcases d with d|d
    · exact kP d
    · exact⟨i,by rw[j];exact d⟩
theorem SH.famRe(h:SH w0 M K w hp)(j:Nat)(n:hp j=.eH (bO R E ho us ss))(p:us'.length=ss'.length)(e:∀i,¬ho i->us'[i]? =us[i]? /\ss'[i]? =ss[i]?):SH w0 M K w (bV hp j (.eH (bO R E ho us' ss'))):=by
 have m:=h.Yn j n;have a:∀b,EK ho us' b->EK ho us b:=fun b⟨i,u,q,l,r⟩=>⟨i,u,(e i l).1▸q,l,r⟩;refine h.JB j n ?_ (bH.refl _ _) fun b g _=>a b g;refine⟨p,fun i u s k o c=>?_,fun i j u v f c d k t=>m.2.2 i j u v f c d ((e i c).1▸k) ((e j d).1▸t)⟩;refine(m.2.1 i u s ((e i c).1▸k) ((e i c).2▸o) c).go (bH.refl BE w) (fun _ h=>h.elim) (fun _ h=>h.elim) fun b g _=>.inl<|g.imp id<|a b
theorem SH.famL(h:SH w0 M K w hp)(j:Nat)(y:α)(a:hp j=.eH (bO R E (hat k) us (L.map N.sub))):SH w0 M K w (bV hp j (.eH (bO R E (hat k) us ((L.set k y).map N.sub)))):=by
  refine h.famRe j a ?_ fun i b=>⟨Z,?_⟩
  · rw[List.length_map,List.length_set];exact h.jE j a
  · rw[List.map_set,List.getElem?_set_ne (fun e=>b e.symm)]
theorem SH.famOpen(h:SH w0 M K w hp)(j m:Nat)(B:hp j=.eH (bO R E ho us ss))(I:hp m=.no)(n:j≠m)(d:us[k]? =some u)(C:ss[k]? =some s)(o:¬ho k)(ho':Nat->Prop)(g:∀i,ho' i↔ho i\/i=k):
    SH w0 M K w (bV (bV hp j (.eH (bO R E ho' us ss))) m (.own R E u s)):=by
  have l:=h.Yn j B;have c:∀b,EK ho' us b->EK ho us b:=fun b⟨i,u,p,f,z⟩=>⟨i,u,p,fun h=>f ((g i).2<|.inl h),z⟩;have x:(Chunk.two (.eH<|bO R E ho' us ss)<|.own R E u s).holds w M (SH.av hp j<|Chunk.two (.eH<|bO R E ho' us ss)<|.own R E u s):=by
    refine⟨⟨l.1,fun i v t A G q=>?_,fun i j u v y q r d A=>l.2.2 i j u v y (fun h=>q ((g i).2<|.inl h)) (fun h=>r ((g j).2<|.inl h)) d A⟩,?_,?_⟩
    · refine(l.2.1 i v t A G fun h=>q ((g i).2<|.inl h)).go (bH.refl BE w) (fun _ h=>h.elim) (fun _ h=>h.elim) fun b a _=>.inl ?_;rcases a with(a|a|a)|a
      · exact .inl<|.inl a
      · exact .inl<|.inr<|kP a
      · rcases a with a|a
        · exact .inr<|c b a
        · exact .inr ⟨k,u,d,o,a⟩
      · exact .inr<|c b a
    · refine(l.2.1 k u s d C o).go (bH.refl BE w) (fun _ h=>h.elim) (fun _ h=>h.elim) fun b a _=>.inl ?_;rcases a with a|a|a
      · exact .inl<|.inl a
      · exact .inl<|.inr<|kP a
      · rcases a with a|a
        · exact .inr<|c b a
        · exact .inr ⟨k,u,d,o,a⟩
    · rintro b⟨i,v,p,f,z⟩a;exact l.2.2 i k v u (fun e=>f ((g i).2<|.inr e)) (fun h=>f ((g i).2<|.inl h)) o p d b z a
  have p:=h.step j (bH.refl BE w) (fun _ h=>h.elim) (fun b a _=>by
    rw[B];rcases a with a|a
    · exact c b a
    · exact⟨k,u,d,o,a⟩) x
  have f:=p.unpair j m n (dh _ _ _) (by rw[eZ (Ne.symm n)];exact I);rw[Ia]at f;exact f
theorem SH.P6(h:SH w0 M K w hp)(j m:Nat)(hj:hp j=.eH (bO R E ho us ss))(T:hp m=.own R E u s)(Q:j≠m)(x:us[k]? =some u)(hk:ho k)(ho':Nat->Prop)(h':∀i,ho i↔ho' i\/i=k)(X:¬ho' k):
    SH w0 M K w (bV (bV hp m .no) j (.eH (bO R E ho' us (ss.set k s)))):=by
  have p:=h.pair j m Q;have a:∀i,¬ho' i->i=k\/¬ho i:=fun i C=>by
    by_cases e:i=k
    · exact .inl e
    · exact .inr fun h=>((h' i).1 h).elim C e
  have l:∀b,EK ho' us b->EK ho us b\/ob u b:=fun b⟨i,v,p,y,N⟩=>by
    rcases a i y with rfl|h4
    · rw[x]at p;cases p;exact .inr N
    · exact .inl ⟨i,v,p,h4,N⟩
  have O:∀b,EK ho us b\/ob u b->EK ho' us b:=fun b d=>by
    rcases d with⟨i,v,p,y,N⟩|d
    · exact⟨i,v,p,fun h=>y ((h' i).2<|.inl h),N⟩
    · exact⟨k,u,x,X,d⟩
  have o:=p.ok j;have S:bV (bV hp m .no) j (.two (hp j)<|hp m)=bV (bV hp m .no) j (.two (.eH<|bO R E ho us ss)<|.own R E u s):=by rw[hj,T]
  rw[dh,hj,T]at o;have y:=p.step (c:=.eH (bO R E ho' us (ss.set k s))) j (bH.refl BE w) (fun _ h=>h.elim) (fun b d _=>by
    rw[dh,hj,T];exact l b d) ?_
  · rw[Ia]at y;exact y
  · rw[S];have hA:∀b,(M b\/SH.av (bV (bV hp m .no) j<|.two (.eH<|bO R E ho us ss)<|.own R E u s) j (.eH<|bO R E ho' us<|ss.set k s) b)\/EK ho' us b->(M b\/iC (bV (bV hp m .no) j<|.two (.eH<|bO R E ho us ss)<|.own R E u s) b):=by
      have G:∀b,EK ho' us b->iC (bV (bV hp m .no) j (.two (.eH (bO R E ho us ss)) (.own R E u s))) b:=fun b d=>⟨j,by rw[dh];exact l b d⟩;rintro b((d|d|d)|d)
      · exact .inl d
      · exact .inr<|kP d
      · exact .inr<|G b d
      · exact .inr<|G b d
    refine⟨by rw[List.length_set];exact o.1.1,fun i v t q J C=>?_,fun i n v v' A C B q g b d r=>?_⟩
    · by_cases e:i=k
      · subst e;rw[x]at q;cases q;have P:i<ss.length:=by
          obtain⟨s',z⟩:=o.1.at x;rcases Nat.lt_or_ge i ss.length with h|h
          · exact h
          · rw[List.getElem?_eq_none h]at z;cases z
        rw[List.getElem?_set_self P]at J;cases J;refine cK.go o.2.1 (bH.refl BE w) (fun _ h=>h.elim) (fun _ h=>h.elim) fun b d _=>.inl<|hA b d
      · rw[List.getElem?_set_ne (fun h=>e h.symm)]at J;have f:¬ho i:=(a i C).resolve_left e;refine(o.1.2.1 i v t q J f).go (bH.refl BE w) (fun _ h=>h.elim) (fun _ h=>h.elim) fun b d _=>.inl<|.inl<|hA b d
    · by_cases e:i=k
      · have L:n≠k:=fun h=>A<|e.trans h.symm;have f:¬ho n:=(a n B).resolve_left L;subst e;rw[x]at q;cases q;exact o.2.2 b ⟨n,v',g,f,r⟩ d
      · have f:¬ho i:=(a i C).resolve_left e;by_cases L:n=k
        · subst L;rw[x]at g;cases g;exact o.2.2 b ⟨i,v,q,f,d⟩ r
        · have I:¬ho n:=(a n B).resolve_left L;exact o.1.2.2 i n v v' A f I q g b d r
end
open Go.RowKit Go.Proofs
section
variable{α β:Type}{N:NW α β}{R:kL β}{E Es T:TypeId}{w0 w w':World}{M K A:BS}{hp:Nat->Chunk}{v u u':Value}{us us' uE:List Value}{L L':List α}{ss ss' ss2:List (List β)}{s:List β}{x y:α}{k:Nat}{ho ho':Nat->Prop}
theorem NY{a:Type}{l:List a}{z:a}(h:l[k]? =some z):k<l.length:=by
  rcases Nat.lt_or_ge k l.length with h1|h1
  · exact h1
  · rw[List.getElem?_eq_none h1]at h;cases h
theorem SH.dnOpen(h:SH w0 M K w hp)(j m:Nat)(c:hp j=.eH (bO R Es hn us (L.map N.sub)))(e:hp m=.no)(b:j≠m)(d:L[k]? =some x):
  ∃u,us[k]? =some u/\SH w0 M K w (bV (bV hp j (.eH (bO R Es (hat k) us (L.map N.sub)))) m (.own R Es u (N.sub x))):=by
 have f:=h.jE j c;have a:=NY d;exact⟨us[k]'(f▸a),List.getElem?_eq_getElem _,h.famOpen j m c e b (List.getElem?_eq_getElem _) (by rw[List.getElem?_map,d];rfl) (fun h=>h) _ (fun i=>⟨.inr,fun h=>h.elim (fun h=>h.elim) id⟩)⟩
theorem SH.zB(h:SH w0 M K w hp)(i j m:Nat)(y:α)(p:hp i=.own N.raw E v (L.zip us))(l:hp j=.eH (bO R Es (hat k) us (L.map N.sub)))(o:hp m=.own R Es u s)(a:i≠j)(b:i≠m)(c:j≠m)(n:L[k]? =some x)(q:us[k]? =some u)(f:y=N.put x s):
  SH w0 M K w (bV (bV (bV hp m .no) j (.eH (bO R Es hn us ((L.set k y).map N.sub)))) i (.own N.raw E v ((L.set k y).zip us))):=by
 have g:=h.P6 j m l o c q Z hn (fun i=>⟨.inr,fun h=>h.elim (fun h=>h.elim) id⟩) fun h=>h;have d:=g.rawRe (N:=N) (x:=x) (y:=y) (k:=k) (E:=E) (v:=v) i (by rw[eZ a,eZ b];exact p) n (fun u=>by rw[f];exact N.PY _ _ _);have e:(L.map N.sub).set k s=(L.set k y).map N.sub:=by rw[List.map_set,f,N.PZ]
 rw[e]at d;exact d
theorem SH.lu(h:SH w0 M K w hp)(j m:Nat)(d:hp j=.eH (bO R Es (hat k) us (L.map N.sub)))(g:hp m=.own R Es u s)(a:j≠m)(f:L[k]? =some x)(l:us[k]? =some u)(c:N.sub x=s):
  SH w0 M K w (bV (bV hp m .no) j (.eH (bO R Es hn us (L.map N.sub)))):=by
 have b:=h.P6 j m d g a l Z hn (fun i=>⟨.inr,fun h=>h.elim (fun h=>h.elim) id⟩) fun h=>h;have e:(L.map N.sub).set k s=L.map N.sub:=Dx (by rw[List.getElem?_map,f,<-c];rfl);rw[e]at b;exact b
theorem SH.famNew(h:SH w0 M K w hp)(m:Nat)(k:hp m=.own R Es u s):SH w0 M K w (bV hp m (.eH (bO R Es hn [u] [s]))):=by
  have ho:=h.ok m;rw[k]at ho;have a:∀b,EK hn [u] b->ob u b:=by
    rintro b⟨i,v,g,_,l⟩;cases i with
    |zero=>cases g;exact l
    |succ i=>cases g
  refine h.step m (bH.refl BE w) (fun _ h=>h.elim) (fun b c _=>by rw[k];exact a b c) ⟨Z,fun i v t d e _=>?_,fun i j v t f _ _ d e=>?_⟩
  · cases i with
    |succ i=>cases d
    |zero=>
      cases d;cases e;refine cK.go ho (bH.refl BE w) (fun _ h=>h.elim) (fun _ h=>h.elim) fun b c _=>?_;rcases c with(c|c|c)|c
      · exact .inl<|.inl c
      · exact .inl<|.inr<|kP c
      · exact .inr<|a b c
      · exact .inr<|a b c
  · cases i with
    |zero=>cases j with
      |zero=>exact absurd Z f
      |succ j=>cases e
    |succ i=>cases d
theorem SH.famNil(h:SH w0 M K w hp)(j:Nat):SH w0 M K w (bV hp j (.eH (bO R Es hn [] []))):=
  h.learn j (bH.refl BE w) (by rintro b ⟨i,u,c,_⟩;cases c) (by
    refine⟨Z,?_,?_⟩
    · intro i v t a;cases a
    · intro i j v t _ _ _ a;cases a)
theorem SH.GD(h:SH w0 M K w hp)(j m:Nat)(E:hp j=.eH (bO R Es hn us ss))(A:hp m=.eH (bO R Es hn uE ss2))(z:j≠m):SH w0 M K w (bV (bV hp m .no) j (.eH (bO R Es hn (us++uE) (ss++ss2)))):=by
  have e:=h.pair j m z;have k:=e.ok j;rw[E,A]at e;rw[dh,E,A]at k;have n:∀b,EK hn (us++uE) b->EK hn us b\/EK hn uE b:=by
    rintro b⟨i,v,e,_,o⟩;rw[List.getElem?_append]at e;split at e
    · exact .inl ⟨i,v,e,fun h=>h,o⟩
    · exact .inr ⟨_,v,e,fun h=>h,o⟩
  have y:∀b,EK hn us b\/EK hn uE b->EK hn (us++uE) b:=by
    rintro b(⟨i,v,e,_,o⟩|⟨i,v,e,_,o⟩)
    · exact⟨i,v,by rw[List.getElem?_append_left (NY e)];exact e,fun h=>h,o⟩
    · exact⟨us.length+i,v,by rw[List.getElem?_append_right V,Nat.add_sub_cancel_left];exact e,fun h=>h,o⟩
  have B:=e.step (c:=.eH (bO R Es hn (us++uE) (ss++ss2))) j (bH.refl BE w) (fun _ h=>h.elim) (fun b a _=>by rw[dh];exact n b a) ?_
  · rw[Ia]at B;exact B
  · have C:∀b,(M b\/SH.av (bV (bV hp m .no) j<|.two (.eH<|bO R Es hn us ss)<|.eH<|bO R Es hn uE ss2) j (.eH<|bO R Es hn (us++uE)<|ss++ss2) b)\/EK hn (us++uE) b->(M b\/iC (bV (bV hp m .no) j<|.two (.eH<|bO R Es hn us ss)<|.eH<|bO R Es hn uE ss2) b):=by
      have p:∀b,EK hn (us++uE) b->iC (bV (bV hp m .no) j (.two (.eH (bO R Es hn us ss)) (.eH (bO R Es hn uE ss2)))) b:=fun b a=>⟨j,by rw[dh];exact n b a⟩;rintro b((a|a|a)|a)
      · exact .inl a
      · exact .inr<|kP a
      · exact .inr<|p b a
      · exact .inr<|p b a
    have G:=k.1.1;have I:=k.2.1.1;refine⟨by simp only[List.length_append];omega,fun i v t f q _=>?_,fun i x v s u _ _ f d b a l=>?_⟩
    · rw[List.getElem?_append]at f q;by_cases r:i<us.length
      · rw[if_pos r]at f;rw[if_pos V]at q;exact(k.1.2.1 i v t f q fun h=>h).go (bH.refl BE w) (fun _ h=>h.elim) (fun _ h=>h.elim) fun b a _=>.inl<|.inl<|C b a
      · rw[if_neg r]at f;rw[if_neg V,<-G]at q;exact(k.2.1.2.1 _ v t f q fun h=>h).go (bH.refl BE w) (fun _ h=>h.elim) (fun _ h=>h.elim) fun b a _=>.inl<|.inl<|C b a
    · rw[List.getElem?_append]at f d;by_cases r:i<us.length
      · rw[if_pos r]at f;by_cases g:x<us.length
        · rw[if_pos g]at d;exact k.1.2.2 i x v s u (fun h=>h) (fun h=>h) f d b a l
        · rw[if_neg g]at d;exact k.2.2 b ⟨_,v,f,fun h=>h,a⟩ ⟨_,s,d,fun h=>h,l⟩
      · rw[if_neg r]at f;by_cases g:x<us.length
        · rw[if_pos g]at d;exact k.2.2 b ⟨_,s,d,fun h=>h,l⟩ ⟨_,v,f,fun h=>h,a⟩
        · rw[if_neg g]at d;exact k.2.1.2.2 _ _ v s V (fun h=>h) (fun h=>h) f d b a l
theorem SH.famTake(h:SH w0 M K w hp)(j n:Nat)(m:hp j=.eH (bO R Es hn us (L.map N.sub))):SH w0 M K w (bV hp j (.eH (bO R Es hn (us.take n) ((L.take n).map N.sub)))):=by
  have d:=h.Yn j m;have hat:∀(i:Nat) (u:Value),(us.take n)[i]? =some u->us[i]? =some u/\i<n:=fun i u a=>by
    rw[List.getElem?_take]at a;split at a
    · exact⟨a,by assumption⟩
    · cases a
  have c:∀b,EK hn (us.take n) b->EK hn us b:=fun b⟨i,u,q,p,r⟩=>⟨i,u,(hat i u q).1,p,r⟩;refine h.JB j m ?_ (bH.refl _ _) fun b k _=>c b k;have o:=d.1;rw[List.length_map]at o;refine⟨by rw[List.length_take,List.length_map,List.length_take];omega,fun i u s a l e=>?_,fun i j u v g e f a t=>d.2.2 i j u v g e f (hat i u a).1 (hat j v t).1⟩;rw[List.map_take,List.getElem?_take,if_pos (hat i u a).2]at l;refine(d.2.1 i u s (hat i u a).1 l e).go (bH.refl BE w) (fun _ h=>h.elim) (fun _ h=>h.elim) fun b k _=>.inl<|k.imp id<|c b
theorem zip_take'(n:Nat):(L.zip us).take n=(L.take n).zip (us.take n):=by
 apply List.ext_getElem?;intro i;simp only[List.zip_eq_zipWith,List.getElem?_take,List.getElem?_zipWith];split<;>rfl
theorem GG{a:List α}(h:us.length=L.length):(L.zip us)++(a.zip uE)=(L++a).zip (us++uE):=(List.zip_append h.symm).symm
theorem tL{P:Program}{ρ:Operand->Value}{d:Option Nat}{ty:TypeId}{pos:String}{af:Array Edge}{g:Option (Nat×Bool)}{a:Operand}{j:Nat}{B A:BS}{b:World}(i:SliceOf P T E j)(f:ρ a=v)(e:ed N.raw b B A v (L.zip us))(c:us.length=L.length):
  (execOp ρ ⟨d,.call {callee:=.builtin .len,args:= #[a],argTypes:= #[T]},ty,pos,af,g⟩).run P w=.ok (.value (.int .i64 L.length)) w:=by
 have h:=gM (P:=P) (w:=w) (d:=d) (ty:=ty) (pos:=pos) (af:=af) (g:=g) i f e;rw[gq c]at h;exact h
theorem SH.Ib{R':kL α}(h:SH w0 M K w hp)(i j:Nat)(r:hp i=.own N.raw E v (L.zip us))(n:hp j=.eH (bO R Es hn us (L.map N.sub)))(t:i≠j)(y:R'.sz=N.sz)(br:∀w A x u,cz R w A u (N.sub x)->R'.rd w A (N.enc x u) x):SH w0 M K w (bV (bV hp j .no) i (.rd R' v L)):=by
  have p:=h.jE j n;have m:=h.pair i j t;have k:=m.apart i;have z:=m.apM i;have s:=m.ok i;rw[dh]at k z;rw[dh,r,n]at s;have G:=m.step (c:=.rd R' v L) i (bH.refl BE w) (fun _ h=>h.elim) (fun b f _=>f.elim) ?_
  · rw[Ia]at G;exact G
  · have hno:∀b,(hp i).own' b\/(hp j).own' b->¬(M b\/SH.av (bV (bV hp j .no) i<|.two (hp i)<|hp j) i (.rd R' v L) b):=by
      intro b f g;rcases g with g|⟨q,l,g⟩|g
      · exact z b f g
      · exact k q (fun e=>l e.symm) b f g
      · exact g
    have I:∀b,(M b\/SH.av (bV (bV hp j .no) i<|.two (hp i)<|hp j) i (.rd R' v L) b)->M b\/iC (bV (bV hp j .no) i<|.two (.own N.raw E v<|L.zip us)<|.eH<|bO R Es hn us<|L.map N.sub) b:=by
      rw[r,n];rintro b(f|f|f)
      · exact .inl f
      · exact .inr<|kP f
      · exact f.elim
    have S:cz N.raw w (fun b=>M b\/SH.av (bV (bV hp j .no) i<|.two (hp i)<|hp j) i (.rd R' v L) b) v (L.zip us):=
      cK.rd s.1 (fun b f=>hno b (.inl (by rw[r];exact f))) (fun b f _=>.inl (I b f))
    obtain⟨a,cap,B,J,P,T,e5⟩:=S;rw[gq p]at B J;refine⟨a,cap,B,J,P,T,fun q l=>?_⟩;obtain⟨b,o,cells,d,fz,q1,q2,O,C⟩:=e5 q (by rw[gq p];exact l);refine⟨b,o,cells,d,fz,q1,q2,O,?_⟩;rw[y];have Q:(L.zip us)[q]'(by rw[gq p];exact l)=(L[q],us[q]'V):=by simp
    rw[Q]at C;obtain⟨X,_⟩:=C;have q6:((cells.toList.drop<|o+q*N.sz).take N.sz)=N.enc L[q] (us[q]'V):=X;rw[q6];refine br _ _ _ _ (cK.rd (s.2.1.2.1 q _ _ (List.getElem?_eq_getElem V) (by rw[List.getElem?_map,List.getElem?_eq_getElem l];rfl) (fun h=>h)) (fun b f=>hno b (.inr (by rw[n];exact⟨q,_,List.getElem?_eq_getElem V,fun h=>h,f⟩))) (fun b f _=>.inl (.inl (I b f))))
theorem SH.moveC(h:SH w0 M K w hp)(j i:Nat){c:Chunk}(t:hp j=c)(u:hp i=.no)(r:j≠i):SH w0 M K w (bV (bV hp j .no) i c):=by
  subst t;have f:∀x b,(bV (bV hp j .no) i (hp j) x).own' b->∃y,(hp y).own' b/\(x=i->y=j)/\(x≠i->y=x/\x≠j):=by
    intro x b a;by_cases e:x=i
    · subst e;rw[dh]at a;exact⟨j,a,fun _=>rfl,fun h=>absurd Z h⟩
    · rw[eZ e]at a;by_cases d:x=j
      · subst d;rw[dh]at a;exact a.elim
      · rw[eZ d]at a;exact⟨x,a,fun h=>absurd h e,fun _=>⟨Z,d⟩⟩
  have g:∀b,iC (bV (bV hp j .no) i<|hp j) b->iC hp b:=fun b⟨x,o⟩=>let ⟨y,k,_⟩:=f x b o;⟨y,k⟩;refine⟨h.keep,h.ltM,fun x b a=>let ⟨y,k,_⟩:=f x b a;h.apM y b k,fun x=>?_,fun x y l b o k=>?_,fun x b a=>let ⟨y,k,_⟩:=f x b a;h.old y b k⟩
  · by_cases e:x=i
    · subst e;rw[dh];exact Chunk.sub (h.ok j) fun b a _=>g b a
    · rw[eZ e];by_cases d:x=j
      · subst d;rw[dh];trivial
      · rw[eZ d];exact Chunk.sub (h.ok x) (fun b a _=>g b a)
  · obtain⟨x',s,q,m⟩:=f x b o;obtain⟨p,k1,k2,n⟩:=f y b k;have:x'≠p:=by
      by_cases e:x=i
      · have d:y≠i:=fun h=>l<|e.trans h.symm;rw[q e,(n d).1];exact fun h=>(n d).2 h.symm
      · by_cases d:y=i
        · rw[k2 d,(m e).1];exact(m e).2
        · rw[(m e).1,(n d).1];exact l
    exact h.apart x' p this b s k1
def dm(β:Type):NW (List β) β where
 sz:=1
 enc _ u:=[u]
 sub x:=x
 put _ s:=s
 len _ _:=rfl
 one:=by intro x u h c hc;simp at hc;subst hc;exact h
 pos:=by decide
 PY _ _ _:=rfl
 PZ _ _:=rfl
theorem P7{R:kL β}:∀w A (x:List β) u,cz R w A u ((dm β).sub x)->(tK R).rd w A ((dm β).enc x u) x:=fun _ _ _ u h=>⟨u,rfl,h⟩
end
open Go.RowKit Go.Proofs
section
variable{P:Program}{w:World}{ρ:Operand->Value}{d:Option Nat}{ty:TypeId}{pos:String}{af:Array Edge}{g:Option (Nat×Bool)}{T:TypeId}{x y:Operand}
theorem SH.GH{α β:Type}{N:NW α β}{R:kL β}{E:TypeId}{w0:World}{M K:BS}{hp:Nat->Chunk}{u:Value}{s:List β}(h:SH w0 M K w hp)(m:Nat)(x:α)(b:hp m=.own R E u s)(a:N.sub x=s):SH w0 M K w (bV hp m (.eH (bO R E hn [u] (List.map N.sub [x])))):=by
 subst a;exact h.famNew m b
theorem us_at{α:Type}{us:List Value}{L:List α}{k:Nat}{z:α}(h:us.length=L.length)(a:L[k]? =some z):∃u,us[k]? =some u:=by
 have:=NY a;exact⟨us[k]'(h▸this),List.getElem?_eq_getElem _⟩
end
open Go.RowKit Go.Proofs
section
variable{α:Type}{R:kL α}{E:TypeId}{w0 w w':World}{M K:BS}{hp:Nat->Chunk}{C C':Chunk}{v:Value}{l:List α}
theorem pF:∀b,iC (bV hno 1 C) b->C.own' b:=by
  rintro b⟨j,a⟩;by_cases e:j=1
  · subst e;rw[dh]at a;exact a
  · rw[eZ e]at a;exact a.elim
theorem iF{i:Nat}(hn:∀b,iC hp b->C.own' b):∀b,iC (bV hp i (.rd R v l)) b->C.own' b:=by
  rintro b⟨j,a⟩;by_cases e:j=i
  · subst e;rw[dh]at a;exact a.elim
  · rw[eZ e]at a;exact hn b ⟨j,a⟩
theorem SH.jS(h:SH w M K w hp)(i:Nat)(ho:cz R w (fun b=>M b\/C.own' b) v l)(hn:∀b,iC hp b->C.own' b):SH w M K w (bV hp i (.rd R v l)):=
 h.aJ i (ho.sub (fun b a _=>a.imp id (hn b)) (fun b a _=>a.imp id (hn b)))
theorem SH.lendS(h:SH w0 M K w hp)(i:Nat)(c:hp i=C)(a:C.PV):C.holds w (fun b=>M b\/rest hp i b) C.own'/\(∀b,C.own' b->¬(M b\/rest hp i b))/\(∀b,(M b\/rest hp i b)->b<w.heap.size):=by
 subst c;exact h.lendC i a
theorem SH.vR(h:SH w0 M K w hp)(i j:Nat)(d:hp j=.rd R v l)(e:hp i=C):cz R w (fun b=>(M b\/rest hp i b)\/C.own' b) v l:=by
  have c:∀b,(M b\/rest hp i b)\/C.own' b->SH.A M hp b:=by
    rintro b((a|a)|a)
    · exact .inl a
    · exact .inr<|kP a
    · exact .inr ⟨i,by rw[e];exact a⟩
  exact(h.bI j d).sub (fun b a _=>c b a) fun b a _=>c b a
theorem SH.back(h:SH w0 M K w hp)(i:Nat)(e:hp i=C)(d:C'.PV)(a:C'.holds w' (fun b=>M b\/rest hp i b) C'.own')(c:bH C.own' w w')(hn:∀b,C'.own' b->b<w.heap.size->C.own' b):SH w0 M K w' (bV hp i C'):=by
 subst e;exact h.givenC i d a c hn
theorem eX{i:Nat}(h:cz R w (fun b=>(M b\/rest hp i b)\/C.own' b) v l):cz R w (SH.A M (bV hp i C)) v l:=by
  have c:∀b,SH.A M (bV hp i C) b->(M b\/rest hp i b)\/C.own' b:=by
    rintro b(a|⟨j,d⟩)
    · exact .inl<|.inl a
    · by_cases e:j=i
      · subst e;rw[dh]at d;exact .inr d
      · rw[eZ e]at d;exact .inl (.inr ⟨j,e,d⟩)
  exact h.sub (fun b a _=>c b a) fun b a _=>c b a
theorem SH.bP(h:SH w0 M K w hp)(i j:Nat)(d:hp j=.rd R v l)(e:hp i=C):cz R w (fun b=>M b\/C.own' b) v l:=by
  have c:∀b,M b\/C.own' b->SH.A M hp b:=by
    rintro b(a|a)
    · exact .inl a
    · exact .inr ⟨i,by rw[e];exact a⟩
  exact(h.bI j d).sub (fun b a _=>c b a) fun b a _=>c b a
theorem SH.outS(h:SH w0 M K w hp)(i:Nat)(c:hp i=C)(a:C.PV):C.holds w M C.own'/\bH K w0 w/\(∀b,C.own' b->b<w0.heap.size->K b):=h.outC i c a
end
section
variable{P:Program}{ops:Array Oper}{Q:Exit->Act->World->Prop}{n:Nat}{env:Nat->Value}{w:World}
theorem At.hold{w w':World}{L:BS}{b o:Nat}{cs:List Value}(h:At w b o cs)(d:bH L w w')(hn:¬L b):At w' b o cs:=by
 obtain⟨cells,E,c,a,e⟩:=h;exact⟨cells,E,c,d.blk a hn,e⟩
theorem fin4{g:Func}{R:Ending->World->Prop}{t u a c:Tmp}{v1 v2 v3 v4:Value}(i:g.results= #[.tmp t,.tmp u,.tmp a,.tmp c])(l:ev n env (.tmp t)=v1)(k:ev n env (.tmp u)=v2)(m:ev n env (.tmp a)=v3)(j:ev n env (.tmp c)=v4)(h:R (.returned (.tuple #[v1,v2,v3,v4])) w):bodyPost P g R .ret (act n env) w:=by
 refine⟨Z,_,?_,h⟩;have e:=congrFun (gD n env)<|.tmp t;have f:=congrFun (gD n env)<|.tmp u;have b:=congrFun (gD n env)<|.tmp a;have d:=congrFun (gD n env)<|.tmp c;rw[l]at e;rw[k]at f;rw[m]at b;rw[j]at d;simp only[Act.eval]at e f b d;rw[Array.getD_eq_getD_getElem?]at e f b d;unfold results;rw[i];simp[e,f,b,d]
end
structure Ins where
 op:Int
 a:Int
 b:Int
 c:Int
 args:List Int
deriving DecidableEq
def kK:kL Ins where
 sz:=5
 rd w A cs x:=∃TY,cs=[.int .i64 x.op,.int .i64 x.a,.int .i64 x.b,.int .i64 x.c,TY]/\cz di w A TY x.args
 len:=by rintro w A cs x ⟨TY,rfl,h0⟩;rfl
 one:=by rintro w A cs x ⟨TY,rfl,h0⟩ u hu;simp only[List.mem_cons,List.not_mem_nil,or_false]at hu;rcases hu with rfl|rfl|rfl|rfl|rfl<;>first|rfl|exact h0.one
 pos:=by decide
 go:=by rintro w A cs x w2 A2 K ⟨TY,rfl,h0⟩ hk hK hA;exact⟨_,Z,h0.go hk hK hA⟩
theorem Ic{w:World}{A:BS}{cs:List Value}{x:Ins}(h:kK.rd w A cs x):∃d,cs=[.int .i64 x.op,.int .i64 x.a,.int .i64 x.b,.int .i64 x.c,d]/\cz di w A d x.args:=h
structure dn where
 params:Int
 regs:Int
 code:List Ins
deriving DecidableEq
def dE:kL dn where
 sz:=3
 rd w A cs x:=∃TZ,cs=[.int .i64 x.params,.int .i64 x.regs,TZ]/\cz kK w A TZ x.code
 len:=by rintro w A cs x ⟨TZ,rfl,h0⟩;rfl
 one:=by rintro w A cs x ⟨TZ,rfl,h0⟩ u hu;simp only[List.mem_cons,List.not_mem_nil,or_false]at hu;rcases hu with rfl|rfl|rfl<;>first|rfl|exact h0.one
 pos:=by decide
 go:=by rintro w A cs x w2 A2 K ⟨TZ,rfl,h0⟩ hk hK hA;exact⟨_,Z,h0.go hk hK hA⟩
theorem vz{w:World}{A:BS}{cs:List Value}{x:dn}(h:dE.rd w A cs x):∃a,cs=[.int .i64 x.params,.int .i64 x.regs,a]/\cz kK w A a x.code:=h
structure Frame where
 proc:Int
 at_:Int
 regs:List Val
 iX:Int
deriving DecidableEq
def jv:kL Frame where
 sz:=4
 rd w A cs x:=∃T9,cs=[.int .i64 x.proc,.int .i64 x.at_,T9,.int .i64 x.iX]/\cz bG w A T9 x.regs
 len:=by rintro w A cs x ⟨T9,rfl,h0⟩;rfl
 one:=by rintro w A cs x ⟨T9,rfl,h0⟩ u hu;simp only[List.mem_cons,List.not_mem_nil,or_false]at hu;rcases hu with rfl|rfl|rfl|rfl<;>first|rfl|exact h0.one
 pos:=by decide
 go:=by rintro w A cs x w2 A2 K ⟨T9,rfl,h0⟩ hk hK hA;exact⟨_,Z,h0.go hk hK hA⟩
theorem Dy{w:World}{A:BS}{cs:List Value}{x:Frame}(h:jv.rd w A cs x):∃a,cs=[.int .i64 x.proc,.int .i64 x.at_,a,.int .i64 x.iX]/\cz bG w A a x.regs:=h
structure State where
 frames:List Frame
 cells:List (List Val)
 status:Int
 bZ:Int
deriving DecidableEq
def Ie:NW dn Ins where
 sz:=3
 enc x u:=[.int .i64 x.params,.int .i64 x.regs,u]
 sub x:=x.code
 put x s:={x with code:=s}
 len _ _:=rfl
 one:=by intro x u h c hc;simp only[List.mem_cons,List.not_mem_nil,or_false]at hc;rcases hc with rfl|rfl|rfl<;>first|rfl|exact h
 pos:=by decide
 PY _ _ _:=rfl
 PZ _ _:=rfl
theorem nProc_br:∀w A (x:dn) u,cz kK w A u (Ie.sub x)->dE.rd w A (Ie.enc x u) x:=fun _ _ _ u h=>⟨u,rfl,h⟩
def aS:NW Frame Val where
 sz:=4
 enc x u:=[.int .i64 x.proc,.int .i64 x.at_,u,.int .i64 x.iX]
 sub x:=x.regs
 put x s:={x with regs:=s}
 len _ _:=rfl
 one:=by intro x u h c hc;simp only[List.mem_cons,List.not_mem_nil,or_false]at hc;rcases hc with rfl|rfl|rfl|rfl<;>first|rfl|exact h
 pos:=by decide
 PY _ _ _:=rfl
 PZ _ _:=rfl
theorem Ig:∀w A (x:Frame) u,cz bG w A u (aS.sub x)->jv.rd w A (aS.enc x u) x:=fun _ _ _ u h=>⟨u,rfl,h⟩
open Go.RowKit Go.Proofs
section
variable{P:Program}{ops:Array Oper}{Q:Exit->Act->World->Prop}{n:Nat}{env:Nat->Value}{w w' w0:World}{M K:BS}{hp:Nat->Chunk}{rest:List Oper}
 {d:Option Nat} {op:Op} {ty:TypeId} {pos:String} {af:Array Edge} {v:Value} {g:Option (Nat×Bool)} {T:TypeId} {ρ:Operand->Value} {x y:Operand}
theorem fin_c{e:Func}{R:Ending->World->Prop}{a:Tmp}{T:TypeId}{zs vs:List Value}{b:Nat}(f:e.results= #[.cell a T])(k:ev n env (.tmp a)=.pointer (some ⟨b,0,none⟩))
  (l:SH w0 M K w hp) (i:Nat) (g:hp i=.blk b vs) (m:vv P T zs) (j:vs.length=zs.length) (h:R (.returned (.agg vs.toArray)) w):bodyPost P e R .ret (act n env) w:=by
 refine⟨Z,_,?_,h⟩;have c:=congrFun (gD n env)<|.tmp a;rw[k]at c;simp only[Act.eval]at c;rw[Array.getD_eq_getD_getElem?]at c;have d:=AU (P:=P) l g m j Z;unfold results;rw[f];simp[c,asAddr,d]
end
theorem cutS_free{c:UInt8}{s:Str}(h:c∉s)(a:s.length<4294967281):cutS s [c]=some (s,[],false):=by
  unfold cutS;rw[mG a];rcases idx1 c s with⟨h1,h2⟩|⟨x,r,h1,h2,h3⟩
  · unfold Lib.cut;rw[h1,if_neg zq1]
  · exact absurd (by rw[h1];simp) h
theorem cutS_hit{c:UInt8}{x r:Str}(h:c∉x)(a:(x++c::r).length<4294967281):cutS (x++c::r) [c]=some (x,r,true):=by
  unfold cutS;rw[mG a];rcases idx1 c (x++c::r)with⟨h1,h2⟩|⟨y,q,h1,h2,h3⟩
  · exact absurd zq3 h2
  · have e:x=y/\r=q:=by
      have k1:=zQ (r:=r) h;have k2:=zQ (r:=q) h2;rw[<-h1,k1]at k2;injection k2 with k2 k3;subst k2;refine⟨Z,?_⟩;have:=List.append_cancel_left h1;injection this
    obtain⟨rfl,rfl⟩:=e;unfold Lib.cut;rw[h3,if_pos V];simp only[Int.toNat_natCast];rw[List.take_left,show x.length+[c].length=(x++[c]).length by simp,show x++c::r=(x++[c])++r by simp,List.drop_left]
theorem splitC_cons{c:UInt8}{s x y:Str}{l:List Str}(h:jr c s=x::y::l):∃r,s=x++c::r/\jr c r=y::l/\c∉x:=by
 have b:=(Cv c s x (by rw[h];exact List.mem_cons_self)).2;have a:=Ae c s;rw[h,xu]at a;refine⟨uD c<|y::l,a.symm,?_,b⟩;rw[<-a,zQ b]at h;injection h
theorem XO{c:UInt8}{s x:Str}(h:jr c s=[x]):s=x/\c∉x:=by
 have b:=(Cv c s x (by rw[h];exact List.mem_cons_self)).2;have a:=Ae c s;rw[h,Ad]at a;exact⟨a.symm,b⟩
open Go.RowKit Go.Proofs
def RngP{α:Type}(f:α->Value)(m r:Nat)(c:Option (Int×α))(left:List (Int×α))(w:World):Prop:=
 m≠r/\∃d a b,w.heap[m]? =some (.map d a)/\Jt d a/\w.heap[r]? =some (.mapIter (some m) a b a)/\
  (leftOf d b).toList.map (fun e=>(e.key,e.val))=left.map (fun p=>(Value.int .i64 p.1,f p.2))/\
  ∀p,c=some p->∃e∈d.toList,b.back?=some e.born/\e.key=.int .i64 p.1/\e.val=f p.2
def XP{α:Type}(f:α->Value)(m r:Nat)(last:Option (Int×α))(left:List (Int×α)):Pce where
  own x:=x=m\/x=r
  P w _:=RngP f m r last left w
  lt:=by
    rintro w A x⟨_,es,clock,seen,h1,_,h2,_⟩(rfl|rfl)
    · exact iB h1
    · exact iB h2
  go:=by
    rintro w w' A A' K⟨h0,es,clock,seen,h1,h2,h3,h4⟩hk hK hKo hA;exact⟨h0,es,clock,seen,hk.blk h1 fun h=>hKo m h<|.inl Z,h2,hk.blk h3 fun h=>hKo r h<|.inr Z,h4⟩
section
variable{P:Program}{ops:Array Oper}{Q:Exit->Act->World->Prop}{n:Nat}{env:Nat->Value}{w w' w0:World}{M K:BS}{hp:Nat->Chunk}{rest:List Oper}
 {d:Option Nat} {op:Op} {ty:TypeId} {pos:String} {af:Array Edge} {v:Value} {g:Option (Nat×Bool)} {T:TypeId} {ρ:Operand->Value} {x y:Operand} {α:Type} {f:α->Value}
theorem w_range{z:Value}{m:Nat}{jR:List (Int×Value)}(l:List (Int×α))(h:SH w0 M K w hp)(i:Nat)(t:hp i=.mp m jR)(B:MapOf P T z)(y:ev n env x=.map (some m))(A:jR=l.map fun p=>(p.1,f p.2))
    (k:∀w' r,SH w0 M K w' (bV hp i (.eH (XP f m r none l)))->WL P ops Q rest n (gm env d (.pointer (some ⟨r,0,none⟩))) w'):WL P ops Q (⟨d,.range T x,ty,pos,af,none⟩::rest) n env w:=by
  obtain⟨u,E,C,G,I⟩:=B.desc;obtain⟨e,a,q,j,s⟩:=h.mpAt i t;have c:(execOp (ev n env) ⟨d,.range T x,ty,pos,af,none⟩).run P w=.ok (.value<|.pointer<|some ⟨w.heap.size,0,none⟩) (w.alloc<|.mapIter (some m) a #[] a):=by
    simp only[execOp,y];simp[run_range_map w T u E m e a C q]
  refine F c<|k _ _ ?_;have g:=iB q;refine h.step i (N:=BE) (Grow.alloc _ _) (fun _ h=>h.elim) (fun b o v=>?_) ?_
  · rw[t];rcases o with rfl|rfl
    · rfl
    · exact absurd v<|Nat.lt_irrefl _
  · refine⟨Nat.ne_of_lt g,e,a,#[],by rw[(Grow.alloc _ _).blk q],s,heap_alloc_new _ _,?_,fun p h=>by cases h⟩;have:leftOf e #[]=e:=by unfold leftOf;exact Array.filter_eq_self.2 (fun x _=>by simp)
    rw[this,j,A,List.map_map];rfl
theorem Ur{r:Nat}{a:Option Nat}{s c:Nat}{d:Array Nat}(o:Obj)(b:w.heap[r]? =some (.mapIter a s d c)):(setObj r o).run P w=.ok () (uW w r o):=by
 simp only[setObj,Sem.run,b];rfl
theorem run_next_any(ty:TypeId){m r a:Nat}{f:Array MapEntry}{b:Array Nat}(y:w.heap[m]? =some (.map f a))(s:w.heap[r]? =some (.mapIter (some m) a b a))(i:∀e∈f.toList,e.born<a):
    ((leftOf f b).size=0/\(Instr.next (.pointer (some ⟨r,0,none⟩)) false ty).run P w=.ok (.tuple #[.bool false]) w)\/
    ∃e∈(leftOf f b).toList,∃d:World,(d=w\/d=w.drew)/\(Instr.next (.pointer (some ⟨r,0,none⟩)) false ty).run P w=.ok (.tuple #[.bool true,e.key,e.val]) (uW d r (.mapIter (some m) a (b.push e.born) a)):=by
  have q:(getObj r).run P w=.ok (.mapIter (some m) a b a) w:=by simp[getObj,Sem.run,s]
  have n:(getObj m).run P w=.ok (.map f a) w:=by simp[getObj,Sem.run,y]
  simp only[Instr.next,Sem.run_bind,q,n,Result.andThen_ok,next_test_false b f a a i (Nat.le_refl _),Bool.false_eq_true,if_false];unfold leftOf;have c:∀x∈(Array.filter (fun e=> !b.contains e.born) f).toList,x.born<a:=fun x g=>i x (by simp at g⊢;exact g.1);generalize Array.filter (fun e=> !b.contains e.born) f=L at c⊢;have v:L.filter (fun x=>decide<|x.born<a)=L:=Array.filter_eq_self.2 (fun x g=>by simpa using c x (by simpa using g));have A:L.filter (fun x=>decide<|x.born≥a)= #[]:=by
    rw[Array.filter_eq_empty_iff];intro x g;have:=c x (by simpa using g);simp;omega
  simp only[v,A,Array.append_empty];by_cases u:L.size=0
  · left;have:L= #[]:=Array.eq_empty_of_size_eq_zero u;subst this;refine⟨Z,?_⟩;simp[choose,Sem.run,Question.forced]
  · right;have l:L.isEmpty=false:=by simp[Array.isEmpty,u]
    simp only[l,Bool.false_eq_true,if_false,Array.empty_append,Array.size_map];have p:∃(j:Nat) (d:World),j<L.size/\(d=w\/d=w.drew)/\(choose<|Question.mapNext L.size).run P w=.ok j d:=by
      by_cases t:L.size<=1
      · exact⟨0,w,by omega,.inl Z,by simp[choose,Sem.run,Question.forced,t]⟩
      · exact⟨_,w.drew,Nat.mod_lt _ V,.inr Z,by
          simp only[choose,Sem.run,Question.forced,decide_eq_true_eq,t,if_false,Question.cut];rfl⟩
    obtain⟨j,d,z,k,h⟩:=p;refine⟨L[j],by simp,d,k,?_⟩;have o:d.heap[r]? =some (.mapIter (some m) a b a):=by rcases k with rfl|rfl<;>exact s
    simp only[h,Array.getElem?_map,Array.getElem?_eq_getElem z,Option.map_some,Sem.run_bind,Ur _ o,Result.andThen_ok];rfl
theorem leftOf_push(c:Array MapEntry)(a:Array Nat)(b:Nat):(leftOf c (a.push b)).toList=(leftOf c a).toList.filter (fun x=>x.born !=b):=by
 unfold leftOf;rw[Array.toList_filter,Array.toList_filter,List.filter_filter];apply List.filter_congr;intro x _;have:(a.push b).contains x.born=(a.contains x.born||(x.born==b)):=by
  rw[Bool.eq_iff_iff];simp[Array.contains_iff_mem]
 rw[this];cases a.contains x.born<;>cases hq:(x.born==b)<;>simp[bne,hq]
theorem w_next{m r:Nat}{y:Option (Int×α)}{left:List (Int×α)}(h:SH w0 M K w hp)(i:Nat)(O:hp i=.eH (XP f m r y left))(k:ev n env x=.pointer (some ⟨r,0,none⟩))
    (k0:left=[]->WL P ops Q rest n (gm env d (.tuple #[.bool false])) w)
    (k1:∀p g w',left.Perm (p::g)->SH w0 M K w' (bV hp i (.eH (XP f m r (some p) g)))->WL P ops Q rest n (gm env d (.tuple #[.bool true,.int .i64 p.1,f p.2])) w'):
    WL P ops Q (⟨d,.next x false,ty,pos,af,none⟩::rest) n env w:=by
  have R:=h.ok i;rw[O]at R;obtain⟨u,q,a,c,L,J,S,C,h5⟩:=R;rcases run_next_any (P:=P) ty L S J.1 with⟨g1,g2⟩|⟨e,he,w1,hw1,g2⟩
  · have X:left=[]:=by
      have:(leftOf q c).toList=[]:=List.eq_nil_of_length_eq_zero (by simpa using g1);rw[this]at C;cases left with
      |nil=>rfl
      |cons p l=>cases C
    refine F (v:=.tuple #[.bool false]) (w':=w) ?_<|k0 X;simp only[execOp,k];simp[g2]
  · obtain⟨A,B,o⟩:=List.append_of_mem he;rw[o,List.map_append,List.map_cons]at C;obtain⟨N,l2,rfl,q1,q2⟩:=List.map_eq_append_iff.1 C.symm;obtain⟨p,T,rfl,s,q4⟩:=List.map_eq_cons_iff.1 q2;simp only[Prod.mk.injEq]at s;have z:=iB S;have j:Grow w w1:=by
      rcases hw1 with rfl|rfl
      · exact bH.refl _ _
      · exact⟨Z,Z,Z,Nat.le_refl _,fun _ _ _=>rfl⟩
    have hk:bH (fun x=>x=m\/x=r) w (uW w1 r<|.mapIter (some m) a (c.push e.born) a):=bH.step (j.weaken fun _ h _=>h.elim) (bH.uW _ _ _) fun x k _=>.inr k;have G:(uW w1 r<|.mapIter (some m) a (c.push e.born) a).heap[m]? =some (.map q a):=by
      rw[(bH.uW w1 r _).block m u (Nat.lt_of_lt_of_le (iB L) j.size),j.blk L]
    refine F (v:=.tuple #[.bool true,.int .i64 p.1,f p.2]) (w':=uW w1 r<|.mapIter (some m) a (c.push e.born) a) ?_<|k1 p (N++T) _ (List.perm_middle) ?_
    · rw[s.1,s.2];simp only[execOp,k];simp[g2]
    · refine h.JB (S':=XP f m r (some p)<|N++T) i O ?_ hk fun b hb _=>hb;refine⟨u,q,a,c.push e.born,G,J,uw<|Nat.lt_of_lt_of_le z j.size,?_,fun p' E=>?_⟩
      · rw[leftOf_push,o];have t:((leftOf q c).toList.map (·.born)).Nodup:=by
          unfold leftOf;rw[Array.toList_filter];exact(J.2.sublist ((List.filter_sublist (l:=q.toList)).map _))
        rw[o,List.map_append,List.map_cons,List.nodup_append]at t;obtain⟨n1,n2,n3⟩:=t;rw[List.filter_append,List.filter_cons_of_neg zq3,List.filter_eq_self.2 (fun x k=>?_),List.filter_eq_self.2 (fun x k=>?_),List.map_append,List.map_append,<-q1,<-q4]
        · have:=(List.nodup_cons.1 n2).1;simp only[bne_iff_ne,ne_eq,decide_not,Bool.not_eq_true',beq_eq_false_iff_ne];intro I;exact this (by rw[<-I];exact List.mem_map.2 ⟨x,k,Z⟩)
        · simp only[bne_iff_ne,ne_eq,decide_not,Bool.not_eq_true',beq_eq_false_iff_ne];intro I;exact n3 x.born (List.mem_map.2 ⟨x,k,Z⟩) e.born zq3 I
      · cases E;refine⟨e,?_,by simp,s.1.symm,s.2.symm⟩;have:e∈(leftOf q c).toList:=he;unfold leftOf at this;rw[Array.toList_filter]at this;exact(List.mem_filter.1 this).1
theorem r_entry{m r:Nat}{p:Int×α}{left:List (Int×α)}(h:SH w0 M K w hp)(i:Nat)(C:hp i=.eH (XP f m r (some p) left))(A:ρ x=.pointer (some ⟨r,0,none⟩)):
    (execOp ρ ⟨d,.entry x,ty,pos,af,g⟩).run P w=.ok (.value (.tuple #[.int .i64 p.1,f p.2])) w:=by
  have l:=h.ok i;rw[C]at l;obtain⟨q,j,a,b,s,o,u,E,y⟩:=l;obtain⟨e,B,n,z,v⟩:=y p Z;have c:(getObj r).run P w=.ok (.mapIter (some m) a b a) w:=by simp[getObj,Sem.run,u]
  have k:(getObj m).run P w=.ok (.map j a) w:=by simp[getObj,Sem.run,s]
  have t:j.find? (·.born==e.born)=some e:=by rw[<-Array.find?_toList];exact find_born e j.toList o.2 B
  simp only[execOp,A];have:(Instr.entry<|.pointer<|some ⟨r,0,none⟩).run P w=.ok (.tuple #[.int .i64 p.1,f p.2]) w:=by
    simp only[Instr.entry,Sem.run_bind,c,k,Result.andThen_ok,n,bne_self_eq_false,Bool.false_eq_true,if_false,t];rw[z,v];rfl
  simp[this]
theorem SH.Yp{m r:Nat}{c:Option (Int×α)}{left:List (Int×α)}(h:SH w0 M K w hp)(i:Nat)(j:hp i=.eH (XP f m r c left)):SH w0 M K w (bV hp i (.eH (XP f m r none left))):=by
 have g:=h.ok i;rw[j]at g;obtain⟨e,s,a,d,n,l,q,k,t⟩:=g;exact h.JB (S':=XP f m r none left) i j ⟨e,s,a,d,n,l,q,k,fun p h=>by cases h⟩ (bH.refl _ _) fun b o _=>o
end
def Va{α σ:Type}(step:α->σ->Option σ):List α->σ->Option σ
 |[],s=>some s
 |a::l,s=>(step a s).bind (Va step l)
def zC{α σ:Type}(step:α->σ->Option σ)(L:List α)(s a:σ):Prop:=∀p,p.Perm L->Va step p s=some a
open Classical in
noncomputable def GI{α σ:Type}(step:α->σ->Option σ)(L:List α)(s:σ):Option σ:=if h:∃a,zC step L s a then some h.choose else none
theorem o_fold{α σ:Type}{step:α->σ->Option σ}{L:List α}{s a:σ}(h:GI step L s=some a):zC step L s a:=by
  unfold GI at h;split at h
  · rename_i b;cases h;exact b.choose_spec
  · cases h
theorem foldAny_eq{α σ:Type}{step:α->σ->Option σ}{L:List α}{s a:σ}(h:zC step L s a):GI step L s=some a:=by
 have c:∃a,zC step L s a:=⟨a,h⟩;unfold GI;rw[dif_pos c];have b:=c.choose_spec L<|List.Perm.refl _;rw[h L (List.Perm.refl _)]at b;exact b.symm
theorem zC.nil{α σ:Type}{step:α->σ->Option σ}{s a:σ}(h:zC step [] s a):s=a:=by
 have:=h []<|List.Perm.refl _;exact Option.some.inj this
theorem zC.cons{α σ:Type}{step:α->σ->Option σ}{L L':List α}{p:α}{s a:σ}(h:zC step L s a)(hp:L.Perm (p::L')):∃b,step p s=some b/\zC step L' b a:=by
 have e:=h (p::L') hp.symm;obtain⟨b,c,f⟩:=az e;refine⟨b,c,fun q d=>?_⟩;have:=h (p::q) ((d.cons p).trans hp.symm);unfold Va at this;rw[c]at this;exact this
open Go.RowKit Go.Proofs
section
variable{w0 w w':World}{M K:BS}{hp:Nat->Chunk}{C:Chunk}
theorem SH.JC{b:Nat}{cs:List Value}(h:SH w M K w hp)(i:Nat)(ho:∃E,w.heap[b]? =some (.cells cs.toArray E (0,0)))(c:¬C.own' b)(hn:∀b,iC hp b->C.own' b):SH w M K w (bV hp i (.pt b 0 cs)):=by
 obtain⟨E,a⟩:=ho;exact h.pt i (fun h=>c<|hn b h) ⟨_,E,_,a,by simp⟩
theorem yt{i b o:Nat}{cs:List Value}(hn:∀b,iC hp b->C.own' b):∀x,iC (bV hp i (.pt b o cs)) x->C.own' x:=by
  rintro x⟨j,a⟩;by_cases e:j=i
  · subst e;rw[dh]at a;exact a.elim
  · rw[eZ e]at a;exact hn x ⟨j,a⟩
theorem SH.loseC3{c e f:Chunk}(h:SH w0 M K w hp)(i j k:Nat)(g:i≠j)(d:i≠k)(m:j≠k)(r:hp i=c)(p:hp j=e)(l:hp k=f)(q:bH (fun b=>c.own' b\/e.own' b\/f.own' b) w w'):
    SH w0 M K w' (bV (bV (bV (bV (bV hp j .no) i (.two (hp i) (hp j))) k .no) i (.two ((bV (bV hp j .no) i (.two (hp i) (hp j))) i) ((bV (bV hp j .no) i (.two (hp i) (hp j))) k))) i .no):=by
  have o:=h.pair i j g;have n:=o.pair i k d;refine n.lN i (dh _ _ _) ?_;rw[dh,eZ (fun e=>d e.symm),eZ (fun e=>m e.symm),r,p,l];refine q.weaken fun b a _=>?_;rcases a with a|a|a
  · exact .inl<|.inl a
  · exact .inl<|.inr a
  · exact .inr a
end
section
variable{α:Type}{R:kL α}{E:TypeId}{w0 w w':World}{M K A:BS}{hp:Nat->Chunk}{C:Chunk}{v:Value}{l:List α}
theorem cK.srcB{B:BS}(h:cK R E w A v l)(x:∀b,ob v b->¬B b):ed R w B A v l:=by
  have s:=h.src;obtain⟨xs,u,z⟩:=h;rcases u.2 with⟨rfl,hn⟩|⟨g,cap,cur,rfl,e1,e2,e3,e4,e5,e6⟩
  · have:l=[]:=List.eq_nil_of_length_eq_zero hn;subst this;exact ed.nil
  · obtain⟨a,d,e,r,t,j,n⟩:=s;refine⟨a,d,e,r,t,j,fun i m=>?_⟩;obtain⟨b,o,cells,c,p,f,y,k,q⟩:=n i m;refine⟨b,o,cells,c,p,f,?_,k,q⟩;subst f;simp only[Value.slice.injEq,Option.some.injEq,Addr.mk.injEq]at e;exact x b (by simp[ob,e.1.1])
theorem GJ{i:Nat}(hn:∀b,iC hp b->C.own' b):∀b,iC (bV hp i (.sr R v l)) b->C.own' b:=by
  rintro b⟨j,a⟩;by_cases e:j=i
  · subst e;rw[dh]at a;exact a.elim
  · rw[eZ e]at a;exact hn b ⟨j,a⟩
theorem SH.argSrC(h:SH w M K w hp)(i:Nat)(ho:ed R w C.own' (fun b=>M b\/C.own' b) v l)(hn:∀b,iC hp b->C.own' b):SH w M K w (bV hp i (.sr R v l)):=
 h.know i (fun _ h=>h) (ho.sub (fun b a _=>hn b a) (fun b a _=>a.imp id (hn b)))
theorem av_all{i:Nat}(c:hp i=C):∀b,(M b\/rest hp i b)\/C.own' b->SH.A M hp b:=by
  rintro b((a|a)|a)
  · exact .inl a
  · exact .inr<|kP a
  · exact .inr ⟨i,by rw[c];exact a⟩
theorem SH.ownSr(h:SH w0 M K w hp)(i j:Nat)(a:i≠j)(d:hp j=.own R E v l)(e:hp i=C):ed R w C.own' (fun b=>(M b\/rest hp i b)\/C.own' b) v l:=
 ((h.bF j d).srcB (B:=C.own') (fun b c f=>h.apart i j a b (by rw[e];exact f) (by rw[d];exact c))).sub (fun _ h _=>h) (fun b c _=>av_all e b c)
theorem SH.srSr(h:SH w0 M K w hp)(i j:Nat)(d:hp j=.sr R v l)(c:hp i=C):ed R w C.own' (fun b=>(M b\/rest hp i b)\/C.own' b) v l:=
 (h.srAt j d).sub (fun b a _=>⟨i,by rw[c];exact a⟩) (fun b a _=>av_all c b a)
end
def P8(s:Str):Option (List Str):=ic (s.length<4294967281/\(s.all fun b=>decide (b.toNat<128))=true/\(Lib.fields s).length<=4294967281) (some (Lib.fields s))
theorem fields_w{P:Program}{f:FuncId}{E:TypeId}{g q:Nat}{w0:World}{M:BS}(h:∀(s:ByteArray) (w:World),s.size<4294967281->(∀(j:Nat) b,s.data.toList[j]? =some b->b.toNat<128)->Lib.TabIs P w "strings.asciiSpace" .u8 Lib.asciiSpaceTab->
    Calls P f #[.string s] w fun e w'=>e=.returned (.slice (some ⟨w.heap.size,0,none⟩) (Lib.fields s.data.toList).length (Lib.fields s.data.toList).length)/\w'=w.alloc (.cells ((Lib.fields s.data.toList).map fun l=>Value.string ⟨l.toArray⟩).toArray E))
    (d:P.globalNamed "strings.asciiSpace" =some q) (c:∀b,M b->b<w0.heap.size) (k:qj P g w0) {s:Str} {r:List Str} (a:P8 s=some r):Calls P f #[bB s] w0 (fun e w'=>Grow w0 w'/\∃u,e=.returned u/\cz sH w' M u r):=by
  obtain⟨⟨m,i,o⟩,a⟩:=bC a;cases a;refine(h ⟨s.toArray⟩ w0 (by rw[uC];exact m) (fun j b n=>?_) (k.asc q d)).mono ?_
  · have:=List.all_eq_true.1 i b<|List.mem_of_getElem? (by simpa using n);simpa using this
  · rintro e w'⟨rfl,rfl⟩;refine⟨Grow.alloc _ _,_,Z,?_⟩;have:=strs_rd (E:=E) (l:=(Lib.fields s).map fun l=>(⟨l.toArray⟩:ByteArray)) (cap:=(Lib.fields s).length) (cells:=((Lib.fields s).map fun l=>Value.string ⟨l.toArray⟩).toArray) w0 c (by rw[List.length_map];exact Nat.le_refl _) (by unfold maxLen;omega) (fun j p=>by simp);rw[List.length_map,List.map_map]at this;have e:(List.map (((fun x=>x.data.toList):ByteArray->Str)∘fun l=>⟨l.toArray⟩)<|Lib.fields s)=Lib.fields s:=by simp[Function.comp_def]
    simpa[Function.comp_def]using this
open Go.RowKit Go.Proofs Go.ChangeShapes
def NC(b o:Nat)(r:Nat×Nat×Nat):Bool:=Nat.beq r.1 b&&(Nat.ble r.2.1 o&&Nat.blt o (r.2.1+r.2.2))
def Rn(b o:Nat):List (Nat×Nat×Nat)->List (Nat×Nat×Nat)
 |[]=>[(b,o,1)]
 |(c,s,l)::r=>bif Nat.beq c b&&Nat.beq (o+1) s then(b,o,l+1)::r else(b,o,1)::(c,s,l)::r
def ZP:List MemPlace->Option (List (Nat×Nat×Nat))
 |[]=>some []
 | .cell b o::r=>(ZP r).bind fun a=>bif a.any (NC b o)then none else some (Rn b o a)
 |_::_=>none
theorem addRun_old{b o c q:Nat}{a:List (Nat×Nat×Nat)}(h:a.any (NC c q)=true):(Rn b o a).any (NC c q)=true:=by
  cases a with
  |nil=>cases h
  |cons r a=>
    obtain⟨d,s,l⟩:=r;have e:Rn b o ((d,s,l)::a)=bif Nat.beq d b&&Nat.beq (o+1) s then(b,o,l+1)::a else(b,o,1)::(d,s,l)::a:=rfl;rw[e];cases hc:(Nat.beq d b&&Nat.beq (o+1) s)with
    |false=>rw[cond_false,List.any_cons,h,Bool.or_true]
    |true=>
      rw[cond_true];simp only[Bool.and_eq_true,Nat.beq_eq]at hc;obtain⟨rfl,rfl⟩:=hc;rw[List.any_cons]at h⊢;rcases Bool.or_eq_true_iff.1 h with h|h
      · unfold NC at h⊢;simp only[Bool.and_eq_true,Nat.beq_eq,Nat.ble_eq,Nat.blt_eq]at h;have:(Nat.beq d c&&(Nat.ble o q&&Nat.blt q (o+(l+1))))=true:=by
          simp only[Bool.and_eq_true,Nat.beq_eq,Nat.ble_eq,Nat.blt_eq];omega
        rw[this,Bool.true_or]
      · rw[h,Bool.or_true]
theorem addRun_new{b o:Nat}{a:List (Nat×Nat×Nat)}:(Rn b o a).any (NC b o)=true:=by
 cases a with
 |nil=>simp[Rn,NC]
 |cons r a=>
  obtain⟨d,s,l⟩:=r;have e:Rn b o ((d,s,l)::a)=bif Nat.beq d b&&Nat.beq (o+1) s then(b,o,l+1)::a else(b,o,1)::(d,s,l)::a:=rfl;rw[e];cases (Nat.beq d b&&Nat.beq (o+1) s)with
  |false=>simp[NC]
  |true=>simp[NC]
theorem P9:∀{f:List MemPlace} {d:List (Nat×Nat×Nat)},ZP f=some d->f.Nodup/\∀b o,MemPlace.cell b o∈f->d.any (NC b o)=true
  |[],d,h=>⟨List.nodup_nil,fun _ _ a=>by cases a⟩
  | .cell b o::r,d,h=>by
    unfold ZP at h;obtain⟨q,j,h⟩:=Option.bind_eq_some_iff.1 h;obtain⟨i,g⟩:=P9 j;cases hc:q.any (NC b o)with
    |true=>rw[hc]at h;cases h
    |false=>
      rw[hc,cond_false]at h;cases h;refine⟨List.nodup_cons.2 ⟨fun a=>(by rw[g b o a]at hc;cases hc),i⟩,fun c p a=>?_⟩;rcases List.mem_cons.1 a with e|a
      · cases e;exact addRun_new
      · exact addRun_old<|g c p a
  | .map _::_,d,h=>by cases h
theorem Us{P:Program}{w:World}{l:List (String×DataW Unit)}(fuel:Nat)(h:(DataW.laidRun P w fuel (l.map (·.1))).map (·.1)=some l)
    (a:(DataW.laidRun P w fuel (l.map (·.1))).map (fun x=>(ZP x.2).isSome&&laidRowsB P w x.2)=some true):laidMet P l w:=by
  cases hx:DataW.laidRun P w fuel (l.map (·.1))with
  |none=>simp[hx]at h
  |some x=>
    obtain⟨e,d⟩:=x;simp only[hx,Option.map_some,Option.some.injEq]at h a;subst h;simp only[Bool.and_eq_true]at a;obtain⟨c,b⟩:=Option.isSome_iff_exists.1 a.1;exact laidMet_of_run fuel hx (decide_eq_true (P9 b).1) a.2
structure gp where
 at_:Int
 ok:Bool
deriving DecidableEq
open Go.RowKit Go.Proofs
section
variable{α β:Type}{N:NW α β}{R:kL β}{E Es T:TypeId}{w0 w w':World}{M K A:BS}{hp:Nat->Chunk}{v u u':Value}{us us':List Value}{L L':List α}{ss ss':List (List β)}{s:List β}{x y:α}{k:Nat}{ho ho':Nat->Prop}{C:Chunk}
theorem Ua{b:Type}(P:Nat->b->Prop):∀(n:Nat),(∀i,i<n->∃u,P i u)->∃us:List b,us.length=n/\∀i u,us[i]? =some u->P i u
  |0,_=>⟨[],rfl,fun i u h=>by cases h⟩
  |n+1,h=>by
    obtain⟨us,d,e⟩:=Ua P n fun i g=>h i V;obtain⟨u,c⟩:=h n V;refine⟨us++[u],by simp[d],fun i z a=>?_⟩;rw[List.getElem?_append]at a;split at a
    · exact e i z a
    · rename_i f;have:i-us.length=0:=by
        rcases Nat.eq_zero_or_pos (i-us.length)with h0|h0
        · exact h0
        · rw[List.getElem?_eq_none (by simp;omega)]at a;cases a
      rw[this]at a;cases a;obtain rfl:i=n:=by omega
      exact c
def hge(k:Nat):Nat->Prop:=fun i=>k<=i
def JD{β:Type}(R:kL β)(k:Nat)(us:List Value)(ss:List (List β)):Pce where
 own:=BE
 P w A:=∀i u s,k<=i->us[i]? =some u->ss[i]? =some s->cz R w A u s
 lt:=fun _ h=>h.elim
 go:=fun h hk hK hKo hA i u s hi hu hs=>cz.go (h i u s hi hu hs) hk hK (fun b hb hl=>(hA b hb hl).elim id (fun h=>h.elim))
theorem SH.famHo(h:SH w0 M K w hp)(j:Nat)(ho':Nat->Prop)(a:hp j=.eH (bO R E ho us ss))(d:∀i,ho i↔ho' i):SH w0 M K w (bV hp j (.eH (bO R E ho' us ss))):=by
 have e:ho=ho':=funext fun i=>propext<|d i;subst e;exact h.JB (S':=bO R E ho us ss) j a (h.Yn j a) (bH.refl _ _) fun b c _=>c
theorem SH.thaw{R':kL α}(h:SH w0 M K w hp)(i j q:Nat)(k:hp i=.own R' E v L)(X:i≠j)(G:i≠q)(O:j≠q)(m:R'.sz=N.sz)(op:∀w A cs x,R'.rd w A cs x->∃u,cs=N.enc x u/\cz R w A u (N.sub x)):
    ∃us,us.length=L.length/\SH w0 M K w (bV (bV (bV hp i (.own N.raw E v (L.zip us))) j (.eH (bO R Es (hge 0) us (L.map N.sub)))) q (.eH (JD R 0 us (L.map N.sub)))):=by
  have ho:=h.bF i k;have T:=ho;obtain⟨xs,h1,Q⟩:=ho;obtain⟨us,o,l⟩:=Ua (fun i u=>∃k:i<L.length,(xs.drop (i*R'.sz)).take R'.sz=N.enc L[i] u/\cz R w (fun b=>SH.A M hp b\/ob v b) u (N.sub L[i])) L.length (fun i k=>by
    obtain⟨u,r,n⟩:=op _ _ _ _<|Q i k;exact⟨u,k,r,n⟩)
  refine⟨us,o,?_⟩;have S:SH w0 M K w (bV hp i<|.own N.raw E v<|L.zip us):=by
    refine h.step i (bH.refl BE w) (fun _ h=>h.elim) (fun b a _=>by rw[k];exact a) ⟨xs,?_,?_⟩
    · rw[gq o];show w.ownsRow 0 E N.sz v L.length xs;rw[<-m];exact h1
    · intro q C;have P:q<L.length:=by rw[gq o]at C;exact C
      have y:q<us.length:=by omega
      obtain⟨_,r,n⟩:=l q us[q]<|List.getElem?_eq_getElem y;refine⟨?_,?_⟩
      · show(xs.drop<|q*N.sz).take N.sz=N.enc ((L.zip us)[q]).1 ((L.zip us)[q]).2;rw[List.getElem_zip,<-m];exact r
      · rw[List.getElem_zip];exact n.one
  have d:∀b,¬EK (hge 0) us b:=fun b⟨i,u,_,hn,_⟩=>hn<|Nat.zero_le i;have I:SH w0 M K w (bV (bV hp i<|.own N.raw E v<|L.zip us) j<|.eH<|bO R Es (hge 0) us<|L.map N.sub):=
    S.know j (c:=.eH (bO R Es (hge 0) us (L.map N.sub))) (fun b a=>d b a) ⟨by rw[List.length_map];exact o,fun i u s _ _ hn=>absurd (Nat.zero_le i) hn,fun i j u v _ hn=>absurd (Nat.zero_le i) hn⟩
  refine I.know q (c:=.eH<|JD R 0 us<|L.map N.sub) (fun b a=>a) ?_;intro p u s _ J B;obtain⟨t,r,n⟩:=l p u J;rw[List.getElem?_map,List.getElem?_eq_getElem t]at B;cases B;have f:∀b,(M b\/iC (bV (bV hp i<|.own N.raw E v<|L.zip us) j<|.eH<|bO R Es (hge 0) us<|L.map N.sub) b)->SH.A M hp b\/ob v b:=by
    rintro b(a|⟨c,g⟩)
    · exact .inl<|.inl a
    · by_cases e:c=j
      · subst e;rw[dh]at g;exact absurd g (d b)
      · rw[eZ e]at g;by_cases z:c=i
        · subst z;rw[dh]at g;exact .inr g
        · rw[eZ z]at g;exact .inl (.inr ⟨c,g⟩)
  exact n.sub (fun b a _=>f b a) fun b a _=>f b a
theorem SH.rdpAt(h:SH w0 M K w hp)(q:Nat)(d:hp q=.eH (JD R k us (L.map N.sub)))(c:us.length=L.length)(a:L[k]? =some x):∃u,us[k]? =some u/\cz R w (SH.A M hp) u (N.sub x):=by
 obtain⟨u,b⟩:=us_at c a;exact⟨u,b,h.pceAt q d k u _ (Nat.le_refl _) b (by rw[List.getElem?_map,a];rfl)⟩
theorem SH.rdpStep(h:SH w0 M K w hp)(q:Nat)(d:hp q=.eH (JD R k us ss)):SH w0 M K w (bV hp q (.eH (JD R (k+1) (us.set k u) (ss.set k s)))):=by
 have f:=h.pceAt q d;refine h.JB (S':=JD R (k+1) (us.set k u)<|ss.set k s) q d ?_ (bH.refl _ _) fun b e _=>e;intro i z t g c a;rw[List.getElem?_set_ne V]at c a;exact f i z t V c a
theorem SH.pendPut(h:SH w0 M K w hp)(j q m:Nat)(y:α)(l:hp j=.eH (bO R Es (hge k) us (L.map N.sub)))(p:hp q=.eH (JD R k us (L.map N.sub)))(t:hp m=.own R Es u s)(d:j≠q)(b:j≠m)(c:q≠m)(n:L[k]? =some x)(f:us[k]? =some u')(o:N.sub y=s):
    SH w0 M K w (bV (bV (bV (bV (bV hp q (.eH (JD R (k+1) (us.set k u) ((L.map N.sub).set k s)))) j (.eH (bO R Es (hge k) (us.set k u) ((L.map N.sub).set k s)))) m .no) j (.eH (bO R Es (hge (k+1)) (us.set k u) (((L.map N.sub).set k s).set k s)))) j (.eH (bO R Es (hge (k+1)) (us.set k u) ((L.set k y).map N.sub)))):=by
  have A:=h.rdpStep (u:=u) (s:=s) q p;have g:=h.jE j l;have v:=A.famRe (us':=us.set k u) (ss':=(L.map N.sub).set k s) j (by rw[eZ d];exact l) (by simp[g]) (fun i a=>by
    have:k≠i:=fun e=>a (by subst e;exact Nat.le_refl _);rw[List.getElem?_set_ne this,List.getElem?_set_ne this];exact⟨Z,Z⟩)
  have z:=NY n;have B:=v.P6 j m (k:=k) (u:=u) (s:=s) (dh _ _ _) (by rw[eZ (fun e=>b e.symm),eZ (fun e=>c e.symm)];exact t) b (Yo f) (Nat.le_refl k) (hge (k+1)) (fun i=>⟨fun a=>by
    rcases Nat.eq_or_lt_of_le (show k<=i from a)with e|e
    · exact .inr e.symm
    · exact .inl e,fun a=>a.elim (fun a=>Nat.le_of_succ_le a) (fun e=>by subst e;exact Nat.le_refl _)⟩) (fun a=>absurd a (Nat.not_succ_le_self k))
  have e:((L.map N.sub).set k s).set k s=(L.set k y).map N.sub:=by rw[List.set_set,List.map_set,o]
  have r:=B.famRe (us':=us.set k u) (ss':=(L.set k y).map N.sub) j (dh _ _ _) (by simp[g]) (fun i a=>⟨Z,by rw[e]⟩);exact r
theorem SH.ZQ(h:SH w0 M K w hp)(j:Nat)(m:hp j=.eH (bO R Es (hge k) us (L.map N.sub)))(r:L.length<=k):SH w0 M K w (bV hp j (.eH (bO R Es hn us (L.map N.sub)))):=by
  have q:=h.jE j m;have e:=h.Yn j m;have a:∀i (z:Value),us[i]? =some z->¬hge k i:=fun i z c p=>by
    have:=NY c;have:k<=i:=p;omega
  refine h.JB (S':=bO R Es hn us<|L.map N.sub) j m ⟨e.1,fun i z t c o _=>?_,fun i j z v f _ _ c n=>e.2.2 i j z v f (a i z c) (a j v n) c n⟩ (bH.refl _ _) fun b⟨i,z,d,_,l⟩_=>⟨i,z,d,a i z d,l⟩;refine(e.2.1 i z t c o<|a i z c).go (bH.refl BE w) (fun _ h=>h.elim) (fun _ h=>h.elim) fun b g _=>?_;rcases g with g|⟨i,z,d,_,l⟩
  · exact .inl<|.inl g
  · exact .inl<|.inr ⟨i,z,d,a i z d,l⟩
def hmv(a:List Int):Nat->Prop:=fun i=>(i:Int)∈a
theorem SH.famMv0(h:SH w0 M K w hp)(j:Nat)(a:hp j=.eH (bO R Es hn us ss)):SH w0 M K w (bV hp j (.eH (bO R Es (hmv []) us ss))):=
 h.famHo j (hmv []) a (fun i=>⟨fun h=>h.elim,fun h=>by cases h⟩)
theorem SH.mvOpen{c:List Int}{a:Int}(h:SH w0 M K w hp)(j m:Nat)(f:hp j=.eH (bO R Es (hmv c) us (L.map N.sub)))(n:hp m=.no)(d:j≠m)(o:0<=a)(g:L[a.toNat]? =some x)(b:a∉c):
    ∃u,us[a.toNat]? =some u/\SH w0 M K w (bV (bV hp j (.eH (bO R Es (hmv (c++[a])) us (L.map N.sub)))) m (.own R Es u (N.sub x))):=by
  have l:=h.jE j f;obtain⟨u,k⟩:=us_at l g;have e:((a.toNat:Nat):Int)=a:=Int.toNat_of_nonneg o;refine⟨u,k,h.famOpen j m f n d k (by rw[List.getElem?_map,g];rfl) (fun h=>b (by rw[<-e];exact h)) (hmv (c++[a])) (fun i=>?_)⟩;unfold hmv;rw[List.mem_append,List.mem_singleton];constructor
  · rintro(h|h)
    · exact .inl h
    · exact .inr V
  · rintro(h|h)
    · exact .inl h
    · exact .inr (by rw[h];exact e)
theorem SH.ZR(h:SH w0 M K w hp)(i:Nat)(d:Grow w w')(e:C.PV)(c:C.holds w' (SH.A M hp) C.own')(hn:∀b,C.own' b->w.heap.size<=b):SH w0 M K w' (bV hp i C):=
  h.learn i d hn (Chunk.re e c (fun b a _=>by
    rcases a with a|a|a
    · exact .inl<|.inl a
    · exact .inl<|.inr a
    · exact .inr a))
theorem ZT(ho:∀b,C.own' b->b<w0.heap.size->BE b):∀b,C.own' b->w0.heap.size<=b:=fun b a=>Nat.le_of_not_lt (fun c=>ho b a c)
theorem nLst_op{R:kL β}:∀(w:World) (A:BS) cs (x:List β),(tK R).rd w A cs x->∃u,cs=(dm β).enc x u/\cz R w A u ((dm β).sub x):=fun _ _ _ _ h=>h
end
theorem Ro:∀(w:World) (A:BS) cs (x:Frame),jv.rd w A cs x->∃u,cs=aS.enc x u/\cz bG w A u (aS.sub x):=fun _ _ _ _ h=>h
def JE{α:Type}(k:Int)(v:α):List (Int×α)->List (Int×α)
 |[]=>[(k,v)]
 |p::r=>if k=p.1 then(p.1,v)::r else p::JE k v r
theorem MM{α:Type}{f:α->Value}{k:Int}{v:α}:∀(l:List (Int×α)),U0 (l.map fun p=>(p.1,f p.2)) k (f v)=(JE k v l).map fun p=>(p.1,f p.2)
  |[]=>rfl
  |p::r=>by
    show(if k=p.1 then(p.1,f v)::_ else(p.1,f p.2)::U0 _ k (f v))=_;unfold JE;split
    · rfl
    · rw[MM r];rfl
theorem Gx.keep{w w':World}{K:BS}{b:Nat}{jR:List (Int×Value)}(h:Gx w b jR)(g:bH K w w')(hn:¬K b):Gx w' b jR:=by
 obtain⟨f,c,d,a,e⟩:=h;exact⟨f,c,g.blk d hn,a,e⟩
section
variable{P:Program}{w:World}{ρ:Operand->Value}{d:Option Nat}{ty:TypeId}{pos:String}{af:Array Edge}{g:Option (Nat×Bool)}{T:TypeId}
theorem r_lk1M{α:Type}{f:α->Value}{zz:α}{z:Value}{x y:Operand}{b:Nat}{k:Int}(l:List (Int×α))(a:Gx w b (l.map fun p=>(p.1,f p.2)))(h:MapOf P T z)(e:ρ x=.map (some b))(i:ρ y=.int .i64 k)(c:z=f zz):
  (execOp ρ ⟨d,.lookup T x y false,ty,pos,af,g⟩).run P w=.ok (.value (f ((lk k l).getD zz))) w:=by
 have:=r_lookup (d:=d) (ty:=ty) (pos:=pos) (af:=af) (g:=g) h e i a;rw[c,UE]at this;exact this
end
open Go.RowKit Go.Proofs Go.MapKept
section
variable{P:Program}{ops:Array Oper}{Q:Exit->Act->World->Prop}{n:Nat}{env:Nat->Value}{w w' w0:World}{M K:BS}{hp:Nat->Chunk}{rest:List Oper}
 {d:Option Nat} {op:Op} {ty:TypeId} {pos:String} {af:Array Edge} {v:Value} {g:Option (Nat×Bool)} {T:TypeId} {ρ:Operand->Value}
theorem made_drop(zs:List Value)(m q:Nat)(c:q<m):((madeCells zs.toArray (m*zs.length)).toList.drop (q*zs.length)).take zs.length=zs:=by
  apply List.ext_getElem?;intro i;rw[List.getElem?_take];split
  · rename_i a;rw[List.getElem?_drop];have b:q*zs.length+i<m*zs.length:=by
      have:=Nat.mul_le_mul_right zs.length (show q+1<=m from c);rw[Nat.succ_mul]at this;omega
    have d:(q*zs.length+i)%zs.length=i:=by rw[Nat.mul_comm,Nat.mul_add_mod];exact Nat.mod_eq_of_lt a
    simp[madeCells,b,d,a]
  · rename_i a;rw[List.getElem?_eq_none V]
theorem Ih{α:Type}{R:kL α}{E:TypeId}{c l:Nat}{k:Int}{zs:List Value}{x y:Operand}{a:α}(h:SH w0 M K w hp)(i:Nat)(C:jY P T E l c)(O:vv P E zs)(G:R.sz=l)(s:0<c)(S:ev n env x=.int .i64 k)(hy:ev n env y=.int .i64 k)
    (hk:0<=k/\k*c<=140737488355328) (N:zs.length=l) (ha:∀w A,R.rd w A zs a)
    (kk:∀w' u,SH w0 M K w' (bV hp i (.own R E u (List.replicate k.toNat a)))->Grow w w'->(∀b,ob u b->w.heap.size<=b)->WL P ops Q rest n (gm env d u) w'):
    WL P ops Q (⟨d,.makeSlice T x y,ty,pos,af,none⟩::rest) n env w:=by
  obtain⟨h0,h1⟩:=hk;obtain⟨m,rfl⟩:=Int.eq_ofNat_of_zero_le h0;obtain⟨j,z',B,X,z,t,a0⟩:=C.info;have g:=O.info;rw[B]at g;simp only[Option.map_some,Option.some.injEq,Prod.mk.injEq]at g;have a1:m<=m*c:=Nat.le_mul_of_pos_right _ s;have J:m*c<=140737488355328:=by
    have:((m*c:Nat):Int)<=140737488355328:=by rw[Int.natCast_mul];exact h1
    omega
  obtain⟨w',hr,ho,L⟩:=run_make_full (P:=P) w 0 T E j _ l C.desc B g.1 z .i64 .i64 m (by rw[t,Nat.mul_comm];omega) (by unfold maxLen;omega) (Nat.zero_le _);have p:Grow w w':=(zy (v:=.slice none 0 0) L).weaken fun _ h _=>h.elim;have o:(execOp (ev n env) ⟨d,.makeSlice T x y,ty,pos,af,none⟩).run P w=.ok (.value<|.slice (some ⟨w.heap.size,0,none⟩) m m) w':=by
    simp only[execOp,Sem.run_bind,Sem.run_pure,Result.andThen_ok,S,hy,hr]
  have f:∀b,ob (.slice (some ⟨w.heap.size,0,none⟩) m m) b->w.heap.size<=b:=fun b s=>by
    have:b=w.heap.size:=s;omega
  refine F o<|kk w' _ (h.wK i p ⟨(madeCells zs.toArray<|m*l).toList,?_,?_⟩ f) p f
  · rw[G];rw[List.length_replicate];exact ho
  · intro q I;simp only[List.length_replicate]at I;have r:q<m:=I;have e:((madeCells zs.toArray<|m*l).toList.drop<|q*R.sz).take R.sz=zs:=by rw[G,<-N];exact made_drop zs m q r
    rw[e];simp only[List.getElem_replicate];exact ha _ _
end
open Go.RowKit Go.Proofs
section
variable{α β:Type}{N:NW α β}{R:kL β}{E Es T:TypeId}{w0 w w':World}{M K A:BS}{hp:Nat->Chunk}{u u':Value}{us:List Value}{L:List α}{s:List β}{x:α}{k:Nat}
theorem Ii{a:Type}{l:List a}{z:a}{i:Int}(b:i=(k:Int))(h:l[i.toNat]? =some z):l[k]? =some z:=by subst b;simpa using h
theorem at_pd{a:Type}{l:List a}{z:a}{i:Int}(b:i=(k:Int))(h:l[k]? =some z):l[i.toNat]? =some z:=by subst b;simpa using h
theorem Vb{i:Int}(a:i=(k:Int)):i.toNat=k:=by subst a;simp
theorem SH.Vd(h:SH w0 M K w hp)(j q m:Nat)(n:hp j=.eH (bO R Es (hge k) us (L.map N.sub)))(l:hp q=.eH (JD R k us (L.map N.sub)))(o:hp m=.own R Es u s)(d:j≠q)(c:j≠m)(a:q≠m)(f:L[k]? =some x)(b:us[k]? =some u')(i:N.sub x=s):
  SH w0 M K w (bV (bV (bV (bV (bV hp q (.eH (JD R (k+1) (us.set k u) (L.map N.sub)))) j (.eH (bO R Es (hge k) (us.set k u) (L.map N.sub)))) m .no) j (.eH (bO R Es (hge (k+1)) (us.set k u) (L.map N.sub)))) j (.eH (bO R Es (hge (k+1)) (us.set k u) (L.map N.sub)))):=by
 have g:=h.pendPut (y:=x) j q m n l o d c a f b i;have e:(L.map N.sub).set k s=L.map N.sub:=by rw[<-i,<-List.map_set,Dx f]
 rw[e,e,Dx f]at g;exact g
end
theorem AV{α:Type}{b:Nat}{a r:List α}(h:clone b a=some r):a=r:=by
 unfold clone at h;obtain⟨_,h⟩:=bC h;exact Option.some.inj h
theorem Ve{α β:Type}{N:NW α β}{w:World}{B A:BS}{v:Value}{L:List α}{us:List Value}(h:ed N.raw w B A v (L.zip us))(a:us.length=L.length):L.length<=9223372036854775807:=by
 have:=h.bK;rwa[gq a]at this
theorem r_mul{P:Program}{w:World}{ρ:Operand->Value}{d:Option Nat}{ty:TypeId}{pos:String}{af:Array Edge}{g:Option (Nat×Bool)}{x y:Operand}{T T2:TypeId}{p q:Int}(a:ρ x=.int .i64 p)(b:ρ y=.int .i64 q)(h: -9223372036854775808<=p*q/\p*q<=9223372036854775807):
  (execOp ρ ⟨d,.binOp .mul T x y T2,ty,pos,af,g⟩).run P w=.ok (.value (.int .i64 (p*q))) w:=by
 simp[execOp,a,b,eqGuard,binOp,Op.intArith,ZC h.1 h.2]
open Go.RowKit Go.Proofs
theorem MN{cs vs:List Value}{o:Nat}(h:o+vs.length<=cs.length)(j:Nat):(Jr cs o vs)[j]? =if j<o then cs[j]? else if j<o+vs.length then vs[j-o]? else cs[j]? :=by
  unfold Jr;have b:(cs.take o).length=o:=by rw[List.length_take];omega
  by_cases a:j<o
  · rw[if_pos a,List.append_assoc,List.getElem?_append_left V,List.getElem?_take,if_pos a]
  · rw[if_neg a];by_cases c:j<o+vs.length
    · rw[if_pos c,List.append_assoc,List.getElem?_append_right V,b,List.getElem?_append_left V]
    · rw[if_neg c,List.getElem?_append_right (by rw[List.length_append,b];omega),List.length_append,b,List.getElem?_drop];congr 1;omega
theorem UH{cs vs:List Value}{o:Nat}(h:o+vs.length<=cs.length):(Jr cs o vs).length=cs.length:=by
 unfold Jr;simp only[List.length_append,List.length_take,List.length_drop];omega
theorem spl_take{cs vs:List Value}{o n:Nat}(h:o+vs.length<=n)(hn:n<=cs.length):(Jr cs o vs).take n=Jr (cs.take n) o vs:=by
  apply List.ext_getElem?;intro j;have b:(cs.take n).length=n:=by rw[List.length_take];omega
  rw[List.getElem?_take,MN V,MN V,List.getElem?_take];by_cases a:j<n
  · rw[if_pos a,if_pos a]
  · rw[if_neg a,if_neg V,if_neg V,if_neg a]
theorem spl_self{cs vs:List Value}{o:Nat}(h:o+vs.length<=cs.length):((Jr cs o vs).drop o).take vs.length=vs:=by
  apply List.ext_getElem?;intro j;rw[List.getElem?_take,List.getElem?_drop,MN h];by_cases a:j<vs.length
  · rw[if_pos a,if_neg V,if_pos V];congr 1;omega
  · rw[if_neg a,List.getElem?_eq_none V]
theorem Yq{cs vs:List Value}{o p s:Nat}(h:o+vs.length<=cs.length)(hp:p+s<=o\/o+vs.length<=p):((Jr cs o vs).drop p).take s=(cs.drop p).take s:=by
  apply List.ext_getElem?;intro j;rw[List.getElem?_take,List.getElem?_drop,MN h,List.getElem?_take,List.getElem?_drop];by_cases a:j<s
  · rw[if_pos a,if_pos a];by_cases b:p+j<o
    · rw[if_pos b]
    · rw[if_neg b,if_neg V]
  · rw[if_neg a,if_neg a]
section
variable{P:Program}{ops:Array Oper}{Q:Exit->Act->World->Prop}{n:Nat}{env:Nat->Value}{w w' w0:World}{M K:BS}{hp:Nat->Chunk}{rest:List Oper}
 {d:Option Nat} {op:Op} {ty:TypeId} {pos:String} {af:Array Edge} {v:Value} {g:Option (Nat×Bool)} {T:TypeId} {ρ:Operand->Value} {x y:Operand}
theorem Cw{α:Type}{R:kL α}{E:TypeId}{L:Nat}{l:List α}{k:Int}{a a':α}{b:Nat}{zs vs:List Value}{u:Value}(h:SH w0 M K w hp)(i:Nat)(t:hp i=.own R E u l)(C:ob u b)(hs:R.sz=L)(hk:l[k.toNat]? =some a)(hT:vv P T zs)(c:ev n env x=.pointer (some ⟨b,k.toNat*L,none⟩))
    (hy:ev n env y=.agg vs.toArray) (hl:vs.length=zs.length) (J:zs.length=L) (hset:R.rd w (SH.A M hp) vs a')
    (kk:∀w',SH w0 M K w' (bV hp i (.own R E u (l.set k.toNat a')))->bH (ob u) w w'->WL P ops Q rest n (gm env d undef) w'):
    WL P ops Q (⟨d,.store T x y,ty,pos,af,none⟩::rest) n env w:=by
  subst hs;have S:k.toNat<l.length:=NY hk;generalize k.toNat=k at*;have f:∀b,ob u b->SH.A M hp b:=fun b C=>.inr ⟨i,by rw[t];exact C⟩;obtain⟨xs,B,q3⟩:=h.bF i t;rcases B.2 with⟨rfl,hn⟩|⟨g',cap,cur,rfl,e1,e2,e3,e4,e5,e6⟩
  · omega
  have v:b=g':=C;subst v;have X:(k+1)*R.sz<=l.length*R.sz:=Nat.mul_le_mul_right _ S;have a0:l.length*R.sz<=cap*R.sz:=Nat.mul_le_mul_right _ e3;rw[Nat.add_mul]at X;have O:vs.length=R.sz:=hl.trans J;have z:cur.toList.length=cap*R.sz:=by simpa using e5
  have a1:xs.length=l.length*R.sz:=B.1;have s:k*R.sz+vs.length<=cur.toList.length:=by omega
  have m:k*R.sz+vs.length<=xs.length:=by omega
  have o:=bH.uW w b<|.cells (Jr cur.toList (k*R.sz) vs).toArray E (0,0);have N:=PO (P:=P) (w:=w) (ρ:=ev n env) (d:=d) (ty:=ty) (pos:=pos) (af:=af) (g:=none) (cs:=cur.toList) (E:=E) hT c (by simpa using e2) hy hl s<|R.one hset;refine zx N (kk _ (h.step i o (fun x c _=>by rw[t];exact c) (fun x c _=>by rw[t];exact c) ⟨Jr xs (k*R.sz) vs,⟨?_,.inr ⟨b,cap,(Jr cur.toList (k*R.sz) vs).toArray,?_,e1,?_,?_,e4,?_,?_⟩⟩,?_⟩) (o.weaken (fun x c _=>c)))
  · rw[UH m,List.length_set];exact B.1
  · rw[List.length_set]
  · rw[uw (iB e2)]
  · rw[List.length_set];exact e3
  · rw[List.size_toArray,UH s];exact z
  · rw[List.length_set];show(Jr cur.toList (k*R.sz) vs).take (l.length*R.sz)=Jr xs (k*R.sz) vs;rw[spl_take V V,e6]
  · intro p I;have G:p<l.length:=by rwa[List.length_set]at I
    have r:=fun cs a(h:R.rd w (SH.A M hp) cs a)=>R.go (A':=fun x=>(M x\/(SH.av hp i (.own R E (.slice (some ⟨b,0,none⟩) l.length cap) (l.set k a'))) x)\/ob (.slice (some ⟨b,0,none⟩) l.length cap) x) h o (fun x c _=>f x c) (fun x c _=>by
      rcases c with(c|c|c)|c
      · exact .inl c
      · exact .inr<|kP c
      · exact f x c
      · exact f x c)
    have hq:=fun j(hj:j<l.length)=>R.go (A':=SH.A M hp) (q3 j hj) (bH.refl BE w) (fun _ h=>h.elim) fun x c _=>.inl c;by_cases q:p=k
    · subst q;rw[List.getElem_set_self];have e:=spl_self m;rw[O]at e;rw[e];exact r _ _ hset
    · rw[List.getElem_set_ne (Ne.symm q),Yq m]
      · exact r _ _<|hq p G
      · rcases Nat.lt_or_ge k p with h5|h5
        · right;have:(k+1)*R.sz<=p*R.sz:=Nat.mul_le_mul_right _ h5;rw[Nat.add_mul]at this;omega
        · left;have:(p+1)*R.sz<=k*R.sz:=Nat.mul_le_mul_right _ V;rw[Nat.add_mul]at this;omega
end
section
variable{α β:Type}{N:NW α β}{R:kL β}{E Es T:TypeId}{w0 w w':World}{M K A:BS}{hp:Nat->Chunk}{us:List Value}{L:List α}{x:α}{k:Nat}
theorem SH.wX(h:SH w0 M K w hp)(j m:Nat)(s:List β)(c:hp j=.eH (bO R Es hn us (L.map N.sub)))(e:hp m=.no)(a:j≠m)(d:L[k]? =some x)(b:N.sub x=s):
 ∃u,us[k]? =some u/\SH w0 M K w (bV (bV hp j (.eH (bO R Es (hat k) us (L.map N.sub)))) m (.own R Es u s)):=by subst b;exact h.dnOpen j m c e a d
theorem SH.mvOpenL{c:List Int}{b:Int}(h:SH w0 M K w hp)(j m:Nat)(s:List β)(f:hp j=.eH (bO R Es (hmv c) us (L.map N.sub)))(i:hp m=.no)(d:j≠m)(k:0<=b)(g:L[b.toNat]? =some x)(a:b∉c)(e:N.sub x=s):
 ∃u,us[b.toNat]? =some u/\SH w0 M K w (bV (bV hp j (.eH (bO R Es (hmv (c++[b])) us (L.map N.sub)))) m (.own R Es u s)):=by subst e;exact h.mvOpen j m f i d k g a
theorem SH.ZU(h:SH w0 M K w hp)(q:Nat)(s:List β)(c:hp q=.eH (JD R k us (L.map N.sub)))(a:us.length=L.length)(b:L[k]? =some x)(d:N.sub x=s):∃u,us[k]? =some u/\cz R w (SH.A M hp) u s:=by subst d;exact h.rdpAt q c a b
end
open Go.RowKit Go.Proofs
def Chunk.flat:Chunk->Prop
 | .no=>True
 | .own R _ _ _=>∀w A A' cs x,R.rd w A cs x->R.rd w A' cs x
 | .two a b=>a.flat/\b.flat
 | .eH S=>∀w A A',S.P w A->S.P w A'
 |_=>False
theorem cK.flat{α:Type}{R:kL α}{E:TypeId}{w:World}{A A':BS}{v:Value}{l:List α}(d:∀w A A' cs x,R.rd w A cs x->R.rd w A' cs x)(h:cK R E w A v l):cK R E w A' v l:=by
 obtain⟨xs,b,a⟩:=h;exact⟨xs,b,fun i c=>d _ _ _ _ _<|a i c⟩
theorem Chunk.flatten{c:Chunk}{w:World}{M O e f:BS}(d:c.flat)(h:c.holds w M O):c.holds w e f:=by
 induction c with
 |no=>trivial
 |own R E v l=>exact cK.flat d h
 |two a b ha hb=>exact⟨ha d.1 h.1,hb d.2 h.2.1,h.2.2⟩
 |eH S=>exact d _ _ _ h
 |_=>exact d.elim
theorem MO{β:Type}{R:kL β}{E:TypeId}{ho:Nat->Prop}{us:List Value}{ss:List (List β)}(b:∀w A A' cs x,R.rd w A cs x->R.rd w A' cs x):∀w A A',(bO R E ho us ss).P w A->(bO R E ho us ss).P w A':=by
 rintro w A A'⟨d,c,e⟩;exact⟨d,fun i u s g a f=>cK.flat b<|c i u s g a f,e⟩
theorem ed.toBE{α:Type}{R:kL α}{w:World}{B A:BS}{v:Value}{l:List α}(h:ed R w B A v l):ed R w BE BE v l:=
 ed.go h (bH.refl BE w) (fun _ h=>h.elim) (fun _ h=>h.elim) (fun _ h=>h.elim) (fun _ h=>h.elim)
section
variable{α β:Type}{N:NW α β}{R:kL β}{E Es T:TypeId}{w0 w w':World}{M K A:BS}{hp:Nat->Chunk}{v u u':Value}{us us':List Value}{L L':List α}
theorem SH.Rp{R':kL α}(h:SH w0 M K w hp)(i j:Nat)(e:hp i=.own N.raw E v (L.zip us))(d:hp j=.eH (bO R Es hn us (L.map N.sub)))(a:i≠j)(b:R'.sz=N.sz)(c:∀w A x u,cz R w A u (N.sub x)->R'.rd w A (N.enc x u) x):ed R' w BE BE v L:=
 ed.toBE ((h.Ib i j e d a b c).bI i (dh _ _ _))
theorem SH.gotCF{C:Chunk}{O:BS}(h:SH w0 M K w hp)(i:Nat)(e:Grow w w')(c:C.PV)(a:C.flat)(d:C.holds w' BE O)(hn:∀b,C.own' b->w.heap.size<=b):SH w0 M K w' (bV hp i C):=
 h.ZR i e c (Chunk.flatten a d) hn
end
section
variable{P:Program}{Q:Exit->Act->World->Prop}{n:Nat}{env:Nat->Value}{w w' w0:World}{M K:BS}{hp:Nat->Chunk}
theorem Qa{k:Func}{R:Ending->World->Prop}{t u j a:Tmp}{T:TypeId}{v2 v3 v4:Value}{zs vs:List Value}{b:Nat}(s:k.results= #[.cell a T,.tmp t,.tmp u,.tmp j])(l:ev n env (.tmp a)=.pointer (some ⟨b,0,none⟩))(v:ev n env (.tmp t)=v2)(o:ev n env (.tmp u)=v3)(m:ev n env (.tmp j)=v4)
  (p:SH w0 M K w hp) (i:Nat) (q:hp i=.blk b vs) (r:vv P T zs) (x:vs.length=zs.length) (h:R (.returned (.tuple #[.agg vs.toArray,v2,v3,v4])) w):bodyPost P k R .ret (act n env) w:=by
 refine⟨Z,_,?_,h⟩;have e:=congrFun (gD n env)<|.tmp t;have f:=congrFun (gD n env)<|.tmp u;have d:=congrFun (gD n env)<|.tmp j;have c:=congrFun (gD n env)<|.tmp a;rw[v]at e;rw[o]at f;rw[m]at d;rw[l]at c;simp only[Act.eval]at e f c d;rw[Array.getD_eq_getD_getElem?]at e f c d;have g:=AU (P:=P) p q r x Z;unfold results;rw[s];simp[e,f,c,d,asAddr,g]
end
section
variable{α β:Type}{R:kL α}{E:TypeId}{w0 w:World}{M K:BS}{hp:Nat->Chunk}{v:Value}{l:List α}{C:Chunk}
theorem SH.ownSrB(h:SH w0 M K w hp)(i j:Nat)(a:i≠j)(d:hp j=.own R E v l)(f:hp i=C):cz R w (fun b=>BE b\/C.own' b) v l:=
 (h.ownSr i j a d f).sub (fun b c _=>c.elim (fun e=>e.elim) id) (fun b c _=>c.elim (fun e=>e.elim) .inr)
theorem ap_BE{C:Chunk}:∀b,C.own' b->¬BE b:=fun _ _ h=>h
end
structure Rq where
 said:Bool
 n:Int
 ZV:Bool
structure mH where
 l:List Int
 bad:Bool
open Go.RowKit Go.Proofs
theorem spl_mid{xs vs:List Value}{p s off:Nat}(h:off+vs.length<=s)(hp:p+s<=xs.length):((Jr xs (p+off) vs).drop p).take s=Jr ((xs.drop p).take s) off vs:=by
  apply List.ext_getElem?;intro j;have d:((xs.drop p).take s).length=s:=by rw[List.length_take,List.length_drop];omega
  rw[MN V,List.getElem?_take];by_cases a:j<s
  · rw[if_pos a,List.getElem?_drop,MN V,List.getElem?_take,if_pos a,List.getElem?_drop];by_cases c:j<off
    · rw[if_pos c,if_pos V]
    · rw[if_neg c,if_neg V];by_cases b:j<off+vs.length
      · rw[if_pos b,if_pos V,show p+j-(p+off)=j-off by omega]
      · rw[if_neg b,if_neg V]
  · rw[if_neg a,if_neg V,if_neg V,List.getElem?_take,if_neg a]
section
variable{P:Program}{ops:Array Oper}{Q:Exit->Act->World->Prop}{n:Nat}{env:Nat->Value}{w w' w0:World}{M K:BS}{hp:Nat->Chunk}{rest:List Oper}
 {d:Option Nat} {op:Op} {ty:TypeId} {pos:String} {af:Array Edge} {v:Value} {g:Option (Nat×Bool)} {T:TypeId} {ρ:Operand->Value} {x y:Operand}
theorem w_stOP{α:Type}{R:kL α}{E:TypeId}{S:Nat}{l:List α}{k:Int}{a a':α}{b off:Nat}{zs vs:List Value}{u:Value}(h:SH w0 M K w hp)(i:Nat)(z:hp i=.own R E u l)(I:ob u b)(hs:R.sz=S)(N:l[k.toNat]? =some a)(hT:vv P T zs)(c:ev n env x=.pointer (some ⟨b,k.toNat*S+off,none⟩))
    (hy:ev n env y=.agg vs.toArray) (hl:vs.length=zs.length) (s:Nat.ble (off+vs.length) S=true) (q:∀u∈vs,u.oneCell'=true) (hset:∀cs,R.rd w (SH.A M hp) cs a->R.rd w (SH.A M hp) (Jr cs off vs) a')
    (kk:∀w',SH w0 M K w' (bV hp i (.own R E u (l.set k.toNat a')))->bH (ob u) w w'->WL P ops Q rest n (gm env d undef) w'):
    WL P ops Q (⟨d,.store T x y,ty,pos,af,none⟩::rest) n env w:=by
  subst hs;rw[Nat.ble_eq]at s;have o:k.toNat<l.length:=NY N;have O:l[k.toNat]=a:=by rw[List.getElem?_eq_getElem o]at N;exact Option.some.inj N
  generalize k.toNat=k at*;have e:∀b,ob u b->SH.A M hp b:=fun b I=>.inr ⟨i,by rw[z];exact I⟩;obtain⟨xs,G,q3⟩:=h.bF i z;rcases G.2 with⟨rfl,hn⟩|⟨g',cap,cur,rfl,e1,e2,e3,e4,e5,e6⟩
  · omega
  have B:b=g':=I;subst B;have a0:(k+1)*R.sz<=l.length*R.sz:=Nat.mul_le_mul_right _ o;have a1:l.length*R.sz<=cap*R.sz:=Nat.mul_le_mul_right _ e3;rw[Nat.add_mul]at a0;have C:cur.toList.length=cap*R.sz:=by simpa using e5
  have a2:xs.length=l.length*R.sz:=G.1;have v:k*R.sz+off+vs.length<=cur.toList.length:=by omega
  have t:k*R.sz+off+vs.length<=xs.length:=by omega
  have f:=bH.uW w b<|.cells (Jr cur.toList (k*R.sz+off) vs).toArray E (0,0);have X:=PO (P:=P) (w:=w) (ρ:=ev n env) (d:=d) (ty:=ty) (pos:=pos) (af:=af) (g:=none) (cs:=cur.toList) (E:=E) hT c (by simpa using e2) hy hl v q;refine zx X (kk _ (h.step i f (fun x c _=>by rw[z];exact c) (fun x c _=>by rw[z];exact c) ⟨Jr xs (k*R.sz+off) vs,⟨?_,.inr ⟨b,cap,(Jr cur.toList (k*R.sz+off) vs).toArray,?_,e1,?_,?_,e4,?_,?_⟩⟩,?_⟩) (f.weaken (fun x c _=>c)))
  · rw[UH t,List.length_set];exact G.1
  · rw[List.length_set]
  · rw[uw (iB e2)]
  · rw[List.length_set];exact e3
  · rw[List.size_toArray,UH v];exact C
  · rw[List.length_set];show(Jr cur.toList (k*R.sz+off) vs).take (l.length*R.sz)=Jr xs (k*R.sz+off) vs;rw[spl_take V V,e6]
  · intro m L;have J:m<l.length:=by rwa[List.length_set]at L
    have r:=fun cs a(h:R.rd w (SH.A M hp) cs a)=>R.go (A':=fun x=>(M x\/(SH.av hp i (.own R E (.slice (some ⟨b,0,none⟩) l.length cap) (l.set k a'))) x)\/ob (.slice (some ⟨b,0,none⟩) l.length cap) x) h f (fun x c _=>e x c) (fun x c _=>by
      rcases c with(c|c|c)|c
      · exact .inl c
      · exact .inr<|kP c
      · exact e x c
      · exact e x c)
    have hq:=fun j(hj:j<l.length)=>R.go (A':=SH.A M hp) (q3 j hj) (bH.refl BE w) (fun _ h=>h.elim) fun x c _=>.inl c;by_cases p:m=k
    · subst p;rw[List.getElem_set_self];rw[spl_mid s V];exact r _ _<|hset _<|O▸hq m o
    · rw[List.getElem_set_ne (Ne.symm p),Yq t]
      · exact r _ _<|hq m J
      · rcases Nat.lt_or_ge k m with h5|h5
        · right;have:(k+1)*R.sz<=m*R.sz:=Nat.mul_le_mul_right _ h5;rw[Nat.add_mul]at this;omega
        · left;have:(m+1)*R.sz<=k*R.sz:=Nat.mul_le_mul_right _ V;rw[Nat.add_mul]at this;omega
end
open Go.RowKit Go.Proofs
def ZW:NW Ins Int where
 sz:=5
 enc x u:=[.int .i64 x.op,.int .i64 x.a,.int .i64 x.b,.int .i64 x.c,u]
 sub x:=x.args
 put x s:={x with args:=s}
 len _ _:=rfl
 one:=by intro x u h c hc;simp only[List.mem_cons,List.not_mem_nil,or_false]at hc;rcases hc with rfl|rfl|rfl|rfl|rfl<;>first|rfl|exact h
 pos:=by decide
 PY _ _ _:=rfl
 PZ _ _:=rfl
theorem nIns_br:∀w A (x:Ins) u,cz di w A u (ZW.sub x)->kK.rd w A (ZW.enc x u) x:=fun _ _ _ u h=>⟨u,rfl,h⟩
theorem nIns_op:∀(w:World) (A:BS) cs (x:Ins),kK.rd w A cs x->∃u,cs=ZW.enc x u/\cz di w A u (ZW.sub x):=fun _ _ _ _ h=>h
theorem nProc_op:∀(w:World) (A:BS) cs (x:dn),dE.rd w A cs x->∃u,cs=Ie.enc x u/\cz kK w A u (Ie.sub x):=fun _ _ _ _ h=>h
theorem cells_two{cs:List Value}{k:Nat}{u v:Value}(h:(cs.drop k).take 2=[u,v]):(cs.drop k).take 1=[u]/\(cs.drop (k+1)).take 1=[v]:=by
  constructor
  · have:=congrArg (List.take 1) h;rw[List.take_take]at this;exact this
  · have:=congrArg (List.drop 1) h;rw[List.drop_take,List.drop_drop]at this;exact this
section
variable{α β:Type}{N:NW α β}{R:kL β}{E Es T:TypeId}{w0 w w':World}{M K A:BS}{hp:Nat->Chunk}{v u u':Value}{us us':List Value}{L L':List α}{ss ss':List (List β)}{s:List β}{x y:α}{k:Nat}
theorem SH.pendSet(h:SH w0 M K w hp)(j q:Nat)(c:hp j=.eH (bO R Es (hge k) us (L.map N.sub)))(d:hp q=.eH (JD R k us (L.map N.sub)))(a:j≠q)(l:L[k]? =some x):
  SH w0 M K w (bV (bV hp q (.eH (JD R (k+1) (us.set k u) (L.map N.sub)))) j (.eH (bO R Es (hge k) (us.set k u) (L.map N.sub)))):=by
 have f:=h.rdpStep (u:=u) (s:=N.sub x) q d;have g:=h.jE j c;have b:=f.famRe (us':=us.set k u) (ss':=(L.map N.sub).set k (N.sub x)) j (by rw[eZ a];exact c) (by simp[g]) (fun i m=>by
  have:k≠i:=fun e=>m (by subst e;exact Nat.le_refl _);rw[List.getElem?_set_ne this,List.getElem?_set_ne this];exact⟨Z,Z⟩)
 have e:(L.map N.sub).set k (N.sub x)=L.map N.sub:=by rw[<-List.map_set,Dx l]
 rw[e]at b;exact b
theorem SH.pendDel(h:SH w0 M K w hp)(j m:Nat)(f:hp j=.eH (bO R Es (hge k) us (L.map N.sub)))(l:hp m=.own R Es u s)(b:j≠m)(g:L[k]? =some x)(n:us[k]? =some u)(d:N.sub x=s):
    SH w0 M K w (bV (bV hp m .no) j (.eH (bO R Es (hge (k+1)) us (L.map N.sub)))):=by
  have c:=h.P6 j m (k:=k) (u:=u) (s:=s) f l b n (Nat.le_refl k) (hge (k+1)) (fun i=>⟨fun a=>by
    rcases Nat.eq_or_lt_of_le (show k<=i from a)with e|e
    · exact .inr e.symm
    · exact .inl e,fun a=>a.elim (fun a=>Nat.le_of_succ_le a) (fun e=>by subst e;exact Nat.le_refl _)⟩) (fun a=>absurd a (Nat.not_succ_le_self k))
  have e:(L.map N.sub).set k s=L.map N.sub:=by rw[<-d,<-List.map_set,Dx g]
  rw[e]at c;exact c
theorem SH.dnOwn{R':kL α}(h:SH w0 M K w hp)(i j:Nat)(o:hp i=.own N.raw E v (L.zip us))(f:hp j=.eH (bO R Es hn us (L.map N.sub)))(r:i≠j)(l:R'.sz=N.sz)(O:∀w A x u,cz R w A u (N.sub x)->R'.rd w A (N.enc x u) x):SH w0 M K w (bV (bV hp j .no) i (.own R' E v L)):=by
  have t:=h.jE j f;have n:=h.pair i j r;have g:=n.apart i;have s:=n.apM i;have k:=n.ok i;rw[dh]at g s;rw[dh,o,f]at k;have B:=n.step (c:=.own R' E v L) i (bH.refl BE w) (fun _ h=>h.elim) (fun b a _=>by rw[dh,o];exact .inl a) ?_
  · rw[Ia]at B;exact B
  · have hno:∀b,(hp j).own' b->¬((M b\/SH.av (bV (bV hp j .no) i<|.two (hp i)<|hp j) i (.own R' E v L) b)\/ob v b):=by
      intro b a d;rcases d with(d|⟨q,m,d⟩|d)|d
      · exact s b (.inr a) d
      · exact g q (fun e=>m e.symm) b (.inr a) d
      · exact k.2.2 b d (by rw[<-f];exact a)
      · exact k.2.2 b d (by rw[<-f];exact a)
    have P:∀b,((M b\/SH.av (bV (bV hp j .no) i<|.two (hp i)<|hp j) i (.own R' E v L) b)\/ob v b)->M b\/iC (bV (bV hp j .no) i<|.two (.own N.raw E v<|L.zip us)<|.eH<|bO R Es hn us<|L.map N.sub) b:=by
      rw[o,f];have C:∀b,ob v b->iC (bV (bV hp j .no) i (.two (.own N.raw E v (L.zip us)) (.eH (bO R Es hn us (L.map N.sub))))) b:=fun b a=>⟨i,by rw[dh];exact .inl a⟩;rintro b((a|a|a)|a)
      · exact .inl a
      · exact .inr<|kP a
      · exact .inr<|C b a
      · exact .inr<|C b a
    obtain⟨xs,y,Q⟩:=k.1;refine⟨xs,?_,fun q m=>?_⟩
    · rw[gq t]at y;show w.ownsRow 0 E R'.sz v L.length xs;rw[l];exact y
    · have p:q<(L.zip us).length:=by rw[gq t];exact m
      have z:=Q q p;have G:(L.zip us)[q]=(L[q],us[q]'V):=by simp
      rw[G]at z;obtain⟨I,_⟩:=z;have J:((xs.drop<|q*N.sz).take N.sz)=N.enc L[q] (us[q]'V):=I;show R'.rd w _ ((xs.drop<|q*R'.sz).take R'.sz) L[q];rw[l,J];exact O _ _ _ _ (cK.rd (k.2.1.2.1 q _ _ (List.getElem?_eq_getElem V) (by rw[List.getElem?_map,List.getElem?_eq_getElem m];rfl) (fun h=>h)) (fun b a=>hno b (by rw[f];exact⟨q,_,List.getElem?_eq_getElem V,fun h=>h,a⟩)) (fun b a _=>.inl (.inl (P b a))))
end
structure iD where
 cos:List Co
 safe:List UInt8
 wait:List UInt8
 up:Bool
def fB:kL iD where
 sz:=4
 rd w A cs x:=∃vcos,∃Dv,∃Dw,cs=[vcos,Dv,Dw,.bool x.up]/\cz EJ w A vcos x.cos/\cz fF w A Dv x.safe/\cz fF w A Dw x.wait
 len:=by rintro w A cs x ⟨vcos,Dv,Dw,rfl,h0,h1,h2⟩;rfl
 one:=by rintro w A cs x ⟨vcos,Dv,Dw,rfl,h0,h1,h2⟩ u hu;simp only[List.mem_cons,List.not_mem_nil,or_false]at hu;rcases hu with rfl|rfl|rfl|rfl<;>first|rfl|exact h0.one|exact h1.one|exact h2.one
 pos:=by decide
 go:=by rintro w A cs x w2 A2 K ⟨vcos,Dv,Dw,rfl,h0,h1,h2⟩ hk hK hA;exact⟨_,_,_,Z,h0.go hk hK hA,h1.go hk hK hA,h2.go hk hK hA⟩
theorem fI{w:World}{A:BS}{cs:List Value}{x:iD}(h:fB.rd w A cs x):∃a,∃c,∃b,cs=[a,c,b,.bool x.up]/\cz EJ w A a x.cos/\cz fF w A c x.safe/\cz fF w A b x.wait:=h
structure aX where
 prog:List dn
 places:List iD
 bE:List il
def rWorld:kL aX where
 sz:=3
 rd w A cs x:=∃Ub,∃GK,∃Uc,cs=[Ub,GK,Uc]/\cz dE w A Ub x.prog/\cz fB w A GK x.places/\cz eB w A Uc x.bE
 len:=by rintro w A cs x ⟨Ub,GK,Uc,rfl,h0,h1,h2⟩;rfl
 one:=by rintro w A cs x ⟨Ub,GK,Uc,rfl,h0,h1,h2⟩ u hu;simp only[List.mem_cons,List.not_mem_nil,or_false]at hu;rcases hu with rfl|rfl|rfl<;>first|rfl|exact h0.one|exact h1.one|exact h2.one
 pos:=by decide
 go:=by rintro w A cs x w2 A2 K ⟨Ub,GK,Uc,rfl,h0,h1,h2⟩ hk hK hA;exact⟨_,_,_,Z,h0.go hk hK hA,h1.go hk hK hA,h2.go hk hK hA⟩
theorem rWorld_open{w:World}{A:BS}{cs:List Value}{x:aX}(h:rWorld.rd w A cs x):∃a,∃c,∃b,cs=[a,c,b]/\cz dE w A a x.prog/\cz fB w A c x.places/\cz eB w A b x.bE:=h
structure qw where
 kind:Int
 place:Int
 co:Int
 n:Int
def rHap:kL qw where
 sz:=4
 rd w A cs x:=cs=[.int .i64 x.kind,.int .i64 x.place,.int .i64 x.co,.int .i64 x.n]
 len:=by rintro w A cs x rfl;rfl
 one:=by rintro w A cs x rfl u hu;simp only[List.mem_cons,List.not_mem_nil,or_false]at hu;rcases hu with rfl|rfl|rfl|rfl<;>first|rfl
 pos:=by decide
 go:=fun h _ _ _=>h
open Go Go.RowKit Go.Proofs
section
variable{P:Program}{ops:Array Oper}{Q:Exit->Act->World->Prop}{rest:List Oper}{n:Nat}{env:Nat->Value}{w w0:World}{M K:BS}{hp:Nat->Chunk}{d:Option Nat}{ty:TypeId}{pos:String}{af:Array Edge}{x y:Operand}{T:TypeId}{v:Value}
theorem mI{i:Int}(a:ev n env x=.int .i64 i)(h:WL P ops Q rest n (gm env d (.int .i64 i)) w):WL P ops Q (⟨d,.move x,ty,pos,af,none⟩::rest) n env w:=F (bL a) h
theorem mB{i:Bool}(a:ev n env x=.bool i)(h:WL P ops Q rest n (gm env d (.bool i)) w):WL P ops Q (⟨d,.move x,ty,pos,af,none⟩::rest) n env w:=F (bL a) h
theorem mP{i:Option Addr}(a:ev n env x=.pointer i)(h:WL P ops Q rest n (gm env d (.pointer i)) w):WL P ops Q (⟨d,.move x,ty,pos,af,none⟩::rest) n env w:=F (bL a) h
theorem mV(v:Value)(a:ev n env x=v)(h:WL P ops Q rest n (gm env d v) w):WL P ops Q (⟨d,.move x,ty,pos,af,none⟩::rest) n env w:=F (bL a) h
theorem aI{i:Int}(a:ev n env x=.int .i64 i)(h:WL P ops Q rest n (gm env d (.int .i64 i)) w):WL P ops Q (⟨d,.assign x,ty,pos,af,none⟩::rest) n env w:=F (eQ a) h
theorem aB{i:Bool}(a:ev n env x=.bool i)(h:WL P ops Q rest n (gm env d (.bool i)) w):WL P ops Q (⟨d,.assign x,ty,pos,af,none⟩::rest) n env w:=F (eQ a) h
theorem aP{i:Option Addr}(a:ev n env x=.pointer i)(h:WL P ops Q rest n (gm env d (.pointer i)) w):WL P ops Q (⟨d,.assign x,ty,pos,af,none⟩::rest) n env w:=F (eQ a) h
theorem aV(v:Value)(a:ev n env x=v)(h:WL P ops Q rest n (gm env d v) w):WL P ops Q (⟨d,.assign x,ty,pos,af,none⟩::rest) n env w:=F (eQ a) h
theorem lB{z:Value}{b o:Nat}{cs:List Value}(h:SH w0 M K w hp)(i:Nat)(a:One P T z)(e:(hp i,ev n env x,cs[o]?)=(Chunk.blk b cs,Value.pointer (some ⟨b,o,none⟩),some v))(k:WL P ops Q rest n (gm env d v) w):WL P ops Q (⟨d,.load T x,ty,pos,af,none⟩::rest) n env w:=by
 injection e with e1 e2;injection e2 with e2 e3;exact F (bU h i e1 a e2 e3) k
theorem nZ{zs vs:List Value}{b o:Nat}{cs:List Value}(h:SH w0 M K w hp)(i:Nat)(a:vv P T zs)(e:(hp i,ev n env x,(cs.drop o).take zs.length,vs.length)=(Chunk.blk b cs,Value.pointer (some ⟨b,o,none⟩),vs,zs.length))(k:WL P ops Q rest n (gm env d (.agg vs.toArray)) w):WL P ops Q (⟨d,.load T x,ty,pos,af,none⟩::rest) n env w:=by
 injection e with e1 e2;injection e2 with e2 e3;injection e3 with e3 e4;exact F (wL h i e1 a e2 e3 e4) k
theorem dB{b o k off:Nat}(c:dQ P T k off)(a:ev n env x=.pointer (some ⟨b,o,none⟩))(h:WL P ops Q rest n (gm env d (.pointer (some ⟨b,o+off,none⟩))) w):WL P ops Q (⟨d,.fieldAddr T x k,ty,pos,af,none⟩::rest) n env w:=F (aK c a) h
theorem w_stA{zs:List Value}{b:Nat}{cs:List Value}(h:SH w0 M K w hp)(i:Nat)(vs:List Value)(c:vv P T zs)(e:(hp i,ev n env x,ev n env y,vs.length,cs.length)=(Chunk.blk b cs,Value.pointer (some ⟨b,0,none⟩),Value.agg vs.toArray,zs.length,vs.length))(a:∀v∈vs,v.oneCell'=true)
  (k:∀w',SH w0 M K w' (bV hp i (.blk b vs))->WL P ops Q rest n (gm env d undef) w'):WL P ops Q (⟨d,.store T x y,ty,pos,af,none⟩::rest) n env w:=by
 injection e with e1 e2;injection e2 with e2 e3;injection e3 with e3 e4;injection e4 with e4 e5;refine w_stN h i vs e1 c e2 e3 e4 ?_ (by rw[Nat.ble_eq];omega) a k;unfold Jr;simp[e5]
theorem bJ{f:FuncId}{first captured:Array Value}{xs:Array Operand}{c:Array TypeId}{args:List Value}(h:SH w0 M K w hp)(a:PQ P f)(i:ev n env x=.func (.func f) first captured)
  (b:first.toList++xs.toList.map (ev n env)++captured.toList=args) (j:Calls P f args.toArray w (fun e w'=>Grow w w'/\e=.returned v)) (k:∀w',SH w0 M K w' hp->WL P ops Q rest n (gm env d v) w'):
  WL P ops Q (⟨d,.call {callee:=.value x,args:=xs,argTypes:=c},ty,pos,af,none⟩::rest) n env w:=
 bT a i b j (by rintro _ w' ⟨g,rfl⟩;exact⟨_,Z,k w' (h.grow g)⟩)
theorem UI{α:Type}{R:kL α}{l:List α}{f:FuncId}{first captured:Array Value}{xs:Array Operand}{c:Array TypeId}{args:List Value}{a:Value->Value}(h:SH w0 M K w hp)(i:Nat)(j:PQ P f)(m:ev n env x=.func (.func f) first captured)
  (b:first.toList++xs.toList.map (ev n env)++captured.toList=args) (o:Calls P f args.toArray w (fun e w'=>Grow w w'/\∃u,e=.returned (a u)/\cz R w' (SH.A M hp) u l)) (k:∀w' u,SH w0 M K w' (bV hp i (.rd R u l))->WL P ops Q rest n (gm env d (a u)) w'):
  WL P ops Q (⟨d,.call {callee:=.value x,args:=xs,argTypes:=c},ty,pos,af,none⟩::rest) n env w:=
 bT j m b o (by rintro _ w' ⟨g,u,rfl,g2⟩;exact⟨_,Z,k w' u (h.yZ i g g2)⟩)
theorem jA{α:Type}{R:kL α}{E:TypeId}{l:List α}{f:FuncId}{first captured:Array Value}{xs:Array Operand}{j:Array TypeId}{args:List Value}{a:Value->Value}(h:SH w0 M K w hp)(i:Nat)(m:PQ P f)(o:ev n env x=.func (.func f) first captured)
  (c:first.toList++xs.toList.map (ev n env)++captured.toList=args) (q:Calls P f args.toArray w (fun e w'=>Grow w w'/\∃u,e=.returned (a u)/\cK R E w' (SH.A M hp) u l/\(∀b,ob u b->w.heap.size<=b))) (k:∀w' u,SH w0 M K w' (bV hp i (.own R E u l))->WL P ops Q rest n (gm env d (a u)) w'):
  WL P ops Q (⟨d,.call {callee:=.value x,args:=xs,argTypes:=j},ty,pos,af,none⟩::rest) n env w:=
 bT m o c q (by rintro _ w' ⟨g,u,rfl,g2,p⟩;exact⟨_,Z,k w' u (h.wK i g g2 p)⟩)
end
section
variable{w w' w0:World}{M K:BS}{hp:Nat->Chunk}{C:Chunk}
theorem SH.eF(h:SH w0 M K w hp)(i:Nat)(a:(hp i).PV):(hp i).holds w M (hp i).own'/\bH K w0 w/\(∀b,(hp i).own' b->b<w0.heap.size->K b):=h.outS i Z a
theorem SH.gL(h:SH w0 M K w hp)(i:Nat)(a:(hp i).PV):(hp i).holds w (fun b=>M b\/rest hp i b) (hp i).own'/\(∀b,(hp i).own' b->¬(M b\/rest hp i b))/\(∀b,(M b\/rest hp i b)->b<w.heap.size):=h.lendS i Z a
theorem SH.ku(h:SH w0 M K w hp)(i:Nat)(a:C.holds w' (fun b=>M b\/rest hp i b) C.own')(d:C.PV)(c:bH (hp i).own' w w')(hn:∀b,C.own' b->b<w.heap.size->(hp i).own' b):SH w0 M K w' (bV hp i C):=h.back i Z d a c hn
end
section
variable{σ ρ α:Type}{b:Int->σ->(σ->ρ)->ρ}{bx:Int->α->σ->(σ->ρ)->ρ}{be:α->σ->(σ->ρ)->ρ}{K:σ->ρ}{s:σ}{r:ρ}{i c:Int}{k:Nat}{L:List α}
theorem qx(f:i=(k:Int))(e:decide (i<c)=true)(d:upto b K i (c.toNat-k) s=r):∃a,upto b K (i+1) (c.toNat-(k+1))=a/\b i s a=r:=by
 rw[upto_lt (by have:=of_decide_eq_true e;omega)]at d;exact⟨_,Z,d⟩
theorem xw(d:i=(k:Int))(e:decide (i<c)=false)(a:upto b K i (c.toNat-k) s=r):K s=r:=by
 rw[upto_ge (by have:=of_decide_eq_false e;omega)]at a;exact a
theorem xx(a:i=(k:Int))(e:decide (i<c)=true)(b:c<=9223372036854775807):ko (i+1):=by
 have:=of_decide_eq_true e;exact ko.mk V V
theorem Gs(a:i=(k:Int))(e:decide (i<c)=true):c.toNat-(k+1)<c.toNat-k:=by
 have:=of_decide_eq_true e;omega
theorem lQ(a:i=(k:Int))(e:decide (i<(L.length:Int))=true)(c:each be K (L.drop k) s=r):∃x b,L[k]? =some x/\each be K (L.drop (k+1))=b/\be x s b=r:=by
 obtain⟨x,d,f⟩:=drop_lt<|a▸e;rw[f,iM]at c;exact⟨x,_,d,Z,c⟩
theorem qh(a:i=(k:Int))(e:decide (i<(L.length:Int))=false)(b:each be K (L.drop k) s=r):K s=r:=by
 rw[drop_ge (a▸e),sI]at b;exact b
theorem AX(a:i=(k:Int))(e:decide (i<(L.length:Int))=true)(c:iQ bx K i (L.drop k) s=r):∃x b,L[k]? =some x/\iQ bx K (i+1) (L.drop (k+1))=b/\bx i x s b=r:=by
 obtain⟨x,d,f⟩:=drop_lt<|a▸e;rw[f,Cs]at c;exact⟨x,_,d,Z,c⟩
theorem GL(a:i=(k:Int))(e:decide (i<(L.length:Int))=false)(b:iQ bx K i (L.drop k) s=r):K s=r:=by
 rw[drop_ge (a▸e),Yg]at b;exact b
theorem ui(a:i=(k:Int))(e:decide (i<(L.length:Int))=true):L.length-(k+1)<L.length-k:=by
 have:=of_decide_eq_true e;omega
end
abbrev cW(b:Nat)(a v1 v2:Value)(l:List iD):Chunk:=.two (.blk b [a,v1,v2]) (.own fB 40 v1 l)
abbrev lX(M:BS)(w:World):Prop:=∀b,M b->b<w.heap.size
open Go Go.RowKit Go.Proofs
section
variable{P:Program}{ops:Array Oper}{Q:Exit->Act->World->Prop}{rest:List Oper}{n:Nat}{env:Nat->Value}{w w0:World}{M K:BS}{hp:Nat->Chunk}{d:Option Nat}{ty:TypeId}{pos:String}{af:Array Edge}{x y:Operand}{T T2:TypeId}{v:Value}
theorem nz{k:Int}{p:Value}(i:IxOk P T v k p)(e:(ev n env x,ev n env y)=(v,Value.int .i64 k))(h:WL P ops Q rest n (gm env d p) w):WL P ops Q (⟨d,.indexAddr T x y,ty,pos,af,none⟩::rest) n env w:=by
 injection e with e1 e2;exact F (i _ _ _ _ _ _ _ _ _ e1 e2) h
theorem ek{p q:Int}{k:IntKind}(e:(ev n env x,ev n env y)=(Value.int k p,Value.int k q))(h:WL P ops Q rest n (gm env d (.bool (decide (p=q)))) w):WL P ops Q (⟨d,.binOp .eql T x y T2,ty,pos,af,none⟩::rest) n env w:=by
 injection e with e1 e2;exact F (oC e1 e2) h
theorem jw{p q:Int}{k:IntKind}(e:(ev n env x,ev n env y)=(Value.int k p,Value.int k q))(h:WL P ops Q rest n (gm env d (.bool (decide (p≠q)))) w):WL P ops Q (⟨d,.binOp .neq T x y T2,ty,pos,af,none⟩::rest) n env w:=by
 injection e with e1 e2;exact F (yY e1 e2) h
theorem gy{p q:Int}(e:(ev n env x,ev n env y)=(Value.int .i64 p,Value.int .i64 q))(h:WL P ops Q rest n (gm env d (.bool (decide (p<q)))) w):WL P ops Q (⟨d,.binOp .lss T x y T2,ty,pos,af,none⟩::rest) n env w:=by
 injection e with e1 e2;exact F (uu e1 e2) h
theorem fM{p q:Int}(e:(ev n env x,ev n env y)=(Value.int .i64 p,Value.int .i64 q))(a:ko (p+q))(h:WL P ops Q rest n (gm env d (.int .i64 (p+q))) w):WL P ops Q (⟨d,.binOp .add T x y T2,ty,pos,af,none⟩::rest) n env w:=by
 injection e with e1 e2;exact F (H7 e1 e2 a) h
theorem gX{i:Nat}{vs:List Value}(e:(ev n env x,vs[i]?)=(Value.tuple vs.toArray,some v))(h:WL P ops Q rest n (gm env d v) w):WL P ops Q (⟨d,.extract x i,ty,pos,af,none⟩::rest) n env w:=by
 injection e with e1 e2;exact F (dR e1 e2) h
theorem fJ{α:Type}{R:kL α}{E:TypeId}{b:Nat}{l:List α}(h:SH w0 M K w hp)(i:Nat)(a:SliceOf P T E b)(e:(hp i,ev n env x)=(Chunk.sr R v l,v))(k:WL P ops Q rest n (gm env d (.int .i64 l.length)) w):WL P ops Q (⟨d,.call {callee:=.builtin .len,args:= #[x],argTypes:= #[T]},ty,pos,af,none⟩::rest) n env w:=by
 injection e with e1 e2;exact F (gM a e2<|h.fT i e1) k
theorem mJ{α:Type}{R:kL α}{E:TypeId}{b:Nat}{l:List α}(h:SH w0 M K w hp)(i:Nat)(a:SliceOf P T E b)(e:(hp i,ev n env x)=(Chunk.rd R v l,v))(k:WL P ops Q rest n (gm env d (.int .i64 l.length)) w):WL P ops Q (⟨d,.call {callee:=.builtin .len,args:= #[x],argTypes:= #[T]},ty,pos,af,none⟩::rest) n env w:=by
 injection e with e1 e2;exact F (gM a e2<|h.kY i e1) k
theorem ql{j dj b' o:Nat}{b a:Bool}{z:Value}{cs:List Value}(h:SH w0 M K w hp)(i:Nat)(c:One P T z)(e:((ops[j]?).bind (·.dst),ev n env (.tmp dj),hp i,ev n env x,cs[o]?)=(some dj,Value.bool b,Chunk.blk b' cs,gv (b==a) (.pointer (some ⟨b',o,none⟩)),some v))
    (k:WL P ops Q rest n (gm env d (gv (b==a) v)) w):WL P ops Q (⟨d,.load T x,ty,pos,af,some (j,a)⟩::rest) n env w:=by
  injection e with e1 e2;injection e2 with e2 e3;injection e3 with e3 e4;injection e4 with e4 e5;exact aQ e1 e2 (fun q=>bU h i e3 c (e4.trans<|eO q) e5) k
theorem qp{j dj b' o f off:Nat}{b a:Bool}(c:dQ P T f off)(e:((ops[j]?).bind (·.dst),ev n env (.tmp dj),ev n env x)=(some dj,Value.bool b,Value.pointer (some ⟨b',o,none⟩)))
    (k:WL P ops Q rest n (gm env d (gv (b==a) (.pointer (some ⟨b',o+off,none⟩)))) w):WL P ops Q (⟨d,.fieldAddr T x f,ty,pos,af,some (j,a)⟩::rest) n env w:=by
  injection e with e1 e2;injection e2 with e2 e3;exact aQ e1 e2 (fun q=>aK c e3) k
end
theorem cst{P:Program}{f:FuncId}{a:Func}{c:Code}{args:List Value}{R:Ending->World->Prop}{n:Nat}{w:World}(b:P.funcs[f]? =some a)(hn:a.ntmps=n)(e:(a.body,Nat.ble args.length n)=(some c,true))
  (h:WC P c (bodyPost P a R) n (Ra args) w):Calls P f args.toArray w R:=by
 injection e with e1 e2;exact calls_start b e1 hn (Nat.le_of_ble_eq_true e2) h
open Go Go.RowKit Go.Proofs
def fillF(a:List (Nat×Nat))(cs:List Value):List (Nat×Value)->Option (List Value)
 |[]=>some cs
 |(i,v)::r=>match a[i]? with
  |some (off,1)=>if off<cs.length then fillF a (cs.set off v) r else none
  |_=>none
theorem fillF_ok{a:List (Nat×Nat)}:∀{pv:List (Nat×Value)} {cs out:List Value},(∀v∈pv.map (·.2),v.oneCell'=true)->fillF a cs pv=some out->ZG a cs pv out
  |[],cs,out,_,h=>Option.some.inj h
  |(i,v)::r,cs,out,ho,h=>by
    unfold fillF at h;split at h
    · rename_i off e;split at h
      · rename_i b;refine⟨off,1,[v],e,dS<|ho v zq3,Z,by omega,?_⟩;rw[show Jr cs off [v]=cs.set off v by unfold Jr;rw[List.set_eq_take_append_cons_drop,if_pos b];simp];exact fillF_ok (fun x c=>ho x<|List.mem_cons_of_mem _ c) h
      · cases h
    · cases h
section
variable{P:Program}{ops:Array Oper}{Q:Exit->Act->World->Prop}{rest:List Oper}{n:Nat}{env:Nat->Value}{w w0:World}{M K:BS}{hp:Nat->Chunk}{d:Option Nat}{op:Op}{ty:TypeId}{pos:String}{af:Array Edge}{x y c:Operand}{T T2:TypeId}{v:Value}{j dj:Nat}{b b0 r:Bool}{i:Int}
theorem j3{zs out:List Value}{b:List (Nat×Nat)}{a:Array (Nat×Operand)}{pv:List (Nat×Value)}(c:Struct P T zs b)(e:(a.toList.map fun p=>(p.1,ev n env p.2),fillF b zs pv)=(pv,some out))(ho:∀v∈pv.map (·.2),v.oneCell'=true)
    (h:WL P ops Q rest n (gm env d (.agg out.toArray)) w):WL P ops Q (⟨d,.build T a,ty,pos,af,none⟩::rest) n env w:=by
  injection e with e1 e2;exact F (nL c e1<|fillF_ok ho e2) h
theorem Ud(a:b0=true)(e:(ev n env c,ev n env x)=(Value.bool b0,Value.bool r))(h:WL P ops Q rest n (gm env d (.bool r)) w):WL P ops Q (⟨d,.pick c x y,ty,pos,af,none⟩::rest) n env w:=by
 injection e with e1 e2;exact F (jU (b:=true) (by rw[e1,a]) e2) h
theorem UJ(a:b0=false)(e:(ev n env c,ev n env y)=(Value.bool b0,Value.bool r))(h:WL P ops Q rest n (gm env d (.bool r)) w):WL P ops Q (⟨d,.pick c x y,ty,pos,af,none⟩::rest) n env w:=by
 injection e with e1 e2;exact F (jU (b:=false) (by rw[e1,a]) e2) h
theorem vg(a:b0=false)(e:((ops[j]?).bind (·.dst),ev n env (.tmp dj),(false==b))=(some dj,Value.bool b0,false))(h:WL P ops Q rest n (gm env d undef) w):WL P ops Q (⟨d,op,ty,pos,af,some (j,b)⟩::rest) n env w:=by
  injection e with e1 e2;injection e2 with e2 e3;exact bW e1 (by rw[e2,a]) e3 h
theorem Ey(a:b0=true)(e:((ops[j]?).bind (·.dst),ev n env (.tmp dj),(true==b))=(some dj,Value.bool b0,false))(h:WL P ops Q rest n (gm env d undef) w):WL P ops Q (⟨d,op,ty,pos,af,some (j,b)⟩::rest) n env w:=by
  injection e with e1 e2;injection e2 with e2 e3;exact bW e1 (by rw[e2,a]) e3 h
theorem oN(a:b0=b)(e:((ops[j]?).bind (·.dst),ev n env (.tmp dj))=(some dj,Value.bool b0))(h:WL P ops Q (⟨d,op,ty,pos,af,none⟩::rest) n env w):WL P ops Q (⟨d,op,ty,pos,af,some (j,b)⟩::rest) n env w:=by
  injection e with e1 e2;exact TR e1 (by rw[e2,a]) h
theorem Ut{a:Bool}(e:((ops[j]?).bind (·.dst),ev n env (.tmp dj),ev n env x)=(some dj,Value.bool b,Value.int .i64 i))(h:WL P ops Q rest n (gm env d (gv (b==a) (.int .i64 i))) w):WL P ops Q (⟨d,.move x,ty,pos,af,some (j,a)⟩::rest) n env w:=by
  injection e with e1 e2;injection e2 with e2 e3;exact aQ e1 e2 (fun _=>bL e3) h
theorem g0B'{a:Bool}(e:((ops[j]?).bind (·.dst),ev n env (.tmp dj),ev n env x)=(some dj,Value.bool b,Value.bool r))(h:WL P ops Q rest n (gm env d (gv (b==a) (.bool r))) w):WL P ops Q (⟨d,.move x,ty,pos,af,some (j,a)⟩::rest) n env w:=by
  injection e with e1 e2;injection e2 with e2 e3;exact aQ e1 e2 (fun _=>bL e3) h
theorem KA{zs vs:List Value}{a o k:Nat}{cs:List Value}(h:SH w0 M K w hp)(i:Nat)(b:vv P T zs)(e:(hp i,ev n env x,(cs.drop k).take zs.length,vs.length,Nat.ble (k+zs.length) cs.length)=(Chunk.pt a o cs,Value.pointer (some ⟨a,o+k,none⟩),vs,zs.length,true))(q:WL P ops Q rest n (gm env d (.agg vs.toArray)) w):WL P ops Q (⟨d,.load T x,ty,pos,af,none⟩::rest) n env w:=by
 injection e with e1 e2;injection e2 with e2 e3;injection e3 with e3 e4;injection e4 with e4 e5;exact F (Ju h i e1 b e2 e3 e4<|Nat.le_of_ble_eq_true e5) q
theorem iY{L:BS}{ws:World}{u:Value}(a:bH L ws w)(g:∀b,ob u b->w.heap.size<=b):∀b,ob u b->ws.heap.size<=b:=fun b c=>Nat.le_trans a.size (g b c)
end
section
variable{P:Program}{ops:Array Oper}{Q:Exit->Act->World->Prop}{n:Nat}{env:Nat->Value}{w ws:World}{d:Option Nat}{op:Op}{ty:TypeId}{pos:String}{af:Array Edge}{fuel:Nat}{listed:Array Bool}{v:Value}{L:BS}
theorem bQ(i:Nat)(c:Grow ws w)(f:ops[i]? =some ⟨d,op,ty,pos,af,none⟩)(e:∀b,Grow ws b->(execOp (ev n env) ⟨d,op,ty,pos,af,none⟩).run P b=.ok (.value v) b)(h:WH P ops ws Q fuel (listed.setIfInBounds i true) n (gm env d v) w)(a:(Region.noSelect ops&&(Region.free .any ops listed i&&(Region.ready .any ops listed).contains i))=true:=by kernel_rfl):WH P ops ws Q (fuel+1) listed n env w:=by
 simp only[Bool.and_eq_true]at a;exact wh_ok i c f aY a.1 a.2.1 a.2.2 e h
theorem aZ(i:Nat)(c:bH L ws w)(f:ops[i]? =some ⟨d,op,ty,pos,af,none⟩)(e:∀b,bH L ws b->(execOp (ev n env) ⟨d,op,ty,pos,af,none⟩).run P b=.ok (.value v) b)(h:UF P ops L ws Q fuel (listed.setIfInBounds i true) n (gm env d v) w)(a:(Region.noSelect ops&&(Region.free .any ops listed i&&(Region.ready .any ops listed).contains i))=true:=by kernel_rfl):UF P ops L ws Q (fuel+1) listed n env w:=by
 simp only[Bool.and_eq_true]at a;exact whk_ok i c f aY a.1 a.2.1 a.2.2 e h
end
section
variable{P:Program}{ops:Array Oper}{w:World}{Q1:Act->Prop}{rest:List Oper}{n:Nat}{env:Nat->Value}{d:Option Nat}{ty:TypeId}{pos:String}{af:Array Edge}{x:Operand}
theorem kI{i:Int}(a:ev n env x=.int .i64 i)(h:WK P ops w Q1 rest n (gm env d (.int .i64 i))):WK P ops w Q1 (⟨d,.move x,ty,pos,af,none⟩::rest) n env:=aG (bL a) h
theorem kB{i:Bool}(a:ev n env x=.bool i)(h:WK P ops w Q1 rest n (gm env d (.bool i))):WK P ops w Q1 (⟨d,.move x,ty,pos,af,none⟩::rest) n env:=aG (bL a) h
end
abbrev EL(w:World)(M:BS)(C:Chunk):Prop:=Chunk.holds w M (Chunk.own' C) C
abbrev ApC(C:Chunk)(M:BS):Prop:=∀b,Chunk.own' C b->¬M b
abbrev Vf(C':Chunk)(w:World)(C:Chunk):Prop:=∀b,Chunk.own' C' b->b<w.heap.size->Chunk.own' C b
abbrev Dz(M:BS)(C:Chunk):BS:=fun b=>M b\/Chunk.own' C b
open Go Go.RowKit Go.Proofs
section
variable{P:Program}{ops:Array Oper}{Q:Exit->Act->World->Prop}{n:Nat}{env:Nat->Value}{w ws:World}{d:Option Nat}{ty:TypeId}{pos:String}{af:Array Edge}{fuel:Nat}{listed:Array Bool}{v:Value}{L:BS}{T:TypeId}{x:Operand}
theorem DC(i:Nat)(c:Grow ws w){k off b o:Nat}(f:dQ P T k off)(e:(ops[i]?,ev n env x)=(some ⟨d,.fieldAddr T x k,ty,pos,af,none⟩,Value.pointer (some ⟨b,o,none⟩)))(h:WH P ops ws Q fuel (listed.setIfInBounds i true) n (gm env d (.pointer (some ⟨b,o+off,none⟩))) w)(a:(Region.noSelect ops&&(Region.free .any ops listed i&&(Region.ready .any ops listed).contains i))=true:=by kernel_rfl):WH P ops ws Q (fuel+1) listed n env w:=by
 injection e with e1 e2;exact bQ i c e1 (fun _ _=>aK f e2) h a
theorem dz(i:Nat)(c:bH L ws w){k off b o:Nat}(f:dQ P T k off)(e:(ops[i]?,ev n env x)=(some ⟨d,.fieldAddr T x k,ty,pos,af,none⟩,Value.pointer (some ⟨b,o,none⟩)))(h:UF P ops L ws Q fuel (listed.setIfInBounds i true) n (gm env d (.pointer (some ⟨b,o+off,none⟩))) w)(a:(Region.noSelect ops&&(Region.free .any ops listed i&&(Region.ready .any ops listed).contains i))=true:=by kernel_rfl):UF P ops L ws Q (fuel+1) listed n env w:=by
 injection e with e1 e2;exact aZ i c e1 (fun _ _=>aK f e2) h a
theorem uX(i:Nat)(b:Grow ws w)(v:Value)(e:(ops[i]?,ev n env x)=(some ⟨d,.move x,ty,pos,af,none⟩,v))(h:WH P ops ws Q fuel (listed.setIfInBounds i true) n (gm env d v) w)(a:(Region.noSelect ops&&(Region.free .any ops listed i&&(Region.ready .any ops listed).contains i))=true:=by kernel_rfl):WH P ops ws Q (fuel+1) listed n env w:=by
 injection e with e1 e2;exact bQ i b e1 (fun _ _=>bL e2) h a
theorem jO(i:Nat)(b:bH L ws w)(v:Value)(e:(ops[i]?,ev n env x)=(some ⟨d,.move x,ty,pos,af,none⟩,v))(h:UF P ops L ws Q fuel (listed.setIfInBounds i true) n (gm env d v) w)(a:(Region.noSelect ops&&(Region.free .any ops listed i&&(Region.ready .any ops listed).contains i))=true:=by kernel_rfl):UF P ops L ws Q (fuel+1) listed n env w:=by
 injection e with e1 e2;exact aZ i b e1 (fun _ _=>bL e2) h a
theorem Gt(i:Nat)(b:Grow ws w)(v:Value)(e:(ops[i]?,ev n env x)=(some ⟨d,.assign x,ty,pos,af,none⟩,v))(h:WH P ops ws Q fuel (listed.setIfInBounds i true) n (gm env d v) w)(a:(Region.noSelect ops&&(Region.free .any ops listed i&&(Region.ready .any ops listed).contains i))=true:=by kernel_rfl):WH P ops ws Q (fuel+1) listed n env w:=by
 injection e with e1 e2;exact bQ i b e1 (fun _ _=>eQ e2) h a
theorem uF(i:Nat)(b:bH L ws w)(v:Value)(e:(ops[i]?,ev n env x)=(some ⟨d,.assign x,ty,pos,af,none⟩,v))(h:UF P ops L ws Q fuel (listed.setIfInBounds i true) n (gm env d v) w)(a:(Region.noSelect ops&&(Region.free .any ops listed i&&(Region.ready .any ops listed).contains i))=true:=by kernel_rfl):UF P ops L ws Q (fuel+1) listed n env w:=by
 injection e with e1 e2;exact aZ i b e1 (fun _ _=>eQ e2) h a
end
section
variable{P:Program}{ops:Array Oper}{Q:Exit->Act->World->Prop}{rest:List Oper}{n:Nat}{env:Nat->Value}{w w0:World}{M K:BS}{hp:Nat->Chunk}{d:Option Nat}{ty:TypeId}{pos:String}{af:Array Edge}{x y:Operand}{T:TypeId}
theorem bR{zs vs:List Value}{b:Nat}{cs:List Value}(h:SH w0 M K w hp)(i:Nat)(c:vv P T zs)(e:(hp i,ev n env x,ev n env y,vs.length,cs.length)=(Chunk.blk b cs,Value.pointer (some ⟨b,0,none⟩),Value.agg vs.toArray,zs.length,vs.length))(a:∀v∈vs,v.oneCell'=true)
 (k:∀w',SH w0 M K w' (bV hp i (.blk b vs))->WL P ops Q rest n (gm env d undef) w'):WL P ops Q (⟨d,.store T x y,ty,pos,af,none⟩::rest) n env w:=w_stA h i vs c e a k
theorem SH.pr(h:SH w0 M K w hp)(i j:Nat)(a:i≠j:=by decide):SH w0 M K w (bV (bV hp j .no) i (.two (hp i) (hp j))):=h.pair i j a
theorem SH.un{a c:Chunk}(h:SH w0 M K w hp)(i j:Nat)(e:hp i=.two a c)(d:hp j=.no)(b:i≠j:=by decide):SH w0 M K w (bV (bV hp i a) j c):=h.unpair i j b e d
end
open Go Go.RowKit Go.Proofs
theorem kR{L:BS}{w:World}:bH L w w:=bH.refl L w
theorem dO{vs:List Value}(e:vs.all Value.oneCell'=true):∀v∈vs,v.oneCell'=true:=fun v h=>List.all_eq_true.1 e v h
section
variable{P:Program}{ops:Array Oper}{Q:Exit->Act->World->Prop}{n:Nat}{env:Nat->Value}{w:World}{fuel:Nat}{listed:Array Bool}{L:BS}
theorem gZ(h:∀ws,bH L ws w->UF P ops L ws Q fuel listed n env w):UF P ops L w Q fuel listed n env w:=h w (bH.refl _ _)
theorem oJ(h:∀ws,Grow ws w->WH P ops ws Q fuel listed n env w):WH P ops w Q fuel listed n env w:=h w (bH.refl _ _)
end
section
variable{P:Program}{ops:Array Oper}{Q:Exit->Act->World->Prop}{rest:List Oper}{n:Nat}{env:Nat->Value}{w w0:World}{M K:BS}{hp:Nat->Chunk}{d:Option Nat}{ty:TypeId}{pos:String}{af:Array Edge}{x:Operand}{v:Value}
theorem DD{f:FuncId}{first captured:Array Value}{xs:Array Operand}{c:Array TypeId}{args:List Value}(h:SH w0 M K w hp)(a:PQ P f)(i:ev n env x=.func (.func f) first captured)
  (b:first.toList++xs.toList.map (ev n env)++captured.toList=args) (j:Calls P f args.toArray w (fun e w'=>Grow w w'/\e=.returned v)) (k:∀w',Grow w w'->SH w0 M K w' hp->WL P ops Q rest n (gm env d v) w'):
  WL P ops Q (⟨d,.call {callee:=.value x,args:=xs,argTypes:=c},ty,pos,af,none⟩::rest) n env w:=
 bT a i b j (by rintro _ w' ⟨g,rfl⟩;exact⟨_,Z,k w' g (h.grow g)⟩)
theorem vT{α:Type}{R:kL α}{l:List α}{f:FuncId}{first captured:Array Value}{xs:Array Operand}{c:Array TypeId}{args:List Value}{a:Value->Value}(h:SH w0 M K w hp)(i:Nat)(j:PQ P f)(m:ev n env x=.func (.func f) first captured)
  (b:first.toList++xs.toList.map (ev n env)++captured.toList=args) (o:Calls P f args.toArray w (fun e w'=>Grow w w'/\∃u,e=.returned (a u)/\cz R w' (SH.A M hp) u l)) (k:∀w' u,Grow w w'->SH w0 M K w' (bV hp i (.rd R u l))->WL P ops Q rest n (gm env d (a u)) w'):
  WL P ops Q (⟨d,.call {callee:=.value x,args:=xs,argTypes:=c},ty,pos,af,none⟩::rest) n env w:=
 bT j m b o (by rintro _ w' ⟨g,u,rfl,g2⟩;exact⟨_,Z,k w' u g (h.yZ i g g2)⟩)
theorem dG{α:Type}{R:kL α}{E:TypeId}{l:List α}{f:FuncId}{first captured:Array Value}{xs:Array Operand}{m:Array TypeId}{args:List Value}{a:Value->Value}(h:SH w0 M K w hp)(i:Nat)(o:PQ P f)(p:ev n env x=.func (.func f) first captured)
  (j:first.toList++xs.toList.map (ev n env)++captured.toList=args) (q:Calls P f args.toArray w (fun e w'=>Grow w w'/\∃u,e=.returned (a u)/\cK R E w' (SH.A M hp) u l/\(∀b,ob u b->w.heap.size<=b))) (k:∀w' u,Grow w w'->(∀b,ob u b->w.heap.size<=b)->SH w0 M K w' (bV hp i (.own R E u l))->WL P ops Q rest n (gm env d (a u)) w'):
  WL P ops Q (⟨d,.call {callee:=.value x,args:=xs,argTypes:=m},ty,pos,af,none⟩::rest) n env w:=
 bT o p j q (by rintro _ w' ⟨g,u,rfl,g2,c⟩;exact⟨_,Z,k w' u g c (h.wK i g g2 c)⟩)
end
open Go Go.RowKit Go.Proofs
abbrev pT(b:Nat):Value:=.pointer (some ⟨b,0,none⟩)
abbrev nS:Value:=.slice none 0 0
def fchk(P:Program)(f:FuncId):Bool:=match P.funcs[f]? with
 |some fn=> !(fn.name== "runtime.NumGoroutine")&& !fn.body.isNone
 |none=>false
theorem fo{P:Program}{f:FuncId}(h:fchk P f=true:=by kernel_rfl):PQ P f:=by
  unfold fchk at h;split at h
  · rename_i a e;simp only[Bool.and_eq_true,Bool.not_eq_true']at h;exact⟨a,e,h.1,h.2⟩
  · cases h
section
variable{P:Program}{ops:Array Oper}{Q:Exit->Act->World->Prop}{n:Nat}{env:Nat->Value}{w ws:World}{d:Option Nat}{op:Op}{ty:TypeId}{pos:String}{af:Array Edge}{fuel:Nat}{listed:Array Bool}{L:BS}
theorem aW(i:Nat)(b:ops[i]? =some ⟨d,op,ty,pos,af,none⟩)(h:WL P ops (Rh P ops L ws Q fuel (listed.setIfInBounds i true)) [⟨d,op,ty,pos,af,none⟩] n env w)(a:Region.ready .any ops listed=[i]:=by kernel_rfl):UF P ops L ws Q (fuel+1) listed n env w:=whk_eff i a b aY h
theorem pK(i:Nat)(b:ops[i]? =some ⟨d,op,ty,pos,af,none⟩)(h:WL P ops (after P ops ws Q fuel (listed.setIfInBounds i true)) [⟨d,op,ty,pos,af,none⟩] n env w)(a:Region.ready .any ops listed=[i]:=by kernel_rfl):WH P ops ws Q (fuel+1) listed n env w:=wh_eff i a b aY h
theorem iR(h:Q .normal (act n env) w)(a:Region.ready .any ops listed=[]:=by kernel_rfl):UF P ops L ws Q fuel listed n env w:=whk_done a h
theorem DF(h:Q .normal (act n env) w)(a:Region.ready .any ops listed=[]:=by kernel_rfl):WH P ops ws Q fuel listed n env w:=wh_done a h
end
end Go.LX
namespace Go.Proofs
set_option maxHeartbeats 1000000 in
set_option maxRecDepth 100000 in
theorem Tryz.stringslite_IndexByte(s:ByteArray)(c:Int)(w:World):
  Calls Tryz.prog 210 #[.string s,.int .u8 c] w fun e w'=>e=.returned (.int .i64 (Lib.indexByte s.data.toList c.toNat.toUInt8))/\w'=w:=by
 go_enter Tryz.func210,Tryz.ntmps210
 go_wp2
 rw[run_callFunc_extern Tryz.func225 zq2 zq2 zq2 (e:=Extern.BytealgIndexByte.indexByte) zq2,Lib.run_indexByteString];simp only[Result.andThen];rw[Oper.upon_value]
 go_wp2
 go_ret
 exact⟨Z,Z⟩
set_option maxHeartbeats 2000000 in
set_option maxRecDepth 100000 in
theorem Tryz.stringslite_Index_one(s:ByteArray)(c:UInt8)(w:World):
    Calls Tryz.prog 195 #[.string s,.string ⟨#[c]⟩] w fun e w'=>e=.returned (.int .i64 (Lib.indexByte s.data.toList c))/\w'=w:=by
  go_enter Tryz.func195,Tryz.ntmps195
  go_wp2_with (go_at_call 210;refine(Tryz.stringslite_IndexByte _ _ _).mono ?_;rintro e w'⟨rfl,rfl⟩)
  · have h:([c]==s.toList)=true:=by assumption
    go_ret
    refine⟨?_,Z⟩;have e:s.data.toList=[c]:=by rw[<-Lib.toList_data];exact(beq_iff_eq.1 h).symm
    rw[e];simp[Lib.indexByte]
  · go_ret
    exact⟨Z,Z⟩
set_option maxHeartbeats 1000000 in
theorem Tryz.strings_Index_one(s:ByteArray)(c:UInt8)(w:World):
  Calls Tryz.prog 178 #[.string s,.string ⟨#[c]⟩] w fun e w'=>e=.returned (.int .i64 (Lib.indexByte s.data.toList c))/\w'=w:=by
 go_enter Tryz.func178,Tryz.ntmps178
 go_wp2_with (go_at_call 195;refine(Tryz.stringslite_Index_one _ _ _).mono ?_;rintro e w'⟨rfl,rfl⟩)
 go_ret
 exact⟨Z,Z⟩
set_option maxHeartbeats 1000000 in
theorem Tryz.strings_Contains_one(s:ByteArray)(c:UInt8)(w:World):
  Calls Tryz.prog 188 #[.string s,.string ⟨#[c]⟩] w fun e w'=>e=.returned (.bool (decide (0<=Lib.indexByte s.data.toList c)))/\w'=w:=by
 go_enter Tryz.func188,Tryz.ntmps188
 go_wp2_with (go_at_call 178;refine(Tryz.strings_Index_one _ _ _).mono ?_;rintro e w'⟨rfl,rfl⟩)
 go_ret
 exact⟨Z,Z⟩
open Go.Shelf
def Tryz.lays146_ren:Go.Shelf.Ren:=⟨fun|146=>96|221=>145|268=>176|138=>177|143=>178|195=>197|197=>198|218=>199|219=>195|260=>215|217=>210|225=>211|224=>212|267=>213|266=>225|314=>226|n=>n,fun|9=>9|31=>173|3=>3|4=>4|0=>0|105=>293|21=>21|5=>5|46=>299|119=>242|139=>340|138=>339|146=>336|51=>277|n=>n,fun|1=>4|3=>5|4=>6|n=>n⟩
theorem Tryz.lays146:Go.Proofs.Lays.n146 Tryz.prog Tryz.lays146_ren:={
 mixed:=zq2
 f138:=Tryz.func177.trans (congrArg some zq2)
 f143:=Tryz.func178.trans (congrArg some zq2)
 f146:=Tryz.func96.trans (congrArg some zq2)
 f195:=Tryz.func197.trans (congrArg some zq2)
 f197:=Tryz.func198.trans (congrArg some zq2)
 f217:=Tryz.func210.trans (congrArg some zq2)
 f218:=Tryz.func199.trans (congrArg some zq2)
 f219:=Tryz.func195.trans (congrArg some zq2)
 f221:=Tryz.func145.trans (congrArg some zq2)
 f224:=Tryz.func212.trans (congrArg some zq2)
 f225:=Tryz.func211.trans (congrArg some zq2)
 f260:=Tryz.func215.trans (congrArg some zq2)
 f266:=Tryz.func225.trans (congrArg some zq2)
 f267:=Tryz.func213.trans (congrArg some zq2)
 f268:=Tryz.func176.trans (congrArg some zq2)
 f314:=Tryz.func226.trans (congrArg some zq2)
 t0:=Tryz.underlying0
 a0:=Tryz.isAgg0
 z0:=Tryz.sizeOf0
 v0:=Tryz.zeroValue0
 t3:=Tryz.underlying3
 a3:=Tryz.isAgg3
 z3:=Tryz.sizeOf3
 v3:=Tryz.zeroValue3
 t4:=Tryz.underlying4
 a4:=Tryz.isAgg4
 z4:=Tryz.sizeOf4
 v4:=Tryz.zeroValue4
 t5:=Tryz.underlying5
 a5:=Tryz.isAgg5
 z5:=Tryz.sizeOf5
 v5:=Tryz.zeroValue5
 t9:=Tryz.underlying9
 a9:=Tryz.isAgg9
 z9:=Tryz.sizeOf9
 v9:=Tryz.zeroValue9
 t21:=Tryz.underlying21
 a21:=Tryz.isAgg21
 z21:=Tryz.sizeOf21
 v21:=Tryz.zeroValue21
 t31:=Tryz.underlying173
 a31:=Tryz.isAgg173
 z31:=Tryz.sizeOf173
 v31:=Tryz.zeroValue173
 t46:=Tryz.underlying299
 a46:=Tryz.isAgg299
 z46:=Tryz.sizeOf299
 v46:=Tryz.zeroValue299
 t51:=Tryz.underlying277
 a51:=Tryz.isAgg277
 z51:=Tryz.sizeOf277
 v51:=Tryz.zeroValue277
 t105:=Tryz.underlying293
 a105:=Tryz.isAgg293
 z105:=Tryz.sizeOf293
 v105:=Tryz.zeroValue293
 t119:=Tryz.underlying242
 a119:=Tryz.isAgg242
 z119:=Tryz.sizeOf242
 t138:=Tryz.underlying339
 a138:=Tryz.isAgg339
 z138:=Tryz.sizeOf339
 v138:=Tryz.zeroValue339
 t139:=Tryz.underlying340
 a139:=Tryz.isAgg340
 z139:=Tryz.sizeOf340
 v139:=Tryz.zeroValue340
 t146:=Tryz.underlying336
 a146:=Tryz.isAgg336
 z146:=Tryz.sizeOf336
 v146:=Tryz.zeroValue336
 g1:=zq2
 g3:=zq2
 g4:=by kernel_rfl}
open Go.RowKit Go.Lib in
theorem Tryz.strings_Split(s a:ByteArray)(m:Int)(w:World)(b:s.size<4294967281)(c:w.cell? ⟨4,0,none⟩=some (.int .i64 m))(d:1<=a.size):
 Calls Tryz.prog 96 #[.string s,.string a] w fun e w'=>
  e=.returned (.slice (some ⟨w.heap.size,0,none⟩) (Lib.countB s a+1) (Lib.countB s a+1))/\w'=w.alloc (.cells ((Lib.splitB a 0 (Lib.countB s a) s).map Value.string).toArray 9):=Any.strings_Split Tryz.lays146 zq2 s a m w b c d
def Tryz.ZX:Go.Shelf.Ren:=⟨fun|172=>97|244=>146|245=>147|247=>179|279=>180|280=>181|281=>182|282=>183|287=>200|316=>201|171=>149|205=>202|321=>216|322=>217|243=>185|246=>203|283=>218|284=>219|285=>220|286=>221|129=>228|317=>227|318=>229|319=>230|320=>231|337=>232|338=>233|n=>n,fun|9=>9|3=>3|75=>176|76=>177|4=>4|5=>5|167=>267|37=>36|0=>0|85=>268|2=>2|168=>270|53=>296|175=>297|46=>299|210=>302|127=>317|145=>323|143=>321|21=>21|171=>324|173=>327|212=>342|51=>277|20=>20|213=>343|232=>346|233=>347|80=>180|n=>n,fun|15=>2|16=>3|17=>7|18=>8|19=>9|n=>n⟩
theorem Tryz.Vg:Go.Proofs.LaysC.n172 Tryz.prog Tryz.ZX:={
 mixed:=zq2
 f129:=Tryz.func228.trans (congrArg some zq2)
 f171:=Tryz.func149.trans (congrArg some zq2)
 f172:=Tryz.func97.trans (congrArg some zq2)
 f205:=Tryz.func202.trans (congrArg some zq2)
 f243:=Tryz.func185.trans (congrArg some zq2)
 f244:=Tryz.func146.trans (congrArg some zq2)
 f245:=Tryz.func147.trans (congrArg some zq2)
 f246:=Tryz.func203.trans (congrArg some zq2)
 f247:=Tryz.func179.trans (congrArg some zq2)
 f279:=Tryz.func180.trans (congrArg some zq2)
 f280:=Tryz.func181.trans (congrArg some zq2)
 f281:=Tryz.func182.trans (congrArg some zq2)
 f282:=Tryz.func183.trans (congrArg some zq2)
 f283:=Tryz.func218.trans (congrArg some zq2)
 f284:=Tryz.func219.trans (congrArg some zq2)
 f285:=Tryz.func220.trans (congrArg some zq2)
 f286:=Tryz.func221.trans (congrArg some zq2)
 f287:=Tryz.func200.trans (congrArg some zq2)
 f316:=Tryz.func201.trans (congrArg some zq2)
 f317:=Tryz.func227.trans (congrArg some zq2)
 f318:=Tryz.func229.trans (congrArg some zq2)
 f319:=Tryz.func230.trans (congrArg some zq2)
 f320:=Tryz.func231.trans (congrArg some zq2)
 f321:=Tryz.func216.trans (congrArg some zq2)
 f322:=Tryz.func217.trans (congrArg some zq2)
 f337:=Tryz.func232.trans (congrArg some zq2)
 f338:=Tryz.func233.trans (congrArg some zq2)
 t0:=Tryz.underlying0
 a0:=Tryz.isAgg0
 z0:=Tryz.sizeOf0
 v0:=Tryz.zeroValue0
 t2:=Tryz.underlying2
 a2:=Tryz.isAgg2
 z2:=Tryz.sizeOf2
 v2:=Tryz.zeroValue2
 t3:=Tryz.underlying3
 a3:=Tryz.isAgg3
 z3:=Tryz.sizeOf3
 v3:=Tryz.zeroValue3
 t4:=Tryz.underlying4
 a4:=Tryz.isAgg4
 z4:=Tryz.sizeOf4
 v4:=Tryz.zeroValue4
 t5:=Tryz.underlying5
 a5:=Tryz.isAgg5
 z5:=Tryz.sizeOf5
 v5:=Tryz.zeroValue5
 t9:=Tryz.underlying9
 a9:=Tryz.isAgg9
 z9:=Tryz.sizeOf9
 v9:=Tryz.zeroValue9
 t20:=Tryz.underlying20
 a20:=Tryz.isAgg20
 z20:=Tryz.sizeOf20
 v20:=Tryz.zeroValue20
 t21:=Tryz.underlying21
 a21:=Tryz.isAgg21
 z21:=Tryz.sizeOf21
 v21:=Tryz.zeroValue21
 t37:=Tryz.underlying36
 a37:=Tryz.isAgg36
 z37:=Tryz.sizeOf36
 v37:=Tryz.zeroValue36
 t46:=Tryz.underlying299
 a46:=Tryz.isAgg299
 z46:=Tryz.sizeOf299
 v46:=Tryz.zeroValue299
 t51:=Tryz.underlying277
 a51:=Tryz.isAgg277
 z51:=Tryz.sizeOf277
 v51:=Tryz.zeroValue277
 t53:=Tryz.underlying296
 a53:=Tryz.isAgg296
 z53:=Tryz.sizeOf296
 v53:=Tryz.zeroValue296
 t75:=Tryz.underlying176
 a75:=Tryz.isAgg176
 z75:=Tryz.sizeOf176
 v75:=Tryz.zeroValue176
 t76:=Tryz.underlying177
 a76:=Tryz.isAgg177
 z76:=Tryz.sizeOf177
 v76:=Tryz.zeroValue177
 t85:=Tryz.underlying268
 a85:=Tryz.isAgg268
 z85:=Tryz.sizeOf268
 v85:=Tryz.zeroValue268
 t127:=Tryz.underlying317
 a127:=Tryz.isAgg317
 z127:=Tryz.sizeOf317
 v127:=Tryz.zeroValue317
 t143:=Tryz.underlying321
 a143:=Tryz.isAgg321
 z143:=Tryz.sizeOf321
 v143:=Tryz.zeroValue321
 t145:=Tryz.underlying323
 a145:=Tryz.isAgg323
 z145:=Tryz.sizeOf323
 v145:=Tryz.zeroValue323
 t167:=Tryz.underlying267
 a167:=Tryz.isAgg267
 z167:=Tryz.sizeOf267
 v167:=Tryz.zeroValue267
 t168:=Tryz.underlying270
 a168:=Tryz.isAgg270
 z168:=Tryz.sizeOf270
 v168:=Tryz.zeroValue270
 t171:=Tryz.underlying324
 a171:=Tryz.isAgg324
 z171:=Tryz.sizeOf324
 v171:=Tryz.zeroValue324
 t173:=Tryz.underlying327
 a173:=Tryz.isAgg327
 z173:=Tryz.sizeOf327
 v173:=Tryz.zeroValue327
 t175:=Tryz.underlying297
 a175:=Tryz.isAgg297
 z175:=Tryz.sizeOf297
 v175:=Tryz.zeroValue297
 t210:=Tryz.underlying302
 a210:=Tryz.isAgg302
 z210:=Tryz.sizeOf302
 v210:=Tryz.zeroValue302
 t212:=Tryz.underlying342
 a212:=Tryz.isAgg342
 z212:=Tryz.sizeOf342
 v212:=Tryz.zeroValue342
 t213:=Tryz.underlying343
 a213:=Tryz.isAgg343
 z213:=Tryz.sizeOf343
 t232:=Tryz.underlying346
 a232:=Tryz.isAgg346
 z232:=Tryz.sizeOf346
 v232:=Tryz.zeroValue346
 t233:=Tryz.underlying347
 a233:=Tryz.isAgg347
 z233:=Tryz.sizeOf347
 v233:=Tryz.zeroValue347
 g15:=zq2
 g16:=zq2
 g17:=zq2
 g18:=zq2
 g19:=zq2
 t80:=Tryz.underlying180
 a80:=Tryz.isAgg180
 z80:=Tryz.sizeOf180
 v80:=Tryz.zeroValue180
 i0:=zq2
 i2:=zq2
 i3:=zq2
 i4:=zq2
 i5:=zq2
 i9:=zq2
 i20:=zq2
 i21:=zq2
 i37:=zq2
 i46:=zq2
 i51:=zq2
 i53:=zq2
 i75:=zq2
 i76:=zq2
 i80:=zq2
 i85:=zq2
 i127:=zq2
 i143:=zq2
 i145:=zq2
 i167:=zq2
 i168:=zq2
 i171:=zq2
 i173:=zq2
 i175:=zq2
 i210:=zq2
 i212:=zq2
 i232:=zq2
 i233:=zq2
 m15:=zq2
 m16:=zq2
 m17:=zq2
 m18:=zq2
 m19:=zq2
 c0:=zq2
 c2:=zq2
 c3:=zq2
 c4:=zq2
 c5:=zq2
 c9:=zq2
 c20:=zq2
 c21:=zq2
 c37:=zq2
 c46:=zq2
 c51:=zq2
 c53:=zq2
 c75:=zq2
 c76:=zq2
 c80:=zq2
 c85:=zq2
 c127:=zq2
 c143:=zq2
 c145:=zq2
 c167:=zq2
 c168:=zq2
 c171:=zq2
 c173:=zq2
 c175:=zq2
 c210:=zq2
 c212:=zq2
 c213:=zq2
 c232:=zq2
 c233:=by kernel_rfl}
open Go.RowKit in
theorem Tryz.strconv_Atoi_ok(s:ByteArray)(a:s.size<=9223372036854775806)(v:Int)(h:Lib.atoiAll s.data.toList=.ok v)(w:World):
 Calls Tryz.prog 97 #[.string s] w fun e w'=>e=.returned (.tuple #[.int .i64 v,.nilIface])/\(w'=w\/∃t,w'=Lib.bytesWorld w 5 t):=Any.strconv_Atoi_ok Tryz.Vg s a v h w
open Go.RowKit in
theorem Tryz.strconv_Atoi_syntax_var(s:ByteArray)(a:s.size<=281474976710656)(e:Lib.NumEnd Int)(h:Lib.atoiAll s.data.toList=e)(d:∀v,e≠ .ok v)(f:e≠ .range)(c:TypeId)(p:Value)(w:World)(b:w.var? Tryz.prog "strconv.ErrSyntax" =some #[.iface c p]):
 Calls Tryz.prog 97 #[.string s] w fun e w'=>∃N,e=.returned (.tuple #[.int .i64 0,.iface 270 (.pointer (some ⟨N,0,none⟩))])/\w.heap.size<=N/\w'.heap[N]? =some (.cells #[.string ⟨#[65,116,111,105]⟩,.string s,.iface c p] 302 (0,0))/\Below w.heap.size w w':=Any.strconv_Atoi_syntax_var Tryz.Vg s a (by cases e with|ok v=>exact absurd Z (d v)|range=>exact absurd Z f|_=>exact h) c p w b
open Go.RowKit in
theorem Tryz.strconv_Atoi_range_var(s:ByteArray)(a:s.size<=281474976710656)(h:Lib.atoiAll s.data.toList=.range)(c:TypeId)(p:Value)(w:World)(b:w.var? Tryz.prog "strconv.ErrRange" =some #[.iface c p]):
 Calls Tryz.prog 97 #[.string s] w fun e w'=>∃N,e=.returned (.tuple #[.int .i64 (Lib.atoiSat s.data.toList),.iface 270 (.pointer (some ⟨N,0,none⟩))])/\w.heap.size<=N/\w'.heap[N]? =some (.cells #[.string ⟨#[65,116,111,105]⟩,.string s,.iface c p] 302 (0,0))/\Below w.heap.size w w':=Any.strconv_Atoi_range_var Tryz.Vg s a h c p w b
def Tryz.ZY:Go.Shelf.Ren:=⟨fun|171=>149|243=>185|246=>203|283=>218|284=>219|285=>220|286=>221|129=>228|317=>227|318=>229|319=>230|320=>231|337=>232|338=>233|n=>n,fun|3=>3|9=>9|2=>2|4=>4|171=>324|0=>0|53=>296|37=>36|5=>5|173=>327|212=>342|51=>277|20=>20|213=>343|46=>299|232=>346|233=>347|n=>n,fun|17=>7|18=>8|19=>9|n=>n⟩
theorem Tryz.laysM171:Go.Proofs.LaysM.n171 Tryz.prog Tryz.ZY:={
 mixed:=zq2
 f129:=Tryz.func228.trans (congrArg some zq2)
 f171:=Tryz.func149.trans (congrArg some zq2)
 f243:=Tryz.func185.trans (congrArg some zq2)
 f246:=Tryz.func203.trans (congrArg some zq2)
 f283:=Tryz.func218.trans (congrArg some zq2)
 f284:=Tryz.func219.trans (congrArg some zq2)
 f285:=Tryz.func220.trans (congrArg some zq2)
 f286:=Tryz.func221.trans (congrArg some zq2)
 f317:=Tryz.func227.trans (congrArg some zq2)
 f318:=Tryz.func229.trans (congrArg some zq2)
 f319:=Tryz.func230.trans (congrArg some zq2)
 f320:=Tryz.func231.trans (congrArg some zq2)
 f337:=Tryz.func232.trans (congrArg some zq2)
 f338:=Tryz.func233.trans (congrArg some zq2)
 t0:=Tryz.underlying0
 a0:=Tryz.isAgg0
 z0:=Tryz.sizeOf0
 v0:=Tryz.zeroValue0
 t2:=Tryz.underlying2
 a2:=Tryz.isAgg2
 z2:=Tryz.sizeOf2
 v2:=Tryz.zeroValue2
 t3:=Tryz.underlying3
 a3:=Tryz.isAgg3
 z3:=Tryz.sizeOf3
 v3:=Tryz.zeroValue3
 t4:=Tryz.underlying4
 a4:=Tryz.isAgg4
 z4:=Tryz.sizeOf4
 v4:=Tryz.zeroValue4
 t5:=Tryz.underlying5
 a5:=Tryz.isAgg5
 z5:=Tryz.sizeOf5
 v5:=Tryz.zeroValue5
 t9:=Tryz.underlying9
 a9:=Tryz.isAgg9
 z9:=Tryz.sizeOf9
 v9:=Tryz.zeroValue9
 t20:=Tryz.underlying20
 a20:=Tryz.isAgg20
 z20:=Tryz.sizeOf20
 v20:=Tryz.zeroValue20
 t37:=Tryz.underlying36
 a37:=Tryz.isAgg36
 z37:=Tryz.sizeOf36
 v37:=Tryz.zeroValue36
 t46:=Tryz.underlying299
 a46:=Tryz.isAgg299
 z46:=Tryz.sizeOf299
 v46:=Tryz.zeroValue299
 t51:=Tryz.underlying277
 a51:=Tryz.isAgg277
 z51:=Tryz.sizeOf277
 v51:=Tryz.zeroValue277
 t53:=Tryz.underlying296
 a53:=Tryz.isAgg296
 z53:=Tryz.sizeOf296
 v53:=Tryz.zeroValue296
 t171:=Tryz.underlying324
 a171:=Tryz.isAgg324
 z171:=Tryz.sizeOf324
 v171:=Tryz.zeroValue324
 t173:=Tryz.underlying327
 a173:=Tryz.isAgg327
 z173:=Tryz.sizeOf327
 v173:=Tryz.zeroValue327
 t212:=Tryz.underlying342
 a212:=Tryz.isAgg342
 z212:=Tryz.sizeOf342
 v212:=Tryz.zeroValue342
 t213:=Tryz.underlying343
 a213:=Tryz.isAgg343
 z213:=Tryz.sizeOf343
 t232:=Tryz.underlying346
 a232:=Tryz.isAgg346
 z232:=Tryz.sizeOf346
 v232:=Tryz.zeroValue346
 t233:=Tryz.underlying347
 a233:=Tryz.isAgg347
 z233:=Tryz.sizeOf347
 v233:=Tryz.zeroValue347
 g17:=zq2
 g18:=zq2
 g19:=zq2
 i0:=zq2
 i2:=zq2
 i3:=zq2
 i4:=zq2
 i5:=zq2
 i9:=zq2
 i20:=zq2
 i37:=zq2
 i46:=zq2
 i51:=zq2
 i53:=zq2
 i171:=zq2
 i173:=zq2
 i212:=zq2
 i232:=zq2
 i233:=zq2
 m17:=zq2
 m18:=zq2
 m19:=by kernel_rfl}
open Go.RowKit Go.Sort Go.Lib in
theorem Tryz.strconv_Itoa(n:Int)(b: -9223372036854775808<=n)(c:n<=9223372036854775807)(w:World)(a:Lib.TabIs Tryz.prog w "internal/strconv.uint64pow10" .u64 Lib.pow10Tab):
 Calls Tryz.prog 149 #[.int .i64 n] w fun e w'=>e=.returned (.string ⟨(Lib.itoa n).toArray⟩)/\∃k os,w'=grow (w.drewN k) os:=Any.strconv_Itoa Tryz.laysM171 n b c w a
def Tryz.lays157_ren:Go.Shelf.Ren:=⟨fun|157=>107|229=>152|199=>153|261=>186|311=>204|312=>205|n=>n,fun|9=>9|31=>173|3=>3|5=>5|4=>4|119=>242|0=>0|40=>244|152=>274|21=>21|154=>276|51=>277|141=>279|196=>308|193=>305|198=>311|49=>309|194=>306|201=>314|226=>329|46=>299|227=>330|n=>n,fun|0=>0|6=>1|n=>n⟩
theorem Tryz.lays157:Go.Proofs.Lays.n157 Tryz.prog Tryz.lays157_ren:={
 mixed:=zq2
 f157:=Tryz.func107.trans (congrArg some zq2)
 f199:=Tryz.func153.trans (congrArg some zq2)
 f229:=Tryz.func152.trans (congrArg some zq2)
 f261:=Tryz.func186.trans (congrArg some zq2)
 f311:=Tryz.func204.trans (congrArg some zq2)
 f312:=Tryz.func205.trans (congrArg some zq2)
 t0:=Tryz.underlying0
 a0:=Tryz.isAgg0
 z0:=Tryz.sizeOf0
 v0:=Tryz.zeroValue0
 t3:=Tryz.underlying3
 a3:=Tryz.isAgg3
 z3:=Tryz.sizeOf3
 v3:=Tryz.zeroValue3
 t4:=Tryz.underlying4
 a4:=Tryz.isAgg4
 z4:=Tryz.sizeOf4
 v4:=Tryz.zeroValue4
 t5:=Tryz.underlying5
 a5:=Tryz.isAgg5
 z5:=Tryz.sizeOf5
 v5:=Tryz.zeroValue5
 t9:=Tryz.underlying9
 a9:=Tryz.isAgg9
 z9:=Tryz.sizeOf9
 v9:=Tryz.zeroValue9
 t21:=Tryz.underlying21
 a21:=Tryz.isAgg21
 z21:=Tryz.sizeOf21
 v21:=Tryz.zeroValue21
 t31:=Tryz.underlying173
 a31:=Tryz.isAgg173
 z31:=Tryz.sizeOf173
 v31:=Tryz.zeroValue173
 t40:=Tryz.underlying244
 a40:=Tryz.isAgg244
 z40:=Tryz.sizeOf244
 v40:=Tryz.zeroValue244
 t46:=Tryz.underlying299
 a46:=Tryz.isAgg299
 z46:=Tryz.sizeOf299
 v46:=Tryz.zeroValue299
 t49:=Tryz.underlying309
 a49:=Tryz.isAgg309
 z49:=Tryz.sizeOf309
 v49:=Tryz.zeroValue309
 t51:=Tryz.underlying277
 a51:=Tryz.isAgg277
 z51:=Tryz.sizeOf277
 v51:=Tryz.zeroValue277
 t119:=Tryz.underlying242
 a119:=Tryz.isAgg242
 z119:=Tryz.sizeOf242
 t141:=Tryz.underlying279
 a141:=Tryz.isAgg279
 z141:=Tryz.sizeOf279
 v141:=Tryz.zeroValue279
 t152:=Tryz.underlying274
 a152:=Tryz.isAgg274
 z152:=Tryz.sizeOf274
 v152:=Tryz.zeroValue274
 t154:=Tryz.underlying276
 a154:=Tryz.isAgg276
 z154:=Tryz.sizeOf276
 v154:=Tryz.zeroValue276
 t193:=Tryz.underlying305
 a193:=Tryz.isAgg305
 z193:=Tryz.sizeOf305
 v193:=Tryz.zeroValue305
 t194:=Tryz.underlying306
 a194:=Tryz.isAgg306
 z194:=Tryz.sizeOf306
 v194:=Tryz.zeroValue306
 t196:=Tryz.underlying308
 a196:=Tryz.isAgg308
 z196:=Tryz.sizeOf308
 v196:=Tryz.zeroValue308
 t198:=Tryz.underlying311
 a198:=Tryz.isAgg311
 z198:=Tryz.sizeOf311
 v198:=Tryz.zeroValue311
 t201:=Tryz.underlying314
 a201:=Tryz.isAgg314
 z201:=Tryz.sizeOf314
 v201:=Tryz.zeroValue314
 t226:=Tryz.underlying329
 a226:=Tryz.isAgg329
 z226:=Tryz.sizeOf329
 v226:=Tryz.zeroValue329
 t227:=Tryz.underlying330
 a227:=Tryz.isAgg330
 z227:=Tryz.sizeOf330
 v227:=Tryz.zeroValue330
 g0:=zq2
 g6:=by kernel_rfl}
open Go.RowKit Go.Lib in
theorem Tryz.strings_Fields(s:ByteArray)(w:World)(d:s.size<4294967281)(a:∀(j:Nat) b,s.data.toList[j]? =some b->b.toNat<128)(c:Lib.TabIs Tryz.prog w "strings.asciiSpace" .u8 Lib.asciiSpaceTab):
 Calls Tryz.prog 107 #[.string s] w fun e w'=>
  e=.returned (.slice (some ⟨w.heap.size,0,none⟩) (Lib.fields s.data.toList).length (Lib.fields s.data.toList).length)/\w'=w.alloc (.cells ((Lib.fields s.data.toList).map fun l=>Value.string ⟨l.toArray⟩).toArray 9):=Any.strings_Fields Tryz.lays157 zq2 zq2 s w d a c
def Tryz.Ue:Go.Shelf.Ren:=⟨fun|156=>157|165=>191|166=>192|169=>193|240=>207|241=>208|276=>222|277=>223|n=>n,fun|31=>173|9=>9|3=>3|4=>4|0=>0|20=>20|72=>287|76=>177|70=>285|37=>36|75=>176|127=>317|164=>331|5=>5|80=>180|n=>n,fun|n=>n⟩
theorem Tryz.lays156:Go.Proofs.Lays.n156 Tryz.prog Tryz.Ue:={
 mixed:=zq2
 f156:=Tryz.func157.trans (congrArg some zq2)
 f165:=Tryz.func191.trans (congrArg some zq2)
 f166:=Tryz.func192.trans (congrArg some zq2)
 f169:=Tryz.func193.trans (congrArg some zq2)
 f240:=Tryz.func207.trans (congrArg some zq2)
 f241:=Tryz.func208.trans (congrArg some zq2)
 f276:=Tryz.func222.trans (congrArg some zq2)
 f277:=Tryz.func223.trans (congrArg some zq2)
 t0:=Tryz.underlying0
 a0:=Tryz.isAgg0
 z0:=Tryz.sizeOf0
 v0:=Tryz.zeroValue0
 t3:=Tryz.underlying3
 a3:=Tryz.isAgg3
 z3:=Tryz.sizeOf3
 v3:=Tryz.zeroValue3
 t4:=Tryz.underlying4
 a4:=Tryz.isAgg4
 z4:=Tryz.sizeOf4
 v4:=Tryz.zeroValue4
 t9:=Tryz.underlying9
 a9:=Tryz.isAgg9
 z9:=Tryz.sizeOf9
 v9:=Tryz.zeroValue9
 t20:=Tryz.underlying20
 a20:=Tryz.isAgg20
 z20:=Tryz.sizeOf20
 v20:=Tryz.zeroValue20
 t31:=Tryz.underlying173
 a31:=Tryz.isAgg173
 z31:=Tryz.sizeOf173
 v31:=Tryz.zeroValue173
 t37:=Tryz.underlying36
 a37:=Tryz.isAgg36
 z37:=Tryz.sizeOf36
 v37:=Tryz.zeroValue36
 t70:=Tryz.underlying285
 a70:=Tryz.isAgg285
 z70:=Tryz.sizeOf285
 v70:=Tryz.zeroValue285
 t72:=Tryz.underlying287
 a72:=Tryz.isAgg287
 z72:=Tryz.sizeOf287
 v72:=Tryz.zeroValue287
 t75:=Tryz.underlying176
 a75:=Tryz.isAgg176
 z75:=Tryz.sizeOf176
 v75:=Tryz.zeroValue176
 t76:=Tryz.underlying177
 a76:=Tryz.isAgg177
 z76:=Tryz.sizeOf177
 v76:=Tryz.zeroValue177
 t127:=Tryz.underlying317
 a127:=Tryz.isAgg317
 z127:=Tryz.sizeOf317
 v127:=Tryz.zeroValue317
 t164:=Tryz.underlying331
 a164:=Tryz.isAgg331
 z164:=Tryz.sizeOf331
 v164:=Tryz.zeroValue331}
theorem Tryz.GM:Builder.Extra Tryz.prog Tryz.Ue:={
 sizeBuilder:=zq2
 liesBuilder:=zq2
 t5:=Tryz.underlying5
 a5:=Tryz.isAgg5
 z5:=Tryz.sizeOf5
 v5:=Tryz.zeroValue5
 infoByte:=zq2
 cellsByte:=zq2
 sizeByte:=zq2
 neB5:=by decide}
open Go.RowKit in
theorem Tryz.strings_Join_none(a:Option Addr)(c:Nat)(b:ByteArray)(w:World):
 Calls Tryz.prog 157 #[.slice a 0 c,.string b] w fun e w'=>e=.returned (.string ⟨#[]⟩)/\w'=w:=Any.strings_Join_none Tryz.lays156 Tryz.GM a c b w
open Go.RowKit in
theorem Tryz.strings_Join(g o c:Nat)(xs:List ByteArray)(a:ByteArray)(w:World)(b:∀(j:Nat) x,xs[j]? =some x->w.cell? ⟨g,o+j,none⟩=some (.string x))(h:g<w.heap.size)(hN:xs.length<=140737488355328)(d:xs.length<=c)(f:(Lib.join (xs.map (·.data.toList)) a.data.toList).length<=140737488355328):
    Calls Tryz.prog 157 #[.slice (some ⟨g,o,none⟩) xs.length c,.string a] w fun e w'=>e=.returned (.string ⟨(Lib.join (xs.map (·.data.toList)) a.data.toList).toArray⟩)/\Below w.heap.size w w':=Any.strings_Join Tryz.lays156 Tryz.GM g o c xs a w b h hN d f
def Tryz.lays145_ren:Go.Shelf.Ren:=⟨fun|145=>130|220=>171|219=>195|217=>210|225=>211|224=>212|267=>213|266=>225|314=>226|n=>n,fun|9=>9|4=>4|59=>217|3=>3|5=>5|46=>299|146=>336|51=>277|n=>n,fun|1=>4|n=>n⟩
theorem Tryz.lays145:Go.Proofs.Lays.n145 Tryz.prog Tryz.lays145_ren:={
 mixed:=zq2
 f145:=Tryz.func130.trans (congrArg some zq2)
 f217:=Tryz.func210.trans (congrArg some zq2)
 f219:=Tryz.func195.trans (congrArg some zq2)
 f220:=Tryz.func171.trans (congrArg some zq2)
 f224:=Tryz.func212.trans (congrArg some zq2)
 f225:=Tryz.func211.trans (congrArg some zq2)
 f266:=Tryz.func225.trans (congrArg some zq2)
 f267:=Tryz.func213.trans (congrArg some zq2)
 f314:=Tryz.func226.trans (congrArg some zq2)
 t3:=Tryz.underlying3
 a3:=Tryz.isAgg3
 z3:=Tryz.sizeOf3
 v3:=Tryz.zeroValue3
 t4:=Tryz.underlying4
 a4:=Tryz.isAgg4
 z4:=Tryz.sizeOf4
 v4:=Tryz.zeroValue4
 t5:=Tryz.underlying5
 a5:=Tryz.isAgg5
 z5:=Tryz.sizeOf5
 v5:=Tryz.zeroValue5
 t9:=Tryz.underlying9
 a9:=Tryz.isAgg9
 z9:=Tryz.sizeOf9
 v9:=Tryz.zeroValue9
 t46:=Tryz.underlying299
 a46:=Tryz.isAgg299
 z46:=Tryz.sizeOf299
 v46:=Tryz.zeroValue299
 t51:=Tryz.underlying277
 a51:=Tryz.isAgg277
 z51:=Tryz.sizeOf277
 v51:=Tryz.zeroValue277
 t59:=Tryz.underlying217
 a59:=Tryz.isAgg217
 z59:=Tryz.sizeOf217
 v59:=Tryz.zeroValue217
 t146:=Tryz.underlying336
 a146:=Tryz.isAgg336
 z146:=Tryz.sizeOf336
 v146:=Tryz.zeroValue336
 g1:=by kernel_rfl}
open Go.RowKit Go.Lib in
theorem Tryz.strings_Cut(s a:ByteArray)(m:Int)(w:World)(b:s.size<4294967281)(c:w.cell? ⟨4,0,none⟩=some (.int .i64 m)):
 Calls Tryz.prog 130 #[.string s,.string a] w fun e w'=>e=.returned (.tuple #[.string ⟨(Lib.cut s.data.toList a.data.toList).1.toArray⟩,.string ⟨(Lib.cut s.data.toList a.data.toList).2.1.toArray⟩,.bool (Lib.cut s.data.toList a.data.toList).2.2])/\∃n,w'=w.drewN n:=Any.strings_Cut Tryz.lays145 s a m w b c
end Go.Proofs