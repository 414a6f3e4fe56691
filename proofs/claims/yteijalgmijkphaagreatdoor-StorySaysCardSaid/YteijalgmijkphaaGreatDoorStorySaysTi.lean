/-
  What the law StorySays needs of our own library and of the walks, no more.
-/
import Derived.Test.YteijalgmijkphaaGreatDoorStorySaysTh
set_option linter.unusedSimpArgs false
set_option linter.unusedVariables false
set_option maxRecDepth 10000
set_option maxHeartbeats 4000000
open Bool renaming and_eq_true->cH,and_false->kO,and_self->jF,false_and->eT,false_eq_true->de,not_false->eS,not_true->cS,or_false->tp,or_true->sc,true_and->iv,true_eq_false->rn,false->ar,true->ba
open Decidable renaming decide->ab
open Go.Sort.insOuter renaming eq_def->fN
open Int renaming eq_ofNat_of_zero_le->cC,le_of_lt->pc,le_refl->sE,toNat_natCast->cc
open List renaming append_assoc->bf,append_nil->ca,cons_append->eL,eq_nil_of_length_eq_zero->cd,filter_append->hU,filter_cons->fY,filter_cons_of_neg->ef,filter_cons_of_pos->eJ,filter_eq_nil_iff->kv,find?_cons->eW,find?_eq_none->wh,find?_some->ze,flatMap_append->jh,flatMap_cons->sd,flatMap_nil->sl,flatMap_singleton->tD,foldl_cons->zj,getElem?_eq_getElem->bh,length_append->an,length_cons->bl,length_drop->cp,length_eq_one_iff->tE,length_nil->cJ,length_pos_iff->cQ,length_pos_of_mem->kx,length_singleton->dd,length_take->bo,map_cons->ct,map_nil->gC,mem_append->db,mem_append_left->iW,mem_append_right->im,mem_cons->bp,mem_cons_of_mem->bm,mem_filter->mc,mem_iff_getElem->ur,mem_of_getElem?->eK,mem_of_mem_drop->ux,mem_of_mem_take->uv,mem_singleton->dq,nil_append->cf,pairwise_append->fk,pairwise_cons->cA,pairwise_iff_getElem->th,range->rr,range_succ->sC,replicate->cP,take_append_drop->fc
open List.Pairwise renaming nil->lC
open Option renaming some->ah
namespace Go.Proofs.YteijalgmijkphaaGreatDoor
open Go Go.Proofs Go.LX
namespace Pw
open Dk
theorem lnP_inv(most:Int):∀(p:Zi Str) (l:Zi Rec) (n:Int),∃a,(Vv most p l n).1=l++a/\TE a/\(Vv most p l n).2.1=n+((txt a).length:Int)/\∃t,Ee 10 p=txt a++t/\((Vv most p l n).2.2=0->t=[])
  |[],l,n=>⟨[],by simp[Vv],Rw,by simp[Vv,txt],[],by simp[Ee,Lib.join_nil,txt],fun _=>rfl⟩
  |[x],l,n=>by
    unfold Vv;by_cases h:x=[]
    · rw[Z2 h];subst h;exact⟨[],by simp,Rw,by simp[txt],[],by rw[Gy];rfl,fun _=>rfl⟩
    · rw[Z3 h];exact⟨[],by simp,Rw,by simp[txt],x,by rw[Gy];rfl,fun h=>by simp at h⟩
  |x::y::r,l,n=>by
    unfold Vv;by_cases c:(ow x).2=0
    · rw[Z3 V];by_cases e:most<=(l.length:Int)
      · rw[Z2 e];exact⟨[],by simp,Rw,by simp[txt],_,Z,fun h=>by simp at h⟩
      · rw[Z3 e];obtain⟨a,j,f,g,t,i,k⟩:=lnP_inv most (y::r) (l++[(ow x).1])<|n+(x.length:Int)+1;obtain⟨k1,k2,d⟩:=read_ok (s:=x) (r:=(ow x).1) (by rw[<-c]);refine⟨(ow x).1::a,by rw[j];simp,?_,?_,t,?_,k⟩
        · intro z b;rcases bp.1 b with rfl|b
          · exact⟨k1,k2⟩
          · exact f z b
        · rw[g];have:(Vw (ow x).1)=x:=d.symm;simp only[txt,an,bl,this];omega
        · rw[DR,i];have:(Vw (ow x).1)=x:=d.symm;simp[txt,this]
    · rw[Z2 c];exact⟨[],by simp,Rw,by simp[txt],_,Z,fun h=>Zs h c⟩
theorem ln_inv(most:Int)(s:Str):TE (ln most s).1/\(ln most s).2.1=((txt (ln most s).1).length:Int)/\∃t,s=txt (ln most s).1++t/\((ln most s).2.2=0->t=[]):=by
 obtain⟨f,b,c,d,t,a,e⟩:=lnP_inv most (kg 10 s) [] 0;rw[cf]at b;rw[AY]at a;unfold Dk.ln;rw[b];exact⟨c,by rw[d];omega,t,a,e⟩
def EM(d:jr):Zi Rec:=(ln 120 d.safe).1
def Ad(d:jr):Zi Rec:=(recT d).2
structure DOk(d:jr):Prop where
 safe:d.safe=txt (EM d)
 good:TE (Ad d)
 len:(Ad d).length<=120
 room:d.safe.length+d.wait.length<=60000
 pre:EM d<+:Ad d
 whole:(recT d).1=⟨txt (Ad d),[]⟩
 rroom:(txt (Ad d)).length<=60000
 still:d.wait=[]->Ad d=EM d
theorem dOk{d:jr}(h:oz d=0):DOk d:=by
  obtain⟨k,m⟩:=Dk.Dm h;obtain⟨g1,g2,t,c,l⟩:=ln_inv 120 d.safe;have g:=l m;subst g;rw[ca]at c;have hl:((ln 120 d.safe).1.length:Int)<=120:=(ln_len 120 d.safe).2.2.2 V;obtain⟨k1,k2,u,f,o⟩:=ln_inv (120-((ln 120 d.safe).1.length:Int)) d.wait;have j:=(ln_len (120-((ln 120 d.safe).1.length:Int)) d.wait).2.2.2 V;have a:Ad d=(ln 120 d.safe).1++(ln (120-((ln 120 d.safe).1.length:Int)) d.wait).1:=rfl;have b:d.wait.take (ln (120-((ln 120 d.safe).1.length:Int)) d.wait).2.1.toNat=txt (ln (120-((ln 120 d.safe).1.length:Int)) d.wait).1:=by
    generalize n:txt (ln (120-((ln 120 d.safe).1.length:Int)) d.wait).1=T at k2 f;rw[k2,cc,f,List.take_left]
  have p:(txt (ln (120-((ln 120 d.safe).1.length:Int)) d.wait).1).length<=d.wait.length:=by
    rw[<-b,bo];omega
  refine⟨c,?_,?_,k,?_,?_,?_,?_⟩
  · rw[a];exact fun r i=>(db.1 i).elim (g1 r)<|k1 r
  · rw[a,an];omega
  · rw[a];exact List.prefix_append _ _
  · show(⟨d.safe++d.wait.take (ln (120-((ln 120 d.safe).1.length:Int)) d.wait).2.1.toNat,[]⟩:jr)=_;rw[b,a,txt_app,<-c]
  · rw[a,txt_app,an,<-c];omega
  · intro e;rw[a,e];show _++(Vv _ (kg 10 []) [] 0).1=_;simp[kg,Vv,EM]
theorem dOk_mk{a:Zi Rec}{w:Str}(h:TE a)(hl:a.length<=120)(b:(txt a).length+w.length<=60000):oz ⟨txt a,w⟩=0/\EM ⟨txt a,w⟩=a:=by
 refine⟨check_txt h hl b,?_⟩;unfold EM;rw[ln_all h V]
end Pw
open Go Go.Proofs Go.LX
namespace Pw
open Dk
def BP(i:Int)(l:Zi Co):Yw Co:=l.find? fun x=>ab (x.jL=i)
theorem findC_id{i:Int}{l:Zi Co}{c:Co}(h:BP i l=ah c):c.jL=i/\c∈l:=by
 have a:=ze h;exact⟨by simpa using a,List.mem_of_find?_eq_some h⟩
theorem Hu{c:Co}{i:Int}:∀{l:Zi Co},(∀x∈l,x.jL≠c.jL)->BP i (Gb c l)=if i=c.jL then ah c else BP i l
  |[],_=>by
    unfold Gb BP;rw[eW];by_cases h:i=c.jL
    · rw[Z2 h,dT h.symm]
    · rw[Z3 h,dF (fun e=>h e.symm)]
  |x::r,hx=>by
    unfold Gb;by_cases a:x.jL<c.jL
    · rw[Z2 a];have b:=Hu (c:=c) (i:=i) (l:=r) fun y d=>hx y<|bm _ d;unfold BP at b⊢;rw[eW,eW,b];by_cases h:x.jL=i
      · rw[dT h];show ah x=_;rw[Z3 (by have:=hx x zq3;omega)]
      · rw[dF h]
    · rw[Z3 a];unfold BP;rw[eW];by_cases h:i=c.jL
      · rw[Z2 h,dT h.symm]
      · rw[Z3 h,dF (fun e=>h e.symm)]
theorem Kb{b:Rec}{i:Int}:∀{l:Zi Co},BP i (Ka b l)=if i=b.co then none else BP i l
  |[]=>by simp[BP,Ka]
  |x::r=>by
    have c:=Kb (b:=b) (i:=i) (l:=r);unfold BP Ka at c⊢;rw[fY];by_cases h:x.jL=b.co
    · rw[dF V];simp only[de,if_false];rw[c,eW];by_cases a:i=b.co
      · rw[Z2 a,Z2 a]
      · rw[Z3 a,Z3 a,dF V]
    · rw[dT h];simp only[if_true];rw[eW,eW,c];by_cases a:x.jL=i
      · rw[dT a];show ah x=_;rw[Z3 V]
      · rw[dF a]
inductive Did (r:Rec) (o n:Option Co):Prop
 |begin (h:r.kind=1/\r.ax=1) (ho:o=none) (hn:n=ah ⟨r.co,r.ax,r.image,-1⟩)
 |take (h:r.kind=4/\r.ax≠1) (ho:o=none) (hn:n=ah ⟨r.co,r.ax,r.image,-1⟩)
 |slice (c:Co) (h:r.kind=2) (ho:o=ah c) (he:c.ax=r.ax) (hf:c.offered= -1) (hn:n=ah ⟨c.jL,c.ax,r.image,-1⟩)
 |offer (c:Co) (h:r.kind=3) (ho:o=ah c) (he:c.ax=r.ax) (hf:c.offered= -1) (hx:c.ax≠100) (hn:n=ah ⟨c.jL,c.ax,c.image,r.place⟩)
 |gone (c:Co) (h:r.kind=5) (ho:o=ah c) (he:c.ax=r.ax) (hf:c.offered≠ -1) (hn:n=none)
theorem next_find{a:Zi Co}{r:Rec}(h:(BN a r).2=0):(∀i,i≠r.co->BP i (BN a r).1=BP i a)/\Did r (BP r.co a) (BP r.co (BN a r).1)/\fu r=0:=by
  have u:=(next_ok a r h).1;unfold BN at h⊢;by_cases p:fO a=0
  · by_cases n:fu r=0
    · have gr:=goodR r n;rw[Z3 (by simpa using p),Z3 (by simpa using n)]at h⊢;have k:∀x∈Ka r a,x.jL≠r.co:=fun x l=>(Sq l).2;have t:BM r a=BP r.co a:=rfl;cases e:BM r a with
      |none=>
        rw[e]at h;rw[t]at e;simp only at h⊢;by_cases f:r.kind=1\/r.kind=4
        · rw[Z2 f]at h⊢;by_cases j:(ab (r.ax=1) !=ab (r.kind=1))=ba
          · rw[Z2 j]at h;simp at h
          · rw[Z3 j];simp only;refine⟨fun i hi=>?_,?_,n⟩
            · rw[Hu k,Z3 hi,Kb,Z3 hi]
            · rw[Hu k,Z2 rfl,e];rcases f with f|f
              · refine .begin ⟨f,?_⟩ Z Z;by_cases g:r.ax=1
                · exact g
                · exact Zs (by simp[f,g]) j
              · refine .take ⟨f,?_⟩ Z Z;intro g;exact Zs (by simp[f,g]) j
        · rw[Z3 f]at h;simp at h
      |some c=>
        rw[e]at h;rw[t]at e;obtain⟨d,v⟩:=findC_id e;simp only at h⊢;by_cases f:r.kind=1\/r.kind=4
        · rw[Z2 f]at h;simp at h
        · rw[Z3 f]at h⊢;by_cases j:(ab (r.ax≠c.ax)||(ab (c.offered≠ -1) !=ab (r.kind=5)))=ba
          · rw[Z2 j]at h;simp at h
          · rw[Z3 j]at h⊢;have g:c.ax=r.ax:=by
              by_cases g:r.ax=c.ax
              · exact g.symm
              · exact Zs (by simp[g]) j
            by_cases o:r.kind=5
            · rw[Z2 o];simp only;refine⟨fun i hi=>by rw[Kb,Z3 hi],?_,n⟩;rw[Kb,Z2 rfl,e];refine .gone c o Z g ?_ Z;intro m;exact Zs (by simp[o,m]) j
            · have m:c.offered= -1:=by
                by_cases m:c.offered= -1
                · exact m
                · exact Zs (by simp[o,m]) j
              rw[Z3 o]at h⊢;by_cases s:r.kind=2
              · rw[Z2 s];simp only;have b:∀x∈Ka r a,x.jL≠(⟨c.jL,c.ax,r.image,c.offered⟩:Co).jL:=fun x l=>by simp only[d];exact k x l
                refine⟨fun i hi=>?_,?_,n⟩
                · rw[Hu b,Z3 (by simp only[d];exact hi),Kb,Z3 hi]
                · rw[Hu b,Z2 (by simp only[d]),e];exact .slice c s Z g m (by rw[m])
              · rw[Z3 s]at h⊢;by_cases l:c.ax=100
                · rw[Z2 l]at h;simp at h
                · rw[Z3 l];simp only;have q:r.kind=3:=by have:=gr.kind;omega
                  have b:∀x∈Ka r a,x.jL≠(⟨c.jL,c.ax,c.image,r.place⟩:Co).jL:=fun x l=>by simp only[d];exact k x l
                  refine⟨fun i hi=>?_,?_,n⟩
                  · rw[Hu b,Z3 (by simp only[d];exact hi),Kb,Z3 hi]
                  · rw[Hu b,Z2 (by simp only[d]),e];exact .offer c q Z g m l Z
    · rw[Z3 (by simpa using p),Z2 n]at h;exact Zs h n
  · rw[Z2 p]at h;exact Zs h p
end Pw
open Go Go.Proofs Go.LX
namespace Pw
open Dk
structure Plc where
 cos:List Co
 d:jr
 up:Bool
deriving DecidableEq
structure Wld where
 prog:List bX
 places:List Plc
 gM:List lI
def MlOk(m:lI):Prop:=(0<=m.from_/\m.from_<=2)/\(0<=m.ru/\m.ru<=2)/\(0<=m.co/\m.co<=2)/\(2<=m.ax/\m.ax<=100)/\(m.taken=ba↔m.image=[])/\m.image.length<=1200
theorem mail_each:∀l:Zi lI,each zw EZ l ()=0↔∀m∈l,MlOk m
  |[]=>by simp[kW,EZ]
  |m::l=>by
    have f:=mail_each l;rw[eQ];generalize each zw EZ l=K at f⊢;unfold zw;by_cases c:(0<=m.from_/\m.from_<=2)/\(0<=m.ru/\m.ru<=2)/\(0<=m.co/\m.co<=2)/\(2<=m.ax/\m.ax<=100)
    · rw[show(((((((ab ((m.from_:Int)<0)||ab ((3:Int)<=m.from_))||ab ((m.ru:Int)<0))||ab ((3:Int)<=m.ru))||ab ((m.co:Int)<0))||ab ((3:Int)<=m.co))||ab ((m.ax:Int)<2))||ab ((100:Int)<m.ax))=ar by
        simp only[Bool.or_eq_false_iff,decide_eq_false_iff_not];omega,Z1]
      by_cases b:(m.taken=ba↔m.image=[])/\m.image.length<=1200
      · rw[show((m.taken !=ab (((m.image.length:Int):Int)=0))||ab ((1200:Int)<(m.image.length:Int)))=ar by
          rw[dF (show¬(1200:Int)<(m.image.length:Int) by have:=b.2;omega),tp];by_cases a:m.image=[]
          · rw[b.1.2 a,a];simp
          · have:m.taken=false:=by
              cases e:m.taken with
              |false=>rfl
              |true=>exact Zs (b.1.1 e) a
            rw[this,dF (fun h=>a (cd V))];rfl,Z1,f]
        constructor
        · intro h x d;rcases bp.1 d with rfl|d
          · exact⟨c.1,c.2.1,c.2.2.1,c.2.2.2,b⟩
          · exact h x d
        · exact fun h x d=>h x<|bm _ d
      · rw[show((m.taken !=ab (((m.image.length:Int):Int)=0))||ab ((1200:Int)<(m.image.length:Int)))=ba by
          by_cases g:m.image.length<=1200
          · rw[dF (show¬(1200:Int)<(m.image.length:Int) by omega),tp];by_cases a:m.image=[]
            · cases e:m.taken with
              |true=>exact Zs ⟨⟨fun _=>a,fun _=>e⟩,g⟩ b
              |false=>rw[a];simp
            · cases e:m.taken with
              |true=>rw[dF (fun h=>a (cd V))];rfl
              |false=>exact Zs ⟨⟨fun h=>(Bool.false_ne_true (e.symm.trans h)).elim,fun h=>Zs h a⟩,g⟩ b
          · rw[dT (show(1200:Int)<(m.image.length:Int) by omega),sc],ZS]
        constructor
        · intro h;simp at h
        · intro h;exact Zs (h m zq3).2.2.2.2 b
    · rw[show(((((((ab ((m.from_:Int)<0)||ab ((3:Int)<=m.from_))||ab ((m.ru:Int)<0))||ab ((3:Int)<=m.ru))||ab ((m.co:Int)<0))||ab ((3:Int)<=m.co))||ab ((m.ax:Int)<2))||ab ((100:Int)<m.ax))=ba by
        simp only[Bool.or_eq_true,decide_eq_true_eq];omega,ZS]
      constructor
      · intro h;simp at h
      · intro h;have:=h m zq3;exact Zs ⟨this.1,this.2.1,this.2.2.1,this.2.2.2.1⟩ c
theorem mail_iff(l:Zi lI):jZ l=0↔l.length<=40/\∀m∈l,MlOk m:=by
  unfold jZ;by_cases h:l.length<=40
  · rw[dF V,Z1,mail_each];exact⟨fun x=>⟨h,x⟩,fun x=>x.2⟩
  · rw[dT V,ZS];exact⟨fun x=>by simp at x,fun x=>Zs x.1 h⟩
def imgs(p:Zi bX):Zi Co->Int
 |[]=>0
 |c::l=>if(qZ p c.image).2≠0 then(qZ p c.image).2 else imgs p l
theorem imgs_iff(p:Zi bX):∀l,imgs p l=0↔∀c∈l,(qZ p c.image).2=0
  |[]=>by simp[imgs]
  |c::l=>by
    unfold imgs;by_cases h:(qZ p c.image).2=0
    · rw[Z3 V,imgs_iff p l];simp[h]
    · rw[Z2 h];simp[h]
def xQ(p:Zi bX)(x:Plc):Int:=
 if oz x.d≠0 then oz x.d else if x.up=ar then(if x.cos=[]then 0 else 4)else if x.d.wait≠[]then 4 else
 if(Ac [] (Ad x.d)).2≠0 then(Ac [] (Ad x.d)).2 else if(Ac [] (Ad x.d)).1≠x.cos then 4 else imgs p x.cos
structure PlR(p:List bX)(x:Plc):Prop where
 disk:oz x.d=0
 down:x.up=ar->x.cos=[]
 wait:x.up=ba->x.d.wait=[]
 cos:x.up=ba->Ac [] (Ad x.d)=(x.cos,0)
 img:∀c∈x.cos,(qZ p c.image).2=0
theorem plc_iff(p:Zi bX)(x:Plc):xQ p x=0↔PlR p x:=by
  unfold xQ;by_cases b:oz x.d=0
  · rw[Z3 V];cases hu:x.up with
    |false=>
      simp only[if_true];by_cases a:x.cos=[]
      · rw[Z2 a];exact⟨fun _=>⟨b,fun _=>a,fun h=>(by rw[hu]at h;cases h),fun h=>(by rw[hu]at h;cases h),by rw[a];simp⟩,fun _=>rfl⟩
      · rw[Z3 a];exact⟨fun h=>by simp at h,fun h=>Zs (h.down hu) a⟩
    |true=>
      simp only[rn,if_false];by_cases a:x.d.wait=[]
      · rw[Z3 (by simpa using a)];by_cases c:(Ac [] (Ad x.d)).2=0
        · rw[Z3 V];by_cases e:(Ac [] (Ad x.d)).1=x.cos
          · rw[Z3 (by simpa using e),imgs_iff];exact⟨fun h=>⟨b,fun h=>(by rw[hu]at h;cases h),fun _=>a,fun _=>by rw[<-e,<-c],h⟩,fun h=>h.img⟩
          · rw[Z2 e];exact⟨fun h=>by simp at h,fun h=>Zs (by rw[h.cos hu]) e⟩
        · rw[Z2 c];exact⟨fun h=>Zs h c,fun h=>Zs (by rw[h.cos hu]) c⟩
      · rw[Z2 a];exact⟨fun h=>by simp at h,fun h=>Zs (h.wait hu) a⟩
  · rw[Z2 b];exact⟨fun h=>Zs h b,fun h=>Zs h.disk b⟩
def Lr(p:Zi bX):Zi Plc->Int
 |[]=>0
 |x::l=>if xQ p x≠0 then xQ p x else Lr p l
theorem plcs_iff(p:Zi bX):∀l,Lr p l=0↔∀x∈l,PlR p x
  |[]=>by simp[Lr]
  |x::l=>by
    unfold Lr;by_cases h:xQ p x=0
    · rw[Z3 V,plcs_iff p l];have:=(plc_iff p x).1 h;simp[this]
    · rw[Z2 h];exact⟨fun a=>Zs a h,fun a=>Zs ((plc_iff p x).2<|a x zq3) h⟩
def TF(p:Zi bX):Zi lI->Int
 |[]=>0
 |m::l=>if m.taken=ba then TF p l else if(qZ p m.image).2≠0 then(qZ p m.image).2 else TF p l
theorem mails_iff(p:Zi bX):∀l,TF p l=0↔∀m∈l,m.taken=ar->(qZ p m.image).2=0
  |[]=>by simp[TF]
  |m::l=>by
    unfold TF;by_cases a:m.taken=ba
    · rw[Z2 a,mails_iff p l];simp[a]
    · rw[Z3 a];have b:m.taken=false:=by simpa using a
      by_cases h:(qZ p m.image).2=0
      · rw[Z3 V,mails_iff p l];simp[h]
      · rw[Z2 h];simp[h,b]
def BO(w:Wld):Int:=
 if Xz w.prog≠0 then Xz w.prog else if w.places.length≠3 then 4 else if jZ w.gM≠0 then jZ w.gM else
 if Lr w.prog w.places≠0 then Lr w.prog w.places else TF w.prog w.gM
structure WR(w:Wld):Prop where
 code:Xz w.prog=0
 many:w.places.length=3
 mlen:w.gM.length<=40
 mok:∀m∈w.gM,MlOk m
 pl:∀x∈w.places,PlR w.prog x
 mimg:∀m∈w.gM,m.taken=ar->(qZ w.prog m.image).2=0
theorem w_iff(w:Wld):BO w=0↔WR w:=by
  unfold BO;by_cases c:Xz w.prog=0
  · rw[Z3 V];by_cases e:w.places.length=3
    · rw[Z3 V];by_cases b:jZ w.gM=0
      · rw[Z3 V];by_cases d:Lr w.prog w.places=0
        · rw[Z3 V,mails_iff];have a:=(mail_iff _).1 b;exact⟨fun h=>⟨c,e,a.1,a.2,(plcs_iff _ _).1 d,h⟩,fun h=>h.mimg⟩
        · rw[Z2 d];exact⟨fun h=>Zs h d,fun h=>Zs ((plcs_iff _ _).2 h.pl) d⟩
      · rw[Z2 b];exact⟨fun h=>Zs h b,fun h=>Zs ((mail_iff _).2 ⟨h.mlen,h.mok⟩) b⟩
    · rw[Z2 e];exact⟨fun h=>by simp at h,fun h=>Zs h.many e⟩
  · rw[Z2 c];exact⟨fun h=>Zs h c,fun h=>Zs h.code c⟩
def zP:Plc:=⟨[],zD,ar⟩
def Px(w:Wld)(k:Int):Plc:=(idx w.places k).getD zP
end Pw
open Go Go.Proofs Go.LX
namespace Pw
open Dk
theorem findC_mem{l:Zi Co}(a:Up l){c:Co}(h:c∈l):BP c.jL l=ah c:=by
  induction l with
  |nil=>cases h
  |cons x r ih=>
    rw[Up,cA]at a;unfold BP;rw[eW];rcases bp.1 h with rfl|h
    · rw[dT rfl]
    · have:=a.1 c h;rw[dF V];exact ih a.2 h
theorem good0:Dk.Good []:=⟨by simp,fun x h=>(by cases h),lC⟩
def Off(l:Zi Co):Prop:=∀c∈l,c.offered≠ -1->c.ax≠100
theorem rep_good:∀(l:Zi Rec) (s:Zi Co),Dk.Good s->Off s->(Ac s l).2=0->Dk.Good (Ac s l).1/\Off (Ac s l).1
  |[],s,h,ho,_=>⟨h,ho⟩
  |r::l,s,h,ho,e=>by
    unfold Ac at e⊢;by_cases a:(BN s r).2=0
    · rw[Z3 V]at e⊢;have d:=(next_ok s r a).2.1;obtain⟨k1,k2,-⟩:=next_find a;refine rep_good l _ d ?_ e;intro c f;have b:=findC_mem d.up f;by_cases hi:c.jL=r.co
      · rw[hi]at b;rw[b]at k2;rcases k2 with⟨_,_,hn⟩|⟨_,_,hn⟩|⟨c0,_,_,_,_,hn⟩|⟨c0,_,_,_,_,hx,hn⟩|⟨_,_,_,_,_,hn⟩
        · cases hn;exact fun h=>Zs Z h
        · cases hn;exact fun h=>Zs Z h
        · cases hn;exact fun h=>Zs Z h
        · cases hn;exact fun _=>hx
        · cases hn
      · rw[k1 _ hi]at b;exact ho c (findC_id b).2
    · rw[Z2 a]at e;exact Zs e a
theorem pAt_eq{w:Wld}{k:Int}(h:0<=k/\k<w.places.length):idx w.places k=ah (Px w k)/\Px w k∈w.places/\w.places[k.toNat]? =ah (Px w k):=by
 obtain⟨n,rfl⟩:=cC h.1;have hn:n<w.places.length:=by omega
 have e:idx w.places (n:Int)=ah w.places[n]:=DL hn;unfold Px;rw[e];exact⟨Z,List.getElem_mem hn,by simp[hn]⟩
theorem WR.at{w:Wld}(h:WR w){k:Int}(a:0<=k/\k<=2):PlR w.prog (Px w k):=h.pl _ (pAt_eq ⟨a.1,by have:=h.many;omega⟩).2.1
instance:DecidablePred MlOk:=fun m=>by unfold MlOk;infer_instance
end Pw
open Go Go.Proofs Go.LX
namespace Pw
open Dk
def On(k:Int):Prop:=0<=k/\k<=2
end Pw
open Go Go.Proofs Go.LX
namespace Pw
open Dk
def says(i:Int)(e:Nat)(l:Zi Rec):Zi Int:=(l.filter fun r=>ab (r.kind=2)&&ab (r.co=i)&&ab (r.ax=(e:Int))).flatMap (·.says)
theorem says_app(i:Int)(e:Nat)(a b:Zi Rec):says i e (a++b)=says i e a++says i e b:=by unfold says;rw[hU,jh]
theorem says_one{i:Int}{e:Nat}{r:Rec}:says i e [r]=if r.kind=2/\r.co=i/\r.ax=(e:Int)then r.says else []:=by
  unfold says;by_cases h:r.kind=2/\r.co=i/\r.ax=(e:Int)
  · rw[Z2 h];simp[h.1,h.2.1,h.2.2]
  · rw[Z3 h,fY,Z3 (by simp only[cH,decide_eq_true_eq];intro a;exact h ⟨a.1.1,a.1.2,a.2⟩)];rfl
end Pw
open Go Go.Proofs Go.LX
namespace Pw
open Dk
def saidP(w:Wld)(i:Int):Zi Int:=(rr 101).flatMap fun e=>w.places.flatMap fun x=>says i e (EM x.d)
theorem three{w:Wld}(h:w.places.length=3):w.places=[Px w 0,Px w 1,Px w 2]:=by
 match hp:w.places,h with
 |[a,b,c],_=>
  have d:Px w 0=a:=by unfold Px idx;rw[hp];rfl
  have e:Px w 1=b:=by unfold Px idx;rw[hp];rfl
  have f:Px w 2=c:=by unfold Px idx;rw[hp];rfl
  rw[d,e,f]
end Pw
open Go Go.Proofs Go.LX
namespace Pw
open Dk
def toP(x:iI):Plc:=⟨x.cos,⟨x.safe,x.wait⟩,x.up⟩
def toW(w:aX):Wld:=⟨w.prog,w.places.map toP,w.gM⟩
def ofP(x:Plc):iI:=⟨x.cos,x.d.safe,x.d.wait,x.up⟩
def ofW(w:Wld):aX:=⟨w.prog,w.places.map ofP,w.gM⟩
theorem of_to(w:aX):ofW (toW w)=w:=by
 have:w.places.map (ofP∘toP)=w.places:=List.map_id _;unfold ofW toW;simp only[List.map_map,this]
theorem wait_len{d:jr}(h:oz d=0):d.wait.length<=60000:=by
 have:=(Dk.Dm h).1;omega
theorem recover_g{x:Plc}(h:oz x.d=0){N:Nat}(a:60002<=N):qE N (⟨(ofP x).safe,(ofP x).wait⟩:jr)=ah ((recT x.d).1,Ad x.d,0):=by
 show qE N x.d=_;have:=wait_len h;rw[recover_eq N a _ V];unfold Xp;rw[Z3 (show¬oz x.d≠0 from fun e=>e h)];rfl
end Pw
open Go Go.Proofs Go.LX
namespace Pw
open Dk
theorem nn{x:Int}(h:x=0):¬x≠0:=fun e=>e h
end Pw
open Go Go.Proofs Go.LX
namespace Pw
open Dk
theorem up_g(x:Plc):(ofP x).up=x.up:=rfl
end Pw
open Go Go.Proofs Go.LX
namespace Pw
open Dk
theorem imgs_each{p:Zi bX}{N:Nat}(b:60002<=N):∀l:Zi Co,each (Fj N p) KF l ()=ah (imgs p l)
  |[]=>rfl
  |x::l=>by
    rw[eQ];have a:=imgs_each (p:=p) b l;unfold Fj at a⊢;rw[Rv _ _ V];simp only[bnd];by_cases h:(qZ p x.image).2=0
    · rw[dF (nn h),Z1,a,imgs,Z3 (nn h)]
    · rw[dT (show(qZ p x.image).2≠0 from h),ZS,imgs,Z2 h]
theorem plc_g(p:Zi bX)(x:Plc)(i:x.d.wait.length<=9223372036854775807){N:Nat}(g:60002<=N):L8 N p (ofP x)=ah (xQ p x):=by
  unfold L8 xQ;show(xZ N x.d).bind _=_;rw[Dk.Xi N g _ i];simp only[bnd];by_cases b:oz x.d=0
  · rw[dF (nn b),Z1,Z3 (nn b),up_g];cases hu:x.up with
    |false=>
      show(bif ab ((0:Int)<(x.cos.length:Int))then _ else _)=ah (if x.cos=[]then 0 else 4);by_cases a:x.cos=[]
      · rw[a,Z2 rfl];rfl
      · rw[Z3 a,dT (by have:=cQ.2 a;omega)];rfl
    |true=>
      simp only[cS,Z1,rn,if_false];show(bif ab ((0:Int)<(x.d.wait.length:Int))then _ else _)=_;by_cases a:x.d.wait=[]
      · rw[a,Z3 zq3];rw[dF zq3,Z1,recover_g b g];simp only[bnd];rw[replay_eq N V,Z3 (show¬120<(Ad x.d).length by have:=(dOk b).len;omega)];simp only[bnd];by_cases c:(Ac [] (Ad x.d)).2=0
        · rw[dF (nn c),Z1,Z3 (nn c),coSame];simp only[bnd];show(bif !decide ((Ac []<|Ad x.d).1=x.cos)then _ else _)=_;by_cases f:(Ac [] (Ad x.d)).1=x.cos
          · rw[dT f,Z3 (fun e=>e f)];exact imgs_each g x.cos
          · rw[dF f,Z2 f];rfl
        · rw[dT (show(Ac [] (Ad x.d)).2≠0 from c),ZS,Z2 c]
      · rw[Z2 a,dT (by have:=cQ.2 a;omega),ZS]
  · rw[dT (show oz x.d≠0 from b),ZS,Z2 b]
theorem mails_each{w:aX}{N:Nat}(b:60002<=N):∀l:Zi lI,each (yR N w) DD l ()=ah (TF w.prog l)
  |[]=>rfl
  |m::l=>by
    rw[eQ];have a:=mails_each (w:=w) b l;generalize each (yR N w) DD l=F at a⊢;unfold yR Fp TF;cases ht:m.taken with
    |true=>exact a
    |false=>
      rw[Z1,Rv _ _ V,Z3 zq3];simp only[bnd];by_cases h:(qZ w.prog m.image).2=0
      · rw[dF (nn h),Z1,a,Z3 (nn h)]
      · rw[dT (show(qZ w.prog m.image).2≠0 from h),ZS,Z2 h]
theorem plcs_each{w:aX}{N:Nat}(b:60002<=N)(k:Unit->Yw Int):∀l:Zi Plc,(∀x∈l,x.d.wait.length<=9223372036854775807)->each (xh N w) k (l.map ofP) ()=if Lr w.prog l≠0 then ah (Lr w.prog l)else k ()
  |[],_=>by simp[Lr,kW]
  |x::l,hw=>by
    rw[ct,eQ];have a:=plcs_each (w:=w) b k l fun y c=>hw y<|bm _ c;generalize each (xh N w) k (l.map ofP)=F at a⊢;unfold xh;rw[plc_g _ _ (hw x zq3) b];simp only[bnd];by_cases h:xQ w.prog x=0
    · rw[dF (nn h),Z1,a,show Lr w.prog (x::l)=Lr w.prog l by rw[Lr,Z3 (nn h)]]
    · rw[dT (show xQ w.prog x≠0 from h),ZS,show Lr w.prog (x::l)=xQ w.prog x by rw[Lr,Z2 h],Z2 h]
def Wts(w:Wld):Prop:=∀x∈w.places,x.d.wait.length<=9223372036854775807
theorem WR.wts{w:Wld}(h:WR w):Wts w:=fun x a=>by have:=wait_len (h.pl x a).disk;omega
theorem check_g{w:Wld}(e:Wts w){N:Nat}(d:60002<=N):Et N (ofW w)=ah (BO w):=by
  unfold Et BO;show(sF w.prog).bind _=_;rw[chk_eq];simp only[bnd];by_cases b:Xz w.prog=0
  · rw[dF (nn b),Z1,Z3 (nn b)];have hl:((ofW w).places.length:Int)=w.places.length:=by unfold ofW;simp
    rw[hl];by_cases f:w.places.length=3
    · rw[dF V,Z1,Z3 V];show(bif ab ((jZ w.gM:Int)≠0)then ah (jZ w.gM)else _)=_;by_cases a:jZ w.gM=0
      · rw[dF (nn a),Z1,Z3 (nn a)];show each (xh N<|ofW w) _ (w.places.map ofP) ()=_;rw[plcs_each d _ _ e];unfold Jb;show(if Lr w.prog w.places≠0 then _ else each (yR N<|ofW w) _ w.gM ())=_;rw[mails_each d];by_cases c:Lr w.prog w.places=0
        · rw[Z3 (nn c),Z3 (nn c)];rfl
        · rw[Z2 c,Z2 c];rfl
      · rw[dT (show jZ w.gM≠0 from a),ZS,Z2 a]
    · rw[dT V,ZS,Z2 V]
  · rw[dT (show Xz w.prog≠0 from b),ZS,Z2 b]
end Pw
open Go Go.Proofs Go.LX
namespace Pw
open Dk
theorem wts_of{l:Zi iI}{w:World}{B A:BS}{v:Value}(h:fB fK w B A v l):∀x∈l,x.wait.length<=9223372036854775807:=by
 obtain⟨a,cap,_,_,_,_,f⟩:=h;intro x d;obtain⟨i,hi,rfl⟩:=List.getElem_of_mem d;obtain⟨b,o,cells,E,g,_,_,_,c⟩:=f i hi;obtain⟨_,_,_,_,_,_,e⟩:=gZ c;exact e.aO
theorem wts_to{a:aX}(h:∀x∈a.places,x.wait.length<=9223372036854775807):Wts (toW a):=by
 intro x c;obtain⟨y,b,rfl⟩:=List.mem_map.1 c;exact h y b
end Pw
open Go Go.Proofs Go.LX
namespace Pw
open Dk
theorem safe_ok{d:jr}(h:oz d=0):oz ⟨d.safe,[]⟩=0/\Ad ⟨d.safe,[]⟩=EM d:=by
 have k:=dOk h;have a:TE (EM d):=fun r b=>k.good r<|k.pre.subset b;have hl:(EM d).length<=120:=Nat.le_trans k.pre.length_le k.len;have e:=dOk_mk (w:=[]) a hl (by have:=k.room;rw[<-k.safe];simp;omega);rw[<-k.safe]at e;exact⟨e.1,(dOk e.1).still Z⟩
theorem Sn(e k:Int)(v:Zi Int):∀m:Zi (Int×Zi Int),lk e (CJ k v m)=if e=k then ah v else lk e m
  |[]=>rfl
  |p::r=>by
    unfold CJ;by_cases b:k=p.1
    · rw[Z2 b];show(if e=p.1 then ah v else lk e r)=if e=k then ah v else if e=p.1 then ah p.2 else lk e r
      rw[<-b];by_cases a:e=k
      · rw[Z2 a,Z2 a]
      · rw[Z3 a,Z3 a,Z3 a]
    · rw[Z3 b];show(if e=p.1 then ah p.2 else lk e (CJ k v r))=if e=k then ah v else if e=p.1 then ah p.2 else lk e r
      rw[Sn e k v r];by_cases a:e=p.1
      · rw[Z2 a,Z2 a,Z3 V]
      · rw[Z3 a,Z3 a]
def putR(i:Int)(m:Zi (Int×Zi Int))(r:Rec):Zi (Int×Zi Int):=if r.co=i/\r.kind=2 then CJ r.ax (((lk r.ax m).getD [])++r.says) m else m
theorem putR_at(i:Int)(m:Zi (Int×Zi Int))(r:Rec)(e:Nat):(lk (e:Int) (putR i m r)).getD []=(lk (e:Int) m).getD []++says i e [r]:=by
  rw[says_one];unfold putR;by_cases h:r.co=i/\r.kind=2
  · rw[Z2 h,Sn];by_cases a:(e:Int)=r.ax
    · rw[Z2 a,Z2 ⟨h.2,h.1,a.symm⟩,a];rfl
    · rw[Z3 a,Z3 (fun q=>a q.2.2.symm),ca]
  · rw[Z3 h,Z3 (fun q=>h ⟨q.2.1,q.1⟩),ca]
theorem putL_at(i:Int)(e:Nat):∀(l:Zi Rec) (m:Zi (Int×Zi Int)),(lk (e:Int) (l.foldl (putR i) m)).getD []=(lk (e:Int) m).getD []++says i e l
 |[],m=>by simp[says]
 |r::l,m=>by
  rw[zj,putL_at i e l,putR_at,bf,<-says_app];rfl
theorem says_len(i:Int)(e:Nat){l:Zi Rec}(h:∀r∈l,r.says.length<=40):(says i e l).length<=40*l.length:=by
 induction l with
 |nil=>simp[says]
 |cons r l ih=>
  have a:r::l=[r]++l:=rfl;have d:=ih fun x b=>h x<|bm _ b;have c:=h r zq3;rw[a,says_app,an,says_one,an,dd];split<;>simp<;>omega
theorem recs_each(i:Int)(nx:Zi (Int×Zi Int)->Yw (Zi Int×Int)):∀(l:Zi Rec) (m:Zi (Int×Zi Int)) (B:Nat),(∀e:Nat,((lk (e:Int) m).getD []).length<=B)->(∀r∈l,r.says.length<=40/\1<=r.ax)->B+40*l.length<=1000000->
    each (Bo i) (Fs nx) l m=nx (l.foldl (putR i) m)
  |[],m,B,_,_,_=>rfl
  |r::l,m,B,hB,hl,hn=>by
    rw[bl]at hn;obtain⟨d,g⟩:=hl r zq3;have c:=recs_each i nx l (putR i m r) (B+40) (fun e=>by
      rw[putR_at,an];have:=says_len i e (l:=[r]) (fun x b=>by rw[dq.1 b];exact d);have:=hB e;simp only[dd]at*;omega) (fun x b=>hl x (bm _ b)) V
    rw[eQ,zj,<-c];generalize each (Bo i) (Fs nx) l=F;unfold Bo Fq putR;by_cases h:r.co=i/\r.kind=2
    · obtain⟨n,a⟩:=cC (show 0<=r.ax by omega);have f:=hB n;rw[<-a]at f;rw[Z2 h,dT h.1,dT h.2,jF,ZS,jV (Room.mk V V)]
    · rw[Z3 h,show(ab (r.co=i)&&ab (r.kind=2))=ar from by rw[Bool.eq_false_iff];intro q;simp only[cH,decide_eq_true_eq]at q;exact h q,Z1]
def allR(i:Int)(l:Zi Plc)(m:Zi (Int×Zi Int)):Zi (Int×Zi Int):=l.foldl (fun m x=>(EM x.d).foldl (putR i) m) m
theorem allR_at(i:Int)(e:Nat):∀(l:Zi Plc) (m:Zi (Int×Zi Int)),(lk (e:Int) (allR i l m)).getD []=(lk (e:Int) m).getD []++l.flatMap fun x=>says i e (EM x.d)
 |[],m=>by simp[allR]
 |x::l,m=>by
  show(lk (e:Int)<|allR i l ((EM x.d).foldl (putR i) m)).getD []=_;rw[allR_at i e l,putL_at,sd,bf]
theorem Om{d:jr}(h:oz d=0):(EM d).length<=120/\∀r∈EM d,r.says.length<=40/\1<=r.ax:=by
 have k:=dOk h;refine⟨Nat.le_trans k.pre.length_le k.len,fun r a=>?_⟩;have g:=k.good r<|k.pre.subset a;have:=goodR r (by rw[<-rec_eq];exact g.1);exact⟨this.says,this.ax.1⟩
theorem places_each{N:Nat}(a:60002<=N)(i:Int)(k:Zi (Int×Zi Int)->Yw (Zi Int×Int)):∀(l:Zi Plc) (m:Zi (Int×Zi Int)) (B:Nat),(∀x∈l,oz x.d=0)->(∀e:Nat,((lk (e:Int) m).getD []).length<=B)->B+4800*l.length<=900000->
  each (yS N i) k (l.map ofP) m=k (allR i l m)
 |[],m,B,_,_,_=>rfl
 |x::l,m,B,hl,hB,hn=>by
  rw[bl]at hn;have b:=hl x zq3;obtain⟨g1,g2⟩:=Om b;have f:=places_each a i k l ((EM x.d).foldl (putR i) m) (B+4800) (fun y n=>hl y (bm _ n)) (fun e=>by
   rw[putL_at,an];have:=says_len i e fun r g=>(g2 r g).1;have:=hB e;omega) V
  rw[ct,eQ,show allR i (x::l) m=allR i l ((EM x.d).foldl (putR i) m)from rfl,<-f];generalize each (yS N i) k (l.map ofP)=F;unfold yS;obtain⟨c,j⟩:=safe_ok b;rw[show(⟨(ofP x).safe,[]⟩:jr)=⟨x.d.safe,[]⟩from rfl,recover_eq N a _ zq3,Xp,Z3 (nn c)];simp only[bnd];rw[show(recT ⟨x.d.safe,[]⟩).2=EM x.d from j];exact recs_each i F _ m B hB g2 V
def sumR(m:Zi (Int×Zi Int))(n:Nat):Zi Int:=(rr n).flatMap fun(e:Nat)=>(lk (e:Int) m).getD []
theorem sumR_len(m:Zi (Int×Zi Int))(a:∀e:Nat,((lk (e:Int) m).getD []).length<=14400):∀n,(sumR m n).length<=14400*n
 |0=>by simp[sumR]
 |n+1=>by
  unfold sumR;rw[sC,jh,tD,an];have:=sumR_len m a n;unfold sumR at this;have:=a n;omega
theorem sum_loop(m:Zi (Int×Zi Int))(a:∀e:Nat,((lk (e:Int) m).getD []).length<=14400):∀(k n N:Nat),n+k=101->k<N->again (l7 m) N (sumR m n,(n:Int))=ah (sumR m 101,0)
 |k,n,0,_,h=>by omega
 |0,n,N+1,h,_=>by
  obtain rfl:n=101:=by omega
  show l7 m _ (again (l7 m) N)=_;unfold l7;simp only[];rw[dF zq1,Z1]
 |k+1,n,N+1,h,hN=>by
  have b:=sum_loop m a k (n+1) N V V;show l7 m _ (again (l7 m) N)=_;generalize again (l7 m) N=F at b⊢;unfold l7;simp only[];have c:=sumR_len m a n;have d:=a n;rw[dT V,ZS,jV (Room.mk V V),gI,<-b];unfold sumR;rw[sC,jh,tD];rfl
theorem scheck_g{w:Wld}(h:WR w){i:Int}(hi:0<=i/\i<3){N:Nat}(a:60002<=N):Bn N (ofW w) i=ah 0:=by
 unfold Bn;rw[check_g h.wts a,(w_iff w).2 h];simp only[bnd];rw[dF zq1,Z1,dF V,dF V];rfl
theorem said_g{w:Wld}(h:WR w){i:Int}(hi:0<=i/\i<3){N:Nat}(c:60002<=N):yf N (ofW w) i=ah (saidP w i,0):=by
 unfold yf;rw[scheck_g h hi c];simp only[bnd];rw[dF zq1,Z1];have f:=h.many;show each (yS N i) (Fu N) (w.places.map ofP) []=_;rw[places_each c i _ w.places [] 0 (fun x j=>(h.pl x j).disk) (fun e=>by simp[lk]) V];unfold Fu;have a:∀e:Nat,(lk (e:Int)<|allR i w.places []).getD []=w.places.flatMap fun x=>says i e (EM x.d):=fun e=>by rw[allR_at];rfl
 have:=sum_loop (allR i w.places []) (fun e=>by
  rw[a,three f];simp only[sd,sl,an,cJ];have q:=fun k(b:On k)=>Om (h.at b).disk;have l:=fun k(b:On k)=>says_len i e fun r g=>((q k b).2 r g).1;have:=l 0 ⟨by omega,by omega⟩;have:=l 1 ⟨by omega,by omega⟩;have:=l 2 ⟨by omega,by omega⟩;have:=(q 0 ⟨by omega,by omega⟩).1;have:=(q 1 ⟨by omega,by omega⟩).1;have:=(q 2 ⟨by omega,by omega⟩).1;omega) 101 0 N Z V
 refine(show again (l7<|allR i w.places []) N ([],0)=_ from this).trans ?_;unfold sumR saidP;simp only[a]
end Pw
open Go Go.Proofs Go.LX
namespace Pw
open Dk
def heldT(k:Int)(o:Yw Co):Zi T3:=match o with|some c=>[⟨k,c.ax,c.offered⟩]|none=>[]
theorem held_pl{N:Nat}(g:60002<=N)(i k:Int){x:Plc}(h:oz x.d=0)(f:(Ac [] (Ad x.d)).2=0){a:Zi T3}(p:a.length<=2)(nx:Zi T3->Yw (Zi T3×Int)):
  uE N i k (ofP x) a nx=nx (a++heldT k (BP i (Ac [] (Ad x.d)).1)):=by
 unfold uE;rw[recover_g h g];simp only[bnd];have hl:=(dOk h).len;rw[replay_eq N V,Z3 V];simp only[bnd];rw[dF (nn f),Z1,cc];generalize Ac [] (Ad x.d)=y;rw[upto_find (fun z:Co=>ab (z.jL=i)) (fun n=>rz y a k nx n) y.1 (fun j z m b=>by
  unfold Jc;rw[nX,b];rfl)]
 unfold BP;cases h:y.1.findIdx? (fun z=>ab (z.jL=i))with
 |none=>
  rw[List.findIdx?_eq_none_iff]at h;rw[show y.1.find? (fun z=>ab (z.jL=i))=none from by
   rw[wh];intro z l;rw[h z l];simp]
  show rz y a k nx (-1)=_;unfold rz;rw[dF zq1,Z1];simp[heldT,zZ]
 |some n=>
  obtain⟨c,o,e⟩:=List.findIdx?_eq_some_iff_getElem.1 h;rw[show y.1.find? (fun z=>ab (z.jL=i))=ah y.1[n]from by
   rw[List.find?_eq_some_iff_getElem];exact⟨o,n,c,Z,fun j b=>by simpa using e j b⟩]
  show rz y a k nx (n:Int)=_;unfold rz;rw[dT V,ZS,nX,bh c];simp only[bnd];rw[jV (Room.mk (by simp;omega) (by simp;omega))];rfl
theorem heldT_len(k:Int)(o:Yw Co):(heldT k o).length<=1:=by cases o<;>simp[heldT]
end Pw
open Go Go.Proofs Go.LX
namespace Gn
def z0(n:Nat):Zi UInt8:=(cP n [48,32]).flatten
def pL:Zi bX:=[⟨0,30,[⟨1,1,3,0,[]⟩,⟨2,0,1,0,[]⟩,⟨2,1,0,0,[]⟩,⟨13,1,16,0,[]⟩,⟨2,1,0,0,[]⟩,⟨2,2,0,0,[]⟩,⟨7,1,1,0,[1,2]⟩,⟨9,1,0,0,[]⟩,⟨2,1,0,0,[]⟩,⟨11,1,0,0,[]⟩,⟨10,0,0,0,[]⟩,⟨2,1,0,0,[]⟩,⟨1,2,1,0,[]⟩,⟨3,1,1,2,[2]⟩,⟨2,0,1,0,[]⟩,⟨12,0,2,0,[]⟩,⟨1,1,0,0,[]⟩,⟨8,1,0,0,[]⟩]⟩,⟨2,30,[⟨2,2,0,0,[]⟩,⟨2,3,1,0,[]⟩,⟨3,2,2,3,[3]⟩,⟨8,2,0,0,[]⟩,⟨1,2,0,0,[]⟩,⟨8,2,0,0,[]⟩]⟩]
def p5:Zi iI:=[⟨[⟨0,1,([3,2,1,0,10,0,30,1,2,1,2,1,2]++cP 55 0),-1⟩],([49,32,48,32,49,32,48,32,48,32,48,32,48,32,49,32,48,32,48,32,48,32,51]++z0 61++[48,10,50,32,48,32,49,32,48,32,48,32,48,32,48,32,50,32,48,32,55,32,48,32,51,48,32,49,32,51,32,49,32,51,32,49,32,51,32]++z0 54++[49,32,50,32,49,32,51,48,32,49,32,51,32,49,32,51,32,49,32,51,32,49,32,51,32]++z0 52++[48,10,50,32,48,32,49,32,48,32,49,32,57,32,51,32,51,32,49,32,48,32,49,48,32,48,32,51,48,32,49,32,51,32,49,32,51,32,49,32,51,32]++z0 54++[48,10,50,32,48,32,49,32,48,32,48,32,48,32,48,32,49,32,48,32,49,49,32,48,32,51,48,32,49,32,51,32,49,32,51,32,49,32,51,32]++z0 54++[48,10,50,32,48,32,49,32,48,32,49,32,52,32,51,32,50,32,49,32,48,32,49,48,32,48,32,51,48,32,49,32,50,32,49,32,50,32,49,32,50,32]++z0 54++[48,10]),[],ba⟩,⟨[],[],[],ba⟩,⟨[],[],[],ba⟩]
def m5:Zi lI:=[]
def p11:Zi iI:=[⟨[],([49,32,48,32,49,32,48,32,48,32,48,32,48,32,49,32,48,32,48,32,48,32,51]++z0 61++[48,10,50,32,48,32,49,32,48,32,48,32,48,32,48,32,50,32,48,32,55,32,48,32,51,48,32,49,32,51,32,49,32,51,32,49,32,51,32]++z0 54++[49,32,50,32,49,32,51,48,32,49,32,51,32,49,32,51,32,49,32,51,32,49,32,51,32]++z0 52++[48,10,50,32,48,32,49,32,48,32,49,32,57,32,51,32,51,32,49,32,48,32,49,48,32,48,32,51,48,32,49,32,51,32,49,32,51,32,49,32,51,32]++z0 54++[48,10,50,32,48,32,49,32,48,32,48,32,48,32,48,32,49,32,48,32,49,49,32,48,32,51,48,32,49,32,51,32,49,32,51,32,49,32,51,32]++z0 54++[48,10,50,32,48,32,49,32,48,32,49,32,52,32,51,32,50,32,49,32,48,32,49,48,32,48,32,51,48,32,49,32,50,32,49,32,50,32,49,32,50,32]++z0 54++[48,10,51,32,48,32,49,32,50,32,48,10,53,32,48,32,49,32,48,32,48,10]),[],ba⟩,⟨[],[],[],ba⟩,⟨[⟨0,2,([0,0,1,0,11,0,30,1,2,1,2,1,2]++cP 55 0),-1⟩],([52,32,48,32,50,32,48,32,48,32,51,32,50,32,49,32,48,32,49,48,32,48,32,51,48,32,49,32,50,32,49,32,50,32,49,32,50,32]++z0 54++[48,10,50,32,48,32,50,32,48,32,48,32,48,32,48,32,49,32,48,32,49,49,32,48,32,51,48,32,49,32,50,32,49,32,50,32,49,32,50,32]++z0 54++[48,10]),[],ba⟩]
def m11:Zi lI:=[⟨2,0,0,2,ba,[]⟩]
abbrev n3:Zi iI:=[⟨[],[],[],ba⟩,⟨[],[],[],ba⟩,⟨[],[],[],ba⟩]
theorem each_app{α σ ρ:Type}(b:α->σ->(σ->ρ)->ρ)(k:σ->ρ)(a:Zi α):∀(c:Zi α) (s:σ),each b k (c++a) s=each b (each b k a) c s
 |[],s=>rfl
 |x::l,s=>by rw[eL,eQ,eQ,funext (each_app b k a l)]
theorem code_ok:(xP NN).bind (FY NN)=ah pL:=zq2
theorem new_ok:Yt NN pL=ah (⟨pL,n3,[]⟩,0):=zq2
theorem chk_ok:Et NN ⟨pL,n3,[]⟩=ah 0:=zq2
theorem cpy_ok:Pb ⟨pL,n3,[]⟩=ah ⟨pL,n3,[]⟩:=zq2
abbrev hA:Zi uP:=[⟨1,0,0,0⟩,⟨2,0,0,9⟩,⟨2,0,0,90⟩,⟨2,0,0,90⟩,⟨2,0,0,90⟩]
abbrev hB:Zi uP:=[⟨2,0,0,90⟩,⟨5,0,0,0⟩,⟨2,0,0,9⟩,⟨4,0,0,1⟩,⟨4,0,0,0⟩,⟨2,2,0,90⟩]
theorem run1(K:Zi Int×Zi bX×Zi iI×Zi lI->Yw (aX×Zi Int×Int)):each (H7 NN) K hA ([],pL,n3,[])=K ([0,0,0,0,0],pL,p5,m5):=zq2
theorem run2:each (H7 NN) ME hB ([0,0,0,0,0],pL,p5,m5)=ah (⟨pL,p11,m11⟩,[0,0,0,0,0,0,0,7,0,0,0],0):=zq2
theorem run_ok:Sj NN ⟨pL,n3,[]⟩ [⟨1,0,0,0⟩,⟨2,0,0,9⟩,⟨2,0,0,90⟩,⟨2,0,0,90⟩,⟨2,0,0,90⟩,⟨2,0,0,90⟩,⟨5,0,0,0⟩,⟨2,0,0,9⟩,⟨4,0,0,1⟩,⟨4,0,0,0⟩,⟨2,2,0,90⟩]=ah (⟨pL,p11,m11⟩,[0,0,0,0,0,0,0,7,0,0,0],0):=by
 unfold Sj;rw[chk_ok,bnd,dF zq1,Z1,dF zq1,Z1,cpy_ok,bnd];exact(each_app _ _ hB hA _).trans ((run1 _).trans run2)
theorem said_ok:yf NN ⟨pL,p11,m11⟩ 0=ah ([9,4],0):=zq2
theorem held_ok:yg NN ⟨pL,p11,m11⟩ 0=ah ([⟨2,2,-1⟩],0):=zq2
end Gn
theorem gone_ok:zg NN=ah true:=by
 unfold zg;rw[program_p,<-Option.bind_assoc,Gn.code_ok,bnd,Gn.new_ok,bnd,Gn.run_ok,bnd,Gn.said_ok,bnd,Gn.held_ok,bnd];rfl
open Go Go.Proofs Go.LX
namespace Sr
theorem bd{α β:Type}(a:α)(f:α->Yw β):(ah a).bind f=f a:=rfl
theorem Xr{P:Zi Rec}{x:Rec}{R:Zi Rec}{i:Int}(h:i=(P.length:Int)):idx (P++x::R) i=ah x:=by
 subst h;rw[nX];simp
theorem setA{P:Zi Rec}{x:Rec}{R:Zi Rec}{i:Int}{y:Rec}(h:i=(P.length:Int)):(P++x::R).set i.toNat y=P++y::R:=by
 subst h;simp
abbrev MI(l:Zi Rec):Prop:=l.Pairwise fun x y=>x.ax<=y.ax
def St(a b:Zi Rec):Prop:=∀e:Int,a.filter (fun r=>ab (r.ax=e))=b.filter fun r=>ab (r.ax=e)
theorem St.rfl'{a:Zi Rec}:St a a:=fun _=>rfl
theorem St.trans{a b c:Zi Rec}(h:St a b)(g:St b c):St a c:=fun e=>(h e).trans (g e)
theorem St.app{a b c d:Zi Rec}(h:St a b)(g:St c d):St (a++c) (b++d):=fun e=>by rw[hU,hU,h e,g e]
theorem St.mem{a b:Zi Rec}(h:St a b){x:Rec}(c:x∈a):x∈b:=by
 have:x∈a.filter fun r=>ab (r.ax=x.ax):=mc.2 ⟨c,by simp⟩;rw[h]at this;exact(mc.1 this).1
theorem St.swap{a b:Zi Rec}(h:∀x∈a,∀y∈b,y.ax<x.ax):St (b++a) (a++b):=fun e=>by
  rw[hU,hU];by_cases f:a.filter (fun r=>ab (r.ax=e))=[]
  · rw[f,ca,cf]
  · obtain⟨x,c⟩:=List.exists_mem_of_ne_nil _ f;obtain⟨c,j⟩:=mc.1 c;have i:b.filter (fun r=>decide<|r.ax=e)=[]:=by
      rw[kv];intro y g d;have:=h x c y g;have k:=P9 j;have l:=P9 d;omega
    rw[i,ca,cf]
theorem i64s{x:Int}(b: -1000000<=x:=by omega)(a:x<=1000000:=by omega):iZ x:=iZ.mk V V
theorem gS{x:Int}{β:Type}{y:Yw β}(a: -1000000<=x:=by omega)(b:x<=1000000:=by omega):fI (iZ x) y=y:=jV (i64s a b)
theorem swp{c a b:Int}:∀(X d P Q S:Zi Rec) (i:Int) (N:Nat),X.length=d.length->X.length<N->a+i=P.length->b+i=P.length+X.length+Q.length->c=i+X.length->
  0<=i->0<=a->0<=b->(P++X++Q++d++S).length<=10000->again (jI c a b) N (P++X++Q++d++S,i)=ah (P++d++Q++X++S)
 |[],d,P,Q,S,i,N,hl,hN,ha,hb,hc,hi,h0,h0',hn=>by
  obtain⟨N,rfl⟩:∃m,N=m+1:=⟨N-1,by omega⟩;have:d=[]:=cd hl.symm;subst this;simp only[again,jI];simp only[cJ,Int.natCast_zero,Int.add_zero]at hc;rw[dF V,Z1]
 |x::X,[],P,Q,S,i,N,hl,hN,ha,hb,hc,hi,h0,h0',hn=>by simp at hl
 |x::X,y::d,P,Q,S,i,N,hl,hN,ha,hb,hc,hi,h0,h0',hn=>by
  obtain⟨N,rfl⟩:∃m,N=m+1:=⟨N-1,by simp at hN;omega⟩;simp only[bl,an]at hl hN hb hc hn;simp only[again,jI];rw[dT V,ZS,gS,gS,gS];have n:P++(x::X)++Q++(y::d)++S=(P++(x::X)++Q)++y::(d++S):=by simp
  have e:P++(x::X)++Q++(y::d)++S=P++x::(X++Q++(y::d)++S):=by simp
  have g:idx (P++(x::X)++Q++(y::d)++S) (b+i)=ah y:=by rw[n,Xr (by simp;omega)]
  have k:idx (P++(x::X)++Q++(y::d)++S) (a+i)=ah x:=by rw[e,Xr V]
  rw[g,bd,gS,k,bd];have f:(P++(x::X)++Q++(y::d)++S).set (a+i).toNat y=P++y::(X++Q++(y::d)++S):=by rw[e,setA V]
  rw[f];have l:P++y::(X++Q++(y::d)++S)=(P++y::X++Q)++y::(d++S):=by simp
  rw[l,Xr (by simp;omega),bd,setA (by simp;omega)];unfold sN;rw[gS];have j:P++y::X++Q++x::(d++S)=(P++[y])++X++(Q++[x])++d++S:=by simp
  rw[j,swp X d (P++[y]) (Q++[x]) S (i+1) N V V (by simp;omega) (by simp;omega) V V h0 h0' (by simp;omega)];simp
theorem rot{m:Int}{N:Nat}(o:20000<=N):∀(k:Nat) (d e P S:Zi Rec) (M:Nat),d.length+e.length<=k->k<M->d≠[]->e≠[]->m=P.length+d.length->(P++d++e++S).length<=10000->
    again (mQ N m) M (P++d++e++S,(d.length:Int),(e.length:Int))=ah (P++e++d++S)
  |0,d,e,P,S,M,hk,hM,hu,hv,hm,hn=>by
    have:=cQ.2 hu;omega
  |k+1,d,e,P,S,M,hk,hM,hu,hv,hm,hn=>by
    obtain⟨M,rfl⟩:∃q,M=q+1:=⟨M-1,by omega⟩;have r:=cQ.2 hu;have p:=cQ.2 hv;simp only[an]at hn;simp only[again,mQ];by_cases h:(d.length:Int)=e.length
    · rw[dF (show¬((d.length:Int)≠e.length) by omega),Z1,gS];have:=swp (c:=(d.length:Int)) (a:=m-d.length) (b:=m) d e P [] S 0 N V V V (by simp;omega) V V V V (by simp;omega);rw[ca,ca]at this;unfold jA;rw[this,bd]
    · rw[dT (show(d.length:Int)≠e.length from h),ZS];by_cases n:(e.length:Int)<d.length
      · rw[dT n,ZS,gS];obtain⟨f,i,rfl,l⟩:∃f i,d=f++i/\f.length=e.length:=⟨d.take e.length,d.drop e.length,(fc _ _).symm,by rw[bo];omega⟩;simp only[an]at hk hm hn r h n⊢;have:=swp (c:=(e.length:Int)) (a:=m-((f.length+i.length:Nat):Int)) (b:=m) f e P i S 0 N l V V V V V V V (by simp only[an];omega);unfold jA;rw[<-bf P,this,bd,gS];have:=rot (m:=m) o k i f (P++e) S M V V (by intro z;subst z;simp only[cJ]at n l;omega) (by intro z;subst z;simp only[cJ]at l;omega) (by simp;omega) (by simp;omega);rw[show((f.length+i.length:Nat):Int)-(e.length:Int)=(i.length:Int) by omega,show(e.length:Int)=f.length by omega,this];simp
      · rw[dF n,Z1,gS,gS,gS];obtain⟨j,g,rfl,l⟩:∃j g,e=j++g/\g.length=d.length:=⟨e.take (e.length-d.length),e.drop (e.length-d.length),(fc _ _).symm,by rw[cp];omega⟩;simp only[an]at hk hm hn p h n⊢;have:=swp (c:=(d.length:Int)) (a:=m-d.length) (b:=(m+((j.length+g.length:Nat):Int))-d.length) d g P j S 0 N l.symm V V V V V V V (by simp only[an];omega);unfold jA;rw[<-bf (P++d),this,bd,gS];have:=rot (m:=m) o k g j P (d++S) M V V (by intro z;subst z;simp only[cJ]at l;omega) (by intro z;subst z;simp only[cJ]at h n;omega) V (by simp;omega);rw[show((j.length+g.length:Nat):Int)-(d.length:Int)=(j.length:Int) by omega,show(d.length:Int)=g.length by omega,<-bf]at*;rw[this];simp
theorem mvr{s:Int}:∀(X P R:Zi Rec) (x:Rec) (M:Nat),X.length<M->s-1=P.length+X.length->(P++x::(X++R)).length<=10000->
  again (iN s) M (P++x::(X++R),(P.length:Int))=ah (P++X++x::R)
 |[],P,R,x,M,hM,hs,hn=>by
  obtain⟨M,rfl⟩:∃q,M=q+1:=⟨M-1,by omega⟩;simp only[cJ,bl,an,cf]at*;simp only[again,iN];rw[gS,dF V,Z1,ca]
 |y::X,P,R,x,M,hM,hs,hn=>by
  obtain⟨M,rfl⟩:∃q,M=q+1:=⟨M-1,by omega⟩;simp only[bl,an,eL]at*;simp only[again,iN];rw[gS,dT V,ZS,gS,gS];have c:P++x::y::(X++R)=(P++[x])++y::(X++R):=by simp
  have b:idx (P++x::y::(X++R)) ((P.length:Int)+1)=ah y:=by rw[c,Xr zq3]
  rw[b,bd,Xr rfl,bd,setA rfl];have a:P++y::y::(X++R)=(P++[y])++y::(X++R):=by simp
  rw[a,Xr zq3,bd,setA zq3];unfold sO;rw[gS];have:=mvr (s:=s) X (P++[y]) R x M V (by simp;omega) (by simp;omega);rw[show(P.length:Int)+1=(P++[y]).length by simp,this];simp
theorem snoc{p:Zi Rec->Prop}(b:p [])(c:∀X y,p X->p (X++[y]))(X:Zi Rec):p X:=by
 have:∀a:Zi Rec,p a.reverse:=by
  intro a;induction a with
  |nil=>exact b
  |cons y a ih=>rw[List.reverse_cons];exact c _ _ ih
 have h:=this X.reverse;rwa[List.reverse_reverse]at h
theorem mvl{P:Zi Rec}:∀(X R:Zi Rec) (x:Rec) (M:Nat),X.length<M->(P++X++x::R).length<=10000->
    again (iO (P.length:Int)) M (P++X++x::R,(P.length:Int)+X.length)=ah (P++x::(X++R)):=by
  refine snoc ?_ ?_
  · intro R x M d hn;obtain⟨M,rfl⟩:∃q,M=q+1:=⟨M-1,by omega⟩;simp only[again,iO];rw[dF zq3,Z1];simp
  · intro X y a R x M d hn;obtain⟨M,rfl⟩:∃q,M=q+1:=⟨M-1,by omega⟩;simp only[bl,an,cJ]at*;simp only[again,iO];rw[dT V,ZS,gS,gS];have c:P++(X++[y])++x::R=(P++X)++y::(x::R):=by simp
    have b:idx (P++(X++[y])++x::R) ((P.length:Int)+((X.length+(0+1):Nat):Int)-1)=ah y:=by rw[c,Xr (by simp;omega)]
    have e:idx (P++(X++[y])++x::R) ((P.length:Int)+((X.length+(0+1):Nat):Int))=ah x:=Xr zq3;rw[b,bd,e,bd,setA zq3];rw[show P++(X++[y])++y::R=(P++X)++y::(y::R) by simp,Xr (by simp;omega),bd,setA (by simp;omega)];unfold sP;rw[gS];have:=a (y::R) x M V (by simp;omega);rw[show(P.length:Int)+((X.length+(0+1):Nat):Int)-1=(P.length:Int)+X.length by omega,this];simp
theorem halves{β:Type}{body:Int×Int->(Int×Int->Yw β)->Yw β}{fin:Int->Yw β}{T:Int->Prop}{lo hi:Int}(y:0<=lo)(x:hi<=10000)
    (r:∀i j nx,lo<=i->i<j->j<=hi->(T ((i+j) / 2)/\body (i,j) nx=nx ((i+j) / 2+1,j))\/(¬T ((i+j) / 2)/\body (i,j) nx=nx (i,(i+j) / 2)))
    (p:∀i nx,lo<=i->i<=hi->body (i,i) nx=fin i):∀(k:Nat) (i j:Int) (M:Nat),j-i<=k->k<M->lo<=i->i<=j->j<=hi->(i=lo\/T (i-1))->(j=hi\/¬T j)->
    ∃s,lo<=s/\s<=hi/\(s=lo\/T (s-1))/\(s=hi\/¬T s)/\again body M (i,j)=fin s:=by
  intro k;induction k with
  |zero=>
    intro i j M u v l w g m n;obtain⟨M,rfl⟩:∃q,M=q+1:=⟨M-1,by omega⟩;obtain rfl:i=j:=by omega
    exact⟨i,l,g,m,n,p i _ l g⟩
  |succ k ih=>
    intro i j M u v l w g m n;obtain⟨M,rfl⟩:∃q,M=q+1:=⟨M-1,by omega⟩;by_cases o:i=j
    · subst o;exact⟨i,l,g,m,n,p i _ l g⟩
    · rcases r i j (again body M) l V g with⟨t,e⟩|⟨t,e⟩
      · obtain⟨s,a,b,c,d,f⟩:=ih ((i+j) / 2+1) j M V V V V g (.inr (by rw[Int.add_sub_cancel];exact t)) n;exact⟨s,a,b,c,d,e.trans f⟩
      · obtain⟨s,a,b,c,d,f⟩:=ih i ((i+j) / 2) M V V l V V m<|.inr t;exact⟨s,a,b,c,d,e.trans f⟩
def ep(B:Zi Rec)(k:Nat):Int:=((B[k]?).map (·.ax)).getD 0
theorem idxM{P B S:Zi Rec}{k:Nat}{i:Int}(h:k<B.length)(hi:i=P.length+k):∃y,idx (P++B++S) i=ah y/\y.ax=ep B k/\B[k]? =ah y:=by
 have e:B[k]? =ah B[k]:=bh h;refine⟨B[k],?_,by unfold ep;rw[e];rfl,e⟩;have:i=((P.length+k:Nat):Int):=by omega
 rw[this,nX,bf,List.getElem?_append_right V,List.getElem?_append_left V,Nat.add_sub_cancel_left,e]
theorem cut_lt{B:Zi Rec}(hB:MI B){k:Nat}(c:k<=B.length){v:Int}(a:k=0\/ep B (k-1)<v):∀x∈B.take k,x.ax<v:=by
  intro x b;obtain⟨i,hi,rfl⟩:=ur.1 b;rw[bo]at hi;rw[List.getElem_take];rcases a with a|a
  · omega
  have e:ep B (k-1)=B[k-1].ax:=by unfold ep;rw[bh (show k-1<B.length by omega)];rfl
  rw[e]at a;by_cases hik:i=k-1
  · subst hik;exact a
  · have:=th.1 hB i (k-1) V V V;omega
theorem cut_le{B:Zi Rec}(hB:MI B){k:Nat}(b:k<=B.length){v:Int}(a:k=0\/ep B (k-1)<=v):∀x∈B.take k,x.ax<=v:=by
 intro x c;have:=cut_lt hB b (v:=v+1) (a.imp id V) x c;omega
theorem cut_ge{B:Zi Rec}(hB:MI B){k:Nat}(c:k<=B.length){v:Int}(a:k=B.length\/v<=ep B k):∀x∈B.drop k,v<=x.ax:=by
  intro x b;obtain⟨i,hi,rfl⟩:=ur.1 b;rw[cp]at hi;rw[List.getElem_drop];rcases a with a|a
  · omega
  have e:ep B k=B[k].ax:=by unfold ep;rw[bh (show k<B.length by omega)];rfl
  rw[e]at a;by_cases hik:i=0
  · subst hik;simpa using a
  · have:=th.1 hB k (k+i) V V V;omega
theorem cut_gt{B:Zi Rec}(hB:MI B){k:Nat}(b:k<=B.length){v:Int}(a:k=B.length\/v<ep B k):∀x∈B.drop k,v<x.ax:=by
 intro x c;have:=cut_ge hB b (v:=v+1) (a.imp id V) x c;omega
theorem srt_app{A B:Zi Rec}(hA:MI A)(hB:MI B)(h:∀x∈A,∀y∈B,x.ax<=y.ax):MI (A++B):=fk.2 ⟨hA,hB,h⟩
theorem Xt{A:Zi Rec}(h:MI A)(k:Nat):MI (A.take k):=h.sublist (List.take_sublist _ _)
theorem Xu{A:Zi Rec}(h:MI A)(k:Nat):MI (A.drop k):=h.sublist (List.drop_sublist _ _)
end Sr
open Go Go.Proofs Go.LX
namespace Sr
theorem half_ok{g:Zi Rec->Int->Int->Int->Yw (Zi Rec)}{k:Nat}(l:∀(A B P S:Zi Rec),A.length+B.length<=k->A≠[]->B≠[]->MI A->MI B->(∀x∈A++B,0<=x.ax/\x.ax<=100)->(P++A++B++S).length<=5000->
      ∃C,g (P++A++B++S) P.length (P.length+A.length) (P.length+A.length+B.length)=ah (P++C++S)/\MI C/\St C (A++B)/\C.length=A.length+B.length)
    (A B P S:Zi Rec) (q:A≠[]->B≠[]->A.length+B.length<=k) (e:MI A) (i:MI B) (p:∀x∈A++B,0<=x.ax/\x.ax<=100) (hn:(P++A++B++S).length<=5000)
    {a m c:Int} (o:a=P.length) (f:m=P.length+A.length) (j:c=P.length+A.length+B.length) (G:Zi Rec->Yw (Zi Rec)):
    ∃C,(bif ab (a<m)&&ab (m<c)then(g (P++A++B++S) a m c).bind G else G (P++A++B++S))=G (P++C++S)/\MI C/\St C (A++B)/\C.length=A.length+B.length:=by
  by_cases d:A=[]
  · subst d;refine⟨B,?_,i,St.rfl',by simp⟩;rw[dF (show¬a<m by simp at f;omega),eT,Z1,ca]
  by_cases b:B=[]
  · subst b;refine⟨A,?_,e,by rw[ca];exact St.rfl',by simp⟩;rw[dF (show¬m<c by simp at j;omega),kO,Z1,ca]
  have v:=cQ.2 d;have u:=cQ.2 b;obtain⟨C,n,r,t,s⟩:=l A B P S (q d b) d b e i p hn;refine⟨C,?_,r,t,s⟩;rw[dT V,dT V,jF,ZS,o,f,j,n,bd]
theorem merge_gen{N:Nat}{o:Zi Rec->Int->Int->Int->Yw (Zi Rec)}{k:Nat}(hN:20000<=N)(ih:∀(A B P S:Zi Rec),A.length+B.length<=k->A≠[]->B≠[]->MI A->MI B->(∀x∈A++B,0<=x.ax/\x.ax<=100)->(P++A++B++S).length<=5000->
      ∃C,o (P++A++B++S) P.length (P.length+A.length) (P.length+A.length+B.length)=ah (P++C++S)/\MI C/\St C (A++B)/\C.length=A.length+B.length)
    (A B P S:Zi Rec) (hk:A.length+B.length<=k+1) (la:2<=A.length) (lb:2<=B.length) (n:MI A) (g:MI B) (e:∀x∈A++B,0<=x.ax/\x.ax<=100) (hn:(P++A++B++S).length<=5000)
    {lo hi a m c:Int} (ea:a=P.length) (em:m=P.length+A.length) (ec:c=P.length+A.length+B.length) (h1:a<=lo) (R:lo<=hi) (h3:hi<=m) (h4:m<=(a+c) / 2+m-hi) (h5:(a+c) / 2+m-lo<=c)
    (h6:lo=a\/lo=(a+c) / 2+m-c) (h7:hi=m\/hi=(a+c) / 2):
    ∃C,lF N o a c m (P++A++B++S) lo hi=ah (P++C++S)/\MI C/\St C (A++B)/\C.length=A.length+B.length:=by
  have hE:∀{x y:Rec},x∈A++B->y∈A++B->iZ (x.ax-y.ax):=fun d f=>by
    have:=e _ d;have:=e _ f;exact i64s
  have O:=hn;simp only[an]at O;unfold lF;rw[gS];generalize b:(a+c) / 2=mid at*;have d1:2*mid<=a+c/\a+c<=2*mid+1:=by omega
  obtain⟨s,s1,s2,s3,s4,s5⟩:=halves (body:=gT N o a c m<|P++A++B++S) (fin:=fun s=>gT N o a c m (P++A++B++S) (s,s) fun _=>none)
    (T:=fun i=>ep A (i-a).toNat<=ep B (mid+m-1-i-m).toNat) (lo:=lo) (hi:=hi) V V (fun i j nx q1 q2 q3=>by
      simp only[gT,b];rw[dT q2,ZS,gS,jV V,gS,gS];obtain⟨y,e1,e2,e3⟩:=idxM (P:=P) (B:=A) (S:=B++S) (k:=((i+j) / 2-a).toNat) (i:=(i+j) / 2) V V;obtain⟨z,f1,f2,f3⟩:=idxM (P:=P++A) (B:=B) (S:=S) (k:=(mid+m-1-(i+j) / 2-m).toNat) (i:=mid+m-1-(i+j) / 2) V (by rw[an];omega);rw[<-bf]at e1;rw[f1,bd,e1,bd];unfold mE;rw[jV (hE (im _ (eK f3)) (iW _ (eK e3))),bd];by_cases ht:ep A ((i+j) / 2-a).toNat<=ep B (mid+m-1-(i+j) / 2-m).toNat
      · left;refine⟨ht,?_⟩;rw[dF V,eS,ZS,gS]
      · right;refine⟨ht,?_⟩;rw[dT V,cS,Z1]) (fun i nx q1 q2=>by
      simp only[gT];rw[dF V,Z1,Z1]) 5000 lo hi N V V V R V (.inl rfl) (.inl rfl)
  rw[s5];simp only[gT,b];rw[dF V,Z1,gS];obtain⟨i,a3⟩:∃q:Nat,s=a+q:=⟨(s-a).toNat,by omega⟩;obtain⟨j,a0⟩:∃q:Nat,mid+m-s=m+q:=⟨(mid-s).toNat,by omega⟩;have u:i<=A.length:=by omega
  have w:j<=B.length:=by omega
  have M:A=A.take i++A.drop i:=(fc _ _).symm;have Q:B=B.take j++B.drop j:=(fc _ _).symm;have a1:(A.take i).length=i:=by rw[bo];omega
  have t:(A.drop i).length=A.length-i:=by rw[cp]
  have p:(B.take j).length=j:=by rw[bo];omega
  have a2:(B.drop j).length=B.length-j:=by rw[cp]
  have F1:∀x∈A.take i,∀y∈B.drop j,x.ax<=y.ax:=by
    intro x d y f;have l1:=kx d;have l2:=kx f;rcases s3 with q|q
    · omega
    · have q':ep A (i-1)<=ep B j:=by
        rw[show(s-1-a).toNat=i-1 by omega,show(mid+m-1-(s-1)-m).toNat=j by omega]at q;exact q
      have:=cut_le n u (v:=ep A<|i-1) (.inr<|sE _) x d;have:=cut_ge g w (v:=ep B j) (.inr<|sE _) y f;omega
  have X:∀x∈A.drop i,∀y∈B.take j,y.ax<x.ax:=by
    intro x d y f;have l1:=kx d;have l2:=kx f;rcases s4 with q|q
    · omega
    · have q':ep B (j-1)<ep A i:=by
        rw[show(s-a).toNat=i by omega,show(mid+m-1-s-m).toNat=j-1 by omega]at q;omega
      have:=cut_ge n u (v:=ep A i) (.inr<|sE _) x d;have:=cut_le g w (v:=ep B<|j-1) (.inr<|sE _) y f;omega
  --what lies there once the parts in the midst have l places
  have L:∀G:Zi Rec->Yw (Zi Rec),(bif ab (s<m)&&ab (m<mid+m-s)then(sZ N (P++A++B++S) s m<|mid+m-s).bind G else G (P++A++B++S))=G (P++A.take i++B.take j++(A.drop i++B.drop j++S)):=by
    intro G;have I:P++A++B++S=(P++A.take i)++A.drop i++B.take j++(B.drop j++S):=by
      have h1:(P++A.take i)++A.drop i=P++A:=by rw[bf,<-M]
      have R:P++A++B.take j++(B.drop j++S)=P++A++B++S:=by rw[<-bf,bf<|P++A,<-Q]
      rw[h1,R]
    by_cases E:A.drop i=[]
    · rw[dF (show¬s<m by rw[E]at t;simp at t;omega),eT,Z1];refine ZD G ?_;rw[I,E];simp only[ca,cf,bf]
    by_cases F:B.take j=[]
    · rw[dF (show¬m<mid+m-s by rw[F]at p;simp at p;omega),kO,Z1];refine ZD G ?_;rw[I,F];simp only[ca,cf,bf]
    have:=cQ.2 E;have:=cQ.2 F;rw[dT V,dT V,jF,ZS];unfold sZ;have:=rot (m:=m) hN 5000 (A.drop i) (B.take j) (P++A.take i) (B.drop j++S) N V V E F (by rw[an];omega) (by rw[<-I];omega);rw[gS,gS,I,show m-s=((A.drop i).length:Int) by omega,show mid+m-s-m=((B.take j).length:Int) by omega,this,bd];simp
  rw[L];unfold ou;rw[b];obtain⟨K,g1,g2,g3,g4⟩:=half_ok ih (A.take i) (B.take j) P (A.drop i++B.drop j++S) V (Xt n _) (Xt g _) (fun x d=>e x (by
      rcases db.1 d with q|q
      · exact iW _<|uv q
      · exact im _ (uv q))) (by simp only[an];omega) (a:=a) (m:=s) (c:=mid) ea V V (lD o a c m s)
  rw[g1];unfold lD;rw[b];obtain⟨C2,k1,k2,k3,k4⟩:=half_ok ih (A.drop i) (B.drop j) (P++K) S V (Xu n _) (Xu g _) (fun x d=>e x (by
      rcases db.1 d with q|q
      · exact iW _<|ux q
      · exact im _ (ux q))) (by simp only[an];omega) (a:=mid) (m:=mid+m-s) (c:=c) (by rw[an];omega) (by rw[an];omega) (by rw[an];omega) ah
  rw[show P++K++(A.drop i++B.drop j++S)=P++K++A.drop i++B.drop j++S by simp only[bf]];refine⟨K++C2,k1.trans (by rw[<-bf P]),srt_app g2 k2 (fun x d y f=>?_),?_,by rw[an];omega⟩
  · rcases db.1 (g3.mem d)with q|q<;>rcases db.1 (k3.mem f)with r|r
    · have:=n;rw[M]at this;exact(fk.1 this).2.2 x q y r
    · exact F1 x q y r
    · exact pc<|X y r x q
    · have:=g;rw[Q]at this;exact(fk.1 this).2.2 x q y r
  · have:=(g3.app k3).trans (show St (A.take i++B.take j++(A.drop i++B.drop j)) (A++B) by
      have e9:A++B=A.take i++(A.drop i++B.take j)++B.drop j:=by
        have:A.take i++(A.drop i++B.take j)=A++B.take j:=by rw[<-bf,<-M]
        rw[this,bf,<-Q]
      rw[e9,show A.take i++B.take j++(A.drop i++B.drop j)=A.take i++(B.take j++A.drop i)++B.drop j by simp only[bf]];exact St.app (St.app St.rfl' (St.swap X)) St.rfl')
    exact this
theorem merge_ok:∀(k:Nat) (A B P S:Zi Rec) (N:Nat),A.length+B.length<=k->A≠[]->B≠[]->MI A->MI B->(∀x∈A++B,0<=x.ax/\x.ax<=100)->30000+k<=N->(P++A++B++S).length<=5000->
    ∃C,il N (P++A++B++S) P.length (P.length+A.length) (P.length+A.length+B.length)=ah (P++C++S)/\MI C/\St C (A++B)/\C.length=A.length+B.length:=by
  intro k;induction k with
  |zero=>
    intro A B P S N M L hb;have:=cQ.2 L;omega
  |succ k ih=>
    intro A B P S N M L hb o n g hN hn;have X:∀{x y:Rec},x∈A++B->y∈A++B->iZ (x.ax-y.ax):=fun hx d=>by
      have:=g _ hx;have:=g _ d;exact i64s
    obtain⟨N,rfl⟩:∃q,N=q+1:=⟨N-1,by omega⟩;have la:=cQ.2 L;have lb:=cQ.2 hb;simp only[an]at hn;show∃C,pJ N (il N) _ _ _ _=_/\_;unfold pJ;rw[gS];by_cases h1:A.length=1
    · rw[dT (show(P.length:Int)+A.length-P.length=1 by omega),ZS];obtain⟨x,rfl⟩:=tE.1 h1;obtain⟨s,s1,s2,F,I,K⟩:=halves (body:=jJ N (P++[x]++B++S) P.length) (fin:=fun s=>again (iN s) N (P++[x]++B++S,(P.length:Int)))
        (T:=fun i=>ep B (i-(P.length+1)).toNat<x.ax) (lo:=(P.length:Int)+1) (hi:=(P.length:Int)+1+B.length) V (by simp only[bl,cJ]at hn;omega) (fun i j nx Q u q3=>by
          simp only[bl,cJ]at hn;simp only[jJ];rw[dT u,ZS,gS,jV V,gS];obtain⟨y,m,e2,E⟩:=idxM (P:=P++[x]) (B:=B) (S:=S) (k:=((i+j) / 2-(P.length+1)).toNat) (i:=(i+j) / 2) V (by simp;omega);have w:idx (P++[x]++B++S) (P.length:Int)=ah x:=by rw[show P++[x]++B++S=P++x::(B++S) by simp];exact Xr Z
          rw[m,bd,w,bd];have hI:iZ (y.ax-x.ax):=X (im _<|eK E) zq3;rw[jV hI,e2];by_cases t:ep B ((i+j) / 2-(P.length+1)).toNat<x.ax
          · left;refine⟨t,?_⟩;rw[dT V,ZS,gS]
          · right;refine⟨t,?_⟩;rw[dF V,Z1]) (fun i nx Q u=>by
          simp only[jJ];rw[dF V,Z1]) (B.length+1) _ _ N V V V V V (.inl rfl) (.inl rfl)
      have O:([x]:Zi Rec).length=1:=rfl;rw[O]at hn⊢;simp only[Int.natCast_one];rw[K];obtain⟨c,rfl⟩:∃q:Nat,s=P.length+1+q:=⟨(s-(P.length+1)).toNat,by omega⟩;have f:c<=B.length:=by omega
      have p:B=B.take c++B.drop c:=(fc _ _).symm;have m:P++[x]++B++S=P++x::(B.take c++(B.drop c++S)):=by
        rw[<-bf (B.take c),<-p];simp
      have lt':(B.take c).length=c:=by rw[bo];omega
      rw[m,mvr (B.take c) P (B.drop c++S) x N V (by rw[lt'];omega) (by rw[<-bf (B.take c),<-p];simp;omega)];have c1:=cut_lt n f (v:=x.ax) (by
        rcases F with q|q
        · left;omega
        · right;rw[show((P.length:Int)+1+c-1-(P.length+1)).toNat=c-1 by omega]at q;exact q)
      have c2:=cut_ge n f (v:=x.ax) (by
        rcases I with q|q
        · left;omega
        · right;rw[show((P.length:Int)+1+c-(P.length+1)).toNat=c by omega]at q;omega)
      refine⟨B.take c++x::B.drop c,by simp,srt_app (Xt n _) (cA.2 ⟨fun y d=>c2 y d,Xu n _⟩) fun y d z e=>?_,?_,?_⟩
      · rcases bp.1 e with rfl|e
        · exact pc<|c1 y d
        · have:=c1 y d;have:=c2 z e;omega
      · have l:=St.app (St.swap (a:=[x]) (b:=B.take c) (fun z e y d=>by rw[dq.1 e];exact c1 y d)) (St.rfl' (a:=B.drop c));rw[bf,bf,<-p]at l;exact l
      · rw[an,bl,bo,cp];omega
    · rw[dF (show¬((P.length:Int)+A.length-P.length=1) by omega),Z1,gS];by_cases w:B.length=1
      · rw[dT (show(P.length:Int)+A.length+B.length-(P.length+A.length)=1 by omega),ZS];obtain⟨x,rfl⟩:=tE.1 w;have O:([x]:Zi Rec).length=1:=rfl;rw[O]at hn⊢;obtain⟨s,s1,s2,F,I,K⟩:=halves (body:=jK N (P++A++[x]++S)<|P.length+A.length) (fin:=fun s=>again (iO s) N (P++A++[x]++S,(P.length+A.length:Int)))
          (T:=fun i=>ep A (i-P.length).toNat<=x.ax) (lo:=(P.length:Int)) (hi:=(P.length:Int)+A.length) V V (fun i j nx Q u q3=>by
            simp only[jK];rw[dT u,ZS,gS,jV V,gS];obtain⟨y,m,e2,E⟩:=idxM (P:=P) (B:=A) (S:=[x]++S) (k:=((i+j) / 2-P.length).toNat) (i:=(i+j) / 2) V V;have w:idx (P++A++[x]++S) (P.length+A.length:Int)=ah x:=by rw[show P++A++[x]++S=(P++A)++x::S by simp];exact Xr zq3
            rw[<-bf]at m;rw[w,bd,m,bd];have hI:iZ (x.ax-y.ax):=X zq3<|iW _<|eK E;unfold mE;rw[jV hI,bd];by_cases t:ep A ((i+j) / 2-P.length).toNat<=x.ax
            · left;refine⟨t,?_⟩;rw[dF V,eS,ZS,gS]
            · right;refine⟨t,?_⟩;rw[dT V,cS,Z1]) (fun i nx Q u=>by
            simp only[jK];rw[dF V,Z1]) (A.length+1) _ _ N V V V V V (.inl rfl) (.inl rfl)
        rw[K];obtain⟨c,rfl⟩:∃q:Nat,s=P.length+q:=⟨(s-P.length).toNat,by omega⟩;have f:c<=A.length:=by omega
        have p:A=A.take c++A.drop c:=(fc _ _).symm;have lt':(A.take c).length=c:=by rw[bo];omega
        have G:(A.drop c).length=A.length-c:=by rw[cp]
        have m:P++A++[x]++S=(P++A.take c)++A.drop c++x::S:=by
          rw[bf P (A.take c),<-p];simp
        have R:(P++A.take c).length=P.length+c:=by rw[an,lt']
        have:=mvl (P:=P++A.take c) (A.drop c) S x N V (by rw[an,an,R,bl];omega);rw[R,G]at this;rw[m,show(P.length+A.length:Int)=((P.length+c:Nat):Int)+((A.length-c:Nat):Int) by omega,show(P.length:Int)+c=((P.length+c:Nat):Int) by omega,this];have c1:=cut_le o f (v:=x.ax) (by
          rcases F with q|q
          · left;omega
          · right;rw[show((P.length:Int)+c-1-P.length).toNat=c-1 by omega]at q;exact q)
        have c2:=cut_gt o f (v:=x.ax) (by
          rcases I with q|q
          · left;omega
          · right;rw[show((P.length:Int)+c-P.length).toNat=c by omega]at q;omega)
        refine⟨A.take c++x::A.drop c,by simp,srt_app (Xt o _) (cA.2 ⟨fun y d=>pc<|c2 y d,Xu o _⟩) fun y d z e=>?_,?_,?_⟩
        · rcases bp.1 e with rfl|e
          · exact c1 y d
          · have:=c1 y d;have:=c2 z e;omega
        · have l:=St.app (St.rfl' (a:=A.take c)) (St.swap (a:=A.drop c) (b:=[x]) (fun z e y d=>by rw[dq.1 d];exact c2 z e));rw[show A.take c++(A.drop c++[x])=A++[x] by rw[<-bf,<-p]]at l;exact l
        · rw[an,bl,bo,cp];omega
      · rw[dF (show¬((P.length:Int)+A.length+B.length-(P.length+A.length)=1) by omega),Z1,gS,jV V,gS,gS];have r:∀(A B P S:Zi Rec),A.length+B.length<=k->A≠[]->B≠[]->MI A->MI B->(∀x∈A++B,0<=x.ax/\x.ax<=100)->(P++A++B++S).length<=5000->
            ∃C,il N (P++A++B++S) P.length (P.length+A.length) (P.length+A.length+B.length)=ah (P++C++S)/\MI C/\St C (A++B)/\C.length=A.length+B.length:=
          fun A B P S a1 a2 a3 a4 a5 a6 a7=>ih A B P S N a1 a2 a3 a4 a5 a6 V a7
        by_cases l:((P.length:Int)+(P.length+A.length+B.length)) / 2<P.length+A.length
        · rw[dT l,ZS,gS];exact merge_gen V r A B P S M V V o n g (by simp only[an];omega) Z Z Z V V V V V V V
        · rw[dF l,Z1];exact merge_gen V r A B P S M V V o n g (by simp only[an];omega) Z Z Z V V V V V V V
theorem ins_in{P:Zi Rec}{x:Rec}{i:Int}{nx:Zi Rec×Int->Yw (Zi Rec)}(hi:0<=i/\i<=10000):∀(c E R:Zi Rec) (M:Nat),c.length<M->MI (c++E)->(∀y∈E,x.ax<y.ax)->(∀y∈c++[x],0<=y.ax/\y.ax<=100)->(P++c++x::(E++R)).length<=10000->
    ∃C,MI C/\St C (c++E++[x])/\C.length=c.length+E.length+1/\again (iB P.length i nx) M (P++c++x::(E++R),(P.length:Int)+c.length)=nx (P++C++R,i+1):=by
  refine snoc ?_ ?_
  · intro E R M m hs e j hn;obtain⟨M,rfl⟩:∃q,M=q+1:=⟨M-1,by omega⟩;refine⟨x::E,cA.2 ⟨fun y k=>pc (e y k),hs⟩,St.swap (a:=E) (b:=[x]) (fun z d y k=>by rw[dq.1 k];exact e z d),by simp,?_⟩;simp only[again,iB,jG];rw[dF zq3,Z1,Z1,gS];simp
  · intro c y o E R M m hs e j hn;obtain⟨M,rfl⟩:∃q,M=q+1:=⟨M-1,by omega⟩;simp only[bl,an,cJ]at m hn⊢;simp only[again,iB,jG];have k:=j y zq3;have t:=j x zq3;rw[dT V,ZS,Xr zq3,bd,gS];have s:P++(c++[y])++x::(E++R)=(P++c)++y::(x::(E++R)):=by simp
    have p:idx (P++(c++[y])++x::(E++R)) ((P.length:Int)+((c.length+(0+1):Nat):Int)-1)=ah y:=by rw[s,Xr (by simp;omega)]
    rw[p,bd];unfold mE;rw[gS,bd];by_cases l:x.ax<y.ax
    · rw[dT V,ZS,gS,gS,bd,bd,setA zq3];rw[show P++(c++[y])++y::(E++R)=(P++c)++y::(y::(E++R)) by simp,Xr (by simp;omega),bd,setA (by simp;omega)];unfold pz;rw[gS];obtain⟨C,c1,c2,n,r⟩:=o (y::E) R M V (by simpa using hs) (fun z d=>by
        rcases bp.1 d with rfl|d
        · exact l
        · exact e z d) (fun z d=>j z (by
          rcases db.1 d with q|q
          · simp[q]
          · simp[dq.1 q])) (by simp;omega)
      refine⟨C,c1,by simpa using c2,by rw[n,bl];omega,?_⟩;rw[show(P.length:Int)+((c.length+(0+1):Nat):Int)-1=(P.length:Int)+c.length by omega,show P++c++x::y::(E++R)=P++c++x::(y::E++R) by simp];exact r
    · rw[dF V,Z1,gS];have g:∀z∈c++[y],z.ax<=x.ax:=by
        intro z d;rcases db.1 d with q|q
        · have:=(fk.1 (fk.1 hs).1).2.2 z q y zq3;omega
        · rw[dq.1 q];omega
      refine⟨c++[y]++x::E,srt_app (fk.1 hs).1 (cA.2 ⟨fun z d=>pc (e z d),(fk.1 hs).2.1⟩) (fun z d q f=>?_),?_,by simp;omega,by simp⟩
      · rcases bp.1 f with rfl|f
        · exact g z d
        · have:=g z d;have:=e q f;omega
      · rw[bf (c++[y])];exact St.app St.rfl' (St.swap (a:=E) (b:=[x]) (fun z d q f=>by rw[dq.1 f];exact e z d))
theorem ins_out{P S:Zi Rec}{N:Nat}(f:20000<=N):∀(T b:Zi Rec) (M:Nat),T.length<M->MI b->(∀y∈b++T,0<=y.ax/\y.ax<=100)->(P++b++T++S).length<=5000->
    ∃C,again (fH N ((P.length:Int)+b.length+T.length) P.length) M (P++b++T++S,(P.length:Int)+b.length)=ah (P++C++S)/\MI C/\St C (b++T)/\C.length=b.length+T.length
  |[],b,M,hM,hD,hE,hn=>by
    obtain⟨M,rfl⟩:∃q,M=q+1:=⟨M-1,by omega⟩;refine⟨b,?_,hD,by rw[ca];exact St.rfl',by simp⟩;simp only[again,fH];rw[dF zq3,Z1,ca]
  |x::T,b,M,hM,hD,hE,hn=>by
    obtain⟨M,rfl⟩:∃q,M=q+1:=⟨M-1,by omega⟩;simp only[bl,an]at hM hn;simp only[again,fH];rw[dT (by simp only[bl];omega),ZS];obtain⟨C,c1,c2,d,e⟩:=ins_in (P:=P) (x:=x) (i:=(P.length:Int)+b.length) (nx:=again (fH N ((P.length:Int)+b.length+(x::T).length) P.length) M) V b [] (T++S) N V (by rw[ca];exact hD) (fun y c=>Zs c List.not_mem_nil) (fun y c=>hE y (by
      rcases db.1 c with q|q
      · simp[q]
      · simp[dq.1 q])) (by simp;omega)
    rw[ca]at c2;obtain⟨C',k,j,l,g⟩:=ins_out (P:=P) (S:=S) f T C M V c1 (fun y c=>hE y (by
      rcases db.1 c with q|q
      · rcases db.1 (c2.mem q)with r|r
        · simp[r]
        · simp[dq.1 r]
      · simp[q])) (by simp only[an,d,cJ];omega)
    refine⟨C',?_,j,?_,by rw[g,d];simp;omega⟩
    · rw[show P++b++x::T++S=P++b++x::([]++(T++S)) by simp];refine Eq.trans ?_<|e.trans ?_
      · rfl
      · rw[show P++C++(T++S)=P++C++T++S by simp,show(P.length:Int)+b.length+1=P.length+C.length by rw[d];simp;omega,show((P.length:Int)+b.length+(x::T).length)=P.length+C.length+T.length by rw[d];simp;omega];exact k
    · have:=l.trans<|c2.app<|St.rfl' (a:=T);rw[show b++[x]++T=b++x::T by simp]at this;exact this
theorem ins_ok{P S A:Zi Rec}{N:Nat}(j:30000<=N)(g:∀y∈A,0<=y.ax/\y.ax<=100)(hn:(P++A++S).length<=5000){a b:Int}(i:a=P.length)(d:b=P.length+A.length):
  ∃C,kN N (P++A++S) a b=ah (P++C++S)/\MI C/\St C A/\C.length=A.length:=by
 unfold kN;have c:=hn;simp only[an]at c;rw[gS];cases A with
 |nil=>
  obtain⟨N,rfl⟩:∃q,N=q+1:=⟨N-1,by omega⟩;refine⟨[],?_,lC,St.rfl',Z⟩;simp only[again,fH];rw[dF (by simp at d;omega),Z1]
 |cons x T=>
  obtain⟨C,c1,c2,e,f⟩:=ins_out (P:=P) (S:=S) (N:=N) V T [x] N (by simp at c;omega) (List.pairwise_singleton _ _) (by simpa using g) (by simpa using hn);refine⟨C,?_,c2,by simpa using e,by rw[f];simp;omega⟩;rw[<-c1];simp only[bl,cJ]at d⊢;rw[i,show b=(P.length:Int)+(0+1:Nat)+T.length by omega];simp
inductive Bk (n:Nat):List Rec->Prop
 |last {l:List Rec}:l.length<=n->MI l->Bk n l
 |cons {A R:List Rec}:A.length=n->MI A->Bk n R->Bk n (A++R)
theorem Bk.sorted{n:Nat}{l:Zi Rec}(h:Bk n l)(hn:l.length<=n):MI l:=by
 cases h with
 |last _ h=>exact h
 |cons h1 h2 h3=>
  rename_i A R;have:R=[]:=cd (by rw[an]at hn;omega);rw[this,ca];exact h2
theorem Bk.two{n:Nat}{l:Zi Rec}(h:Bk n l)(hn:n<l.length):∃A R,l=A++R/\A.length=n/\MI A/\Bk n R:=by
 cases h with
 |last h _=>omega
 |cons h1 h2 h3=>exact⟨_,_,rfl,h1,h2,h3⟩
abbrev Ep(l:Zi Rec):Prop:=∀y∈l,0<=y.ax/\y.ax<=100
theorem pass1{N:Nat}(s:40000<=N){n:Int}:∀(k:Nat) (R P:Zi Rec) (M:Nat),R.length<=k->k<M->Ep R->(P++R).length<=5000->n=P.length+R.length->
    ∃R',again (iy N n) M (P++R,(P.length:Int),(P.length:Int)+20)=again (gL N n) N (P++R',20)/\Bk 20 R'/\St R' R/\R'.length=R.length:=by
  intro k;induction k with
  |zero=>
    intro R P M j m e hn d;obtain⟨M,rfl⟩:∃q,M=q+1:=⟨M-1,by omega⟩;have:R=[]:=cd V;subst this;obtain⟨C,c1,c2,f,c⟩:=ins_ok (P:=P) (S:=[]) (A:=[]) (N:=N) V e (by simpa using hn) (a:=(P.length:Int)) (b:=n) Z d;rw[ca,ca]at c1;refine⟨C,?_,.last (by rw[c];simp) c2,f,c⟩;simp only[again,iy];rw[dF (by simp at d;omega),Z1,ca,c1,bd,ca]
  |succ k ih=>
    intro R P M j m e hn d;obtain⟨M,rfl⟩:∃q,M=q+1:=⟨M-1,by omega⟩;rw[an]at hn;by_cases h:20<=R.length
    · obtain⟨A,g,rfl,hA⟩:∃A g,R=A++g/\A.length=20:=⟨R.take 20,R.drop 20,(fc _ _).symm,by rw[bo];omega⟩;rw[an]at j hn d;obtain⟨C,c1,c2,f,c⟩:=ins_ok (P:=P) (S:=g) (A:=A) (N:=N) V (fun y i=>e y (iW _ i)) (by simp only[an];omega) (a:=(P.length:Int)) (b:=(P.length:Int)+20) Z V;obtain⟨R',o,p,l,r⟩:=ih g (P++C) M V V (fun y i=>e y (im _ i)) (by simp only[an];omega) (by rw[an];omega);refine⟨C++R',?_,.cons V c2 p,f.app l,by simp only[an];omega⟩;simp only[again,iy];rw[dT V,ZS,<-bf P,c1,bd,gS,<-bf P,<-o,an,show((P.length+C.length:Nat):Int)=(P.length:Int)+20 by omega]
    · obtain⟨C,c1,c2,f,c⟩:=ins_ok (P:=P) (S:=[]) (A:=R) (N:=N) V e (by simpa using hn) (a:=(P.length:Int)) (b:=n) Z d;rw[ca,ca]at c1;refine⟨C,?_,.last V c2,f,c⟩;simp only[again,iy];rw[dF V,Z1,c1,bd]
theorem pass2{N:Nat}(F:40000<=N){n:Int}{bs:Nat}(E:1<=bs/\bs<=5000){nx:Zi Rec×Int->Yw (Zi Rec)}:∀(k:Nat) (R P:Zi Rec) (M:Nat),R.length<=k->k<M->Bk bs R->Ep R->(P++R).length<=5000->n=P.length+R.length->
    ∃R',again (j4 N n bs nx) M (P++R,(P.length:Int),(P.length:Int)+2*bs)=nx (P++R',(bs:Int)*2)/\Bk (2*bs) R'/\St R' R/\R'.length=R.length:=by
  intro k;induction k with
  |zero=>
    intro R P M d w hB e hn c;obtain⟨M,rfl⟩:∃q,M=q+1:=⟨M-1,by omega⟩;have:R=[]:=cd V;subst this;rw[an]at hn;refine⟨[],?_,.last zq3 lC,St.rfl',Z⟩;simp only[again,j4,mR];simp only[cJ]at c;rw[dF V,Z1,gS,dF V,Z1,gS]
  |succ k ih=>
    intro R P M d w hB e hn c;obtain⟨M,rfl⟩:∃q,M=q+1:=⟨M-1,by omega⟩;rw[an]at hn;simp only[again,j4,mR];by_cases h:2*bs<=R.length
    · obtain⟨A,j,rfl,hA,l,a⟩:=hB.two V;rw[an]at d hn c h;obtain⟨B,b,rfl,m,f,g⟩:∃B b,j=B++b/\B.length=bs/\MI B/\Bk bs b:=by
        by_cases s:bs<j.length
        · exact a.two s
        · exact⟨j,[],by rw[ca],by omega,a.sorted V,.last zq3 lC⟩
      rw[an]at d hn c h;obtain⟨C,c1,c2,i,r⟩:=merge_ok 5000 A B P b N V (by intro z;subst z;simp at hA;omega) (by intro z;subst z;simp at m;omega) l f (fun y o=>e y (by
        rcases db.1 o with q|q
        · simp[q]
        · simp[q])) V (by simp only[an];omega)
      obtain⟨R',t,u,v,x⟩:=ih b (P++C) M V V g (fun y o=>e y (by simp[o])) (by simp only[an];omega) (by rw[an];omega);refine⟨C++R',?_,.cons V c2 u,by rw[<-bf];exact i.app v,by simp only[an];omega⟩;rw[dT V,ZS,gS,show P++(A++(B++b))=P++A++B++b by simp only[bf],show(P.length:Int)+2*bs=P.length+A.length+B.length by omega,show(P.length:Int)+bs=P.length+A.length by omega,c1,bd,gS,gS,<-bf P,<-t,an,
        show((P.length+C.length:Nat):Int)=P.length+A.length+B.length by omega]
    · rw[dF V,Z1,gS];by_cases p:bs<R.length
      · obtain⟨A,B,rfl,hA,l,a⟩:=hB.two p;rw[an]at d hn c h p;have f:=a.sorted V;obtain⟨C,c1,c2,i,r⟩:=merge_ok 5000 A B P [] N V (by intro z;subst z;simp at hA;omega) (by intro z;subst z;simp at p;omega) l f e V (by simp only[an,cJ];omega);rw[ca,ca]at c1;refine⟨C,?_,.last V c2,i,by rw[r,an]⟩;rw[dT V,ZS,<-bf P,show(P.length:Int)+bs=P.length+A.length by omega,show n=P.length+A.length+B.length by omega,c1,bd,gS]
      · refine⟨R,?_,.last V<|hB.sorted V,St.rfl',Z⟩;rw[dF V,Z1,gS]
theorem pass3{N:Nat}(g:40000<=N){n:Int}:∀(k:Nat) (l:Zi Rec) (bs M:Nat),l.length<=bs+k->k<M->1<=bs->bs<=5000->Bk bs l->Ep l->l.length<=2000->n=l.length->
    ∃y,again (gL N n) M (l,(bs:Int))=ah y/\MI y/\St y l/\y.length=l.length:=by
  intro k;induction k with
  |zero=>
    intro l bs M j m c p hB a hn f;obtain⟨M,rfl⟩:∃q,M=q+1:=⟨M-1,by omega⟩;refine⟨l,?_,hB.sorted V,St.rfl',Z⟩;simp only[again,gL];rw[dF V,Z1]
  |succ k ih=>
    intro l bs M j m c p hB a hn f;obtain⟨M,rfl⟩:∃q,M=q+1:=⟨M-1,by omega⟩;simp only[again,gL];by_cases h:(bs:Int)<n
    · rw[dT h,ZS,gS];obtain⟨R',b,r,d,t⟩:=pass2 g (n:=n) (bs:=bs) ⟨c,by omega⟩ (nx:=again (gL N n) M) l.length l [] N (Nat.le_refl _) V hB a (by simp;omega) (by simp;omega);simp only[cf,cJ]at b;rw[show((0:Nat):Int)+2*(bs:Int)=2*(bs:Int) by omega]at b;obtain⟨y,e,s,o,u⟩:=ih R' (2*bs) M V V V V r (fun q i=>a q<|d.mem i) V V;refine⟨y,?_,s,o.trans d,by omega⟩;refine Eq.trans b ?_;rw[show(bs:Int)*2=((2*bs:Nat):Int) by omega];exact e
    · rw[dF h,Z1];exact⟨l,Z,hB.sorted V,St.rfl',Z⟩
theorem stable_ok{N:Nat}(b:40000<=N){l:Zi Rec}(c:Ep l)(hn:l.length<=2000):∃y,rP N l=ah y/\MI y/\St y l/\y.length=l.length:=by
 unfold rP yn;obtain⟨R',a,i,d,k⟩:=pass1 b (n:=(l.length:Int)) l.length l [] N (Nat.le_refl _) V c (by simp;omega) zq3;simp only[cf,cJ]at a;obtain⟨y,e,j,g,m⟩:=pass3 b (n:=(l.length:Int)) R'.length R' 20 N V V V V i (fun q f=>c q<|d.mem f) V V;refine⟨y,?_,j,g.trans d,by omega⟩;rw[show((0:Nat):Int)+20=20 from rfl]at a;rw[show again (iy N (l.length:Int)) N (l,0,20)=_ from a,show again (gL N (l.length:Int)) N (R',20)=_ from e,bd,]
theorem srt_split:∀{y:Zi Rec},MI y->∀n:Int,y.filter (fun r=>ab (r.ax<n+1))=y.filter (fun r=>ab (r.ax<n))++y.filter fun r=>ab (r.ax=n)
  |[],_,_=>rfl
  |x::y,h,n=>by
    have a:=srt_split (cA.1 h).2 n;have e:=(cA.1 h).1;by_cases f:x.ax<n
    · rw[eJ (by simp;omega),eJ (by simp;omega),ef (by simp;omega),a];rfl
    · have b:y.filter (fun r=>decide<|r.ax<n)=[]:=by
        rw[kv];intro z b d;have:=e z b;have:=P9 d;omega
      by_cases c:x.ax=n
      · rw[eJ (by simp;omega),ef (by simp;omega),eJ (by simp[c]),a,b];rfl
      · rw[ef (by simp;omega),ef (by simp;omega),ef (by simp[c]),a]
theorem srt_sum{y:Zi Rec}(h:MI y)(a:∀r∈y,0<=r.ax):∀n:Nat,y.filter (fun r=>ab (r.ax<(n:Int)))=(rr n).flatMap fun(e:Nat)=>y.filter fun r=>ab (r.ax=(e:Int))
 |0=>by
  rw[List.range_zero,sl,kv];intro r b c;have:=a r b;have:=P9 c;omega
 |n+1=>by
  rw[sC,jh,<-srt_sum h a n];have:=srt_split h (n:Int);rw[show((n+1:Nat):Int)=(n:Int)+1 by omega,this];simp
end Sr
open Go Go.Proofs Go.LX
namespace Dk
theorem lt_id{x y:Co}(a:0<=x.jL/\x.jL<=2)(b:0<=y.jL/\y.jL<=2):lt126 x y=ab (x.jL<y.jL):=by
 unfold lt126 cf126;rw[show RowKit.wrap64 (x.jL-y.jL)=x.jL-y.jL by unfold RowKit.wrap64;omega,decide_eq_decide];omega
theorem sort_few(o:Zi Co)(c:Co)(ho:o.length<=3)(e:Up o)(b:∀x∈o,0<=x.jL/\x.jL<=2)(f:0<=c.jL/\c.jL<=2)(a:∀x∈o,x.jL≠c.jL):sortF lt126 (o++[c])=Gb c o:=by
  unfold sortF Sort.insertionSort
  match o,ho,e,b,a with
  |[],_,_,_,_=>
    rw[fN];simp[Gb]
  |[x],_,_,b,a=>
    have d:=b x zq3;have i:=a x zq3;rw[fN,fN];simp[Sort.insInner,Gb,lt_id f d,Sort.swp];by_cases h:c.jL<x.jL
    · rw[Z2 h,Z3 V]
    · rw[Z3 h,Z2 V]
  |[x,y],_,e,b,a=>
    have d:=b x zq3;have g:=b y zq3;have i:=a x zq3;have l:=a y zq3;have k:x.jL<y.jL:=by simp[Up]at e;exact e
    rw[fN,fN,fN];simp[Sort.insInner,Gb,lt_id f d,lt_id f g,lt_id g d,Sort.swp,show¬y.jL<x.jL by omega];by_cases h:c.jL<y.jL
    · by_cases j:c.jL<x.jL
      · simp[h,j,lt_id f d,show¬x.jL<c.jL by omega]
      · simp[h,j,lt_id f d,show x.jL<c.jL by omega,show¬y.jL<c.jL by omega]
    · simp[h,show x.jL<c.jL by omega,show y.jL<c.jL by omega]
  |[x,y,z],_,e,b,a=>
    have d:=b x zq3;have g:=b y zq3;have m:=b z zq3;have i:=a x zq3;have l:=a y zq3;have n3:=a z zq3;simp[Up]at e;omega
  |x::y::z::u::r,h,_,_,_=>simp at h
theorem fold_next(b:Rec):∀(l:Zi Co) (h:Yw Co) (o:Zi Co),l.Pairwise (fun x y=>x.jL≠y.jL)->(∀y,h=ah y->∀x∈l,x.jL≠b.co)->o.length+l.length<=3->
    each (qH b) (lS b) l (h,o)=lS b ((match BM b l with|some x=>ah x|none=>h),o++Ka b l)
  |[],h,o,_,_,_=>by simp[kW,BM,Ka]
  |x::r,h,o,hp,hh,hl=>by
    rw[cA]at hp;simp only[bl]at hl;rw[eQ];have f:=fold_next b r;generalize each (qH b) (lS b) r=nx at f⊢;unfold qH wL;simp only;by_cases a:x.jL=b.co
    · rw[dT a];simp only[ZS];have i:∀y∈r,y.jL≠b.co:=fun y c e=>hp.1 y c<|a.trans e.symm;rw[f (ah x) o hp.2 (fun _ _=>i) V];have k:BM b r=none:=by
        unfold BM;rw[wh];intro y c;simpa using i y c
      have d:BM b (x::r)=ah x:=by unfold BM;rw[eW];simp[a]
      have g:Ka b (x::r)=Ka b r:=by unfold Ka;rw[fY];simp[a]
      rw[k,d,g]
    · rw[dF a];simp only[Z1];rw[jV (Room.mk (by simp;omega) (by simp;omega)),f h (o++[x]) hp.2 (fun y c z j=>hh y c z (bm _ j)) (by simp;omega)];have d:BM b (x::r)=BM b r:=by unfold BM;rw[eW];simp[a]
      have g:Ka b (x::r)=x::Ka b r:=by unfold Ka;rw[fY];simp[a]
      rw[d,g,bf,List.singleton_append]
theorem j10_eq(b:Rec)(a:Zi Co)(g:Good a)(c1 c2 d:Int)(c:Zi Int)(i:c1=b.co)(e:0<=b.co/\b.co<=2):oh (Ka b a) c1 c2 c d=ah (Gb ⟨c1,c2,c,d⟩ (Ka b a),0):=by
 unfold oh;have hl:=oth_len b a;have j:=g.len;rw[jV (Room.mk (by simp;omega) (by simp;omega)),jV (by simp;omega)];rw[sort_few (Ka b a) ⟨c1,c2,c,d⟩ V (oth_up b g.up) (fun x f=>by have:=g.ok x (Sq f).1;exact⟨this.1,this.2.1⟩) (by subst i;exact e) (fun x f=>by have:=(Sq f).2;rw[i];exact this)]
theorem nexted_eq(a:Zi Co)(b:Rec):zC a b=ah (BN a b):=by
  unfold zC BN;by_cases f:fO a=0
  · by_cases k:fu b=0
    · have g:=(good_iff a).1 f;have gr:=goodR b k;rw[f,k];simp only[ne_eq,not_true_eq_false,decide_false,Z1,if_false];rw[fold_next b a none [] (g.up.imp (fun h=>by omega)) (fun y n=>by cases n) (by simpa using g.len),cf];have e:∀s:Yw Co×Zi Co,lS b s=qG s.1 b s.2 (decide<|b.kind=1\/b.kind=4):=by
        rintro⟨o,p⟩;unfold lS;simp only;by_cases d:b.kind=1
        · simp[d]
        · simp[d]
      rw[e];simp only;unfold qG;have m:=gr.kind;cases hh:BM b a with
      |none=>
        simp only;by_cases d:b.kind=1\/b.kind=4
        · rw[dT d,Z2 d];simp only[ZS,Option.isSome_none,Z1];cases (ab (b.ax=1) !=ab (b.kind=1))with
          |true=>rfl
          |false=>
            simp only[Z1,de,if_false];exact j10_eq b a g b.co b.ax (-1) b.image Z gr.co
        · rw[dF d,Z3 d];rfl
      |some c=>
        have l:c.jL=b.co:=by
          have:=ze hh;simpa using this
        simp only;by_cases d:b.kind=1\/b.kind=4
        · rw[dT d,Z2 d];rfl
        · rw[dF d,Z3 d];simp only[Z1,Option.isNone_some,bnd];cases (ab (b.ax≠c.ax)||(ab (c.offered≠ -1) !=ab (b.kind=5)))with
          |true=>rfl
          |false=>
            simp only[Z1,de,if_false];by_cases i:b.kind=5
            · rw[dT i,Z2 i];rfl
            · rw[dF i,Z3 i];simp only[Z1];by_cases k2:b.kind=2
              · rw[dT k2,Z2 k2];exact j10_eq b a g _ _ _ _ l gr.co
              · rw[dF k2,Z3 k2];simp only[Z1];by_cases j:c.ax=100
                · rw[dT j,Z2 j];rfl
                · rw[dF j,Z3 j];exact j10_eq b a g _ _ _ _ l gr.co
    · rw[f];simp only[ne_eq,not_true_eq_false,decide_false,Z1,if_false];rw[show ab (¬fu b=0)=ba from dT k,Z2 k];rfl
  · rw[show ab (fO a≠0)=ba from dT f,Z2 f];rfl
theorem TG:∀(l:Zi Rec) (a:Zi Co),each uu yU l a=ah (Ac a l)
  |[],a=>rfl
  |x::l,a=>by
    rw[eQ,uu,nexted_eq];simp only[bnd];rw[Ac];by_cases h:(BN a x).2=0
    · rw[dF (show¬(BN a x).2≠0 from fun e=>e h),Z1,TG l,Z3 (fun e=>e h)]
    · rw[dT (show(BN a x).2≠0 from h),ZS,Z2 h]
theorem replayed_eq(l:Zi Rec):tO l=ah (if 120<l.length then([],2)else Ac [] l):=by
  unfold tO;by_cases h:120<l.length
  · rw[dT V,ZS,Z2 h]
  · rw[dF V,Z1,TG,Z3 h]
end Dk
open Go Go.Proofs Go.LX
namespace Pw
open Dk
theorem coSameR(a b:Zi Co):CQ a b=ah (ab (a=b)):=by
 rw[<-coSame];rfl
theorem Su{N:Nat}(w:aX)(nx:Unit->Yw Int){e:Int}(a:e≠0):∀l:Zi Co,each (jv N w) (jw nx) l e=ah e
 |[]=>by rw[kW];unfold jw;rw[dT a,ZS]
 |x::l=>by
  rw[eQ];have b:=Su (N:=N) w nx a l;generalize each (jv N w) (jw nx) l=F at b⊢;unfold jv mK;rw[dF a,Z1,b]
theorem imgsR{N:Nat}(a:60002<=N){w:aX}(hp:Xz w.prog=0)(nx:Unit->Yw Int):∀l:Zi Co,each (jv N w) (jw nx) l 0=if imgs w.prog l≠0 then ah (imgs w.prog l)else nx ()
  |[]=>by rw[kW];unfold jw;rw[dF zq1,Z1];rfl
  |x::l=>by
    rw[eQ,jv,dT rfl,ZS,unpacked_eq hp _ V];simp only[bnd];unfold mK;rw[imgs];by_cases h:(qZ w.prog x.image).2=0
    · rw[h,Z3 (show¬((0:Int)≠0)from fun e=>e rfl),imgsR a hp nx l]
    · rw[Z2 h,Z2 h,Su w nx h]
theorem plcR{N:Nat}(i:60002<=N){w:aX}(hp:Xz w.prog=0)(x:Plc)(g:x.d.wait.length<=9223372036854775807)(nx:Unit->Yw Int):kJ N w (ofP x) () nx=if xQ w.prog x≠0 then ah (xQ w.prog x)else nx ():=by
  unfold kJ xQ;show(rV x.d).bind _=_;rw[check_eq2 _ g];simp only[bnd];by_cases c:oz x.d=0
  · rw[dF (nn c),Z1,Z3 (nn c),up_g];cases hu:x.up with
    |false=>
      simp only[eS,iv,eT,tp,ZS,if_true];show(bif ab ((0:Int)<(x.cos.length:Int))then _ else _)=_;by_cases a:x.cos=[]
      · rw[a,Z2 rfl];rfl
      · rw[Z3 a,dT (by have:=cQ.2 a;omega)];rfl
    |true=>
      simp only[cS,iv,eT,Bool.false_or,Z1,rn,if_false];show(bif ab ((0:Int)<(x.d.wait.length:Int))then _ else _)=_;by_cases a:x.d.wait=[]
      · rw[Z3 (show¬x.d.wait≠[]from fun e=>e a)];rw[dF (by rw[a];simp),Z1];show(mD x.d).bind _=_;rw[Xq _ c];simp only[bnd];rw[show(recT x.d).2=Ad x.d from rfl,replayed_eq,Z3 (show¬120<(Ad x.d).length by have:=(dOk c).len;omega)];simp only[bnd];by_cases b:(Ac [] (Ad x.d)).2=0
        · rw[dT b,ZS,Z3 (nn b),coSameR];simp only[bnd];unfold mM nO;show(bif !decide ((Ac []<|Ad x.d).1=x.cos)then _ else _)=_;by_cases f:(Ac [] (Ad x.d)).1=x.cos
          · rw[dT f,Z3 (show¬(Ac [] (Ad x.d)).1≠x.cos from fun e=>e f),b,f,cS,Z1];exact imgsR i hp nx x.cos
          · rw[dF f,Z2 f,Z2 zq1,eS,ZS];exact Su w nx zq1 _
        · rw[dF b,Z1,Z2 b,Z2 b];unfold mM nO;rw[Z1];exact Su w nx b _
      · rw[Z2 a,dT (by have:=cQ.2 a;omega),ZS,Z2 zq1]
  · rw[dT (show oz x.d≠0 from c),ZS,Z2 c,Z2 c]
theorem plcsR{N:Nat}(a:60002<=N){w:aX}(hp:Xz w.prog=0)(k:Unit->Yw Int):∀l:Zi Plc,(∀x∈l,x.d.wait.length<=9223372036854775807)->each (kJ N w) k (l.map ofP) ()=if Lr w.prog l≠0 then ah (Lr w.prog l)else k ()
  |[],_=>by simp[Lr,kW]
  |x::l,hw=>by
    rw[ct,eQ,plcR a hp x (hw x zq3),plcsR a hp k l (fun y b=>hw y (bm _ b)),Lr];by_cases h:xQ w.prog x=0
    · rw[Z3 (nn h),Z3 (nn h)]
    · rw[Z2 h,Z2 h,Z2 h]
theorem mailsR{w:aX}(hp:Xz w.prog=0){N:Nat}(b:60002<=N):∀l:Zi lI,each (kH N w) qb l ()=ah (TF w.prog l)
  |[]=>rfl
  |m::l=>by
    rw[eQ];have a:=mailsR (w:=w) hp b l;generalize each (kH N w) qb l=F at a⊢;unfold kH TF;rw[unpacked_eq hp _ V];simp only[bnd];cases ht:m.taken with
    |true=>exact a
    |false=>
      rw[Z3 zq3,eS,iv];by_cases h:(qZ w.prog m.image).2=0
      · rw[dF (nn h),Z1,a,Z3 (nn h)]
      · rw[dT (show(qZ w.prog m.image).2≠0 from h),ZS,Z2 h]
theorem checkR{w:Wld}(e:Wts w){N:Nat}(d:60002<=N):uX N (ofW w)=ah (BO w):=by
  unfold uX BO;show(o7 w.prog).bind _=_;rw[chk_eq2];simp only[bnd];by_cases a:Xz w.prog=0
  · rw[dF (nn a),Z1,Z3 (nn a)];have hl:((ofW w).places.length:Int)=w.places.length:=by unfold ofW;simp
    rw[hl,<-Dk.BO];by_cases f:w.places.length=3
    · rw[dF V,Z1,Z3 V];show(bif ab ((jZ w.gM:Int)≠0)then ah (jZ w.gM)else _)=_;by_cases b:jZ w.gM=0
      · rw[dF (nn b),Z1,Z3 (nn b)];show each (kJ N<|ofW w) _ (w.places.map ofP) ()=_;rw[plcsR d (show Xz (ofW w).prog=0 from a) _ _ e];unfold uW;show(if Lr w.prog w.places≠0 then _ else each (kH N<|ofW w) _ w.gM ())=_;rw[mailsR (show Xz (ofW w).prog=0 from a) d];by_cases c:Lr w.prog w.places=0
        · rw[Z3 (nn c),Z3 (nn c)];rfl
        · rw[Z2 c,Z2 c];rfl
      · rw[dT (show jZ w.gM≠0 from b),ZS,Z2 b]
    · rw[dT V,ZS,Z2 f]
  · rw[dT (show Xz w.prog≠0 from a),ZS,Z2 a]
end Pw
open Go Go.Proofs Go.LX
namespace Pw
open Dk
def Gc(i k:Int)(x:Plc):Zi T3:=if(Ac [] (Ad x.d)).2=0 then heldT k (BP i (Ac [] (Ad x.d)).1)else []
theorem Sv(i k:Int)(x:Plc):(Gc i k x).length<=1:=by
  unfold Gc;split
  · exact heldT_len _ _
  · simp
theorem held_q{N:Nat}(c:60002<=N)(i k:Int){x:Plc}(h:oz x.d=0){a:Zi T3}(e:a.length<=2)(nx:Zi T3->Yw (Zi T3×Int)):
    uE N i k (ofP x) a nx=nx (a++Gc i k x):=by
  by_cases b:(Ac [] (Ad x.d)).2=0
  · rw[held_pl c i k h b e,Gc,Z2 b]
  · unfold uE;rw[recover_g h c];simp only[bnd];rw[replay_eq N V,Z3 (by have:=(dOk h).len;omega)];simp only[bnd];rw[dT (show(Ac [] (Ad x.d)).2≠0 from b),ZS,Gc,Z3 b,ca];rfl
theorem held_w{w:Wld}(h:WR w){i:Int}(hi:0<=i/\i<3){N:Nat}(a:60002<=N):yg N (ofW w) i=ah (Gc i 0 (Px w 0)++Gc i 1 (Px w 1)++Gc i 2 (Px w 2),0):=by
 unfold yg;rw[scheck_g h hi a];simp only[bnd];rw[dF zq1,Z1];show fG (uE N i) Jd 0 (w.places.map ofP) []=_;have b:=fun k(c:On k)=>(h.at c).disk;have e:=Sv i 0<|Px w 0;have d:=Sv i 1<|Px w 1;rw[three h.many];simp only[ct,gC];rw[vG,held_q a i 0 (b 0 ⟨by omega,by omega⟩) zq3,vG,held_q a i (0+1) (b 1 ⟨by omega,by omega⟩) (by
  show([]++Gc i 0 (Px w 0)).length<=2;rw[cf];omega),vG,held_q a i (0+1+1) (b 2 ⟨by omega,by omega⟩) (by
  show([]++Gc i 0 (Px w 0)++Gc i 1 (Px w 1)).length<=2;rw[cf,an];omega)]
 rfl
theorem Vx(i k:Int)(y:Zi Co×Int)(nx:Zi T3->Yw (Zi T3)):∀(l:Zi Co) (a:Zi T3),a.length+l.length<=100->
    each (qW y i k) (qX nx) l a=nx (a++if y.2=0 then(l.filter fun c=>ab (c.jL=i)).map fun c=>⟨k,c.ax,c.offered⟩else [])
  |[],a,_=>by rw[kW];unfold qX;split<;>simp
  |c::l,a,h=>by
    rw[eQ];simp only[bl]at h;have d:=Vx i k y nx l;generalize each (qW y i k) (qX nx) l=F at d⊢;unfold qW vv;by_cases b:y.2=0
    · by_cases e:c.jL=i
      · rw[dT b,dT e,jF,ZS,jV (Room.mk (by simp;omega) (by simp;omega)),d _ (by simp;omega),Z2 b,Z2 b,eJ (by simp[e])];simp
      · rw[dT b,dF e,kO,Z1,d _ V,Z2 b,Z2 b,ef (by simp[e])]
    · rw[dF b,eT,Z1,d _ V,Z3 b,Z3 b]
theorem filter_up{i:Int}:∀{l:Zi Co},Up l->(l.filter fun c=>ab (c.jL=i))=(BP i l).toList
  |[],_=>rfl
  |c::l,h=>by
    have b:=cA.1 h;unfold BP;by_cases a:c.jL=i
    · rw[eJ (by simp[a]),List.find?_cons_of_pos (by simp[a])];have:(l.filter fun c=>decide<|c.jL=i)=[]:=by
        rw[kv];intro z e d;have:=b.1 z e;have:=P9 d;omega
      rw[this];rfl
    · rw[ef (by simp[a]),List.find?_cons_of_neg (by simp[a])];exact filter_up b.2
theorem pRep_err:∀(l:Zi Rec) (s:Zi Co),(Ac s l).2≠0->(Ac s l).1=[]
  |[],s,h=>Zs Z h
  |r::l,s,h=>by
    unfold Ac at h⊢;by_cases a:(BN s r).2=0
    · rw[Z3 (fun e=>e a)]at h⊢;exact pRep_err l _ h
    · rw[Z2 a]
theorem heldR_pl(i k:Int){x:Plc}(h:oz x.d=0){a:Zi T3}(f:a.length<=2)(nx:Zi T3->Yw (Zi T3)):qY i k (ofP x) a nx=nx (a++Gc i k x):=by
  unfold qY;show(mD x.d).bind _=_;rw[Xq _ h];simp only[bnd];rw[show(recT x.d).2=Ad x.d from rfl,replayed_eq,Z3 (show¬120<(Ad x.d).length by have:=(dOk h).len;omega)];simp only[bnd];unfold Gc;by_cases b:(Ac [] (Ad x.d)).2=0
  · have g:=(rep_good (Ad x.d) [] good0 (fun c e=>by cases e) b).1;rw[Vx i k _ nx _ _ (by have:=g.len;omega),Z2 b,Z2 b,filter_up g.up];cases BP i (Ac [] (Ad x.d)).1<;>rfl
  · rw[Vx i k _ nx _ _ (by rw[pRep_err _ _ b];simp;omega),Z3 b,Z3 b]
theorem heldR{w:Wld}(h:WR w)(i:Int):zQ (ofW w) i=ah (Gc i 0 (Px w 0)++Gc i 1 (Px w 1)++Gc i 2 (Px w 2)):=by
 unfold zQ;show fG (qY i) zO 0 (w.places.map ofP) []=_;have a:=fun k(b:On k)=>(h.at b).disk;have d:=Sv i 0<|Px w 0;have c:=Sv i 1<|Px w 1;rw[three h.many];simp only[ct,gC];rw[vG,heldR_pl i 0 (a 0 ⟨by omega,by omega⟩) zq3,vG,heldR_pl i (0+1) (a 1 ⟨by omega,by omega⟩) (by
  show([]++Gc i 0 (Px w 0)).length<=2;rw[cf];omega),vG,heldR_pl i (0+1+1) (a 2 ⟨by omega,by omega⟩) (by
  show([]++Gc i 0 (Px w 0)++Gc i 1 (Px w 1)).length<=2;rw[cf,an];omega)]
 rfl
def Xv(i:Int)(l:Zi Rec):Zi Rec:=l.filter fun r=>ab (r.co=i)&&ab (r.kind=2)
theorem saidR_recs(i:Int)(nx:Zi Rec->Yw (Zi Int)):∀(l:Zi Rec) (a:Zi Rec),a.length+l.length<=1000->
  each (qR i) (qU nx) l a=nx (a++Xv i l)
 |[],a,_=>by rw[kW];unfold qU Xv;simp
 |r::l,a,h=>by
  rw[eQ];simp only[bl]at h;have b:=saidR_recs i nx l;generalize each (qR i) (qU nx) l=F at b⊢;unfold qR uZ;unfold Xv at b⊢;cases hc:(ab (r.co=i)&&ab (r.kind=2))with
  |true=>
   rw[ZS,jV (Room.mk (by simp;omega) (by simp;omega)),b _ (by simp;omega),eJ (by simpa using hc)];simp
  |false=>rw[Z1,b _ V,ef (by simpa using hc)]
theorem saidR_pl(i:Int){x:Plc}(h:oz x.d=0){a:Zi Rec}(b:a.length<=400)(nx:Zi Rec->Yw (Zi Int)):qV i (ofP x) a nx=nx (a++Xv i (EM x.d)):=by
 unfold qV;show(mo x.d.safe 120).bind _=_;rw[Pj _ _ (by have:=(dOk h).room;have:=(dOk h).safe;omega)];simp only[bnd];rw[show(ln 120 x.d.safe).1=EM x.d from rfl,saidR_recs i nx _ _ (by have:=(Om h).1;omega)]
theorem says_each:∀(l:Zi Rec) (a:Zi Int),(∀r∈l,r.says.length<=40)->a.length+40*l.length<=100000->each vg vk l a=ah (a++l.flatMap (·.says))
  |[],a,_,_=>by rw[kW];unfold vk;simp
  |r::l,a,h,hn=>by
    rw[eQ];simp only[bl]at hn;have c:=h r zq3;rw[vg,jV (Room.mk V V),says_each l _ (fun q b=>h q (bm _ b)) (by simp;omega)];simp
theorem sLog_ep{d:jr}(h:oz d=0):∀r∈EM d,0<=r.ax/\r.ax<=100:=by
 intro r a;have k:=dOk h;have:=(goodR r (by rw[<-rec_eq];exact(k.good r (k.pre.subset a)).1)).ax;omega
theorem saidR{w:Wld}(h:WR w)(i:Int){N:Nat}(x:60002<=N):zN N (ofW w) i=ah (saidP w i):=by
  unfold zN;show each (qV i) (vo N) (w.places.map ofP) []=_;have g:=fun k(j:On k)=>(h.at j).disk;have n:On 0:=⟨by omega,by omega⟩;have o1:On 1:=⟨by omega,by omega⟩;have o2:On 2:=⟨by omega,by omega⟩;have len:∀k,On k->(Xv i<|EM (Px w k).d).length<=120:=fun k j=>Nat.le_trans (List.length_filter_le _ _) (Om<|g k j).1;have B:=len 0 n;have A:=len 1 o1;have z:=len 2 o2;have o:=three h.many;rw[o];simp only[ct,gC];rw[eQ,saidR_pl i (g 0 n) zq3,eQ,saidR_pl i (g 1 o1) (by rw[cf];omega),eQ,saidR_pl i (g 2 o2) (by rw[cf,an];omega),kW];rw[cf];have a:∀r∈Xv i (EM (Px w 0).d)++Xv i (EM (Px w 1).d)++Xv i (EM (Px w 2).d),(0<=r.ax/\r.ax<=100)/\r.says.length<=40:=by
    intro r c;have b:∀k,On k->r∈Xv i (EM (Px w k).d)->(0<=r.ax/\r.ax<=100)/\r.says.length<=40:=fun k j s=>by
      have:=(mc.1 s).1;exact⟨sLog_ep (g k j) r this,((Om<|g k j).2 r this).1⟩
    rcases db.1 c with q|q
    · rcases db.1 q with q|q
      · exact b 0 n q
      · exact b 1 o1 q
    · exact b 2 o2 q
  obtain⟨y,p,u,m,v⟩:=Sr.stable_ok (N:=N) V (l:=Xv i (EM (Px w 0).d)++Xv i (EM (Px w 1).d)++Xv i (EM (Px w 2).d)) (fun r c=>(a r c).1) (by simp only[an];omega);unfold vo;rw[p];simp only[bnd];rw[says_each _ _ (fun r c=>(a r (m.mem c)).2) (by simp only[an,cJ]at*;omega),cf];have t:y=(rr 101).flatMap fun(e:Nat)=>y.filter fun r=>ab (r.ax=(e:Int)):=by
    rw[<-Sr.srt_sum u (fun r c=>(a r (m.mem c)).1.1) 101];symm;rw[List.filter_eq_self];intro r c;have:=(a r<|m.mem c).1.2;exact decide_eq_true V
  rw[t,List.flatMap_assoc];unfold saidP;refine ZD ah<|ZD (fun f=>List.flatMap f<|rr 101)<|funext fun e=>?_;rw[m,o];have b:∀l:Zi Rec,((Xv i l).filter fun r=>decide<|r.ax=(e:Int))=l.filter fun r=>ab (r.kind=2)&&ab (r.co=i)&&ab (r.ax=(e:Int)):=fun l=>by
    unfold Xv;rw[List.filter_filter];refine List.filter_congr fun r _=>?_;cases ab (r.co=i)<;>cases ab (r.kind=2)<;>cases ab (r.ax=(e:Int))<;>rfl
  simp only[hU,jh,b,sd,sl,ca,says,bf]
theorem eq3(a b:Zi T3):xO a b=ah (ab (a=b)):=by
  unfold xO;by_cases h:a.length=b.length
  · rw[dF V];simp only[Z1,cc];rw[MM (fun x y=>ab (x=y)) a b h rfl (fun i x y nx l p=>by
      unfold BK;rw[nX,nX,l,p];obtain⟨o,m,k⟩:=x;obtain⟨d,j,g⟩:=y;by_cases n:o=d<;>by_cases c:m=j<;>by_cases f:k=g<;>simp[n,c,f]),JA (fun _ _=>rfl)]
  · rw[dT V];have:a≠b:=fun e=>h (by rw[e]);rw[dF this];rfl
theorem Xw{w:Wld}(a:Wts w)(i:Int){N:Nat}(b:60002<=N):Bn N (ofW w) i=ah (if BO w≠0 then BO w else if i<0\/3<=i then 5 else 0):=by
  unfold Bn;rw[check_g a b];simp only[bnd];by_cases h:BO w=0
  · rw[dF (nn h),Z1,Z3 (nn h)];by_cases hi:i<0\/3<=i
    · rw[Z2 hi];rcases hi with hi|hi
      · rw[dT hi];rfl
      · rw[dT hi,sc];rfl
    · rw[Z3 hi,dF V,dF V];rfl
  · rw[dT (show BO w≠0 from h),ZS,Z2 h]
theorem says_err(d:Zi Int×Int)(c:Zi T3×Int)(a:aX)(b e:Int)(f:e≠0)(g:d=([],e))(i:c=([],e)):mg NN d c a b e=ah true:=by
 subst g i;unfold mg;rw[gone_ok];simp only[bnd];rw[dT f,sc,ZS,dT (show True from trivial)];rfl
theorem storySays(a:aX)(b:Int)(h:∀x∈a.places,x.wait.length<=9223372036854775807):Ay NN a b=ah true:=by
  have d:60002<=NN:=by decide
  rw[<-of_to a];have e:=wts_to h;generalize toW a=w at e⊢;unfold Ay;by_cases c:BO w=0
  · have g:=(w_iff w).1 c;by_cases f:b<0\/3<=b
    · have j:yf NN (ofW w) b=ah ([],5):=by
        unfold yf;rw[Xw e b d,Z3 (nn c),Z2 f];rfl
      have i:yg NN (ofW w) b=ah ([],5):=by
        unfold yg;rw[Xw e b d,Z3 (nn c),Z2 f];rfl
      rw[j,i,checkR e d,c];simp only[bnd];have:(decide True&&(ab (b<0)||ab (2<b)))=true:=by
        rw[dT trivial,iv];rcases f with f|f
        · rw[dT f];rfl
        · rw[dT (show 2<b by omega),sc]
      rw[this,ZS];exact says_err _ _ _ _ 5 zq1 Z Z
    · have hi:0<=b/\b<3:=by omega
      rw[said_g g hi d,held_w g hi d,checkR e d,c];simp only[bnd];rw[dF (show¬b<0 by omega),dF (show¬2<b by omega),Bool.or_self,kO,Z1];unfold mg;rw[gone_ok];simp only[bnd];rw[saidR g b d,heldR g b];simp only[bnd];rw[eqInt,eq3];simp
  · have j:yf NN (ofW w) b=ah ([],BO w):=by
      unfold yf;rw[Xw e b d,Z2 c];simp only[bnd];rw[dT (show BO w≠0 from c)];rfl
    have i:yg NN (ofW w) b=ah ([],BO w):=by
      unfold yg;rw[Xw e b d,Z2 c];simp only[bnd];rw[dT (show BO w≠0 from c)];rfl
    rw[j,i,checkR e d];simp only[bnd];rw[dF c,eT,Z1];exact says_err _ _ _ _ _ c Z Z
end Pw
end Go.Proofs.YteijalgmijkphaaGreatDoor