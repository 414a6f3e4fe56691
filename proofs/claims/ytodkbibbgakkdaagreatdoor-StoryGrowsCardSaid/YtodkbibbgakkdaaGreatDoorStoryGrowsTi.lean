/-
  What the law StoryGrows needs of our own library and of the walks, no more.
-/
import Derived.Test.YtodkbibbgakkdaaGreatDoorStoryGrowsTh
set_option linter.unusedSimpArgs false
set_option linter.unusedVariables false
set_option maxRecDepth 10000
open Bool renaming and_eq_true->cL,eq_false_iff->ir,false_eq_true->cJ,not_true->eo,or_eq_true->dw,or_false->tm,true_eq_false->mL,false->aq,true->ar
open Decidable renaming decide->ab
open Int renaming eq_ofNat_of_zero_le->bs,toNat_natCast->bj
open List renaming any_eq_true->nh,append_assoc->cg,append_nil->dt,eq_nil_of_length_eq_zero->cm,filter_cons->gC,find?_cons->fj,findIdx?_eq_none_iff->oA,flatMap_append->jG,flatMap_cons->eK,flatMap_nil->sb,flatMap_singleton->ly,foldl_cons->sC,getElem?_eq_getElem->bh,getElem?_eq_some_iff->kp,getElem?_set->ff,getElem_mem->cx,length_append->bc,length_cons->bq,length_nil->ez,length_pos_iff->ql,length_set->cq,length_singleton->dm,length_take->cd,map_cons->ck,mem_append->cR,mem_cons->bn,mem_cons_of_mem->bk,mem_flatMap->lx,mem_of_getElem?->fm,mem_of_mem_drop->me,mem_of_mem_take->mc,mem_singleton->eS,nil_append->cQ,nil_prefix->nw,prefix_append->eC,prefix_refl->cl,range->qv,range_succ->nv,take_left->iv
open Nat renaming le_refl->bt
open Option renaming bind_some->cH,isSome_some->pD,some->aj
open Prod renaming ext->js,fst->jq,snd->du
namespace Go.Proofs.YtodkbibbgakkdaaGreatDoor
open Go Go.Proofs Go.LX
namespace Pw
open Dk
theorem lnP_inv(most:Int):∀(p:List Str) (l:List Rec) (n:Int),∃rs,(Sy most p l n).1=l++rs/\En rs/\(Sy most p l n).2.1=n+((txt rs).length:Int)/\∃t,vV 10 p=txt rs++t/\((Sy most p l n).2.2=0->t=[])
  |[],l,n=>⟨[],by simp[Sy],Jo,by simp[Sy,txt],[],by simp[vV,Lib.join_nil,txt],fun _=>rfl⟩
  |[x],l,n=>by
    unfold Sy;by_cases h:x=[]
    · rw[if_pos h];subst h;exact⟨[],by simp,Jo,by simp[txt],[],by rw[BV];rfl,fun _=>rfl⟩
    · rw[if_neg h];exact⟨[],by simp,Jo,by simp[txt],x,by rw[BV];rfl,fun h=>by simp at h⟩
  |x::y::r,l,n=>by
    unfold Sy;by_cases a:(nO x).2=0
    · rw[if_neg V];by_cases c:most<=(l.length:Int)
      · rw[if_pos c];exact⟨[],by simp,Jo,by simp[txt],_,Z,fun h=>by simp at h⟩
      · rw[if_neg c];obtain⟨rs,f,i,e,t,d,g⟩:=lnP_inv most (y::r) (l++[(nO x).1])<|n+(x.length:Int)+1;obtain⟨k1,k2,b⟩:=read_ok (s:=x) (r:=(nO x).1) (by rw[<-a]);refine⟨(nO x).1::rs,by rw[f];simp,?_,?_,t,?_,g⟩
        · intro z hz;rcases bn.1 hz with rfl|hz
          · exact⟨k1,k2⟩
          · exact i z hz
        · rw[e];have:(zX (nO x).1)=x:=b.symm;simp only[txt,bc,bq,this];omega
        · rw[yR,d];have:(zX (nO x).1)=x:=b.symm;simp[txt,this]
    · rw[if_pos a];exact⟨[],by simp,Jo,by simp[txt],_,Z,fun h=>absurd h a⟩
theorem ln_inv(most:Int)(s:Str):En (ln most s).1/\(ln most s).2.1=((txt (ln most s).1).length:Int)/\∃t,s=txt (ln most s).1++t/\((ln most s).2.2=0->t=[]):=by
 obtain⟨rs,b,e,c,t,a,d⟩:=lnP_inv most (jT 10 s) [] 0;rw[cQ]at b;rw[BX]at a;unfold ln;rw[b];exact⟨e,by rw[c];omega,t,a,d⟩
def wT(d:iI):List Rec:=(ln 120 d.safe).1
def mJ(d:iI):List Rec:=(Qy d).2
structure DOk(d:iI):Prop where
 safe:d.safe=txt (wT d)
 good:En (mJ d)
 len:(mJ d).length<=120
 room:d.safe.length+d.wait.length<=60000
 pre:wT d<+:mJ d
 whole:(Qy d).1=⟨txt (mJ d),[]⟩
 rroom:(txt (mJ d)).length<=60000
 still:d.wait=[]->mJ d=wT d
theorem dOk{d:iI}(h:iY d=0):DOk d:=by
  obtain⟨j,m⟩:=Dk.wO h;obtain⟨g1,g2,t,c,k⟩:=ln_inv 120 d.safe;have g:=k m;subst g;rw[dt]at c;have p:((ln 120 d.safe).1.length:Int)<=120:=(aav 120 d.safe).2.2.2 V;obtain⟨k1,k2,u,f,o⟩:=ln_inv (120-((ln 120 d.safe).1.length:Int)) d.wait;have l:=(aav (120-((ln 120 d.safe).1.length:Int)) d.wait).2.2.2 V;have a:mJ d=(ln 120 d.safe).1++(ln (120-((ln 120 d.safe).1.length:Int)) d.wait).1:=rfl;have b:d.wait.take (ln (120-((ln 120 d.safe).1.length:Int)) d.wait).2.1.toNat=txt (ln (120-((ln 120 d.safe).1.length:Int)) d.wait).1:=by
    generalize q:txt (ln (120-((ln 120 d.safe).1.length:Int)) d.wait).1=T at k2 f;rw[k2,bj,f,iv]
  have n:(txt (ln (120-((ln 120 d.safe).1.length:Int)) d.wait).1).length<=d.wait.length:=by
    rw[<-b,cd];omega
  refine⟨c,?_,?_,j,?_,?_,?_,?_⟩
  · rw[a];exact fun r i=>(cR.1 i).elim (g1 r)<|k1 r
  · rw[a,bc];omega
  · rw[a];exact eC _ _
  · show(⟨d.safe++d.wait.take (ln (120-((ln 120 d.safe).1.length:Int)) d.wait).2.1.toNat,[]⟩:iI)=_;rw[b,a,Nn,<-c]
  · rw[a,Nn,bc,<-c];omega
  · intro e;rw[a,e];show _++(Sy _ (jT 10 []) [] 0).1=_;simp[jT,Sy,wT]
theorem aax{a:List Rec}{w:Str}(h:En a)(c:a.length<=120)(b:(txt a).length+w.length<=60000):iY ⟨txt a,w⟩=0/\wT ⟨txt a,w⟩=a:=by
 refine⟨H6 h c b,?_⟩;unfold wT;rw[ln_all h V]
theorem note_disk{d:iI}(h:iY d=0)(q:d.wait=[]){r:Rec}(w:Qx r){d1 d2:iI}(v:wS d r=(d1,0))(g:GD d1=(d2,0)):
    dW r=0/\d2=⟨txt (wT d++[r]),[]⟩/\iY d2=0/\wT d2=wT d++[r]/\mJ d2=wT d++[r]/\(wT d).length+1<=120:=by
  have j:=dOk h;obtain⟨t,z⟩:=d;simp only at q;subst q;have s:=j.safe;simp only at s;have c:=j.room;simp only[ez]at c;have o:=j.len;rw[j.still rfl]at o;have i:=j.good;rw[j.still rfl]at i;generalize y:wT ⟨t,[]⟩=a at*;subst s;have e:=put_txt (a:=a) (b:=[]) (r:=r) i o (by simpa[txt]using c) w;rw[show txt ([]:List Rec)=[]from rfl,v]at e;rcases e with e|⟨e,er,el⟩
  · exact absurd Z e
  · rw[cQ]at e el;obtain rfl:=congrArg jq e;simp only at g;have k:En [r]:=fun x l=>by rw[eS]at l;subst l;exact⟨er,w⟩
    have p:En (a++[r]):=fun x l=>(cR.1 l).elim (i x)<|k x;by_cases f:a.length+1<=120
    · rw[sync_txt i k (by simpa using f) el]at g;obtain rfl:=congrArg jq g;obtain⟨k1,k2⟩:=aax (a:=a++[r]) (w:=[]) p (by simpa using f) (by rw[Nn];simp;omega);exact⟨er,Z,k1,k2,by rw[(dOk k1).still Z,k2],f⟩
    · exfalso;unfold GD syncT at g;rw[if_neg (by rw[H6 i o el];simp)]at g;simp only at g;have n:a.length=120:=by omega
      have:iY ⟨txt a++txt [r],[]⟩=2:=by
        unfold iY;simp only[ez,bc];rw[if_neg V];rw[ln_txt (txt [r]) i V];have m:jT 10 (txt [r])=[zX r,[]]:=by
          have:=WU [r] [];rw[dt]at this;rw[this];simp[jT]
        rw[m];unfold Sy;have u:nO (zX r)=(r,0):=aat er w;rw[u,if_neg zq3,if_pos V]
      rw[this]at g;simp at g
theorem tear_disk{d:iI}(h:iY d=0)(m:d.wait=[]){r:Rec}(w:Qx r){d1:iI}(v:wS d r=(d1,0)){n:Int}(hn:0<=n/\n<=d1.wait.length):
    dW r=0/\(Kz d1 n).2=0/\iY (Kz d1 n).1=0/\wT (Kz d1 n).1=wT d/\(mJ (Kz d1 n).1=wT d\/mJ (Kz d1 n).1=wT d++[r]):=by
  have f:=dOk h;obtain⟨u,E⟩:=d;simp only at m;subst m;have p:=f.safe;simp only at p;have c:=f.room;simp only[ez]at c;have i:=f.len;rw[f.still rfl]at i;have g:=f.good;rw[f.still rfl]at g;generalize C:wT ⟨u,[]⟩=a at*;subst p;have e:=put_txt (a:=a) (b:=[]) (r:=r) g i (by simpa[txt]using c) w;rw[show txt ([]:List Rec)=[]from rfl,v]at e;rcases e with e|⟨e,er,el⟩
  · exact absurd Z e
  · rw[cQ]at e el;obtain rfl:=congrArg jq e;have B:iY ⟨txt a,txt [r]⟩=0:=H6 g i el;simp only at hn;have z:Kz ⟨txt a,txt [r]⟩ n=(⟨txt a,(txt [r]).take n.toNat⟩,0):=by
      unfold Kz;simp only;rw[if_neg (by rw[B];simp),if_neg V]
    rw[z];obtain⟨k1,k2⟩:=aax (a:=a) (w:=(txt [r]).take n.toNat) g i (by rw[cd];omega);refine⟨er,Z,k1,k2,?_⟩;have y:mJ ⟨txt a,(txt [r]).take n.toNat⟩=a++(ln (120-(a.length:Int)) ((txt [r]).take n.toNat)).1:=by
      show(ln 120<|txt a).1++_=_;rw[ln_all g V]
    simp only;rw[y];obtain⟨j,t,A,q⟩:=take_txt [r] n.toNat;have k:En [r]:=fun x s=>by rw[eS]at s;subst s;exact⟨er,w⟩
    rw[A];cases j with
    |zero=>
      left;have:=(ln_torn (most:=120-(a.length:Int)) (rs:=[]) (t:=t) Jo (by simp;omega) q).1;simp only[List.take_zero];rw[this,dt]
    |succ j=>
      simp only[List.take_succ_cons,List.take_nil];by_cases o:a.length+1<=120
      · right;rw[(ln_torn (most:=120-(a.length:Int)) k (by simp;omega) q).1]
      · left;have l:(120-(a.length:Int))=0:=by omega
        rw[l];have:=(aav 0<|txt [r]++t).2.2.2 V;have:(ln 0<|txt [r]++t).1=[]:=cm V;rw[this,dt]
end Pw
open Go Go.Proofs Go.LX
namespace Pw
open Dk
theorem Qj{α:Type}{R:Rdr α}{g:α->List Int}(h:∀l x r,R l=aj (x,r)->l=g x++r):∀(n:Nat) (l:List Int) (xs:List α) (r:List Int),kH R n l=aj (xs,r)->l=xs.flatMap g++r/\xs.length=n
 |0,l,xs,r,e=>by
  have a:aj (([]:List α),l)=aj (xs,r):=e;cases a;exact⟨Z,Z⟩
 |n+1,l,xs,r,e=>by
  have a:(R l).bind (fun q=>(kH R n q.2).bind fun b=>aj (q.1::b.1,b.2))=aj (xs,r):=e;cases h1:R l with
  |none=>rw[h1]at a;cases a
  |some q=>
   rw[h1,cH]at a;cases h2:kH R n q.2 with
   |none=>rw[h2]at a;cases a
   |some b=>
    rw[h2,cH]at a;cases a;obtain⟨k1,k2⟩:=Qj h n q.2 b.1 b.2 h2;refine⟨?_,by simp[k2]⟩;rw[h l q.1 q.2 h1,eK,cg,<-k1]
theorem num_inv{l:List Int}{x:Int}{r:List Int}(h:Hl l=aj (x,r)):l=x::r:=by
 cases l with
 |nil=>cases h
 |cons a l=>cases h;rfl
theorem aay{m:Int}{l:List Int}{x:Nat}{r:List Int}(h:tJ m l=aj (x,r)):l=(x:Int)::r/\(x:Int)<=m:=by
  cases l with
  |nil=>cases h
  |cons a l=>
    unfold tJ at h;simp only at h;by_cases b:0<=a/\a<=m
    · rw[if_pos b]at h;cases h;rw[Int.toNat_of_nonneg b.1];exact⟨Z,b.2⟩
    · rw[if_neg b]at h;cases h
theorem wU{α β:Type}{R:Rdr α}{f:α->Rdr β}{l:List Int}{y:β}{r:List Int}(h:iV R f l=aj (y,r)):∃x a,R l=aj (x,a)/\f x a=aj (y,r):=by
 unfold iV at h;cases e:R l with
 |none=>rw[e]at h;cases h
 |some q=>rw[e,cH]at h;exact⟨q.1,q.2,Z,h⟩
theorem aaz{α:Type}{x y:α}{l r:List Int}(h:xZ x l=aj (y,r)):x=y/\l=r:=by cases h;exact⟨Z,Z⟩
theorem val_inv{l:List Int}{x:Val}{r:List Int}(h:X5 l=aj (x,r)):l=[x.kind,x.n]++r:=by
 obtain⟨k,d,a,h⟩:=wU h;obtain⟨n,c,b,h⟩:=wU h;obtain⟨rfl,rfl⟩:=aaz h;rw[num_inv a,num_inv b];rfl
theorem row_inv{m:Int}{l:List Int}{x:List Val}{r:List Int}(h:D7 m l=aj (x,r)):l=rowP x++r:=by
 obtain⟨k,d,b,h⟩:=wU h;obtain⟨a,c⟩:=Qj (fun l x r=>val_inv) k d x r h;rw[(aay b).1,a,<-c];rfl
theorem fr_inv{l:List Int}{x:LX.Frame}{r:List Int}(h:Sm l=aj (x,r)):l=frP x++r:=by
 obtain⟨a,n,f,h⟩:=wU h;obtain⟨b,m,i,h⟩:=wU h;obtain⟨c,k,g,h⟩:=wU h;obtain⟨d,j,e,h⟩:=wU h;obtain⟨rfl,rfl⟩:=aaz h;rw[num_inv f,num_inv i,num_inv g,row_inv e];rfl
theorem st_inv{l:List Int}{s:LX.State}{r:List Int}(h:Sn l=aj (s,r)):l=wR s++r:=by
 obtain⟨a,A,m,h⟩:=wU h;obtain⟨b,z,y,h⟩:=wU h;obtain⟨n,i,v,h⟩:=wU h;obtain⟨f,g,t,h⟩:=wU h;obtain⟨k,j,o,h⟩:=wU h;obtain⟨c,q,d,h⟩:=wU h;obtain⟨rfl,rfl⟩:=aaz h;obtain⟨u,w⟩:=Qj (fun l x r=>fr_inv) n i f g t;obtain⟨p,e⟩:=Qj (fun l x r=>row_inv) k j c q d;rw[num_inv m,num_inv y,(aay v).1,u,(aay o).1,p,<-w,<-e];unfold wR;simp
structure Img(p:List bA)(l:List Int)(s:LX.State):Prop where
 un:dQ p l=(s,0)
 st:vI p s
 idem:dO s=s
 eq:l=wR s
theorem img_of{p:List bA}(hp:Js p=0){l:List Int}(h:(dQ p l).2=0):Img p l (dQ p l).1:=by
  have g:dQ p l=((dQ p l).1,0):=by rw[<-h]
  have a:=g;unfold dQ at h;by_cases d:1200<l.length
  · rw[if_pos d]at h;simp at h
  · rw[if_neg d]at h;cases e:Sn l with
    |none=>rw[e]at h;simp at h
    |some q=>
      obtain⟨s,r⟩:=q;rw[e]at h;cases r with
      |cons x r=>simp at h
      |nil=>
        simp only at h;have f:dQ p l=endP p s:=by unfold dQ;rw[if_neg d,e]
        rw[f]at a⊢;unfold endP at h a⊢;rw[if_neg V]at h a⊢;by_cases c:ckS p s=0
        · rw[if_neg V]at h a⊢;by_cases b:dO s=s
          · rw[if_pos b]at h a⊢;refine⟨?_,Jk.1 c,b,?_⟩
            · rw[f];unfold endP;rw[if_neg V,if_neg V,if_pos b]
            · have:=st_inv e;rw[dt]at this;exact this
          · rw[if_neg b]at h;simp at h
        · rw[if_pos c]at h;exact absurd h c
theorem img_pack{p:List bA}(hp:Js p=0){s:LX.State}(h:vI p s):Img p (wR (dO s)) (dO s):=
 ⟨unpack_pack hp h,Uk (pg hp) h,Nj (h.sw (pg hp)),rfl⟩
theorem valsP_mem{l:List Val}{x:Int}(h:x∈aak l):∃v∈l,x=v.kind\/x=v.n:=by
 obtain⟨v,b,a⟩:=lx.1 h;simp at a;exact⟨v,b,a⟩
theorem KA{x:Int}(h: -2000000000<=x/\x<=2000000000):kN x:=⟨by omega,by omega⟩
theorem val_b{n:Nat}{v:Val}(h:kE n v)(hn:n<=24):(-2000000000<=v.kind/\v.kind<=2000000000)/\ -2000000000<=v.n/\v.n<=2000000000:=by unfold kE at h;omega
theorem row_b{n:Nat}{l:List Val}(h:∀v∈l,kE n v)(hn:n<=24)(c:l.length<=40):∀x∈rowP l,-2000000000<=x/\x<=2000000000:=by
  intro x a;rcases bn.1 a with rfl|a
  · omega
  · obtain⟨v,b,e⟩:=valsP_mem a;have:=val_b (h v b) hn;rcases e with rfl|rfl
    · exact this.1
    · exact this.2
theorem pack_b{p:List bA}(hp:mU p){s:LX.State}(h:vI p s):∀x∈wR s,kN x:=by
  have e:=h.small hp;have B:=e.frames;have n:=e.cells;have u:=h.status;have r:=h.bT;intro x a;refine KA ?_;unfold wR at a;rcases bn.1 a with rfl|a
  · omega
  rcases bn.1 a with rfl|a
  · omega
  rcases bn.1 a with rfl|a
  · omega
  rcases cR.1 a with a|a
  · obtain⟨f,b,a⟩:=lx.1 a;obtain⟨q,g⟩:=Ap h.frames f b;have y:=(hp.mem g.proc).2.2.2;have w:=(aF g.proc).1;have v:f.proc.toNat<p.length:=by
      have:=(aF g.proc).2;exact(kp.1 this).1
    have o:=hp.many;have hat:=g.at_;unfold tY at y;have j: -2000000000<=f.jK/\f.jK<=2000000000:=by
      have i:∀(l:List LX.Frame) (t:Int),t<=40->(∀f∈l,f.regs.length<=40)->nC p s.cells.length t l->∀f∈l,0<=f.jK/\f.jK<40:=by
        intro l;induction l with
        |nil=>intro t _ _ _ f b;cases b
        |cons g l ih=>
          intro t A k d f b;rcases bn.1 b with rfl|b
          · have:=d.2.1;omega
          · exact ih _ (by have:=k g zq3;omega) (fun z hz=>k z (bk _ hz)) d.2.2 f b
      have:=i s.frames 1 V e.regs h.frames f b;omega
    unfold frP at a;rcases bn.1 a with rfl|a
    · omega
    rcases bn.1 a with rfl|a
    · omega
    rcases bn.1 a with rfl|a
    · exact j
    · exact row_b g.vals n (e.regs f b) x a
  · rcases bn.1 a with rfl|a
    · omega
    · obtain⟨c,m,a⟩:=lx.1 a;exact row_b (h.cells.2 c m).2 n (by have:=e.fields c m;omega) x a
theorem img_b{p:List bA}(hp:mU p){l:List Int}{s:LX.State}(h:Img p l s):(∀x∈l,kN x)/\1<=l.length/\l.length<=1200:=by
 rw[h.eq];have:=aam<|h.st.small hp;refine⟨pack_b hp h.st,?_,by omega⟩;unfold wR;simp
def oP(i:Int)(l:List Co):Option Co:=l.find? fun x=>ab (x.kM=i)
theorem F9{i:Int}{l:List Co}{c:Co}(h:oP i l=aj c):c.kM=i/\c∈l:=by
 have a:=List.find?_some h;exact⟨by simpa using a,List.mem_of_find?_eq_some h⟩
theorem EX{c:Co}{i:Int}:∀{l:List Co},(∀x∈l,x.kM≠c.kM)->oP i (Hm c l)=if i=c.kM then aj c else oP i l
  |[],_=>by
    unfold Hm oP;rw[fj];by_cases h:i=c.kM
    · rw[if_pos h,dT h.symm]
    · rw[if_neg h,dF (fun e=>h e.symm)]
  |x::r,hx=>by
    unfold Hm;by_cases a:x.kM<c.kM
    · rw[if_pos a];have b:=EX (c:=c) (i:=i) (l:=r) fun y d=>hx y<|bk _ d;unfold oP at b⊢;rw[fj,fj,b];by_cases h:x.kM=i
      · rw[dT h];show aj x=_;rw[if_neg (by have:=hx x zq3;omega)]
      · rw[dF h]
    · rw[if_neg a];unfold oP;rw[fj];by_cases h:i=c.kM
      · rw[if_pos h,dT h.symm]
      · rw[if_neg h,dF (fun e=>h e.symm)]
theorem H7{b:Rec}{i:Int}:∀{l:List Co},oP i (NW b l)=if i=b.co then none else oP i l
  |[]=>by simp[oP,NW]
  |x::r=>by
    have c:=H7 (b:=b) (i:=i) (l:=r);unfold oP NW at c⊢;rw[gC];by_cases h:x.kM=b.co
    · rw[dF V];simp only[cJ,if_false];rw[c,fj];by_cases a:i=b.co
      · rw[if_pos a,if_pos a]
      · rw[if_neg a,if_neg a,dF V]
    · rw[dT h];simp only[if_true];rw[fj,fj,c];by_cases a:x.kM=i
      · rw[dT a];show aj x=_;rw[if_neg V]
      · rw[dF a]
inductive Did (r:Rec) (o n:Option Co):Prop
 |begin (h:r.kind=1/\r.aJ=1) (ho:o=none) (hn:n=aj ⟨r.co,r.aJ,r.image,-1⟩)
 |take (h:r.kind=4/\r.aJ≠1) (ho:o=none) (hn:n=aj ⟨r.co,r.aJ,r.image,-1⟩)
 |slice (c:Co) (h:r.kind=2) (ho:o=aj c) (he:c.aJ=r.aJ) (hf:c.offered= -1) (hn:n=aj ⟨c.kM,c.aJ,r.image,-1⟩)
 |offer (c:Co) (h:r.kind=3) (ho:o=aj c) (he:c.aJ=r.aJ) (hf:c.offered= -1) (hx:c.aJ≠100) (hn:n=aj ⟨c.kM,c.aJ,c.image,r.place⟩)
 |gone (c:Co) (h:r.kind=5) (ho:o=aj c) (he:c.aJ=r.aJ) (hf:c.offered≠ -1) (hn:n=none)
theorem WW{a:List Co}{r:Rec}(h:(iJ a r).2=0):(∀i,i≠r.co->oP i (iJ a r).1=oP i a)/\Did r (oP r.co a) (oP r.co (iJ a r).1)/\gZ r=0:=by
  have v:=(next_ok a r h).1;unfold iJ at h⊢;by_cases q:ib a=0
  · by_cases o:gZ r=0
    · have gr:=Us r o;rw[if_neg (by simpa using q),if_neg (by simpa using o)]at h⊢;have m:∀x∈NW r a,x.kM≠r.co:=fun x l=>(X6 l).2;have u:Sq r a=oP r.co a:=rfl;cases e:Sq r a with
      |none=>
        rw[e]at h;rw[u]at e;simp only at h⊢;by_cases f:r.kind=1\/r.kind=4
        · rw[if_pos f]at h⊢;by_cases k:(ab (r.aJ=1) !=ab (r.kind=1))=ar
          · rw[if_pos k]at h;simp at h
          · rw[if_neg k];simp only;refine⟨fun i j=>?_,?_,o⟩
            · rw[EX m,if_neg j,H7,if_neg j]
            · rw[EX m,if_pos rfl,e];rcases f with f|f
              · refine .begin ⟨f,?_⟩ Z Z;by_cases g:r.aJ=1
                · exact g
                · exact absurd (by simp[f,g]) k
              · refine .take ⟨f,?_⟩ Z Z;intro g;exact absurd (by simp[f,g]) k
        · rw[if_neg f]at h;simp at h
      |some c=>
        rw[e]at h;rw[u]at e;obtain⟨d,w⟩:=F9 e;simp only at h⊢;by_cases f:r.kind=1\/r.kind=4
        · rw[if_pos f]at h;simp at h
        · rw[if_neg f]at h⊢;by_cases k:(ab (r.aJ≠c.aJ)||(ab (c.offered≠ -1) !=ab (r.kind=5)))=ar
          · rw[if_pos k]at h;simp at h
          · rw[if_neg k]at h⊢;have g:c.aJ=r.aJ:=by
              by_cases g:r.aJ=c.aJ
              · exact g.symm
              · exact absurd (by simp[g]) k
            by_cases p:r.kind=5
            · rw[if_pos p];simp only;refine⟨fun i j=>by rw[H7,if_neg j],?_,o⟩;rw[H7,if_pos rfl,e];refine .gone c p Z g ?_ Z;intro n;exact absurd (by simp[p,n]) k
            · have n:c.offered= -1:=by
                by_cases n:c.offered= -1
                · exact n
                · exact absurd (by simp[p,n]) k
              rw[if_neg p]at h⊢;by_cases s:r.kind=2
              · rw[if_pos s];simp only;have b:∀x∈NW r a,x.kM≠(⟨c.kM,c.aJ,r.image,c.offered⟩:Co).kM:=fun x l=>by simp only[d];exact m x l
                refine⟨fun i j=>?_,?_,o⟩
                · rw[EX b,if_neg (by simp only[d];exact j),H7,if_neg j]
                · rw[EX b,if_pos (by simp only[d]),e];exact .slice c s Z g n (by rw[n])
              · rw[if_neg s]at h⊢;by_cases l:c.aJ=100
                · rw[if_pos l]at h;simp at h
                · rw[if_neg l];simp only;have t:r.kind=3:=by have:=gr.kind;omega
                  have b:∀x∈NW r a,x.kM≠(⟨c.kM,c.aJ,c.image,r.place⟩:Co).kM:=fun x l=>by simp only[d];exact m x l
                  refine⟨fun i j=>?_,?_,o⟩
                  · rw[EX b,if_neg (by simp only[d];exact j),H7,if_neg j]
                  · rw[EX b,if_pos (by simp only[d]),e];exact .offer c t Z g n l Z
    · rw[if_neg (by simpa using q),if_pos o]at h;exact absurd h o
  · rw[if_pos q]at h;exact absurd h q
end Pw
open Go Go.Proofs Go.LX
namespace Pw
open Dk
structure NF where
 cos:List Co
 d:iI
 up:Bool
deriving DecidableEq
structure pG where
 prog:List bA
 places:List NF
 bQ:List fT
structure Hap where
 kind:Int
 place:Int
 co:Int
 n:Int
theorem regAt_ok{n:Nat}{r:List Val}(h:∀v∈r,kE n v)(i:Int):kE n (jW r i):=by
  unfold jW idx;by_cases a:0<=i
  · rw[if_pos a];cases e:r[i.toNat]? with
    |none=>exact .inl ⟨rfl,rfl⟩
    |some v=>exact h v (fm e)
  · rw[if_neg a];exact .inl ⟨Z,Z⟩
theorem said_b{a:List bA}(e:mU a){s:LX.State}(h:vI a s)(g:s.status=0){t:LX.State}{z:Int}{p:Bool}(b:zT a s=aj (t,aj z,p)):kN z:=by
  have i:=((zU e h g b).2.2 Z).2;obtain⟨pre,f,x,c,m,l,k,j⟩:=H5 e h g;rw[k]at b;rw[j]at i;unfold tH at b;simp only[i]at b;rw[if_neg V,if_neg V,if_neg V,if_neg V,if_neg V,if_neg V,if_neg V,if_neg V,if_pos trivial]at b;by_cases d:(jW f.regs c.a).kind=1
  · rw[if_pos d]at b;have:=regAt_ok l.fr.vals c.a;have:=this.int d;cases b;exact KA V
  · rw[if_neg d]at b;cases b
theorem run_said{a:List bA}(g:mU a):∀(m:Nat) (b:List Int) (n:Nat) (s:LX.State),vI a s->(∀x∈b,kN x)->∀x∈(wZ a m b n s).2.1,kN x
  |0,b,n,s,_,h=>h
  |m+1,b,n,s,hs,h=>by
    unfold wZ;by_cases f:s.status=0
    · rw[if_neg V];by_cases d:b.length=40/\LZ a s=9
      · rw[if_pos d];exact h
      · rw[if_neg d];cases e:zT a s with
        |none=>exact h
        |some q=>
          obtain⟨t,o,p⟩:=q;have i:∀x∈b++o.toList,kN x:=by
            intro x c;rcases cR.1 c with c|c
            · exact h x c
            · cases o with
              |none=>cases c
              |some z=>simp at c;subst c;exact said_b g hs f e
          simp only;cases p with
          |true=>exact i
          |false=>exact run_said g m _ _ t (zU g hs f e).1 i
    · rw[if_pos f];exact h
def aaA(m:fT):Prop:=(0<=m.from_/\m.from_<=2)/\(0<=m.jK/\m.jK<=2)/\(0<=m.co/\m.co<=2)/\(2<=m.aJ/\m.aJ<=100)/\(m.taken=ar↔m.image=[])/\m.image.length<=1200
theorem mail_each:∀l:List fT,each Ad Dt l ()=0↔∀m∈l,aaA m
  |[]=>by simp[qU,Dt]
  |m::l=>by
    have g:=mail_each l;rw[gL];generalize each Ad Dt l=K at g⊢;unfold Ad;by_cases d:(0<=m.from_/\m.from_<=2)/\(0<=m.jK/\m.jK<=2)/\(0<=m.co/\m.co<=2)/\(2<=m.aJ/\m.aJ<=100)
    · rw[show(((((((ab ((m.from_:Int)<0)||ab ((3:Int)<=m.from_))||ab ((m.jK:Int)<0))||ab ((3:Int)<=m.jK))||ab ((m.co:Int)<0))||ab ((3:Int)<=m.co))||ab ((m.aJ:Int)<2))||ab ((100:Int)<m.aJ))=aq by
        simp only[Bool.or_eq_false_iff,decide_eq_false_iff_not];omega,cond_false]
      by_cases b:(m.taken=ar↔m.image=[])/\m.image.length<=1200
      · rw[show((m.taken !=ab (((m.image.length:Int):Int)=0))||ab ((1200:Int)<(m.image.length:Int)))=aq by
          rw[dF (show¬(1200:Int)<(m.image.length:Int) by have:=b.2;omega),tm];by_cases a:m.image=[]
          · rw[b.1.2 a,a];simp
          · have:m.taken=false:=by
              cases e:m.taken with
              |false=>rfl
              |true=>exact absurd (b.1.1 e) a
            rw[this,dF (fun h=>a (cm V))];rfl,cond_false,g]
        constructor
        · intro h x c;rcases bn.1 c with rfl|c
          · exact⟨d.1,d.2.1,d.2.2.1,d.2.2.2,b⟩
          · exact h x c
        · exact fun h x c=>h x<|bk _ c
      · rw[show((m.taken !=ab (((m.image.length:Int):Int)=0))||ab ((1200:Int)<(m.image.length:Int)))=ar by
          by_cases f:m.image.length<=1200
          · rw[dF (show¬(1200:Int)<(m.image.length:Int) by omega),tm];by_cases a:m.image=[]
            · cases e:m.taken with
              |true=>exact absurd ⟨⟨fun _=>a,fun _=>e⟩,f⟩ b
              |false=>rw[a];simp
            · cases e:m.taken with
              |true=>rw[dF (fun h=>a (cm V))];rfl
              |false=>exact absurd ⟨⟨fun h=>(Bool.false_ne_true (e.symm.trans h)).elim,fun h=>absurd h a⟩,f⟩ b
          · rw[dT (show(1200:Int)<(m.image.length:Int) by omega),Bool.or_true],cond_true]
        constructor
        · intro h;simp at h
        · intro h;exact absurd (h m zq3).2.2.2.2 b
    · rw[show(((((((ab ((m.from_:Int)<0)||ab ((3:Int)<=m.from_))||ab ((m.jK:Int)<0))||ab ((3:Int)<=m.jK))||ab ((m.co:Int)<0))||ab ((3:Int)<=m.co))||ab ((m.aJ:Int)<2))||ab ((100:Int)<m.aJ))=ar by
        simp only[dw,decide_eq_true_eq];omega,cond_true]
      constructor
      · intro h;simp at h
      · intro h;have:=h m zq3;exact absurd ⟨this.1,this.2.1,this.2.2.1,this.2.2.2.1⟩ d
theorem Jp(l:List fT):dP l=0↔l.length<=40/\∀m∈l,aaA m:=by
  unfold dP;by_cases h:l.length<=40
  · rw[dF V,cond_false,mail_each];exact⟨fun x=>⟨h,x⟩,fun x=>x.2⟩
  · rw[dT V,cond_true];exact⟨fun x=>by simp at x,fun x=>absurd x.1 h⟩
def KC(p:List bA):List Co->Int
 |[]=>0
 |c::l=>if(dQ p c.image).2≠0 then(dQ p c.image).2 else KC p l
theorem aaB(p:List bA):∀l,KC p l=0↔∀c∈l,(dQ p c.image).2=0
  |[]=>by simp[KC]
  |c::l=>by
    unfold KC;by_cases h:(dQ p c.image).2=0
    · rw[if_neg V,aaB p l];simp[h]
    · rw[if_pos h];simp[h]
def Bf(p:List bA)(x:NF):Int:=
 if iY x.d≠0 then iY x.d else if x.up=aq then(if x.cos=[]then 0 else 4)else if x.d.wait≠[]then 4 else
 if(jS [] (mJ x.d)).2≠0 then(jS [] (mJ x.d)).2 else if(jS [] (mJ x.d)).1≠x.cos then 4 else KC p x.cos
structure PlR(p:List bA)(x:NF):Prop where
 disk:iY x.d=0
 down:x.up=aq->x.cos=[]
 wait:x.up=ar->x.d.wait=[]
 cos:x.up=ar->jS [] (mJ x.d)=(x.cos,0)
 img:∀c∈x.cos,(dQ p c.image).2=0
theorem plc_iff(p:List bA)(x:NF):Bf p x=0↔PlR p x:=by
  unfold Bf;by_cases b:iY x.d=0
  · rw[if_neg V];cases hu:x.up with
    |false=>
      simp only[if_true];by_cases a:x.cos=[]
      · rw[if_pos a];exact⟨fun _=>⟨b,fun _=>a,fun h=>(by rw[hu]at h;cases h),fun h=>(by rw[hu]at h;cases h),by rw[a];simp⟩,fun _=>rfl⟩
      · rw[if_neg a];exact⟨fun h=>by simp at h,fun h=>absurd (h.down hu) a⟩
    |true=>
      simp only[mL,if_false];by_cases a:x.d.wait=[]
      · rw[if_neg (by simpa using a)];by_cases e:(jS [] (mJ x.d)).2=0
        · rw[if_neg V];by_cases c:(jS [] (mJ x.d)).1=x.cos
          · rw[if_neg (by simpa using c),aaB];exact⟨fun h=>⟨b,fun h=>(by rw[hu]at h;cases h),fun _=>a,fun _=>by rw[<-c,<-e],h⟩,fun h=>h.img⟩
          · rw[if_pos c];exact⟨fun h=>by simp at h,fun h=>absurd (by rw[h.cos hu]) c⟩
        · rw[if_pos e];exact⟨fun h=>absurd h e,fun h=>absurd (by rw[h.cos hu]) e⟩
      · rw[if_pos a];exact⟨fun h=>by simp at h,fun h=>absurd (h.wait hu) a⟩
  · rw[if_pos b];exact⟨fun h=>absurd h b,fun h=>absurd h.disk b⟩
def Pv(p:List bA):List NF->Int
 |[]=>0
 |x::l=>if Bf p x≠0 then Bf p x else Pv p l
theorem aaC(p:List bA):∀l,Pv p l=0↔∀x∈l,PlR p x
  |[]=>by simp[Pv]
  |x::l=>by
    unfold Pv;by_cases h:Bf p x=0
    · rw[if_neg V,aaC p l];have:=(plc_iff p x).1 h;simp[this]
    · rw[if_pos h];exact⟨fun a=>absurd a h,fun a=>absurd ((plc_iff p x).2<|a x zq3) h⟩
def NG(p:List bA):List fT->Int
 |[]=>0
 |m::l=>if m.taken=ar then NG p l else if(dQ p m.image).2≠0 then(dQ p m.image).2 else NG p l
theorem WX(p:List bA):∀l,NG p l=0↔∀m∈l,m.taken=aq->(dQ p m.image).2=0
  |[]=>by simp[NG]
  |m::l=>by
    unfold NG;by_cases a:m.taken=ar
    · rw[if_pos a,WX p l];simp[a]
    · rw[if_neg a];have b:m.taken=false:=by simpa using a
      by_cases h:(dQ p m.image).2=0
      · rw[if_neg V,WX p l];simp[h]
      · rw[if_pos h];simp[h,b]
def D9(w:pG):Int:=
 if Js w.prog≠0 then Js w.prog else if w.places.length≠3 then 4 else if dP w.bQ≠0 then dP w.bQ else
 if Pv w.prog w.places≠0 then Pv w.prog w.places else NG w.prog w.bQ
structure WR(w:pG):Prop where
 code:Js w.prog=0
 many:w.places.length=3
 mlen:w.bQ.length<=40
 mok:∀m∈w.bQ,aaA m
 pl:∀x∈w.places,PlR w.prog x
 mimg:∀m∈w.bQ,m.taken=aq->(dQ w.prog m.image).2=0
theorem w_iff(w:pG):D9 w=0↔WR w:=by
  unfold D9;by_cases c:Js w.prog=0
  · rw[if_neg V];by_cases e:w.places.length=3
    · rw[if_neg V];by_cases d:dP w.bQ=0
      · rw[if_neg V];by_cases b:Pv w.prog w.places=0
        · rw[if_neg V,WX];have a:=(Jp _).1 d;exact⟨fun h=>⟨c,e,a.1,a.2,(aaC _ _).1 b,h⟩,fun h=>h.mimg⟩
        · rw[if_pos b];exact⟨fun h=>absurd h b,fun h=>absurd ((aaC _ _).2 h.pl) b⟩
      · rw[if_pos d];exact⟨fun h=>absurd h d,fun h=>absurd ((Jp _).2 ⟨h.mlen,h.mok⟩) d⟩
    · rw[if_pos e];exact⟨fun h=>by simp at h,fun h=>absurd h.many e⟩
  · rw[if_pos c];exact⟨fun h=>absurd h c,fun h=>absurd h.code c⟩
def zP:NF:=⟨[],zD,aq⟩
def iE(w:pG)(k:Int):NF:=(idx w.places k).getD zP
def EY(w:pG)(k:Int)(x:NF):pG:=⟨w.prog,w.places.set k.toNat x,w.bQ⟩
def pq(x:NF)(r:Rec):NF×Int:=
 if(iJ x.cos r).2≠0 then(x,(iJ x.cos r).2)else if(wS x.d r).2≠0 then(x,(wS x.d r).2)else
 if(GD (wS x.d r).1).2≠0 then(x,(GD (wS x.d r).1).2)else(⟨(iJ x.cos r).1,(GD (wS x.d r).1).1,x.up⟩,0)
def QP(x:NF)(r:Rec)(keep:Int):NF×Int:=
 if(iJ x.cos r).2≠0 then(x,(iJ x.cos r).2)else if(wS x.d r).2≠0 then(x,(wS x.d r).2)else
 (⟨[],(Kz (wS x.d r).1 (max 0 (min keep ((wS x.d r).1.wait.length:Int)))).1,aq⟩,0)
def GG(l:List fT)(m:fT):List fT:=if dP l≠0\/dP [m]≠0 then l else if l.length<40 then l++[m]else l
def tL(p:List bA)(k:Int)(c:Co)(fuel:Int):Rec×Int:=
 if 0<=c.offered then(⟨2,c.kM,c.aJ,0,[],[]⟩,7)else
 if(dQ p c.image).2≠0 then(⟨2,c.kM,c.aJ,0,[],[]⟩,(dQ p c.image).2)else
 if(dQ p c.image).1.status=3/\0<=(dQ p c.image).1.bT/\(dQ p c.image).1.bT<3/\(dQ p c.image).1.bT≠k then(⟨3,c.kM,c.aJ,(dQ p c.image).1.bT,[],[]⟩,0)else
 if(wake (dQ p c.image).1).status≠0 then(⟨2,c.kM,c.aJ,0,[],[]⟩,7)else
 (⟨2,c.kM,c.aJ,0,(wZ p fuel.toNat [] 0 (wake (dQ p c.image).1)).2.1,wR (dO (wZ p fuel.toNat [] 0 (wake (dQ p c.image).1)).1)⟩,0)
def Sr(k:Int)(c:Co):fT:=⟨k,c.offered,c.kM,c.aJ+1,aq,c.image⟩
def runW(w:pG)(x:Hap):pG×Int:=
 match oP x.co (iE w x.place).cos with
 |none=>(w,5)
 |some c=>
  let fuel:=if x.kind=9 then 2000 else x.n
  if fuel<1\/2000<fuel then(w,3)else
  let q:=tL w.prog x.place c fuel
  if q.2≠0 then(w,q.2)else
  if x.kind=9 then(EY w x.place (QP (iE w x.place) q.1 x.n).1,(QP (iE w x.place) q.1 x.n).2)else
  if(pq (iE w x.place) q.1).2≠0 then(w,(pq (iE w x.place) q.1).2)else
  let v:=EY w x.place (pq (iE w x.place) q.1).1
  if q.1.kind=3 then(⟨v.prog,v.places,GG v.bQ (Sr x.place ⟨c.kM,c.aJ,c.image,q.1.place⟩)⟩,0)else(v,0)
def X8(w:pG)(x:Hap):pG×Int:=
 match oP x.co (iE w x.place).cos with
 |none=>(w,5)
 |some c=>if c.offered<0 then(w,7)else(⟨w.prog,w.places,GG w.bQ (Sr x.place c)⟩,0)
def aaD(w:pG)(k i:Int):pG×Int:=
 if i≠k then(w,5)else if(mJ (iE w k).d).any (fun r=>ab (r.kind=1))then(w,6)else
 let r:Rec:=⟨1,i,1,0,[],wR (dO (vB w.prog))⟩
 (EY w k (pq (iE w k) r).1,(pq (iE w k) r).2)
def hadP(x:NF)(i e:Int):Bool:=(mJ x.d).any fun r=>ab (r.kind=4)&&ab (r.co=i)&&ab (e<=r.aJ)
def hearW(w:pG)(i:Int)(a:Bool):pG×Int:=
 if i<0\/(w.bQ.length:Int)<=i then(w,5)else
 let m:=(w.bQ[i.toNat]?).getD zMail
 if(iE w m.jK).up=aq then(w,7)else
 let v:pG:=⟨w.prog,w.places,if a then w.bQ else w.bQ.take i.toNat++w.bQ.drop (i.toNat+1)⟩
 if m.taken then
  match oP m.co (iE v m.jK).cos with
  |none=>(v,0)
  |some c=>if c.aJ≠m.aJ-1\/c.offered≠m.from_ then(v,0)else
   (EY v m.jK (pq (iE v m.jK) ⟨5,m.co,m.aJ-1,0,[],[]⟩).1,(pq (iE v m.jK) ⟨5,m.co,m.aJ-1,0,[],[]⟩).2)
 else
  let b:fT:=⟨m.jK,m.from_,m.co,m.aJ,ar,[]⟩
  if hadP (iE v m.jK) m.co m.aJ then(⟨v.prog,v.places,GG v.bQ b⟩,0)else
  let r:Rec:=⟨4,m.co,m.aJ,0,[],m.image⟩
  if(pq (iE v m.jK) r).2≠0 then(v,(pq (iE v m.jK) r).2)else
  let u:=EY v m.jK (pq (iE v m.jK) r).1
  (⟨u.prog,u.places,GG u.bQ b⟩,0)
def bootW(w:pG)(k:Int):pG×Int:=
 if(iE w k).up=ar then(w,7)else
 if(jS [] (mJ (iE w k).d)).2≠0 then(w,(jS [] (mJ (iE w k).d)).2)else
 if KC w.prog (jS [] (mJ (iE w k).d)).1≠0 then(w,KC w.prog (jS [] (mJ (iE w k).d)).1)else
 (EY w k ⟨(jS [] (mJ (iE w k).d)).1,(Qy (iE w k).d).1,ar⟩,0)
def fI(w:pG)(x:Hap):pG×Int:=
 if x.kind=4\/x.kind=5 then hearW w x.n (ab (x.kind=5))else
 if x.kind=6 then(if x.n<0\/(w.bQ.length:Int)<=x.n then(w,5)else(⟨w.prog,w.places,w.bQ.take x.n.toNat++w.bQ.drop (x.n.toNat+1)⟩,0))else
 if x.kind<1\/9<x.kind then(w,4)else
 if x.place<0\/(w.places.length:Int)<=x.place then(w,5)else
 if x.kind=8 then bootW w x.place else
 if(iE w x.place).up=aq then(w,7)else
 if x.kind=1 then aaD w x.place x.co else
 if x.kind=3 then X8 w x else
 if x.kind=7 then(EY w x.place ⟨[],(iE w x.place).d,aq⟩,0)else runW w x
end Pw
open Go Go.Proofs Go.LX
namespace Pw
open Dk
theorem findC_mem{l:List Co}(a:Up l){c:Co}(h:c∈l):oP c.kM l=aj c:=by
  induction l with
  |nil=>cases h
  |cons x r ih=>
    rw[Up,List.pairwise_cons]at a;unfold oP;rw[fj];rcases bn.1 h with rfl|h
    · rw[dT rfl]
    · have:=a.1 c h;rw[dF V];exact ih a.2 h
theorem good0:Dk.Good []:=⟨by simp,fun x h=>(by cases h),List.Pairwise.nil⟩
def Off(l:List Co):Prop:=∀c∈l,c.offered≠ -1->c.aJ≠100
theorem rep_good:∀(l:List Rec) (s:List Co),Dk.Good s->Off s->(jS s l).2=0->Dk.Good (jS s l).1/\Off (jS s l).1
  |[],s,h,ho,_=>⟨h,ho⟩
  |r::l,s,h,ho,e=>by
    unfold jS at e⊢;by_cases b:(iJ s r).2=0
    · rw[if_neg V]at e⊢;have d:=(next_ok s r b).2.1;obtain⟨k1,k2,-⟩:=WW b;refine rep_good l _ d ?_ e;intro c g;have a:=findC_mem d.up g;by_cases f:c.kM=r.co
      · rw[f]at a;rw[a]at k2;rcases k2 with⟨_,_,hn⟩|⟨_,_,hn⟩|⟨c0,_,_,_,_,hn⟩|⟨c0,_,_,_,_,hx,hn⟩|⟨_,_,_,_,_,hn⟩
        · cases hn;exact fun h=>absurd Z h
        · cases hn;exact fun h=>absurd Z h
        · cases hn;exact fun h=>absurd Z h
        · cases hn;exact fun _=>hx
        · cases hn
      · rw[k1 _ f]at a;exact ho c (F9 a).2
    · rw[if_pos b]at e;exact absurd e b
theorem PlR.good{p:List bA}{x:NF}(h:PlR p x):Dk.Good x.cos/\Off x.cos:=by
 cases hu:x.up with
 |true=>
  have e:=h.cos hu;have:=rep_good (mJ x.d) [] good0 (fun c a=>by cases a) (by rw[e]);rw[e]at this;exact this
 |false=>rw[h.down hu];exact⟨good0,fun c a=>by cases a⟩
structure Noted(p:List bA)(x x':NF)(r:Rec):Prop where
 pl:PlR p x'
 up:x'.up=ar
 slog:wT x'.d=wT x.d++[r]
 flog:mJ x'.d=mJ x.d++[r]
 fs:mJ x.d=wT x.d
 cos:x'.cos=(iJ x.cos r).1
 ok:(iJ x.cos r).2=0
theorem rep_snoc{l:List Rec}{r:Rec}{s a:List Co}(h:jS s l=(a,0)):jS s (l++[r])=if(iJ a r).2≠0 then([],(iJ a r).2)else((iJ a r).1,0):=by
  rw[pRep_app,h];simp only;rw[if_neg zq3];unfold jS;by_cases h:(iJ a r).2=0
  · rw[if_neg V,if_neg V];rfl
  · rw[if_pos h,if_pos h]
theorem next_img{p:List bA}{a:List Co}{r:Rec}(b:(iJ a r).2=0)(f:∀c∈a,(dQ p c.image).2=0)(e:(r.kind=1\/r.kind=2\/r.kind=4)->(dQ p r.image).2=0):∀c∈(iJ a r).1,(dQ p c.image).2=0:=by
  intro c i;have h:=(next_ok a r b).2.1;obtain⟨k1,k2,-⟩:=WW b;have d:=findC_mem h.up i;by_cases g:c.kM=r.co
  · rw[g]at d;rw[d]at k2;rcases k2 with⟨hk,_,hn⟩|⟨hk,_,hn⟩|⟨c0,hk,_,_,_,hn⟩|⟨c0,_,ho,_,_,hx,hn⟩|⟨_,_,_,_,_,hn⟩
    · cases hn;exact e (.inl hk.1)
    · cases hn;exact e (.inr<|.inr hk.1)
    · cases hn;exact e (.inr<|.inl hk)
    · cases hn;exact f c0 (F9 ho).2
    · cases hn
  · rw[k1 _ g]at d;exact f c (F9 d).2
theorem X9{p:List bA}{x x':NF}{r:Rec}(h:PlR p x)(f:x.up=ar)(w:Qx r)(l:(r.kind=1\/r.kind=2\/r.kind=4)->(dQ p r.image).2=0)(e:pq x r=(x',0)):Noted p x x' r:=by
  unfold pq at e;by_cases c:(iJ x.cos r).2=0
  · rw[if_neg V]at e;by_cases i:(wS x.d r).2=0
    · rw[if_neg V]at e;by_cases g:(GD (wS x.d r).1).2=0
      · rw[if_neg V]at e;obtain rfl:=congrArg jq e;have b:=h.disk;have n:=dOk b;have j:=h.wait f;obtain⟨s,m,q,o,k,t⟩:=note_disk b j w (d1:=(wS x.d r).1) (d2:=(GD (wS x.d r).1).1) (by rw[<-i]) (by rw[<-g]);have a:=n.still j;refine⟨⟨q,fun b=>(by simp only[f]at b;cases b),fun _=>(by rw[m]),fun _=>?_,next_img c h.img l⟩,f,o,by rw[k,a],a,Z,c⟩;simp only;rw[k,<-a,rep_snoc (h.cos f),if_neg V]
      · rw[if_pos g]at e;exact absurd (congrArg du e) g
    · rw[if_pos i]at e;exact absurd (congrArg du e) i
  · rw[if_pos c]at e;exact absurd (congrArg du e) c
structure Torn(p:List bA)(x x':NF)(r:Rec):Prop where
 pl:PlR p x'
 down:x'.up=aq
 slog:wT x'.d=wT x.d
 flog:mJ x'.d=mJ x.d\/mJ x'.d=mJ x.d++[r]
 fs:mJ x.d=wT x.d
 ok:(iJ x.cos r).2=0
theorem tear_ok{p:List bA}{x x':NF}{r:Rec}{n:Int}(h:PlR p x)(j:x.up=ar)(w:Qx r)(e:QP x r n=(x',0)):Torn p x x' r:=by
  unfold QP at e;by_cases b:(iJ x.cos r).2=0
  · rw[if_neg V]at e;by_cases g:(wS x.d r).2=0
    · rw[if_neg V]at e;obtain rfl:=congrArg jq e;have i:=h.wait j;have a:=(dOk h.disk).still i;obtain⟨q,s,l,k,m⟩:=tear_disk h.disk i w (d1:=(wS x.d r).1) (by rw[<-g]) (n:=max 0<|min n ((wS x.d r).1.wait.length:Int)) V;refine⟨⟨l,fun _=>rfl,fun f=>(by cases f),fun f=>(by cases f),fun c o=>(by cases o)⟩,Z,k,by rw[a];exact m,a,b⟩
    · rw[if_pos g]at e;exact absurd (congrArg du e) g
  · rw[if_pos b]at e;exact absurd (congrArg du e) b
theorem pAt_eq{w:pG}{k:Int}(h:0<=k/\k<w.places.length):idx w.places k=aj (iE w k)/\iE w k∈w.places/\w.places[k.toNat]? =aj (iE w k):=by
 obtain⟨n,rfl⟩:=bs h.1;have hn:n<w.places.length:=by omega
 have e:idx w.places (n:Int)=aj w.places[n]:=xh hn;unfold iE;rw[e];exact⟨Z,cx hn,by simp[hn]⟩
theorem pAt_set{w:pG}{k j:Int}(x:NF)(b:0<=k/\k<w.places.length)(a:0<=j/\j<w.places.length):iE (EY w k x) j=if j=k then x else iE w j:=by
  obtain⟨n,rfl⟩:=bs b.1;obtain⟨m,rfl⟩:=bs a.1;unfold iE EY;rw[lh,lh,bj,ff];by_cases h:n=m
  · subst h;rw[if_pos rfl,if_pos V,if_pos rfl];rfl
  · rw[if_neg h,if_neg V]
theorem WR.at{w:pG}(h:WR w){k:Int}(a:0<=k/\k<=2):PlR w.prog (iE w k):=h.pl _ (pAt_eq ⟨a.1,by have:=h.many;omega⟩).2.1
theorem WR.set{w:pG}(h:WR w){k:Int}{x:NF}(hx:PlR w.prog x):WR (EY w k x) where
  code:=h.code
  many:=by show(w.places.set k.toNat x).length=3;rw[cq];exact h.many
  mlen:=h.mlen
  mok:=h.mok
  pl:=fun y hy=>by
    rcases List.mem_or_eq_of_mem_set hy with hy|rfl
    · exact h.pl y hy
    · exact hx
  mimg:=h.mimg
theorem WR.NG{w:pG}(h:WR w){l:List fT}(c:l.length<=40)(b:∀m∈l,aaA m/\(m.taken=aq->(dQ w.prog m.image).2=0)):WR ⟨w.prog,w.places,l⟩:=
 ⟨h.code,h.many,c,fun m a=>(b m a).1,h.pl,fun m a=>(b m a).2⟩
instance:DecidablePred aaA:=fun m=>by unfold aaA;infer_instance
theorem sendP_eq{w:pG}(h:WR w)(m:fT):GG w.bQ m=if aaA m/\w.bQ.length<40 then w.bQ++[m]else w.bQ:=by
  unfold GG;have e:dP w.bQ=0:=(Jp _).2 ⟨h.mlen,h.mok⟩;by_cases b:aaA m
  · have d:dP [m]=0:=(Jp _).2 ⟨by simp,fun x c=>by rw[eS]at c;rw[c];exact b⟩;rw[if_neg V];by_cases a:w.bQ.length<40
    · rw[if_pos a,if_pos ⟨b,a⟩]
    · rw[if_neg a,if_neg (fun h=>a h.2)]
  · have d:dP [m]≠0:=fun h=>b (((Jp _).1 h).2 m zq3);rw[if_pos (.inr d),if_neg (fun h=>b h.1)]
theorem WR.send{w:pG}(h:WR w){m:fT}(c:m.taken=aq->(dQ w.prog m.image).2=0):WR ⟨w.prog,w.places,GG w.bQ m⟩:=by
  rw[sendP_eq h];by_cases b:aaA m/\w.bQ.length<40
  · rw[if_pos b];refine h.NG (by simp;omega) (fun x a=>?_);rcases cR.1 a with a|a
    · exact⟨h.mok x a,h.mimg x a⟩
    · rw[eS]at a;subst a;exact⟨b.1,c⟩
  · rw[if_neg b];exact h.NG h.mlen (fun x a=>⟨h.mok x a,h.mimg x a⟩)
theorem WR.drop{w:pG}(h:WR w)(n:Nat):WR ⟨w.prog,w.places,w.bQ.take n++w.bQ.drop (n+1)⟩:=by
 refine h.NG (by have:=h.mlen;simp;omega) (fun x a=>?_);have:x∈w.bQ:=(cR.1 a).elim mc me;exact⟨h.mok x this,h.mimg x this⟩
theorem J5{k c e pl:Int}{s i:List Int}(f:1<=k/\k<=5)(h:0<=c/\c<=2)(g:0<=e/\e<=100)(d:0<=pl/\pl<=2)(b:∀x∈s,kN x)(a:∀x∈i,kN x):Qx ⟨k,c,e,pl,s,i⟩:=
 ⟨KA (by simp only;omega),KA (by simp only;omega),KA (by simp only;omega),KA (by simp only;omega),b,a⟩
structure Sliced(p:List bA)(k:Int)(c:Co)(fuel:Int)(r:Rec):Prop where
 w:Qx r
 co:r.co=c.kM
 aJ:r.aJ=c.aJ
 runs:c.offered= -1
 how:(r.kind=2/\r.place=0/\(wake (dQ p c.image).1).status=0/\r.says=(wZ p fuel.toNat [] 0 (wake (dQ p c.image).1)).2.1/\r.image=wR (dO (wZ p fuel.toNat [] 0 (wake (dQ p c.image).1)).1)/\(dQ p r.image).2=0)\/(r.kind=3/\(0<=r.place/\r.place<=2)/\r.place≠k/\r.says=[]/\r.image=[])
 img:Img p c.image (dQ p c.image).1
theorem slice_ok{p:List bA}(hp:Js p=0){k:Int}{c:Co}{fuel:Int}{r:Rec}(o:coOk c)(e:tL p k c fuel=(r,0)):Sliced p k c fuel r:=by
  have f:=pg hp;obtain⟨c1,c2,q,j,t,s,-⟩:=o;unfold tL at e;by_cases m:0<=c.offered
  · rw[if_pos m]at e;simp at e
  · rw[if_neg m]at e;by_cases i:(dQ p c.image).2=0
    · rw[if_neg V]at e;have h:=img_of hp i;by_cases g:(dQ p c.image).1.status=3/\0<=(dQ p c.image).1.bT/\(dQ p c.image).1.bT<3/\(dQ p c.image).1.bT≠k
      · rw[if_pos g]at e;obtain rfl:=congrArg jq e;exact⟨J5 V ⟨c1,c2⟩ ⟨by omega,j⟩ V (fun x b=>(by cases b)) (fun x b=>(by cases b)),Z,Z,by omega,.inr ⟨Z,by simp only;omega,g.2.2.2,rfl,rfl⟩,h⟩
      · rw[if_neg g]at e;by_cases l:(wake (dQ p c.image).1).status=0
        · rw[if_neg V]at e;obtain rfl:=congrArg jq e;have d:=Ur h.st;have n:=(WS f fuel.toNat [] 0 _ d zq3).1;have a:=img_pack hp n;refine⟨J5 V ⟨c1,c2⟩ ⟨by omega,j⟩ V (run_said f _ _ _ _ d (fun x b=>by cases b)) (img_b f a).1,Z,Z,by omega,.inl ⟨Z,Z,l,Z,Z,by simp only;rw[a.un]⟩,h⟩
        · rw[if_pos l]at e;simp at e
    · rw[if_pos i]at e;exact absurd (congrArg du e) i
theorem begin_img{p:List bA}(hp:Js p=0):Img p (wR (dO (vB p))) (dO (vB p)):=img_pack hp (aae (pg hp))
end Pw
open Go Go.Proofs Go.LX
namespace Pw
open Dk
def ansM(m:fT):fT:=⟨m.jK,m.from_,m.co,m.aJ,ar,[]⟩
def WY(p:List bA)(k:Int):Rec:=⟨1,k,1,0,[],wR (dO (vB p))⟩
inductive Ev (w w':pG):Prop
 |begin (k:Int) (x':NF) (hk:0<=k/\k<=2) (up:(iE w k).up=ar) (hno:∀r∈mJ (iE w k).d,r.kind≠1) (N:Noted w.prog (iE w k) x' (WY w.prog k)) (hp:w'.places=w.places.set k.toNat x') (hm:w'.bQ=w.bQ)
 |run (k:Int) (c:Co) (fuel:Int) (r:Rec) (x':NF) (hk:0<=k/\k<=2) (up:(iE w k).up=ar) (hc:oP c.kM (iE w k).cos=aj c) (hf:1<=fuel/\fuel<=2000) (S:Sliced w.prog k c fuel r) (N:Noted w.prog (iE w k) x' r) (hp:w'.places=w.places.set k.toNat x') (hm:w'.bQ=if r.kind=3 then GG w.bQ (Sr k ⟨c.kM,c.aJ,c.image,r.place⟩)else w.bQ)
 |tear (k:Int) (c:Co) (r:Rec) (x':NF) (hk:0<=k/\k<=2) (up:(iE w k).up=ar) (hc:oP c.kM (iE w k).cos=aj c) (S:Sliced w.prog k c 2000 r) (T:Torn w.prog (iE w k) x' r) (hp:w'.places=w.places.set k.toNat x') (hm:w'.bQ=w.bQ)
 |send (k:Int) (c:Co) (hk:0<=k/\k<=2) (up:(iE w k).up=ar) (hc:oP c.kM (iE w k).cos=aj c) (ho:0<=c.offered) (hp:w'.places=w.places) (hm:w'.bQ=GG w.bQ (Sr k c))
 |gone (m:fT) (c:Co) (x':NF) (hi:m∈w.bQ) (ht:m.taken=ar) (up:(iE w m.jK).up=ar) (hc:oP m.co (iE w m.jK).cos=aj c) (he:c.aJ=m.aJ-1) (ho:c.offered=m.from_) (N:Noted w.prog (iE w m.jK) x' ⟨5,m.co,m.aJ-1,0,[],[]⟩) (hp:w'.places=w.places.set m.jK.toNat x') (hm:∀y∈w'.bQ,y∈w.bQ)
 |take (m:fT) (x':NF) (hi:m∈w.bQ) (ht:m.taken=aq) (up:(iE w m.jK).up=ar) (hno:hadP (iE w m.jK) m.co m.aJ=aq) (N:Noted w.prog (iE w m.jK) x' ⟨4,m.co,m.aJ,0,[],m.image⟩) (hp:w'.places=w.places.set m.jK.toNat x') (hm:∀y∈w'.bQ,y∈w.bQ\/y=ansM m)
 |again (m:fT) (hi:m∈w.bQ) (ht:m.taken=aq) (up:(iE w m.jK).up=ar) (had:hadP (iE w m.jK) m.co m.aJ=ar) (hp:w'.places=w.places) (hm:∀y∈w'.bQ,y∈w.bQ\/y=ansM m)
 |still (hp:w'.places=w.places) (hm:∀y∈w'.bQ,y∈w.bQ)
 |crash (k:Int) (hk:0<=k/\k<=2) (up:(iE w k).up=ar) (hp:w'.places=w.places.set k.toNat ⟨[],(iE w k).d,aq⟩) (hm:w'.bQ=w.bQ)
 |boot (k:Int) (hk:0<=k/\k<=2) (down:(iE w k).up=aq) (ok:(jS [] (mJ (iE w k).d)).2=0) (hp:w'.places=w.places.set k.toNat ⟨(jS [] (mJ (iE w k).d)).1,(Qy (iE w k).d).1,ar⟩) (hm:w'.bQ=w.bQ)
theorem boot_disk{d:iI}(h:iY d=0):iY (Qy d).1=0/\wT (Qy d).1=mJ d/\mJ (Qy d).1=mJ d/\(Qy d).1.wait=[]:=by
 have b:=dOk h;rw[b.whole];obtain⟨k1,k2⟩:=aax (a:=mJ d) (w:=[]) b.good b.len (by have:=b.rroom;simp;omega);exact⟨k1,k2,by rw[(dOk k1).still Z,k2],Z⟩
theorem Uw{w:pG}(h:WR w){m y:fT}(a:y∈GG w.bQ m):y∈w.bQ\/y=m:=by
  rw[sendP_eq h]at a;by_cases b:aaA m/\w.bQ.length<40
  · rw[if_pos b]at a;simpa using a
  · rw[if_neg b]at a;exact .inl a
theorem hear_ev{w w':pG}(h:WR w){i:Int}{t:Bool}(e:hearW w i t=(w',0)):WR w'/\w'.prog=w.prog/\Ev w w':=by
  unfold hearW at e;by_cases F:i<0\/(w.bQ.length:Int)<=i
  · rw[if_pos F]at e;simp at e
  · rw[if_neg F]at e;obtain⟨n,rfl⟩:=bs (by omega:0<=i);have hn:n<w.bQ.length:=by omega
    have I:(w.bQ[n]?).getD zMail=w.bQ[n]:=by rw[bh hn];rfl
    simp only[bj]at e;simp only[I]at e;have a:w.bQ[n]∈w.bQ:=cx hn;generalize w.bQ[n]=m at*;have d:=h.mok m a;by_cases A:(iE w m.jK).up=aq
    · rw[if_pos A]at e;simp at e
    · rw[if_neg A]at e;have f:(iE w m.jK).up=true:=by simpa using A
      have p:WR ⟨w.prog,w.places,if t=ar then w.bQ else w.bQ.take n++w.bQ.drop (n+1)⟩:=by
        cases t with
        |true=>exact h
        |false=>exact h.drop n
      have b:∀y∈(if t=ar then w.bQ else w.bQ.take n++w.bQ.drop (n+1)),y∈w.bQ:=by
        intro y o;cases t with
        |true=>exact o
        |false=>exact(cR.1 o).elim mc me
      generalize M:(if t=ar then w.bQ else w.bQ.take n++w.bQ.drop (n+1))=L at*;have v:∀k,iE (⟨w.prog,w.places,L⟩:pG) k=iE w k:=fun k=>rfl;simp only[v]at e;have hat:=h.at ⟨d.2.1.1,d.2.1.2⟩;cases ht:m.taken with
      |true=>
        rw[ht]at e;simp only[if_true]at e;cases hf:oP m.co (iE w m.jK).cos with
        |none=>
          rw[hf]at e;cases e;exact⟨p,Z,.still Z b⟩
        |some c=>
          rw[hf]at e;simp only at e;by_cases l:c.aJ≠m.aJ-1\/c.offered≠m.from_
          · rw[if_pos l]at e;cases e;exact⟨p,Z,.still Z b⟩
          · rw[if_neg l]at e;have C:=congrArg du e;have B:=congrArg jq e;simp only at B C;have N:=X9 (x':=(pq (iE w m.jK) ⟨5,m.co,m.aJ-1,0,[],[]⟩).1) (r:=⟨5,m.co,m.aJ-1,0,[],[]⟩) hat f (J5 V d.2.2.1 (by have:=d.2.2.2.1;omega) V (fun x q=>(by cases q)) (fun x q=>(by cases q))) (fun h=>by simp only at h;omega) (js Z C);subst B;exact⟨p.set N.pl,Z,.gone m c _ a ht f hf V V N Z b⟩
      |false=>
        rw[ht]at e;simp only[cJ,if_false]at e;have j:∀{u:pG},WR u->WR ⟨u.prog,u.places,GG u.bQ<|ansM m⟩:=fun G=>G.send (fun h=>by cases h);by_cases l:hadP (iE w m.jK) m.co m.aJ=ar
        · rw[if_pos l]at e;cases e;refine⟨j p,Z,.again m a ht f l Z fun y o=>?_⟩;exact(Uw p o).imp (b y) id
        · rw[if_neg l]at e;have z:hadP (iE w m.jK) m.co m.aJ=false:=by simpa using l
          by_cases s:(pq (iE w m.jK) ⟨4,m.co,m.aJ,0,[],m.image⟩).2=0
          · rw[if_neg V]at e;have g:=h.mimg m a ht;have K:=img_of h.code g;have N:=X9 (x':=(pq (iE w m.jK) ⟨4,m.co,m.aJ,0,[],m.image⟩).1) (r:=⟨4,m.co,m.aJ,0,[],m.image⟩) hat f (J5 V d.2.2.1 (by have:=d.2.2.2.1;omega) V (fun x q=>(by cases q)) (img_b (pg h.code) K).1) (fun _=>g) (js Z s);cases e;have E:=p.set (k:=m.jK) N.pl;refine⟨j E,Z,.take m _ a ht f z N Z fun y o=>?_⟩;exact(Uw E o).imp (b y) id
          · rw[if_pos s]at e;exact absurd (congrArg du e) s
theorem run_ev{w w':pG}(h:WR w){x:Hap}(f:0<=x.place/\x.place<=2)(a:(iE w x.place).up=ar)(e:runW w x=(w',0)):WR w'/\w'.prog=w.prog/\Ev w w':=by
  unfold runW at e;have hat:=h.at f;cases hf:oP x.co (iE w x.place).cos with
  |none=>rw[hf]at e;simp at e
  |some c=>
    rw[hf]at e;simp only at e;obtain⟨i,p⟩:=F9 hf;rw[<-i]at hf;have g:=hat.good.1.ok c p;generalize d:(if x.kind=9 then(2000:Int)else x.n)=fuel at e;by_cases t:fuel<1\/2000<fuel
    · rw[if_pos t]at e;simp at e
    · rw[if_neg t]at e;by_cases m:(tL w.prog x.place c fuel).2=0
      · rw[if_neg V]at e;have S:=slice_ok h.code (r:=(tL w.prog x.place c fuel).1) g<|js Z m;generalize (tL w.prog x.place c fuel).1=r at*;have u:(r.kind=1\/r.kind=2\/r.kind=4)->(dQ w.prog r.image).2=0:=by
          rcases S.how with hh|hh
          · exact fun _=>hh.2.2.2.2.2
          · intro h;omega
        by_cases j:x.kind=9
        · rw[if_pos j]at e;rw[if_pos j]at d;subst d;have q:=congrArg du e;have o:=congrArg jq e;simp only at o q;have T:=tear_ok (x':=(QP (iE w x.place) r x.n).1) hat a S.w<|js Z q;subst o;exact⟨h.set T.pl,Z,.tear x.place c r _ f a hf S T Z Z⟩
        · rw[if_neg j]at e;by_cases l:(pq (iE w x.place) r).2=0
          · rw[if_neg V]at e;have N:=X9 (x':=(pq (iE w x.place) r).1) hat a S.w u<|js Z l;have s:=h.set (k:=x.place) N.pl;by_cases b:r.kind=3
            · rw[if_pos b]at e;cases e;refine⟨s.send (fun _=>?_),Z,.run x.place c fuel r _ f a hf V S N Z (by rw[if_pos b];rfl)⟩;exact hat.img c p
            · rw[if_neg b]at e;cases e;exact⟨s,Z,.run x.place c fuel r _ f a hf V S N Z (by rw[if_neg b];rfl)⟩
          · rw[if_pos l]at e;exact absurd (congrArg du e) l
      · rw[if_pos m]at e;exact absurd (congrArg du e) m
theorem step_ev{w w':pG}(h:WR w){x:Hap}(e:fI w x=(w',0)):WR w'/\w'.prog=w.prog/\Ev w w':=by
  unfold fI at e;by_cases A:x.kind=4\/x.kind=5
  · rw[if_pos A]at e;exact hear_ev h e
  · rw[if_neg A]at e;by_cases z:x.kind=6
    · rw[if_pos z]at e;by_cases k:x.n<0\/(w.bQ.length:Int)<=x.n
      · rw[if_pos k]at e;simp at e
      · rw[if_neg k]at e;cases e;exact⟨h.drop _,Z,.still Z fun y F=>(cR.1 F).elim mc me⟩
    · rw[if_neg z]at e;by_cases k:x.kind<1\/9<x.kind
      · rw[if_pos k]at e;simp at e
      · rw[if_neg k]at e;have l:=h.many;by_cases u:x.place<0\/(w.places.length:Int)<=x.place
        · rw[if_pos u]at e;simp at e
        · rw[if_neg u]at e;have j:0<=x.place/\x.place<=2:=by omega
          have hat:=h.at j;by_cases t:x.kind=8
          · rw[if_pos t]at e;unfold bootW at e;by_cases i:(iE w x.place).up=ar
            · rw[if_pos i]at e;simp at e
            · rw[if_neg i]at e;by_cases g:(jS [] (mJ (iE w x.place).d)).2=0
              · rw[if_neg V]at e;by_cases b:KC w.prog (jS [] (mJ (iE w x.place).d)).1=0
                · rw[if_neg V]at e;cases e;obtain⟨L,O,C,E⟩:=boot_disk hat.disk;have o:PlR w.prog ⟨(jS []<|mJ (iE w x.place).d).1,(Qy (iE w x.place).d).1,ar⟩:=
                    ⟨L,fun h=>(by cases h),fun _=>E,fun _=>(by simp only[C];rw[<-g]),(aaB _ _).1 b⟩
                  exact⟨h.set o,Z,.boot x.place j (by simpa using i) g Z Z⟩
                · rw[if_pos b]at e;exact absurd (congrArg du e) b
              · rw[if_pos g]at e;exact absurd (congrArg du e) g
          · rw[if_neg t]at e;by_cases i:(iE w x.place).up=aq
            · rw[if_pos i]at e;simp at e
            · rw[if_neg i]at e;have a:(iE w x.place).up=true:=by simpa using i
              by_cases g:x.kind=1
              · rw[if_pos g]at e;unfold aaD at e;by_cases b:x.co≠x.place
                · rw[if_pos b]at e;simp at e
                · rw[if_neg b]at e;have m:x.co=x.place:=Decidable.not_not.1 b;by_cases f:(mJ (iE w x.place).d).any (fun r=>ab (r.kind=1))=ar
                  · rw[if_pos f]at e;simp at e
                  · rw[if_neg f,m]at e;have v:=congrArg du e;have B:=congrArg jq e;simp only at B v;have s:=begin_img h.code;have N:=X9 (x':=(pq (iE w x.place) (WY w.prog x.place)).1) (r:=WY w.prog x.place) hat a (J5 V j V V (fun x K=>(by cases K)) (img_b (pg h.code) s).1) (fun _=>by unfold WY;simp only;rw[s.un]) (js rfl v);subst B;refine⟨h.set N.pl,Z,.begin x.place _ j a (fun r G q=>f ?_) N Z Z⟩;exact nh.2 ⟨r,G,by simpa using q⟩
              · rw[if_neg g]at e;by_cases b:x.kind=3
                · rw[if_pos b]at e;unfold X8 at e;cases hf:oP x.co (iE w x.place).cos with
                  |none=>rw[hf]at e;simp at e
                  |some c=>
                    rw[hf]at e;simp only at e;obtain⟨p,I⟩:=F9 hf;rw[<-p]at hf;by_cases f:c.offered<0
                    · rw[if_pos f]at e;simp at e
                    · rw[if_neg f]at e;cases e;exact⟨h.send fun _=>hat.img c I,Z,.send x.place c j a hf V Z Z⟩
                · rw[if_neg b]at e;by_cases f:x.kind=7
                  · rw[if_pos f]at e;cases e;exact⟨h.set ⟨hat.disk,fun _=>rfl,fun h=>(by cases h),fun h=>(by cases h),fun c M=>(by cases M)⟩,Z,.crash x.place j a Z Z⟩
                  · rw[if_neg f]at e;exact run_ev h j a e
end Pw
open Go Go.Proofs Go.LX
namespace Pw
open Dk
def Hd(F:Int->List Rec)(i k:Int):Option Co:=oP i (jS [] (F k)).1
def lZ(F:Int->List Rec)(k:Int)(r:Rec):Int->List Rec:=fun j=>if j=k then F k++[r]else F j
def On(k:Int):Prop:=0<=k/\k<=2
structure MOk(F:Int->List Rec)(i:Int)(E:Nat)(pl:Nat->Int)(m:fT):Prop where
 ok:∃e:Nat,1<=e/\e<=E/\m.aJ=(e:Int)+1/\(m.taken=aq->m.from_=pl e/\∃r∈F (pl e),r.kind=3/\r.co=i/\r.aJ=(e:Int)/\r.place=m.jK)/\
  (m.taken=ar->e+1<=E/\m.from_=pl (e+1)/\m.jK=pl e)
structure zY(F:Int->List Rec)(L:List fT)(i:Int)(E:Nat)(pl:Nat->Int):Prop where
 rng:∀e,1<=e->e<=E->On (pl e)
 first:1<=E->pl 1=i
 P0:∀k,On k->∀r∈F k,0<=r.place
 T1:∀k,On k->∀r∈F k,r.co=i->(r.kind=1\/r.kind=4)->∃e:Nat,r.aJ=(e:Int)/\1<=e/\e<=E/\pl e=k
 T2:∀e:Nat,1<=e->e<=E->∃r∈F (pl e),r.co=i/\r.aJ=(e:Int)/\(e=1->r.kind=1)/\(e≠1->r.kind=4)
 O1:∀k,On k->∀r∈F k,r.co=i->r.kind=3->∃e:Nat,r.aJ=(e:Int)/\1<=e/\e<=E/\pl e=k/\(e<E->r.place=pl (e+1))/\(e=E->∃c,Hd F i k=aj c/\c.aJ=(e:Int)/\c.offered=r.place)
 H1:∀k,On k->∀c,Hd F i k=aj c->∃e:Nat,c.aJ=(e:Int)/\1<=e/\e<=E/\pl e=k/\(c.offered= -1->e=E)/\(c.offered≠ -1->∃r∈F k,r.kind=3/\r.co=i/\r.aJ=(e:Int)/\r.place=c.offered)
 H2:1<=E->∃c,Hd F i (pl E)=aj c/\c.aJ=(E:Int)
 M:∀m∈L,m.co=i->MOk F i E pl m
section
variable{F:Int->List Rec}{L:List fT}{i:Int}{E:Nat}{pl:Nat->Int}
theorem BA{k:Int}{r x:Rec}{j:Int}(h:x∈F j):x∈lZ F k r j:=by
  unfold lZ;by_cases e:j=k
  · rw[if_pos e];subst e;exact List.mem_append_left _ h
  · rw[if_neg e];exact h
theorem rF{k:Int}{r x:Rec}{j:Int}(h:x∈lZ F k r j):x∈F j\/(j=k/\x=r):=by
  unfold lZ at h;by_cases e:j=k
  · rw[if_pos e]at h;subst e;rcases cR.1 h with h|h
    · exact .inl h
    · exact .inr ⟨Z,by simpa using h⟩
  · rw[if_neg e]at h;exact .inl h
theorem EZ{k:Int}{r:Rec}(l:(jS [] (F k)).2=0)(b:(iJ (jS [] (F k)).1 r).2=0):(jS [] (lZ F k r k)).2=0/\(∀j,j≠k->∀i,Hd (lZ F k r) i j=Hd F i j)/\(∀i,i≠r.co->Hd (lZ F k r) i k=Hd F i k)/\Did r (Hd F r.co k) (Hd (lZ F k r) r.co k)/\0<=r.place:=by
  have e:jS [] (lZ F k r k)=((iJ (jS []<|F k).1 r).1,0):=by
    unfold lZ;rw[if_pos rfl,rep_snoc (a:=(jS [] (F k)).1) (js rfl l),if_neg V]
  obtain⟨h,c,f⟩:=WW b;refine⟨by rw[e],fun j d i=>?_,fun i g=>?_,?_,?_⟩
  · unfold Hd lZ;rw[if_neg d]
  · unfold Hd;rw[e];exact h i g
  · unfold Hd;rw[e];exact c
  · have:=(Us r f).place;omega
theorem MOk.up{k:Int}{r:Rec}{m:fT}(h:MOk F i E pl m):MOk (lZ F k r) i E pl m:=by
 obtain⟨e,d,j,f,a,g⟩:=h.ok;exact⟨e,d,j,f,fun b=>⟨(a b).1,(a b).2.imp fun r c=>⟨BA c.1,c.2⟩⟩,g⟩
theorem zY.bQ{L':List fT}(h:zY F L i E pl)(c:∀m∈L',m∈L\/(m.co=i->MOk F i E pl m)):zY F L' i E pl:=
 {h with M:=fun m a b=>(c m a).elim (fun x=>h.M m x b) (fun x=>x b)}
theorem zY.other{k:Int}{r:Rec}(h:zY F L i E pl)(G:(jS [] (F k)).2=0)(q:(iJ (jS [] (F k)).1 r).2=0)(u:i≠r.co):zY (lZ F k r) L i E pl:=by
  obtain⟨-,A,K,-,z⟩:=EZ G q;have g:∀j,Hd (lZ F k r) i j=Hd F i j:=fun j=>by
    by_cases e:j=k
    · subst e;exact K i u
    · exact A j e i
  refine⟨h.rng,h.first,fun j d x a=>?_,fun j d x a b s=>?_,fun e C I=>?_,fun j d x a b s=>?_,fun j d c b=>?_,fun B=>?_,fun m w b=>(h.M m w b).up⟩
  · rcases rF a with a|⟨_,rfl⟩
    · exact h.P0 j d x a
    · exact z
  · rcases rF a with a|⟨_,rfl⟩
    · exact h.T1 j d x a b s
    · exact absurd b.symm u
  · obtain⟨x,a,f⟩:=h.T2 e C I;exact⟨x,BA a,f⟩
  · rcases rF a with a|⟨_,rfl⟩
    · obtain⟨e,n,t,l,o,v,p⟩:=h.O1 j d x a b s;exact⟨e,n,t,l,o,v,fun y=>by rw[g];exact p y⟩
    · exact absurd b.symm u
  · rw[g]at b;obtain⟨e,n,t,l,o,v,p⟩:=h.H1 j d c b;exact⟨e,n,t,l,o,v,fun ho=>(p ho).imp fun r f=>⟨BA f.1,f.2⟩⟩
  · rw[g];exact h.H2 B
theorem zY.slice{k:Int}{r:Rec}(h:zY F L i E pl)(I:On k)(P:(jS [] (F k)).2=0)(v:(iJ (jS [] (F k)).1 r).2=0)(O:r.co=i)(C:r.kind=2):zY (lZ F k r) L i E pl:=by
  obtain⟨-,w,-,A,K⟩:=EZ P v;rw[O]at A;obtain⟨c,ho,G,t,hn⟩:∃c,Hd F i k=aj c/\c.aJ=r.aJ/\c.offered= -1/\Hd (lZ F k r) i k=aj ⟨c.kM,c.aJ,r.image,-1⟩:=by
    rcases A with⟨x,_,_⟩|⟨x,_,_⟩|⟨c,_,ho,G,t,hn⟩|⟨c,x,_,_,_,_,_⟩|⟨c,x,_,_,_,_⟩
    · omega
    · omega
    · exact⟨c,ho,G,t,hn⟩
    · omega
    · omega
  refine⟨h.rng,h.first,fun j b x a=>?_,fun j b x a p I=>?_,fun e R C=>?_,fun j b x a p y=>?_,fun j b d s=>?_,fun N=>?_,fun m Q p=>(h.M m Q p).up⟩
  · rcases rF a with a|⟨_,rfl⟩
    · exact h.P0 j b x a
    · exact K
  · rcases rF a with a|⟨_,rfl⟩
    · exact h.T1 j b x a p I
    · omega
  · obtain⟨x,a,u⟩:=h.T2 e R C;exact⟨x,BA a,u⟩
  · rcases rF a with a|⟨_,rfl⟩
    · obtain⟨e,g,n,f,l,o,q⟩:=h.O1 j b x a p y;refine⟨e,g,n,f,l,o,fun z=>?_⟩;obtain⟨d,d1,d2,B⟩:=q z;by_cases e:j=k
      · subst e;rw[ho]at d1;cases d1;exact⟨_,hn,d2,by rw[<-B,t]⟩
      · exact⟨d,by rw[w j e];exact d1,d2,B⟩
    · omega
  · by_cases e:j=k
    · subst e;rw[hn]at s;cases s;obtain⟨e,g,n,f,l,o,q⟩:=h.H1 j b c ho;exact⟨e,g,n,f,l,fun _=>o t,fun x=>absurd Z x⟩
    · rw[w j e]at s;obtain⟨e,g,n,f,l,o,q⟩:=h.H1 j b d s;exact⟨e,g,n,f,l,o,fun ho=>(q ho).imp fun r u=>⟨BA u.1,u.2⟩⟩
  · obtain⟨d,d1,d2⟩:=h.H2 N;by_cases e:pl E=k
    · rw[e]at d1⊢;rw[ho]at d1;cases d1;exact⟨_,hn,d2⟩
    · exact⟨d,by rw[w _ e];exact d1,d2⟩
theorem zY.offer{k:Int}{r:Rec}(h:zY F L i E pl)(I:On k)(hR:(jS [] (F k)).2=0)(w:(iJ (jS [] (F k)).1 r).2=0)(O:r.co=i)(z:r.kind=3):zY (lZ F k r) L i E pl/\∃c,Hd F i k=aj c/\c.aJ=r.aJ/\c.offered= -1/\r.aJ=(E:Int)/\1<=E/\pl E=k:=by
  obtain⟨-,Q,-,P,S⟩:=EZ hR w;rw[O]at P;obtain⟨c,ho,f,p,hn⟩:∃c,Hd F i k=aj c/\c.aJ=r.aJ/\c.offered= -1/\Hd (lZ F k r) i k=aj ⟨c.kM,c.aJ,c.image,r.place⟩:=by
    rcases P with⟨x,_,_⟩|⟨x,_,_⟩|⟨c,x,_,_,_,_⟩|⟨c,x,ho,f,p,_,hn⟩|⟨c,x,_,_,_,_⟩
    · omega
    · omega
    · omega
    · exact⟨c,ho,f,p,hn⟩
    · omega
  obtain⟨R,g,t,N,n,b5,b6⟩:=h.H1 k I c ho;have X:=b5 p;subst X;refine⟨⟨h.rng,h.first,fun j b x a=>?_,fun j b x a l I=>?_,fun e h1 z=>?_,fun j b x a l y=>?_,fun j b d o=>?_,fun hE=>?_,fun m hm l=>(h.M m hm l).up⟩,c,ho,f,p,by rw[<-f];exact g,t,n⟩
  · rcases rF a with a|⟨_,rfl⟩
    · exact h.P0 j b x a
    · exact S
  · rcases rF a with a|⟨_,rfl⟩
    · exact h.T1 j b x a l I
    · omega
  · obtain⟨x,a,q⟩:=h.T2 e h1 z;exact⟨x,BA a,q⟩
  · rcases rF a with a|⟨rfl,rfl⟩
    · obtain⟨e,v,B,u,A,C,s⟩:=h.O1 j b x a l y;have T:=h.P0 j b x a;refine⟨e,v,B,u,A,C,fun K=>?_⟩;obtain⟨d,d1,d2,d3⟩:=s K;by_cases e:j=k
      · subst e;rw[ho]at d1;cases d1;omega
      · exact⟨d,by rw[Q j e];exact d1,d2,d3⟩
    · exact⟨R,by rw[<-f];exact g,t,N,n,fun G=>absurd G (Nat.lt_irrefl _),fun _=>⟨_,hn,g,Z⟩⟩
  · by_cases e:j=k
    · subst e;rw[hn]at o;cases o;exact⟨R,g,t,N,n,fun _=>rfl,fun _=>⟨r,by unfold lZ;rw[if_pos rfl];simp,z,O,by rw[<-f];exact g,Z⟩⟩
    · rw[Q j e]at o;obtain⟨e,v,B,u,A,C,s⟩:=h.H1 j b d o;exact⟨e,v,B,u,A,C,fun ho=>(s ho).imp fun r q=>⟨BA q.1,q.2⟩⟩
  · rw[n];exact⟨_,hn,g⟩
theorem zY.gone{k:Int}{r:Rec}(h:zY F L i E pl)(I:On k)(T:(jS [] (F k)).2=0)(z:(iJ (jS [] (F k)).1 r).2=0)(Q:r.co=i)(N:r.kind=5)(S:r.aJ<(E:Int)):zY (lZ F k r) L i E pl:=by
  obtain⟨-,A,-,G,P⟩:=EZ T z;rw[Q]at G;obtain⟨c,ho,C,K,hn⟩:∃c,Hd F i k=aj c/\c.aJ=r.aJ/\c.offered≠ -1/\Hd (lZ F k r) i k=none:=by
    rcases G with⟨x,_,_⟩|⟨x,_,_⟩|⟨c,x,_,_,_,_⟩|⟨c,x,_,_,_,_,_⟩|⟨c,x,ho,C,K,hn⟩
    · omega
    · omega
    · omega
    · omega
    · exact⟨c,ho,C,K,hn⟩
  have f:1<=E->pl E≠k:=by
    intro p e;obtain⟨d,d1,d2⟩:=h.H2 p;rw[e,ho]at d1;cases d1;omega
  refine⟨h.rng,h.first,fun j b x a=>?_,fun j b x a l I=>?_,fun e R N=>?_,fun j b x a l B=>?_,fun j b d q=>?_,fun p=>?_,fun m O l=>(h.M m O l).up⟩
  · rcases rF a with a|⟨_,rfl⟩
    · exact h.P0 j b x a
    · exact P
  · rcases rF a with a|⟨_,rfl⟩
    · exact h.T1 j b x a l I
    · omega
  · obtain⟨x,a,o⟩:=h.T2 e R N;exact⟨x,BA a,o⟩
  · rcases rF a with a|⟨_,rfl⟩
    · obtain⟨e,y,u,w,n,v,t⟩:=h.O1 j b x a l B;refine⟨e,y,u,w,n,v,fun g=>?_⟩;have s:j≠k:=by rw[<-n,g];exact f V
      rw[A j s];exact t g
    · omega
  · by_cases e:j=k
    · subst e;rw[hn]at q;cases q
    · rw[A j e]at q;obtain⟨e,y,u,w,n,v,t⟩:=h.H1 j b d q;exact⟨e,y,u,w,n,v,fun ho=>(t ho).imp fun r o=>⟨BA o.1,o.2⟩⟩
  · rw[A _ (f p)];exact h.H2 p
theorem zY.begin{k:Int}{r:Rec}(h:zY F L i E pl)(B:On k)(I:(jS [] (F k)).2=0)(s:(iJ (jS [] (F k)).1 r).2=0)(v:r.co=i)(f:i=k)(K:r.kind=1)(hno:∀x∈F k,x.kind≠1):E=0/\zY (lZ F k r) L i 1 (fun _=>k):=by
  obtain⟨-,C,-,y,A⟩:=EZ I s;rw[v]at y;obtain⟨n,ho,hn⟩:r.aJ=1/\Hd F i k=none/\Hd (lZ F k r) i k=aj ⟨r.co,r.aJ,r.image,-1⟩:=by
    rcases y with⟨x,ho,hn⟩|⟨x,_,_⟩|⟨c,x,_,_,_,_⟩|⟨c,x,_,_,_,_,_⟩|⟨c,x,_,_,_,_⟩
    · exact⟨x.2,ho,hn⟩
    · omega
    · omega
    · omega
    · omega
  have l:E=0:=by
    by_cases l:E=0
    · exact l
    · exfalso;obtain⟨x,a,R,P,G,O⟩:=h.T2 1 (bt _) V;rw[h.first V,f]at a;exact hno x a<|G Z
  subst l;refine⟨Z,fun _ _ _=>B,fun _=>f.symm,fun j b x a=>?_,fun j b x a g u=>?_,fun e Q K=>?_,fun j b x a g t=>?_,fun j b d o=>?_,fun l=>⟨_,hn,by simp only;rw[n];rfl⟩,fun m z g=>?_⟩
  · rcases rF a with a|⟨_,rfl⟩
    · exact h.P0 j b x a
    · exact A
  · rcases rF a with a|⟨e,rfl⟩
    · obtain⟨e,q,p,w,N⟩:=h.T1 j b x a g u;omega
    · exact⟨1,by rw[n];rfl,by omega,by omega,e.symm⟩
  · obtain rfl:e=1:=by omega
    exact⟨r,by unfold lZ;rw[if_pos rfl];simp,v,by rw[n];rfl,fun _=> ‹r.kind=1›,fun h=>absurd Z h⟩
  · rcases rF a with a|⟨_,rfl⟩
    · obtain⟨e,q,p,w,-⟩:=h.O1 j b x a g t;omega
    · omega
  · by_cases e:j=k
    · subst e;rw[hn]at o;cases o;exact⟨1,by simp only;rw[n];rfl,by omega,by omega,rfl,fun _=>rfl,fun x=>absurd Z x⟩
    · rw[C j e]at o;obtain⟨e,q,p,w,-⟩:=h.H1 j b d o;omega
  · obtain⟨e,q,p,-⟩:=(h.M m z g).ok;omega
theorem zY.take{k:Int}{r:Rec}{m:fT}(h:zY F L i E pl)(hk:On k)(hR:(jS [] (F k)).2=0)(P:(iJ (jS [] (F k)).1 r).2=0)(S:r.co=i)(X:r.kind=4)(hm:m∈L)(t:m.co=i)(u:m.taken=aq)(B:m.jK=k)(l:r.aJ=m.aJ)(hno:∀x∈F k,x.kind=4->x.co=i->¬m.aJ<=x.aJ):
    m.aJ=(E:Int)+1/\1<=E/\m.from_=pl E/\zY (lZ F k r) L i (E+1) (fun e=>if e=E+1 then k else pl e):=by
  obtain⟨-,u1,-,u3,u4⟩:=EZ hR P;rw[S]at u3;obtain⟨he,ho,hn⟩:r.aJ≠1/\Hd F i k=none/\Hd (lZ F k r) i k=aj ⟨r.co,r.aJ,r.image,-1⟩:=by
    rcases u3 with⟨x,_,_⟩|⟨x,ho,hn⟩|⟨c,x,_,_,_,_⟩|⟨c,x,_,_,_,_,_⟩|⟨c,x,_,_,_,_⟩
    · omega
    · exact⟨x.2,ho,hn⟩
    · omega
    · omega
    · omega
  obtain⟨e,m1,m2,w,m4,-⟩:=(h.M m hm t).ok;obtain⟨m5,r0,T,r2,r3,r4,r5⟩:=m4 u;have A:=h.rng e m1 m2;obtain⟨f,o1,o2,o3,o4,o5,o6⟩:=h.O1 _ A r0 T r3 r2;obtain rfl:f=e:=by omega
  have O:f=E:=by
    by_cases G:f<E
    · exfalso;have I:=o5 G;rw[r5,B]at I;obtain⟨x,x1,x2,x3,x4,x5⟩:=h.T2 (f+1) V V;rw[<-I]at x1;exact hno x x1 (x5 V) x2 (by rw[x3,w];push_cast;omega)
    · omega
  subst O;obtain⟨c0,c1,c2,c3⟩:=o6 Z;have a:∀x,x<=f->(if x=f+1 then k else pl x)=pl x:=fun x b=>if_neg V;refine⟨w,m1,m5,?_,?_,fun j o x b=>?_,fun j o x b t N=>?_,fun x R X=>?_,fun j o x b t Q=>?_,fun j o d v=>?_,fun hE=>?_,fun y hy t=>?_⟩
  · intro x R X;by_cases b:x=f+1
    · simp only[if_pos b];exact hk
    · simp only[if_neg b];exact h.rng x R V
  · intro _;rw[a 1 m1];exact h.first m1
  · rcases rF b with b|⟨_,rfl⟩
    · exact h.P0 j o x b
    · exact u4
  · rcases rF b with b|⟨e,rfl⟩
    · obtain⟨z,q,n,p,g⟩:=h.T1 j o x b t N;exact⟨z,q,n,by omega,by rw[a z p];exact g⟩
    · exact⟨f+1,by rw[l,w];push_cast;rfl,by omega,by omega,by simp only[eq_self,if_true];exact e.symm⟩
  · by_cases b:x=f+1
    · subst b;rw[if_pos rfl];exact⟨r,by unfold lZ;rw[if_pos rfl];simp,S,by rw[l,w];push_cast;rfl,fun h=>by omega,fun _=> ‹r.kind=4›⟩
    · rw[a x V];obtain⟨z,hz,s⟩:=h.T2 x R V;exact⟨z,BA hz,s⟩
  · rcases rF b with b|⟨_,rfl⟩
    · obtain⟨z,q,n,p,g,C,K⟩:=h.O1 j o x b t Q;refine⟨z,q,n,by omega,by rw[a z p];exact g,fun G=>?_,fun h=>by omega⟩;by_cases hz:z=f
      · subst hz;obtain⟨d,d1,d2,d3⟩:=K Z;rw[<-g,c1]at d1;cases d1;simp only[eq_self,if_true];rw[<-d3,c3,r5,B]
      · rw[a (z+1) V];exact C V
    · omega
  · by_cases e:j=k
    · subst e;rw[hn]at v;cases v;exact⟨f+1,by simp only;rw[l,w];push_cast;rfl,by omega,by omega,by simp only[eq_self,if_true],fun _=>rfl,fun x=>absurd Z x⟩
    · rw[u1 j e]at v;obtain⟨z,q,n,p,g,C,K⟩:=h.H1 j o d v;refine⟨z,q,n,by omega,by rw[a z p];exact g,fun hf=>?_,fun ho=>(K ho).imp fun r s=>⟨BA s.1,s.2⟩⟩;exfalso;have hz:=C hf;subst hz;rw[<-g,c1]at v;cases v;have a0:=h.P0 _ A r0 T;omega
  · simp only[eq_self,if_true];exact⟨_,hn,by simp only;rw[l,w];push_cast;rfl⟩
  · obtain⟨z,q,n,p,g,C⟩:=(h.M y hy t).ok;refine⟨z,q,by omega,p,fun u=>?_,fun u=>?_⟩
    · rw[a z n];exact⟨(g u).1,(g u).2.imp fun r s=>⟨BA s.1,s.2⟩⟩
    · obtain⟨b1,b2,b3⟩:=C u;rw[a z n,a (z+1) b1];exact⟨by omega,b2,b3⟩
end
end Pw
open Go Go.Proofs Go.LX
namespace Pw
open Dk
theorem aaE{s t:LX.State}(h:dO s=dO t):s.status=t.status:=by
 show(dO s).status=(dO t).status;rw[h]
theorem wake_sim{s t:LX.State}(h:dO s=dO t):dO (wake s)=dO (wake t):=by
  have b:=aaE h;unfold wake;by_cases a:s.status=3
  · rw[if_pos a,if_pos V];exact wake_sweep h 0 0
  · rw[if_neg a,if_neg V];exact h
theorem Xy{a:List bA}(c:mU a):∀(n:Nat) (s:LX.State),vI a s->vI a (uu a n s).1
  |0,s,h=>h
  |n+1,s,h=>by
    cases e:stepW a s with
    |none=>rw[Nl e];exact h
    |some q=>
      obtain⟨t,o⟩:=q;rw[tK e];refine Xy c n t ?_;unfold stepW at e;by_cases b:(wake s).status=0
      · rw[if_neg V]at e;have d:=Ur h;cases e1:zT a (wake s)with
        |none=>rw[e1]at e;cases e;exact fail_ok d b
        |some q=>obtain⟨f,o2,p⟩:=q;rw[e1]at e;cases e;exact(zU c d b e1).1
      · rw[if_pos b]at e;cases e
theorem iterW_sim{a:List bA}(e:mU a):∀(n:Nat) (s t:LX.State),vI a s->vI a t->dO s=dO t->(uu a n s).2=(uu a n t).2/\dO (uu a n s).1=dO (uu a n t).1
  |0,s,t,_,_,h=>⟨rfl,h⟩
  |n+1,s,t,hs,ht,h=>by
    have f:=wake_sim h;have l:=aaE f;have d:=Ur hs;have c:=Ur ht;by_cases g:(wake s).status=0
    · obtain⟨b,v⟩:=stepP_sim e d c g f;cases e1:zT a (wake s)with
      |none=>
        rw[e1]at b;cases e2:zT a (wake t)with
        |none=>
          have k1:stepW a s=aj ({wake s with status:=2},[]):=by unfold stepW;rw[if_neg V,e1]
          have k2:stepW a t=aj ({wake t with status:=2},[]):=by unfold stepW;rw[if_neg V,e2]
          rw[tK k1,tK k2,Jn (by unfold wake;simp),Jn (by unfold wake;simp)];exact⟨Z,fail_sweep f 2⟩
        |some q=>rw[e2]at b;exact b.elim
      |some q=>
        rw[e1]at b;cases e2:zT a (wake t)with
        |none=>rw[e2]at b;exact b.elim
        |some q2=>
          rw[e2]at b;obtain⟨u,o,p⟩:=q;obtain⟨i,o2,r⟩:=q2;obtain⟨rfl,rfl,k⟩:=b;have k1:stepW a s=aj (u,o.toList):=by unfold stepW;rw[if_neg V,e1]
          have k2:stepW a t=aj (i,o.toList):=by unfold stepW;rw[if_neg V,e2]
          rw[tK k1,tK k2];obtain⟨m,j⟩:=iterW_sim e n u i (zU e d g e1).1 (zU e c V e2).1 k;exact⟨by simp only[m],j⟩
    · rw[Jn g,Jn V];exact⟨Z,h⟩
theorem slice_iter{a:List bA}(g:mU a){fuel:Nat}(e:1<=fuel){s:LX.State}(b:(wake s).status=0):∃k,wZ a fuel [] 0 (wake s)=((uu a k s).1,(uu a k s).2,k):=by
 obtain⟨k,k1,k2,d,f⟩:=run_iter (a:=a) fuel [] 0<|wake s;have c:=f e b Z;refine⟨k,?_⟩;rw[k2,iter_W k _ d,iterW_wake c b];simp
def says(i:Int)(e:Nat)(l:List Rec):List Int:=(l.filter fun r=>ab (r.kind=2)&&ab (r.co=i)&&ab (r.aJ=(e:Int))).flatMap (·.says)
theorem Px(i:Int)(e:Nat)(a b:List Rec):says i e (a++b)=says i e a++says i e b:=by unfold says;rw[List.filter_append,jG]
theorem Ux{i:Int}{e:Nat}{r:Rec}:says i e [r]=if r.kind=2/\r.co=i/\r.aJ=(e:Int)then r.says else []:=by
  unfold says;by_cases h:r.kind=2/\r.co=i/\r.aJ=(e:Int)
  · rw[if_pos h];simp[h.1,h.2.1,h.2.2]
  · rw[if_neg h,gC,if_neg (by simp only[cL,decide_eq_true_eq];intro a;exact h ⟨a.1.1,a.1.2,a.2⟩)];rfl
theorem says_no{i:Int}{e:Nat}{l:List Rec}(h:∀r∈l,r.kind=2->r.co=i->r.aJ≠(e:Int)):says i e l=[]:=by
 unfold says;rw[List.filter_eq_nil_iff.2 (fun r b=>by simp only[cL,decide_eq_true_eq];exact fun a=>h r b a.1.1 a.1.2 a.2)];rfl
def tot(F:Int->List Rec)(i:Int)(pl:Nat->Int):Nat->List Int
 |0=>[]
 |e+1=>tot F i pl e++says i (e+1) (F (pl (e+1)))
theorem E5{F b:Int->List Rec}{i:Int}{pl a:Nat->Int}:∀(E:Nat),(∀e,1<=e->e<=E->says i e (F (pl e))=says i e (b (a e)))->tot F i pl E=tot b i a E
 |0,_=>rfl
 |E+1,h=>by
  unfold tot;rw[E5 E (fun e c d=>h e c V),h (E+1) V (bt _)]
structure yc(p:List bA)(F G:Int->List Rec)(L:List fT)(i:Int)(E:Nat)(pl:Nat->Int):Prop where
 ch:zY F L i E pl
 S1:∀k,On k->∀r∈F k,r.co=i->r.kind=2->∃e:Nat,r.aJ=(e:Int)/\1<=e/\e<=E/\pl e=k
 pre:∀k,On k->G k<+:F k
 Q:∀k,On k->(∀e:Nat,says i e (G k)=says i e (F k))\/∃c,Hd F i k=aj c/\c.offered= -1
 D:∀e:Nat,1<=e->e<E->says i e (G (pl e))=says i e (F (pl e))
 run:1<=E->∃n c,Hd F i (pl E)=aj c/\tot F i pl E=(uu p n (vB p)).2/\c.image=wR (dO (uu p n (vB p)).1)
 im:∀m∈L,m.co=i->m.taken=aq->m.aJ=(E:Int)+1->∃c,Hd F i (pl E)=aj c/\m.image=c.image
section
variable{p:List bA}{F G:Int->List Rec}{L:List fT}{i:Int}{E:Nat}{pl:Nat->Int}
theorem wV{k:Int}{r:Rec}{j:Int}(h:j≠k):lZ F k r j=F j:=if_neg h
theorem upd_same{k:Int}{r:Rec}:lZ F k r k=F k++[r]:=if_pos Z
theorem oG{k:Int}{r:Rec}{j:Int}{e:Nat}(h:¬(r.kind=2/\r.co=i/\r.aJ=(e:Int))):says i e (lZ F k r j)=says i e (F j):=by
  by_cases a:j=k
  · subst a;rw[upd_same,Px,Ux,if_neg h,dt]
  · rw[wV a]
theorem yc.bQ{L':List fT}(h:yc p F G L i E pl)(d:∀m∈L',m∈L\/(m.co=i->MOk F i E pl m/\(m.taken=aq->m.aJ=(E:Int)+1->∃c,Hd F i (pl E)=aj c/\m.image=c.image))):yc p F G L' i E pl:=
 {h with
  ch:=h.ch.bQ fun m b=>(d m b).imp id fun x a=>(x a).1
  im:=fun m b a=>(d m b).elim (fun x=>h.im m x a) (fun x=>(x a).2)}
theorem yc.other{g:Int->List Rec}{k:Int}{r:Rec}(h:yc p F G L i E pl)(u:(jS [] (F k)).2=0)(b:(iJ (jS [] (F k)).1 r).2=0)(f:i≠r.co)(t:g=G\/g=lZ G k r)(z:G k=F k):yc p (lZ F k r) g L i E pl:=by
  obtain⟨-,I,P,-,R⟩:=EZ u b;have o:∀j,Hd (lZ F k r) i j=Hd F i j:=fun j=>by
    by_cases e:j=k
    · subst e;exact P i f
    · exact I j e i
  have q:∀(e:Nat) j,says i e (lZ F k r j)=says i e (F j):=fun e j=>oG fun x=>f x.2.1.symm;have d:∀(e:Nat) j,says i e (g j)=says i e (G j):=fun e j=>by
    rcases t with rfl|rfl
    · rfl
    · exact oG fun x=>f x.2.1.symm
  refine⟨h.ch.other u b f,fun j a x s l C=>?_,fun j a=>?_,fun j a=>?_,fun e N O=>?_,fun K=>?_,fun m v l B w=>by rw[o];exact h.im m v l B w⟩
  · rcases rF s with s|⟨_,rfl⟩
    · exact h.S1 j a x s l C
    · exact absurd l.symm f
  · have hp:=h.pre j a;rcases t with rfl|rfl
    · by_cases e:j=k
      · subst e;rw[upd_same];exact hp.trans (eC _ _)
      · rw[wV e];exact hp
    · by_cases e:j=k
      · subst e;rw[upd_same,upd_same,z];exact cl _
      · rw[wV e,wV e];exact hp
  · rw[o];exact(h.Q j a).imp (fun x e=>by rw[q,d];exact x e) id
  · rw[q,d];exact h.D e N O
  · obtain⟨n,c,A,M,y⟩:=h.run K;refine⟨n,c,by rw[o];exact A,?_,y⟩;rw[<-M];exact E5 E fun e _ _=>q e _
theorem yc.slice{A:Int->List Rec}{k:Int}{r:Rec}{c:Co}{fuel:Nat}(g:mU p)(h:yc p F G L i E pl)(B:On k)(hR:(jS [] (F k)).2=0)(w:(iJ (jS [] (F k)).1 r).2=0)(N:r.co=i)(y:r.kind=2)(R:A=G\/A=lZ G k r)(UH:G k=F k)
    (s:Hd F i k=aj c) (S:1<=fuel) (P:Img p c.image (dQ p c.image).1) (h0:(wake (dQ p c.image).1).status=0) (hs:r.says=(wZ p fuel [] 0 (wake (dQ p c.image).1)).2.1) (C:r.image=wR (dO (wZ p fuel [] 0 (wake (dQ p c.image).1)).1)):yc p (lZ F k r) A L i E pl:=by
  have O:=h.ch.slice B hR w N y;obtain⟨-,u1,-,u3,u4⟩:=EZ hR w;rw[N]at u3;obtain⟨he,T,hn⟩:c.aJ=r.aJ/\c.offered= -1/\Hd (lZ F k r) i k=aj ⟨c.kM,c.aJ,r.image,-1⟩:=by
    rcases u3 with⟨x,_,_⟩|⟨x,_,_⟩|⟨d,_,ho,he,S,hn⟩|⟨d,x,_,_,_,_,_⟩|⟨d,x,_,_,_,_⟩
    · omega
    · omega
    · rw[s]at ho;cases ho;exact⟨he,S,hn⟩
    · omega
    · omega
  obtain⟨q,b1,b2,b3,v,b5,b6⟩:=h.ch.H1 k B c s;obtain rfl:=b5 T;have z:r.aJ=(q:Int):=by omega
  have u:∀(e:Nat) j,e≠q->says i e (lZ F k r j)=says i e (F j):=fun e j l=>oG fun x=>l V;have K:∀(e:Nat) j,e≠q->says i e (A j)=says i e (G j):=fun e j l=>by
    rcases R with rfl|rfl
    · rfl
    · exact oG fun x=>l V
  refine⟨O,fun j b x hx s B=>?_,fun j b=>?_,fun j b=>?_,fun e h1 y=>?_,fun I=>?_,fun m hm t o X=>?_⟩
  · rcases rF hx with hx|⟨e,rfl⟩
    · exact h.S1 j b x hx s B
    · exact⟨q,z,b2,b3,v.trans e.symm⟩
  · have hp:=h.pre j b;rcases R with rfl|rfl
    · by_cases e:j=k
      · subst e;rw[upd_same];exact hp.trans (eC _ _)
      · rw[wV e];exact hp
    · by_cases e:j=k
      · subst e;rw[upd_same,upd_same,UH];exact cl _
      · rw[wV e,wV e];exact hp
  · by_cases e:j=k
    · subst e;exact .inr ⟨_,hn,Z⟩
    · rw[u1 j e];refine(h.Q j b).imp (fun x e'=>?_) id;rw[wV e];rcases R with rfl|rfl
      · exact x e'
      · rw[wV e];exact x e'
  · rw[u e _ V,K e _ V];exact h.D e h1 y
  · obtain⟨n,d,a1,a2,a3⟩:=h.run I;rw[v,s]at a1;cases a1
    --the image is that of the state
    have o:=Xy g n _<|aae g;have hu:(dQ p c.image).1=dO (uu p n<|vB p).1:=pack_inj (P.st.small g) (Pq g o) (by rw[<-P.eq,a3]);obtain⟨j,b⟩:=slice_iter g S h0;have I:dO (dQ p c.image).1=dO (uu p n<|vB p).1:=by rw[hu];exact Nj (o.sw g)
    obtain⟨q1,q2⟩:=iterW_sim g j _ _ P.st o I;have f:=iterW_add (a:=p) n j<|vB p;refine⟨n+j,_,by rw[v];exact hn,?_,?_⟩
    · rw[f];simp only;rw[<-q1,<-a2];cases q with
      |zero=>omega
      |succ e1=>
        unfold tot;rw[E5 e1 (fun e h1 y=>u e _ V),v,upd_same,Px,Ux,if_pos ⟨y,N,z⟩,hs,b,cg]
    · simp only;rw[C,b];simp only;rw[q2,f]
  · obtain⟨d,d1,d2⟩:=h.im m hm t o X;exfalso
    --such bQ tells of an offer
    obtain⟨e,m1,m2,m3,m4,-⟩:=(h.ch.M m hm t).ok;obtain⟨-,r0,r1,r2,r3,r4,r5⟩:=m4 o;obtain rfl:e=q:=by omega
    obtain⟨e',o1,o2,o3,o4,o5,o6⟩:=h.ch.O1 _ (h.ch.rng e m1 m2) r0 r1 r3 r2;obtain⟨x,x1,x2,x3⟩:=o6 V;rw[v,s]at x1;cases x1;have:=h.ch.P0 _ (h.ch.rng e m1 m2) r0 r1;omega
theorem yc.offer{o:Int->List Rec}{k:Int}{r:Rec}{c:Co}(h:yc p F G L i E pl)(w:On k)(O:(jS [] (F k)).2=0)(l:(iJ (jS [] (F k)).1 r).2=0)(C:r.co=i)(A:r.kind=3)(I:o=G\/o=lZ G k r)(B:G k=F k)(f:Hd F i k=aj c):
    yc p (lZ F k r) o L i E pl/\Hd (lZ F k r) i (pl E)=aj ⟨c.kM,c.aJ,c.image,r.place⟩/\c.aJ=(E:Int)/\r.aJ=(E:Int)/\1<=E/\pl E=k:=by
  obtain⟨u,c0,ho,he,a0,s,z,a⟩:=h.ch.offer w O l C A;rw[f]at ho;cases ho;obtain⟨-,u1,-,N,u4⟩:=EZ O l;rw[C]at N;have hn:Hd (lZ F k r) i k=aj ⟨c.kM,c.aJ,c.image,r.place⟩:=by
    rcases N with⟨x,_,_⟩|⟨x,_,_⟩|⟨d,x,_,_,_,_⟩|⟨d,x,ho,he,hf,_,hn⟩|⟨d,x,_,_,_,_⟩
    · omega
    · omega
    · omega
    · rw[f]at ho;cases ho;exact hn
    · omega
  have q:∀(e:Nat) j,says i e (lZ F k r j)=says i e (F j):=fun e j=>oG (fun x=>by omega);have b:∀(e:Nat) j,says i e (o j)=says i e (G j):=fun e j=>by
    rcases I with rfl|rfl
    · rfl
    · exact oG (fun x=>by omega)
  refine⟨⟨u,fun j g x y f w=>?_,fun j g=>?_,fun j g=>?_,fun e X A=>?_,fun S=>?_,fun m P t R v=>?_⟩,by rw[a];exact hn,by omega,s,z,a⟩
  · rcases rF y with y|⟨e,rfl⟩
    · exact h.S1 j g x y f w
    · omega
  · have hp:=h.pre j g;rcases I with rfl|rfl
    · by_cases e:j=k
      · subst e;rw[upd_same];exact hp.trans (eC _ _)
      · rw[wV e];exact hp
    · by_cases e:j=k
      · subst e;rw[upd_same,upd_same,B];exact cl _
      · rw[wV e,wV e];exact hp
  · by_cases e:j=k
    · subst e;exact .inl (fun M=>by rw[q,b,B])
    · rw[u1 j e];exact(h.Q j g).imp (fun x M=>by rw[q,b];exact x M) id
  · rw[q,b];exact h.D e X A
  · obtain⟨n,d,K,T,a3⟩:=h.run S;rw[a,f]at K;cases K;exact⟨n,⟨c.kM,c.aJ,c.image,r.place⟩,by rw[a];exact hn,by rw[<-T];exact E5 E (fun e _ _=>q e _),a3⟩
  · obtain⟨d,d1,d2⟩:=h.im m P t R v;rw[a,f]at d1;cases d1;exact⟨⟨c.kM,c.aJ,c.image,r.place⟩,by rw[a];exact hn,d2⟩
theorem yc.gone{k:Int}{r:Rec}(h:yc p F G L i E pl)(v:On k)(N:(jS [] (F k)).2=0)(f:(iJ (jS [] (F k)).1 r).2=0)(B:r.co=i)(z:r.kind=5)(t:r.aJ<(E:Int))(q:1<=E)(A:G k=F k):yc p (lZ F k r) (lZ G k r) L i E pl:=by
  have s:=h.ch.gone v N f B z t;obtain⟨-,w,-,K,u4⟩:=EZ N f;rw[B]at K;obtain⟨c,ho,C,M,hn⟩:∃c,Hd F i k=aj c/\c.aJ=r.aJ/\c.offered≠ -1/\Hd (lZ F k r) i k=none:=by
    rcases K with⟨x,_,_⟩|⟨x,_,_⟩|⟨c,x,_,_,_,_⟩|⟨c,x,_,_,_,_,_⟩|⟨c,x,ho,C,M,hn⟩
    · omega
    · omega
    · omega
    · omega
    · exact⟨c,ho,C,M,hn⟩
  have g:pl E≠k:=by
    intro e;obtain⟨d,d1,d2⟩:=h.ch.H2 q;rw[e,ho]at d1;cases d1;omega
  have l:∀(e:Nat) j,says i e (lZ F k r j)=says i e (F j):=fun e j=>oG (fun x=>by omega);have a:∀(e:Nat) j,says i e (lZ G k r j)=says i e (G j):=fun e j=>oG (fun x=>by omega);refine⟨s,fun j b x y hc v=>?_,fun j b=>?_,fun j b=>?_,fun e T z=>?_,fun R=>?_,fun m O o P u=>by rw[w _ g];exact h.im m O o P u⟩
  · rcases rF y with y|⟨e,rfl⟩
    · exact h.S1 j b x y hc v
    · omega
  · have hp:=h.pre j b;by_cases e:j=k
    · subst e;rw[upd_same,upd_same,A];exact cl _
    · rw[wV e,wV e];exact hp
  · by_cases e:j=k
    · subst e;exact .inl (fun I=>by rw[l,a,A])
    · rw[w j e];exact(h.Q j b).imp (fun x I=>by rw[l,a];exact x I) id
  · rw[l,a];exact h.D e T z
  · obtain⟨n,d,a1,S,X⟩:=h.run R;exact⟨n,d,by rw[w _ g];exact a1,by rw[<-S];exact E5 E (fun e _ _=>l e _),X⟩
theorem yc.begin{k:Int}{r:Rec}(h:yc p F G L i E pl)(A:On k)(B:(jS [] (F k)).2=0)(f:(iJ (jS [] (F k)).1 r).2=0)(w:r.co=i)(n:i=k)(C:r.kind=1)(hno:∀x∈F k,x.kind≠1)(u:G k=F k)(q:r.image=wR (dO (vB p))):
    E=0/\yc p (lZ F k r) (lZ G k r) L i 1 (fun _=>k):=by
  obtain⟨v,o⟩:=h.ch.begin A B f w n C hno;subst v;obtain⟨-,R,-,z,S⟩:=EZ B f;rw[w]at z;have hn:Hd (lZ F k r) i k=aj ⟨r.co,r.aJ,r.image,-1⟩:=by
    rcases z with⟨x,ho,hn⟩|⟨x,_,_⟩|⟨c,x,_,_,_,_⟩|⟨c,x,_,_,_,_,_⟩|⟨c,x,_,_,_,_⟩
    · exact hn
    · omega
    · omega
    · omega
    · omega
  have s:∀(e:Nat) j,says i e (lZ F k r j)=says i e (F j):=fun e j=>oG (fun x=>by omega);have b:∀(e:Nat) j,says i e (lZ G k r j)=says i e (G j):=fun e j=>oG (fun x=>by omega);refine⟨Z,o,fun j d x g t a=>?_,fun j d=>?_,fun j d=>?_,fun e X C=>by omega,fun v=>?_,fun m I l T N=>?_⟩
  · rcases rF g with g|⟨e,rfl⟩
    · obtain⟨e,P,K,O,-⟩:=h.S1 j d x g t a;omega
    · omega
  · have hp:=h.pre j d;by_cases e:j=k
    · subst e;rw[upd_same,upd_same,u];exact cl _
    · rw[wV e,wV e];exact hp
  · by_cases e:j=k
    · subst e;exact .inl (fun y=>by rw[s,b,u])
    · rw[R j e];exact(h.Q j d).imp (fun x y=>by rw[s,b];exact x y) id
  · refine⟨0,_,hn,?_,q⟩;show []++says i 1 (lZ F k r k)=[];rw[cQ,s];refine says_no fun x g a t he=>?_;obtain⟨e,P,K,O,-⟩:=h.S1 k A x g t a;omega
  · obtain⟨e,m1,m2,-⟩:=(h.ch.M m I l).ok;omega
theorem yc.take{k:Int}{r:Rec}{m:fT}(h:yc p F G L i E pl)(hk:On k)(hR:(jS [] (F k)).2=0)(hok:(iJ (jS [] (F k)).1 r).2=0)(hi:r.co=i)(h2:r.kind=4)(hm:m∈L)(hc:m.co=i)(ht:m.taken=aq)(hto:m.jK=k)(hep:r.aJ=m.aJ)(hri:r.image=m.image)(hno:∀x∈F k,x.kind=4->x.co=i->¬m.aJ<=x.aJ)(UH:G k=F k):
    m.aJ=(E:Int)+1/\1<=E/\m.from_=pl E/\yc p (lZ F k r) (lZ G k r) L i (E+1) (fun e=>if e=E+1 then k else pl e):=by
  obtain⟨t1,t2,t3,hch⟩:=h.ch.take hk hR hok hi h2 hm hc ht hto hep hno;obtain⟨-,u1,-,u3,u4⟩:=EZ hR hok;rw[hi]at u3;obtain⟨ho,hn⟩:Hd F i k=none/\Hd (lZ F k r) i k=aj ⟨r.co,r.aJ,r.image,-1⟩:=by
    rcases u3 with⟨x,_,_⟩|⟨x,ho,hn⟩|⟨c,x,_,_,_,_⟩|⟨c,x,_,_,_,_,_⟩|⟨c,x,_,_,_,_⟩
    · omega
    · exact⟨ho,hn⟩
    · omega
    · omega
    · omega
  have hs:∀(e:Nat) j,says i e (lZ F k r j)=says i e (F j):=fun e j=>oG (fun x=>by omega);have hs2:∀(e:Nat) j,says i e (lZ G k r j)=says i e (G j):=fun e j=>oG (fun x=>by omega);have hpl:∀x,x<=E->(if x=E+1 then k else pl x)=pl x:=fun x hx=>if_neg V
  --it is offered where it was
  obtain⟨e,m1,m2,m3,m4,-⟩:=(h.ch.M m hm hc).ok;obtain⟨-,r0,r1,r2,r3,r4,r5⟩:=m4 ht;obtain rfl:e=E:=by omega
  have hpe:=h.ch.rng e m1 m2;obtain⟨e',o1,o2,o3,o4,o5,o6⟩:=h.ch.O1 _ hpe r0 r1 r3 r2;obtain⟨x,x1,x2,x3⟩:=o6 V;have hx0:=h.ch.P0 _ hpe r0 r1;refine⟨t1,t2,t3,hch,fun j hj y hy hc hk2=>?_,fun j hj=>?_,fun j hj=>?_,fun z h1 h2=>?_,fun hE=>?_,fun y hy hc' ht' hme=>?_⟩
  · rcases rF hy with hy|⟨_,rfl⟩
    · obtain⟨z,a1,a2,a3,a4⟩:=h.S1 j hj y hy hc hk2;exact⟨z,a1,a2,by omega,by rw[hpl z a3];exact a4⟩
    · omega
  · have hp:=h.pre j hj;by_cases e:j=k
    · subst e;rw[upd_same,upd_same,UH];exact cl _
    · rw[wV e,wV e];exact hp
  · by_cases e:j=k
    · subst e;exact .inl (fun e'=>by rw[hs,hs2,UH])
    · rw[u1 j e];exact(h.Q j hj).imp (fun x e'=>by rw[hs,hs2];exact x e') id
  · rw[hs,hs2,hpl z V];by_cases hz:z=e
    · subst hz;rcases h.Q _ hpe with hq|⟨c,c1,c2⟩
      · exact hq z
      · rw[x1]at c1;cases c1;omega
    · exact h.D z h1 V
  · obtain⟨n,d,a1,a2,a3⟩:=h.run t2;obtain⟨d',d1,d2⟩:=h.im m hm hc ht t1;rw[a1]at d1;cases d1;refine⟨n,_,by simp only[eq_self,if_true];exact hn,?_,?_⟩
    · unfold tot;simp only[eq_self,if_true];rw[hs,says_no (fun y hy hk2 hc he=>by
        obtain⟨z,b1,b2,b3,-⟩:=h.S1 k hk y hy hc hk2;have:=he.symm.trans b1
        push_cast at this
        omega),dt,<-a2]
      exact E5 e (fun z h1 h2=>by rw[hpl z h2,hs])
    · simp only;rw[hri,d2,a3]
  · obtain⟨z,b1,b2,b3,-⟩:=(h.ch.M y hy hc').ok
    push_cast at hme
    omega
theorem yc.boot{b:Int->List Rec}{k:Int}(h:yc p F G L i E pl)(f:∀j,b j=if j=k then F k else G j):yc p F b L i E pl:=by
  have d:∀j,j≠k->b j=G j:=fun j a=>by rw[f,if_neg a]
  have c:b k=F k:=by rw[f,if_pos Z]
  refine⟨h.ch,h.S1,fun j a=>?_,fun j a=>?_,fun e g m=>?_,h.run,h.im⟩
  · by_cases e:j=k
    · subst e;rw[c];exact cl _
    · rw[d j e];exact h.pre j a
  · by_cases e:j=k
    · subst e;exact .inl (fun _=>by rw[c])
    · exact(h.Q j a).imp (fun x l=>by rw[d j e];exact x l) id
  · by_cases a:pl e=k
    · rw[a,c]
    · rw[d _ a];exact h.D e g m
end
end Pw
open Go Go.Proofs Go.LX
namespace Pw
open Dk
def Fw(w:pG)(k:Int):List Rec:=mJ (iE w k).d
def Gw(w:pG)(k:Int):List Rec:=wT (iE w k).d
structure SI(w:pG):Prop where
 wr:WR w
 rep:∀k,On k->(jS [] (Fw w k)).2=0
 tale:∀i,∃E pl,yc w.prog (Fw w) (Gw w) w.bQ i E pl
theorem Np{w w':pG}{k:Int}{x:NF}(b:On k)(c:w.places.length=3)(h:w'.places=w.places.set k.toNat x):∀j,iE w' j=if j=k then x else iE w j:=by
  intro j;obtain⟨n,rfl⟩:=bs b.1;have hn:n<w.places.length:=by have:=b.2;omega
  unfold iE;rw[h,bj];by_cases a:0<=j
  · obtain⟨m,rfl⟩:=bs a;rw[lh,lh,ff];by_cases e:n=m
    · subst e;rw[if_pos rfl,if_pos hn,if_pos rfl];rfl
    · rw[if_neg e,if_neg V]
  · unfold idx;rw[if_neg a,if_neg a,if_neg V]
theorem pAt_same{w w':pG}(h:w'.places=w.places):∀j,iE w' j=iE w j:=fun j=>by unfold iE;rw[h]
theorem SI.upG{w:pG}(h:SI w){k:Int}(a:On k)(up:(iE w k).up=ar):Gw w k=Fw w k/\(iE w k).cos=(jS [] (Fw w k)).1:=by
 have hat:=h.wr.at a;exact⟨((dOk hat.disk).still (hat.wait up)).symm,by unfold Fw;rw[hat.cos up]⟩
theorem Ya{w w':pG}{k:Int}{x':NF}{r:Rec}{p:List bA}(h:SI w)(b:On k)(up:(iE w k).up=ar)(N:Noted p (iE w k) x' r)(hp:w'.places=w.places.set k.toNat x'):
    Fw w'=lZ (Fw w) k r/\Gw w'=lZ (Gw w) k r/\(iJ (jS [] (Fw w k)).1 r).2=0:=by
  have e:=Np b h.wr.many hp;refine⟨funext fun j=>?_,funext fun j=>?_,?_⟩
  · unfold Fw lZ;rw[e];by_cases a:j=k
    · subst a;rw[if_pos rfl,if_pos rfl];exact N.flog
    · rw[if_neg a,if_neg a]
  · unfold Gw lZ;rw[e];by_cases a:j=k
    · subst a;rw[if_pos rfl,if_pos rfl];exact N.slog
    · rw[if_neg a,if_neg a]
  · rw[<-(h.upG b up).2];exact N.ok
theorem Yb{w w':pG}(h:w'.places=w.places):Fw w'=Fw w/\Gw w'=Gw w:=
 ⟨funext fun j=>by unfold Fw;rw[pAt_same h],funext fun j=>by unfold Gw;rw[pAt_same h]⟩
def Goes(w w':pG)(i:Int):Prop:=∀E pl,yc w.prog (Fw w) (Gw w) w.bQ i E pl->∃b a,yc w'.prog (Fw w') (Gw w') w'.bQ i b a/\E<=b/\(∀e,1<=e->e<=E->a e=pl e)/\∀(e:Nat) j,On j->e≠E->says i e (Fw w' j)=says i e (Fw w j)
theorem Uy{w w':pG}{k:Int}{r:Rec}(h:SI w)(d:On k)(c:Fw w'=lZ (Fw w) k r)(a:(iJ (jS [] (Fw w k)).1 r).2=0):∀j,On j->(jS [] (Fw w' j)).2=0:=by
  intro j b;rw[c];by_cases e:j=k
  · subst e;exact(EZ (h.rep j b) a).1
  · rw[wV e];exact h.rep j b
theorem G_upd{w w':pG}{k:Int}{r:Rec}(a:Gw w'=lZ (Gw w) k r):∀j,On j->Gw w j<+:Gw w' j:=by
  intro j b;rw[a];by_cases e:j=k
  · subst e;rw[upd_same];exact eC _ _
  · rw[wV e];exact cl _
theorem SI.of{w w':pG}(h:SI w)(d:WR w')(g:∀j,On j->(jS [] (Fw w' j)).2=0)(c:∀k,On k->Gw w k<+:Gw w' k)(b:∀i,Goes w w' i):SI w'/\(∀k,On k->Gw w k<+:Gw w' k)/\∀i,Goes w w' i:=
 ⟨⟨d,g,fun i=>by obtain⟨E,pl,t⟩:=h.tale i;obtain⟨e,a,f,-⟩:=b i E pl t;exact⟨e,a,f⟩⟩,c,b⟩
theorem hd_of{w:pG}(h:SI w){k:Int}(a:On k)(up:(iE w k).up=ar){i:Int}:oP i (iE w k).cos=Hd (Fw w) i k:=by
 unfold Hd;rw[(h.upG a up).2]
theorem WZ{w w':pG}(hp:w'.prog=w.prog)(a:w'.places=w.places){i:Int}(c:∀E pl,yc w.prog (Fw w) (Gw w) w.bQ i E pl->yc w.prog (Fw w) (Gw w) w'.bQ i E pl):Goes w w' i:=by
 intro E pl t;obtain⟨b,d⟩:=Yb a;exact⟨E,pl,by rw[hp,b,d];exact c E pl t,bt _,fun _ _ _=>rfl,fun e j _ _=>by rw[b]⟩
theorem Xz{w:pG}(h:SI w){k:Int}{c:Co}{fuel:Int}{r:Rec}(d:On k)(up:(iE w k).up=ar)(f:oP c.kM (iE w k).cos=aj c)(C:1<=fuel)(S:Sliced w.prog k c fuel r)(a:(iJ (jS [] (Fw w k)).1 r).2=0){l:Int->List Rec}(n:l=Gw w\/l=lZ (Gw w) k r)(i:Int)(E:Nat)(pl:Nat->Int)(t:yc w.prog (Fw w) (Gw w) w.bQ i E pl):
    yc w.prog (lZ (Fw w) k r) l w.bQ i E pl/\(∀(e:Nat) j,e≠E->says i e (lZ (Fw w) k r j)=says i e (Fw w j))/\(r.kind=3->c.kM=i->Hd (lZ (Fw w) k r) i (pl E)=aj ⟨c.kM,c.aJ,c.image,r.place⟩/\c.aJ=(E:Int)/\r.aJ=(E:Int)/\1<=E/\pl E=k):=by
  have q:=pg h.wr.code;have o:=h.rep k d;have m:=(h.upG d up).1;by_cases g:i=r.co
  · subst g;rw[S.co]at t⊢;rw[hd_of h d up]at f;obtain⟨G,u,z,y,A,v,B⟩:=t.ch.H1 k d c f;have p:=v S.runs;have s:r.aJ=(E:Int):=by rw[S.aJ,u,p]
    rcases S.how with⟨s1,s2,s3,s4,s5,s6⟩|⟨s1,s2,s3,s4,s5⟩
    · refine⟨t.slice (fuel:=fuel.toNat) q d o a S.co s1 n m f V S.img s3 s4 s5,fun e j b=>oG fun x=>b V,fun F=>by omega⟩
    · obtain⟨o1,o2⟩:=t.offer d o a S.co s1 n m f;exact⟨o1,fun e j b=>oG (fun x=>by omega),fun _ _=>o2⟩
  · exact⟨t.other o a g n m,fun e j b=>oG fun x=>g x.2.1.symm,fun _ f=>absurd (f.symm.trans S.co.symm) g⟩
theorem SI_step{w w':pG}(h:SI w)(v:WR w')(hp:w'.prog=w.prog)(ev:Ev w w'):SI w'/\(∀k,On k->Gw w k<+:Gw w' k)/\∀i,Goes w w' i:=by
  cases ev with
  |begin k x' b up hno N hpl hm=>
    obtain⟨f,g,d⟩:=Ya h b up N hpl;have I:=(h.upG b up).1;refine h.of v (Uy h b f d) (G_upd g) fun i E pl t=>?_;by_cases q:i=k
    · subst q;obtain⟨L,K⟩:=t.begin b (h.rep i b) d Z Z Z hno I Z;subst L;exact⟨1,_,by rw[hp,f,g,hm];exact K,by omega,fun e h1 h2=>by omega,fun e j _ p=>by rw[f];exact oG (fun x=>by have:=x.1;simp[WY]at this)⟩
    · refine⟨E,pl,by rw[hp,f,g,hm];exact t.other (h.rep k b) d q (.inr Z) I,bt _,fun _ _ _=>rfl,fun e j _ p=>by rw[f];exact oG (fun x=>by have:=x.1;simp[WY]at this)⟩
  |run k c fuel r x' b up hc hf S N hpl hm=>
    obtain⟨f,g,d⟩:=Ya h b up N hpl;refine h.of v (Uy h b f d) (G_upd g) fun i E pl t=>?_;obtain⟨K,O,ho⟩:=Xz h b up hc hf.1 S d (.inr Z) i E pl t;refine⟨E,pl,?_,bt _,fun _ _ _=>rfl,fun e j _ p=>by rw[f];exact O e j p⟩;rw[hp,f,g];by_cases h3:r.kind=3
    · rw[if_pos h3]at hm;refine K.bQ fun m s=>?_;rw[hm]at s;refine(Uw h.wr s).imp id fun e l=>?_;subst e;have n:c.kM=i:=l;obtain⟨o1,o2,o3,o4,o5⟩:=ho h3 n;refine⟨⟨E,o4,bt _,by show c.aJ+1=_;omega,fun _=>⟨o5.symm,r,?_,h3,by rw[S.co];exact n,o3,Z⟩,fun A=>(by cases A)⟩,fun _ _=>⟨_,o1,Z⟩⟩;rw[o5,upd_same];simp
    · rw[if_neg h3]at hm;rw[hm];exact K
  |tear k c r x' b up hc S T hpl hm=>
    have e:=Np b h.wr.many hpl;have g:Gw w'=Gw w:=funext fun j=>by
      unfold Gw;rw[e];by_cases a:j=k
      · subst a;rw[if_pos rfl];exact T.slog
      · rw[if_neg a]
    have d:(iJ (jS []<|Fw w k).1 r).2=0:=by rw[<-(h.upG b up).2];exact T.ok
    rcases T.flog with hf|hf
    · have f:Fw w'=Fw w:=funext fun j=>by
        unfold Fw;rw[e];by_cases a:j=k
        · subst a;rw[if_pos rfl];exact hf
        · rw[if_neg a]
      refine h.of v (fun j a=>by rw[f];exact h.rep j a) (fun j a=>by rw[g];exact cl _) (fun i E pl t=>?_);exact⟨E,pl,by rw[hp,f,g,hm];exact t,bt _,fun _ _ _=>rfl,fun e j _ _=>by rw[f]⟩
    · have f:Fw w'=lZ (Fw w) k r:=funext fun j=>by
        unfold Fw lZ;rw[e];by_cases a:j=k
        · subst a;rw[if_pos rfl,if_pos rfl];exact hf
        · rw[if_neg a,if_neg a]
      refine h.of v (Uy h b f d) (fun j a=>by rw[g];exact cl _) (fun i E pl t=>?_);obtain⟨K,O,-⟩:=Xz h b up hc V S d (.inl Z) i E pl t;exact⟨E,pl,by rw[hp,f,g,hm];exact K,bt _,fun _ _ _=>rfl,fun e j _ p=>by rw[f];exact O e j p⟩
  |send k c b up hc ho hpl hm=>
    obtain⟨e1,P⟩:=Yb hpl;refine h.of v (fun j a=>by rw[e1];exact h.rep j a) (fun j a=>by rw[P];exact cl _) (fun i=>WZ hp hpl (fun E pl t=>t.bQ (fun m s=>?_)));rw[hm]at s;refine(Uw h.wr s).imp id fun e l=>?_;subst e;have n:c.kM=i:=l;rw[hd_of h b up,n]at hc;obtain⟨L,b1,b2,b3,b4,b5,b6⟩:=t.ch.H1 k b c hc;refine⟨⟨L,b2,b3,by show c.aJ+1=_;omega,fun _=>⟨b4.symm,?_⟩,fun A=>(by cases A)⟩,fun _ he=>?_⟩
    · rw[b4];exact b6 V
    · have a6:c.aJ+1=(E:Int)+1:=he;obtain rfl:L=E:=by omega
      exact⟨c,by rw[b4];exact hc,Z⟩
  |gone m c x' q A up hc he ho N hpl hm=>
    have u:=h.wr.mok m q;have b:On m.jK:=u.2.1;obtain⟨f,g,d⟩:=Ya h b up N hpl;have I:=(h.upG b up).1;refine h.of v (Uy h b f d) (G_upd g) fun i E pl t=>?_;have X:∀{F G:Int->List Rec},yc w.prog F G w.bQ i E pl->yc w.prog F G w'.bQ i E pl:=fun t=>t.bQ fun y C=>.inl<|hm y C;refine⟨E,pl,?_,bt _,fun _ _ _=>rfl,fun e j _ p=>by rw[f];exact oG (fun x=>by have:=x.1;simp at this)⟩;rw[hp,f,g];refine X ?_;by_cases o:i=m.co
    · subst o;obtain⟨L,m1,m2,m3,-,m5⟩:=(t.ch.M m q Z).ok;have:=(m5 A).1;exact t.gone b (h.rep _ b) d Z Z (by show m.aJ-1<_;omega) V I
    · exact t.other (h.rep _ b) d o (.inr Z) I
  |take m x' q A up hno N hpl hm=>
    have u:=h.wr.mok m q;have b:On m.jK:=u.2.1;obtain⟨f,g,d⟩:=Ya h b up N hpl;have I:=(h.upG b up).1;refine h.of v (Uy h b f d) (G_upd g) fun i E pl t=>?_;have O:∀(e:Nat) j,says i e (Fw w' j)=says i e (Fw w j):=fun e j=>by rw[f];exact oG (fun x=>by have:=x.1;simp at this)
    by_cases o:i=m.co
    · subst o;have Q:∀x∈Fw w m.jK,x.kind=4->x.co=m.co->¬m.aJ<=x.aJ:=by
        intro x hx h4 l a5;have:hadP (iE w m.jK) m.co m.aJ=true:=nh.2 ⟨x,hx,by simp[h4,l,a5]⟩;rw[hno]at this;cases this
      obtain⟨t1,t2,t3,K⟩:=t.take b (h.rep _ b) d Z Z q Z A Z Z Z Q I;refine⟨E+1,fun e=>if e=E+1 then m.jK else pl e,?_,by omega,fun e h1 h2=>if_neg V,fun e j _ _=>O e j⟩;rw[hp,f,g];refine K.bQ fun y C=>(hm y C).imp id fun e l=>?_;subst e;refine⟨⟨E,t2,by omega,t1,fun x=>(by cases x),fun _=>⟨bt _,?_,?_⟩⟩,fun x=>(by cases x)⟩
      · show m.jK=_;simp only[eq_self,if_true]
      · show m.from_=_;rw[t3,if_neg V]
    · refine⟨E,pl,?_,bt _,fun _ _ _=>rfl,fun e j _ _=>O e j⟩;rw[hp,f,g];refine(t.other (h.rep _ b) d o (.inr Z) I).bQ fun y C=>(hm y C).imp id fun e l=>?_;subst e;exact absurd l.symm o
  |again m q A up had hpl hm=>
    obtain⟨e1,P⟩:=Yb hpl;have b:On m.jK:=(h.wr.mok m q).2.1;refine h.of v (fun j a=>by rw[e1];exact h.rep j a) (fun j a=>by rw[P];exact cl _) (fun i=>WZ hp hpl (fun E pl t=>t.bQ (fun y C=>(hm y C).imp id (fun e l=>?_))));subst e;have n:m.co=i:=l;subst n;obtain⟨L,m1,m2,m3,m4,-⟩:=(t.ch.M m q Z).ok;obtain⟨m5,r0,r1,r2,r3,r4,r5⟩:=m4 A;obtain⟨x,hx,B⟩:=nh.1 had;simp only[cL,decide_eq_true_eq]at B;obtain⟨z,a1,a2,a3,a4⟩:=t.ch.T1 m.jK b x hx B.1.2<|.inr B.1.1;obtain⟨e',o1,o2,o3,o4,o5,o6⟩:=t.ch.O1 _ (t.ch.rng L m1 m2) r0 r1 r3 r2;obtain rfl:e'=L:=by omega
    have a0:e'<E:=by have:=B.2;omega
    refine⟨⟨e',m1,m2,m3,fun x=>(by cases x),fun _=>⟨by omega,?_,m5⟩⟩,fun x=>(by cases x)⟩;show m.jK=_;rw[<-r5];exact o5 a0
  |still hpl hm=>
    obtain⟨e1,P⟩:=Yb hpl;exact h.of v (fun j a=>by rw[e1];exact h.rep j a) (fun j a=>by rw[P];exact cl _) (fun i=>WZ hp hpl (fun E pl t=>t.bQ (fun y C=>.inl (hm y C))))
  |crash k b up hpl hm=>
    have e:=Np b h.wr.many hpl;have g:Gw w'=Gw w:=funext fun j=>by
      unfold Gw;rw[e];by_cases a:j=k
      · subst a;rw[if_pos rfl]
      · rw[if_neg a]
    have f:Fw w'=Fw w:=funext fun j=>by
      unfold Fw;rw[e];by_cases a:j=k
      · subst a;rw[if_pos rfl]
      · rw[if_neg a]
    exact h.of v (fun j a=>by rw[f];exact h.rep j a) (fun j a=>by rw[g];exact cl _) (fun i E pl t=>⟨E,pl,by rw[hp,f,g,hm];exact t,bt _,fun _ _ _=>rfl,fun e j _ _=>by rw[f]⟩)
  |boot k b down ok hpl hm=>
    have e:=Np b h.wr.many hpl;have hat:=h.wr.at b;obtain⟨b1,b2,b3,b4⟩:=boot_disk hat.disk;have g:∀j,Gw w' j=if j=k then Fw w k else Gw w j:=fun j=>by
      unfold Gw Fw;rw[e];by_cases a:j=k
      · subst a;rw[if_pos rfl,if_pos rfl];exact b2
      · rw[if_neg a,if_neg a]
    have f:Fw w'=Fw w:=funext fun j=>by
      unfold Fw;rw[e];by_cases a:j=k
      · subst a;rw[if_pos rfl];exact b3
      · rw[if_neg a]
    refine h.of v (fun j a=>by rw[f];exact h.rep j a) (fun j a=>?_) (fun i E pl t=>⟨E,pl,by rw[hp,f,hm];exact t.boot g,bt _,fun _ _ _=>rfl,fun e j _ _=>by rw[f]⟩);rw[g];by_cases R:j=k
    · subst R;rw[if_pos rfl];exact(dOk hat.disk).pre
    · rw[if_neg R];exact cl _
theorem says_pre{i:Int}{e:Nat}{a b:List Rec}(h:a<+:b):says i e a<+:says i e b:=by
 obtain⟨t,rfl⟩:=h;rw[Px];exact eC _ _
theorem tot_more{F:Int->List Rec}{i:Int}{pl:Nat->Int}:∀(d E:Nat),tot F i pl E<+:tot F i pl (E+d)
 |0,E=>cl _
 |d+1,E=>(tot_more d E).trans (by
  rw[show E+(d+1)=(E+d)+1 by omega];show tot F i pl (E+d)<+:tot F i pl (E+d)++says i (E+d+1) (F<|pl<|E+d+1);exact eC _ _)
theorem tot_grows{p q:List bA}{F G h b:Int->List Rec}{L L':List fT}{i:Int}{E d:Nat}{pl a:Nat->Int}(t:yc p F G L i E pl)(o:yc q h b L' i d a)(s:E<=d)(f:∀e,1<=e->e<=E->a e=pl e)(l:∀k,On k->G k<+:b k)(r:∀(e:Nat) j,On j->e≠E->says i e (h j)=says i e (F j)):tot G i pl E<+:tot b i a d:=by
 have c:tot G i pl E<+:tot b i a E:=by
  cases E with
  |zero=>exact cl _
  |succ n=>
   unfold tot;have m:tot G i pl n=tot b i a n:=E5 n (fun e c u=>by
    have g:=t.ch.rng e c V;have d1:=t.D e c V;have d2:=o.D e c V;rw[f e c V]at d2⊢;rw[d1,d2,r e _ g V])
   rw[m,f (n+1) V (bt _)];exact(List.prefix_append_right_inj _).2<|says_pre<|l _<|t.ch.rng _ V<|bt _
 refine c.trans ?_;have:=tot_more (F:=b) (i:=i) (pl:=a) (d-E) E;rw[show E+(d-E)=d by omega]at this;exact this
end Pw
open Go Go.Proofs Go.LX
namespace Pw
open Dk
def Nq(p:List bA):pG:=⟨p,[⟨[],zD,ar⟩,⟨[],zD,ar⟩,⟨[],zD,ar⟩],[]⟩
theorem zD_ok:iY zD=0/\wT zD=[]/\mJ zD=[]:=by
 obtain⟨k1,k2⟩:=aax (a:=[]) (w:=[]) Jo zq3 (by simp[txt]);have e:(⟨txt [],[]⟩:iI)=zD:=rfl;rw[e]at k1 k2;exact⟨k1,k2,by rw[(dOk k1).still Z,k2]⟩
theorem pAt_new(p:List bA)(k:Int):(iE (Nq p) k).d=zD/\(iE (Nq p) k).cos=[]:=by
  unfold iE Nq idx;by_cases a:0<=k
  · rw[if_pos a];simp only
    match h:k.toNat with
    |0=>exact⟨Z,Z⟩
    |1=>exact⟨Z,Z⟩
    |2=>exact⟨Z,Z⟩
    |n+3=>exact⟨rfl,rfl⟩
  · rw[if_neg a];exact⟨Z,Z⟩
theorem si_new{p:List bA}(hp:Js p=0):SI (Nq p):=by
  obtain⟨t,v,n⟩:=zD_ok;have b:∀k,Fw (Nq p) k=[]:=fun k=>by unfold Fw;rw[(pAt_new p k).1,n]
  have q:∀k,Gw (Nq p) k=[]:=fun k=>by unfold Gw;rw[(pAt_new p k).1,v]
  have u:∀i k,Hd (Fw<|Nq p) i k=none:=fun i k=>by unfold Hd;rw[b];rfl
  have j:PlR p ⟨[],zD,ar⟩:=⟨t,fun h=>(by cases h),fun _=>rfl,fun _=>(by simp only[n];rfl),fun c g=>(by cases g)⟩;have f:∀m,m∈(Nq p).bQ->False:=fun m f=>by simp[Nq]at f
  have l:∀i,zY (Fw<|Nq p) (Nq p).bQ i 0 (fun _=>0):=fun i=>
    { rng:=fun e o s=>by omega
      first:=fun h=>by omega
      P0:=fun k d r a=>by rw[b]at a;cases a
      T1:=fun k d r a=>by rw[b]at a;cases a
      T2:=fun e o s=>by omega
      O1:=fun k d r a=>by rw[b]at a;cases a
      H1:=fun k d c g=>by rw[u]at g;cases g
      H2:=fun h=>by omega
      M:=fun m h=>(f m h).elim}
  refine⟨⟨hp,Z,by simp[Nq],fun m h=>(f m h).elim,fun x w=>?_,fun m h=>(f m h).elim⟩,fun k d=>(by rw[b];rfl),fun i=>⟨0,fun _=>0,?_⟩⟩
  · have:x=⟨[],zD,ar⟩:=by simpa[Nq]using w
    rw[this];exact j
  · exact
      { ch:=l i
        S1:=fun k d r a=>by rw[b]at a;cases a
        pre:=fun k d=>by rw[b,q];exact cl _
        Q:=fun k d=>.inl fun e=>by rw[b,q]
        D:=fun e o s=>by omega
        run:=fun h=>by omega
        im:=fun m h=>(f m h).elim}
def XA(w:pG):List Hap->pG
 |[]=>w
 |x::l=>if(fI w x).2≠0 then XA w l else XA (fI w x).1 l
theorem si_play:∀(l:List Hap) (w:pG),SI w->SI (XA w l)/\(XA w l).prog=w.prog
  |[],w,h=>⟨h,rfl⟩
  |x::l,w,h=>by
    unfold XA;by_cases a:(fI w x).2=0
    · rw[if_neg V];obtain⟨c,b,d⟩:=step_ev h.wr (w':=(fI w x).1)<|js Z a;obtain⟨k1,k2⟩:=si_play l _ (SI_step h c b d).1;exact⟨k1,k2.trans b⟩
    · rw[if_pos a];exact si_play l w h
def yK(w:pG)(i:Int):List Int:=(qv 101).flatMap fun e=>w.places.flatMap fun x=>says i e (wT x.d)
theorem three{w:pG}(h:w.places.length=3):w.places=[iE w 0,iE w 1,iE w 2]:=by
 match hp:w.places,h with
 |[a,b,c],_=>
  have f:iE w 0=a:=by unfold iE idx;rw[hp];rfl
  have d:iE w 1=b:=by unfold iE idx;rw[hp];rfl
  have e:iE w 2=c:=by unfold iE idx;rw[hp];rfl
  rw[f,d,e]
theorem on_three{k:Int}(h:On k):k=0\/k=1\/k=2:=by have:=h.1;have:=h.2;omega
theorem said_at{w:pG}(h:SI w){i:Int}{E:Nat}{pl:Nat->Int}(t:yc w.prog (Fw w) (Gw w) w.bQ i E pl)(e:Nat):(w.places.flatMap fun x=>says i e (wT x.d))=if 1<=e/\e<=E then says i e (Gw w (pl e))else []:=by
  have a:∀k,On k->¬(1<=e/\e<=E/\pl e=k)->says i e (Gw w k)=[]:=by
    intro k b hn;refine says_no fun r j m n c=>hn ?_;obtain⟨z,o,l,f,g⟩:=t.S1 k b r ((t.pre k b).subset j) n m;obtain rfl:z=e:=by omega
    exact⟨l,f,g⟩
  rw[three h.wr.many];simp only[eK,sb,dt];show says i e (Gw w 0)++(says i e (Gw w 1)++says i e (Gw w 2))=_;by_cases c:1<=e/\e<=E
  · rw[if_pos c];rcases on_three (t.ch.rng e c.1 c.2)with b|b|b
    · rw[a 1 ⟨by omega,by omega⟩ (by rw[b];omega),a 2 ⟨by omega,by omega⟩ (by rw[b];omega),b];simp
    · rw[a 0 ⟨by omega,by omega⟩ (by rw[b];omega),a 2 ⟨by omega,by omega⟩ (by rw[b];omega),b];simp
    · rw[a 0 ⟨by omega,by omega⟩ (by rw[b];omega),a 1 ⟨by omega,by omega⟩ (by rw[b];omega),b];simp
  · rw[if_neg c,a 0 ⟨by omega,by omega⟩ (fun x=>c ⟨x.1,x.2.1⟩),a 1 ⟨by omega,by omega⟩ (fun x=>c ⟨x.1,x.2.1⟩),a 2 ⟨by omega,by omega⟩ (fun x=>c ⟨x.1,x.2.1⟩)];rfl
theorem epoch_le{w:pG}(h:SI w){i:Int}{E:Nat}{pl:Nat->Int}(t:yc w.prog (Fw w) (Gw w) w.bQ i E pl):E<=100:=by
  by_cases a:1<=E
  · obtain⟨r,b,f,e,-⟩:=t.ch.T2 E a<|bt _;have c:=t.ch.rng E a<|bt _;have d:=(dOk (h.wr.at c).disk).good r b;have:=(Us r (by rw[<-rec_eq];exact d.1)).aJ;omega
  · omega
theorem said_tot{w:pG}(h:SI w){i:Int}{E:Nat}{pl:Nat->Int}(t:yc w.prog (Fw w) (Gw w) w.bQ i E pl):yK w i=tot (Gw w) i pl E:=by
  have c:=epoch_le h t;unfold yK;have a:∀n,n<=101->(qv n).flatMap (fun e=>w.places.flatMap fun x=>says i e<|wT x.d)=tot (Gw w) i pl (min (n-1) E):=by
    intro n;induction n with
    |zero=>intro _;rfl
    |succ n ih=>
      intro hn;rw[nv,jG,ih V,ly,said_at h t];cases n with
      |zero=>rw[if_neg V,dt]
      |succ m=>
        by_cases b:m+1<=E
        · rw[if_pos ⟨by omega,b⟩,show min (m+1-1) E=m by omega,show min (m+1+1-1) E=m+1 by omega];rfl
        · rw[if_neg V,dt,show min (m+1-1) E=E by omega,show min (m+1+1-1) E=E by omega]
  rw[a 101 (bt _),show min (101-1) E=E by omega]
theorem Su{w:pG}(h:SI w){x:Hap}(j:(fI w x).2=0)(i:Int):yK w i<+:yK (fI w x).1 i:=by
 obtain⟨k,n,l⟩:=step_ev h.wr (w':=(fI w x).1)<|js Z j;obtain⟨c,e,d⟩:=SI_step h k n l;obtain⟨E,pl,t⟩:=h.tale i;obtain⟨o,g,a,f,m,b⟩:=d i E pl t;rw[said_tot h t,said_tot c a];exact tot_grows t a f m e b
end Pw
open Go Go.Proofs Go.LX
namespace Pw
open Dk
theorem setP_self{w:pG}{k:Int}(h:0<=k/\k<w.places.length):EY w k (iE w k)=w:=by
  have:=(pAt_eq h).2.2;unfold EY;have e:w.places.set k.toNat (iE w k)=w.places:=by
    apply List.ext_getElem?;intro i;rw[ff];by_cases a:k.toNat=i
    · subst a;rw[if_pos rfl,if_pos (kp.1 this).1,this]
    · rw[if_neg a]
  rw[e]
def Uz(w:pG):List Hap->pG×List Int
 |[]=>(w,[])
 |x::l=>let v:=if(fI w x).2=0 then(fI w x).1 else w;((Uz v l).1,(fI w x).2::(Uz v l).2)
theorem runL_cons(w:pG)(x:Hap)(l:List Hap):Uz w (x::l)=((Uz (if(fI w x).2=0 then(fI w x).1 else w) l).1,(fI w x).2::(Uz (if(fI w x).2=0 then(fI w x).1 else w) l).2):=rfl
end Pw
open Go Go.Proofs Go.LX
namespace Pw
open Dk
def Ar(x:kV):Hap:=⟨x.kind,x.place,x.co,x.n⟩
def NY(x:NF):fD:=⟨x.cos,x.d.safe,x.d.wait,x.up⟩
def tN(w:pG):aZ:=⟨w.prog,w.places.map NY,w.bQ⟩
theorem idx_map{α β:Type}(f:α->β)(l:List α)(k:Int):idx (l.map f) k=(idx l k).map f:=by
 unfold idx;split<;>simp
theorem g_at{w:pG}{k:Int}(h:0<=k/\k<w.places.length):idx (tN w).places k=aj (NY (iE w k)):=by
 show idx (w.places.map NY) k=_;rw[idx_map,(pAt_eq h).1];rfl
theorem g_set(w:pG)(k:Int)(x:NF):(⟨w.prog,(tN w).places.set k.toNat (NY x),w.bQ⟩:aZ)=tN (EY w k x):=by
 unfold tN EY;simp only[List.map_set]
theorem UA{w:pG}(h:WR w){k:Int}(a:On k):0<=k/\k<w.places.length:=by
 have:=h.many;have:=a.1;have:=a.2;omega
theorem UB{d:iI}(h:iY d=0):d.wait.length<=60000:=by
 have:=(Dk.wO h).1;omega
theorem put_wait(d:iI)(r:Rec):(wS d r).1.wait.length<=60000:=by
 unfold wS putT;repeat' split
 all_goals first|(show([]:Str).length<=60000;simp)|(simp only[bc,bq,ez];omega)
theorem note_g{w:pG}(h:WR w){k:Int}(g:On k){r:Rec}(j:Qx r){N:Nat}(hN:60002<=N):
    vz N (tN w) k r=aj ((pq (iE w k) r).2,tN (EY w k (pq (iE w k) r).1)):=by
  have a:=UA h g;have hp:=h.at g;have l:=UB hp.disk;have i:=put_wait (iE w k).d r;have f:tN w=tN (EY w k<|iE w k):=by rw[setP_self a]
  unfold vz pq;rw[g_at a];simp only[bnd];rw[next_eq N V];simp only[bnd];by_cases b:(iJ (iE w k).cos r).2=0
  · rw[dF (show¬(iJ (NY (iE w k)).cos r).2≠0 from fun h=>h b),cond_false,if_neg (show¬(iJ (iE w k).cos r).2≠0 from fun h=>h b)];show(IP N (iE w k).d r).bind _=_;rw[put_eq N hN _ r V j];simp only[bnd];unfold Kj;by_cases e:(wS (iE w k).d r).2=0
    · rw[dF (show¬(wS (iE w k).d r).2≠0 from fun h=>h e),cond_false,if_neg (show¬(wS (iE w k).d r).2≠0 from fun h=>h e)];show(Lx N (wS (iE w k).d r).1).bind _=_;rw[sync_eq N hN _ V];simp only[bnd];by_cases c:(GD (wS (iE w k).d r).1).2=0
      · rw[dF (show¬(GD (wS (iE w k).d r).1).2≠0 from fun h=>h c),cond_false,if_neg (show¬(GD (wS (iE w k).d r).1).2≠0 from fun h=>h c)];rw[<-g_set,List.set_set];rfl
      · rw[dT (show(GD (wS (iE w k).d r).1).2≠0 from c),cond_true,if_pos c,<-f]
    · rw[dT (show(wS (iE w k).d r).2≠0 from e),cond_true,if_pos e,<-f]
  · rw[dT (show(iJ (NY (iE w k)).cos r).2≠0 from b),cond_true,if_pos b,<-f];rfl
theorem tear_g{w:pG}(h:WR w){k:Int}(e:On k){r:Rec}(i:Qx r)(n:Int){N:Nat}(hN:60002<=N):
    Jd N (tN w) k r n=aj ((QP (iE w k) r n).2,tN (EY w k (QP (iE w k) r n).1)):=by
  have a:=UA h e;have hp:=h.at e;have j:=UB hp.disk;have g:=put_wait (iE w k).d r;have f:tN w=tN (EY w k<|iE w k):=by rw[setP_self a]
  unfold Jd QP;rw[g_at a];simp only[bnd];rw[next_eq N V];simp only[bnd];by_cases b:(iJ (iE w k).cos r).2=0
  · rw[dF (show¬(iJ (NY (iE w k)).cos r).2≠0 from fun h=>h b),cond_false,if_neg (show¬(iJ (iE w k).cos r).2≠0 from fun h=>h b)];show(IP N (iE w k).d r).bind _=_;rw[put_eq N hN _ r V i];simp only[bnd];unfold Kn;by_cases c:(wS (iE w k).d r).2=0
    · rw[dF (show¬(wS (iE w k).d r).2≠0 from fun h=>h c),cond_false,if_neg (show¬(wS (iE w k).d r).2≠0 from fun h=>h c)];show(Jc N (wS (iE w k).d r).1 _).bind _=_;rw[crash_eq N hN _ _ V];simp only[bnd];rw[<-g_set];rfl
    · rw[dT (show(wS (iE w k).d r).2≠0 from c),cond_true,if_pos c,<-f]
  · rw[dT (show(iJ (NY (iE w k)).cos r).2≠0 from b),cond_true,if_pos b,<-f];rfl
theorem send_g(w:pG)(m:fT):BM (tN w) m=aj (tN ⟨w.prog,w.places,GG w.bQ m⟩):=by
  unfold BM;show(OQ w.bQ m).bind _=_;rw[wSend];simp only[bnd];unfold GG;by_cases a:dP w.bQ=0
  · rw[if_neg (show¬dP w.bQ≠0 from fun h=>h a)];by_cases b:dP [m]=0
    · rw[if_neg (show¬dP [m]≠0 from fun h=>h b),if_neg (show¬(dP w.bQ≠0\/dP [m]≠0) by simp[a,b])];rw[dT rfl,cond_true];rfl
    · rw[if_pos (show dP [m]≠0 from b),if_pos (show(dP w.bQ≠0\/dP [m]≠0)from .inr b)];rw[dF b,cond_false]
  · rw[if_pos (show dP w.bQ≠0 from a),if_pos (show(dP w.bQ≠0\/dP [m]≠0)from .inl a)];rw[dF a,cond_false]
theorem offer_g(w:pG)(k:Int)(c:Co)(a:kN (c.aJ+1)):FW (tN w) k c=aj (tN ⟨w.prog,w.places,GG w.bQ (Sr k c)⟩):=by
 unfold FW;rw[kC a,send_g];rfl
theorem Qk{x:NF}(h:iY x.d=0){N:Nat}(hN:60002<=N):ou N (⟨(NY x).safe,(NY x).wait⟩:iI)=aj ((Qy x.d).1,mJ x.d,0):=by
 show ou N x.d=_;have:=UB h;rw[aaw N hN _ V];unfold Uu;rw[if_neg (show¬iY x.d≠0 from fun e=>e h)];rfl
theorem any_find{α:Type}{p:α->Bool}{l:List α}:(l.findIdx? p).isSome=l.any p:=by
  induction l with
  |nil=>rfl
  |cons x l ih=>
    rw[List.findIdx?_cons,List.any_cons];cases p x
    · simp[ih]
    · simp
theorem had_g{x:NF}(h:iY x.d=0)(i e:Int){N:Nat}(hN:60002<=N):P7 N (NY x) i e=aj (hadP x i e):=by
 unfold P7 hadP;rw[Qk h hN];simp only[bnd,bj];rw[UQ (fun r:Rec=>(ab ((r.kind:Int)=4)&&ab ((r.co:Int)=i))&&ab ((e:Int)<=r.aJ)) (fun n=>aj (ab ((0:Int)<=n))) (mJ x.d) (fun n r b a=>by
  unfold Kl;rw[show idx (mJ x.d) (n:Int)=aj r by unfold idx;rw[if_pos V,bj];exact a];rfl)]
 rw[<-any_find];cases hf:(mJ x.d).findIdx? (fun r:Rec=>(ab ((r.kind:Int)=4)&&ab ((r.co:Int)=i))&&ab ((e:Int)<=r.aJ))with
 |none=>rfl
 |some n=>simp only[pD];rw[dT V]
end Pw
open Go Go.Proofs Go.LX
namespace Pw
open Dk
theorem nn{x:Int}(h:x=0):¬x≠0:=fun e=>e h
theorem find_g(a:List Co)(i:Int):(qL a i=aj (-1)/\oP i a=none)\/∃(n:Int) (c:Co),qL a i=aj n/\oP i a=aj c/\idx a n=aj c/\0<=n:=by
  rw[findEq];unfold oP;cases h:a.findIdx? (fun x=>ab (x.kM=i))with
  |none=>
    refine .inl ⟨Z,?_⟩;rw[oA]at h;rw[List.find?_eq_none];intro x d;rw[h x d];simp
  |some n=>
    obtain⟨b,g,f⟩:=List.findIdx?_eq_some_iff_getElem.1 h;refine .inr ⟨n,a[n],Z,?_,?_,by omega⟩
    · rw[List.find?_eq_some_iff_getElem];exact⟨g,n,b,Z,fun j e=>by simpa using f j e⟩
    · unfold idx;rw[if_pos V,bj];exact bh b
theorem slice_g{w:pG}(h:WR w){k:Int}{c:Co}{fuel:Int}(y:1<=fuel/\fuel<=2000){N:Nat}(hN:60002<=N):
    ∃r,JY N (tN w) k c fuel=aj (r,(tL w.prog k c fuel).2,tN w)/\((tL w.prog k c fuel).2=0->r=(tL w.prog k c fuel).1):=by
  have hp:=h.code;have v:=pg hp;unfold JY tL;by_cases i:0<=c.offered
  · rw[dT i,cond_true,if_pos i];exact⟨_,Z,fun _=>rfl⟩
  · rw[dF i,cond_false,if_neg i];show∃r,(rG N w.prog c.image).bind _=_/\_;rw[D8 _ _ V];simp only[bnd];unfold Jb;by_cases g:(dQ w.prog c.image).2=0
    · rw[dF (nn g),cond_false,if_neg (nn g)];have j:=img_of hp g;have st:=Ur j.st;generalize (dQ w.prog c.image).1=s at j st⊢;have go:∀t:LX.State,t=wake s->t.status=0->(wake s).status=0->∃r,wJ N (tN w) fuel c t.frames t.cells t.status t.bT=aj (r,0,tN w)/\r=(⟨2,c.kM,c.aJ,0,(wZ w.prog fuel.toNat [] 0<|wake s).2.1,wR<|dO (wZ w.prog fuel.toNat [] 0<|wake s).1⟩:Rec):=by
        intro t u x m;unfold wJ;show∃r,(Wp N w.prog t fuel).bind _=_/\_;rw[vm_Run_eq _ _ _ V,u];rw[if_neg (nn hp),if_neg (nn (Jk.2 st)),if_neg V,if_neg (nn m)];simp only[bnd];rw[dF V,cond_false];show∃r,(EP N w.prog _).bind _=_/\_;rw[Uo _ _ V,if_neg (nn hp),if_neg (nn (Jk.2 (WS v fuel.toNat [] 0 _ st zq3).1))];exact⟨_,Z,Z⟩
      by_cases b:s.status=3
      · have a:wake s=⟨s.frames,s.cells,0,0⟩:=by unfold wake;rw[if_pos b]
        by_cases d:0<=s.bT/\s.bT<3/\s.bT≠k
        · rw[dT b,cond_true,show((ab ((0:Int)<=s.bT)&&ab ((s.bT:Int)<3))&&ab ((s.bT:Int)≠k))=ar by
            rw[dT d.1,dT d.2.1,dT d.2.2];rfl,cond_true,if_pos ⟨b,d⟩]
          exact⟨_,Z,fun _=>rfl⟩
        · rw[dT b,cond_true,show((ab ((0:Int)<=s.bT)&&ab ((s.bT:Int)<3))&&ab ((s.bT:Int)≠k))=aq by
            simp only[Bool.and_eq_false_iff,decide_eq_false_iff_not];by_cases o:0<=s.bT
            · by_cases p:s.bT<3
              · exact .inr fun q=>d ⟨o,p,q⟩
              · exact .inl<|.inr p
            · exact .inl (.inl o),cond_false,if_neg (fun e=>d e.2)]
          show∃r,(TR w.prog s).bind _=_/\_;rw[vm_Wake_eq,if_neg (nn hp),if_neg (nn (Jk.2 j.st)),if_neg (show¬s.status≠3 from fun e=>e b)];simp only[bnd];rw[dF V,cond_false,if_neg (nn (by rw[a]))];obtain⟨r,l,n⟩:=go ⟨s.frames,s.cells,0,0⟩ a.symm Z (by rw[a]);exact⟨r,l,fun _=>n⟩
      · have a:wake s=s:=by unfold wake;rw[if_neg b]
        rw[dF b,cond_false,if_neg (fun e=>b e.1)];by_cases f:s.status=0
        · rw[if_neg (nn (by rw[a];exact f))];obtain⟨r,l,n⟩:=go s a.symm f (by rw[a];exact f);exact⟨r,l,fun _=>n⟩
        · rw[if_pos (show(wake s).status≠0 by rw[a];exact f)];unfold wJ;show∃r,(Wp N w.prog s fuel).bind _=_/\_;rw[vm_Run_eq _ _ _ V];rw[if_neg (nn hp),if_neg (nn (Jk.2 j.st)),if_neg V,if_pos f];exact⟨_,Z,fun e=>absurd e zq3⟩
    · rw[dT (show(dQ w.prog c.image).2≠0 from g),cond_true,if_pos g];exact⟨_,Z,fun _=>rfl⟩
theorem co_of{w:pG}(h:WR w){k:Int}(a:On k){c:Co}(b:c∈(iE w k).cos):coOk c:=(h.at a).good.1.ok c b
theorem img_I64{p:List bA}(hp:Js p=0){l:List Int}(h:(dQ p l).2=0):∀x∈l,kN x:=(img_b (pg hp) (img_of hp h)).1
def Is(o:Option (Int×aZ))(q:pG×Int):Prop:=∃v,o=aj (q.2,tN v)/\(q.2=0->v=q.1)
theorem Is.mk(v:pG)(e:Int):Is (aj (e,tN v)) (v,e):=⟨v,rfl,fun _=>rfl⟩
theorem Is.err{v u:pG}{e:Int}(h:e≠0):Is (aj (e,tN v)) (u,e):=⟨v,rfl,fun a=>absurd a h⟩
theorem Is.pair{o:Option (Int×aZ)}{q:pG×Int}(h:Is o q):Is (o.bind fun y=>aj (y.1,y.2)) q:=by
 obtain⟨v,rfl,a⟩:=h;exact⟨v,Z,a⟩
def runK(w:pG)(b a m:Int)(c:Co)(fuel:Int):pG×Int:=
 if fuel<1\/2000<fuel then(w,3)else
 if(tL w.prog a c fuel).2≠0 then(w,(tL w.prog a c fuel).2)else
 if b=9 then(EY w a (QP (iE w a) (tL w.prog a c fuel).1 m).1,(QP (iE w a) (tL w.prog a c fuel).1 m).2)else
 if(pq (iE w a) (tL w.prog a c fuel).1).2≠0 then(w,(pq (iE w a) (tL w.prog a c fuel).1).2)else
 if(tL w.prog a c fuel).1.kind=3 then(⟨w.prog,(EY w a (pq (iE w a) (tL w.prog a c fuel).1).1).places,GG w.bQ (Sr a ⟨c.kM,c.aJ,c.image,(tL w.prog a c fuel).1.place⟩)⟩,0)else(EY w a (pq (iE w a) (tL w.prog a c fuel).1).1,0)
theorem runW_eq(w:pG)(x:Hap):runW w x=match oP x.co (iE w x.place).cos with
 |none=>(w,5)
 |some c=>runK w x.kind x.place x.n c (if x.kind=9 then 2000 else x.n):=rfl
theorem note_log{x:NF}{r:Rec}(h:(pq x r).2=0):(iJ x.cos r).2=0/\(pq x r).1.cos=(iJ x.cos r).1:=by
  unfold pq at h⊢;by_cases a:(iJ x.cos r).2=0
  · rw[if_neg (nn a)]at h⊢;by_cases c:(wS x.d r).2=0
    · rw[if_neg (nn c)]at h⊢;by_cases b:(GD (wS x.d r).1).2=0
      · rw[if_neg (nn b)];exact⟨a,Z⟩
      · rw[if_pos b]at h;exact absurd h b
    · rw[if_pos c]at h;exact absurd h c
  · rw[if_pos a]at h;exact absurd h a
theorem next3_idx{a:List Co}{r:Rec}{c:Co}{n:Int}(h:(iJ a r).2=0)(u:r.kind=3)(o:Dk.Good a)(hn:idx a n=aj c)(t:c.kM=r.co):idx (iJ a r).1 n=aj ⟨c.kM,c.aJ,c.image,r.place⟩:=by
  have b:0<=n/\a[n.toNat]? =aj c:=by
    unfold idx at hn;split at hn
    · exact⟨by assumption,hn⟩
    · cases hn
  unfold iJ at h⊢;by_cases f:ib a=0
  · rw[if_neg (nn f)]at h⊢;by_cases m:gZ r=0
    · rw[if_neg (nn m)]at h⊢;rcases Uv r a with⟨e1,e2,-⟩|⟨k,c',e1,e2,e3,e4⟩
      · exfalso;rw[oA]at e2;have:=e2 c<|fm b.2;simp[t]at this
      · have g:k=n.toNat:=by
          have p:=o.up;unfold Up at p;rw[List.pairwise_iff_getElem]at p;have i:=Ml e3;have l:=Ml b.2;have e:=bh i;have d:=bh l;rw[e3]at e;rw[b.2]at d;have e:=osi e;have d:=osi d;rcases Nat.lt_trichotomy k n.toNat with hlt|heq|hgt
          · have:=p k n.toNat i l hlt;rw[<-e,<-d]at this;omega
          · exact heq
          · have:=p n.toNat k l i hgt;rw[<-e,<-d]at this;omega
        subst g;have j:c'=c:=by rw[b.2]at e3;exact(osi e3).symm
        subst j;rw[e1]at h⊢;simp only at h⊢;rw[if_neg (show¬(r.kind=1\/r.kind=4) by omega)]at h⊢;split at h
        · simp at h
        · rename_i s;rw[if_neg s];rw[if_neg (show¬r.kind=5 by omega),if_neg (show¬r.kind=2 by omega)]at h⊢;split at h
          · simp at h
          · rename_i q;rw[if_neg q];simp only;rw[<-X7 r a n.toNat c' ⟨c'.kM,c'.aJ,c'.image,r.place⟩ o.up e3 e4 e4];unfold idx;rw[if_pos b.1];exact nT b.2
    · rw[if_pos m]at h;exact absurd h m
  · rw[if_pos f]at h;exact absurd h f
theorem runK_g{w:pG}(h:WR w){x:kV}(i:On x.place){n:Int}{c:Co}(q:c∈(iE w x.place).cos)(hn:idx (iE w x.place).cos n=aj c)(fuel:Int){N:Nat}(hN:60002<=N):
    Is (DW N (tN w) (NY (iE w x.place)) n x fuel) (runK w x.kind x.place x.n c fuel):=by
  have a:=UA h i;have g:=co_of h i q;unfold DW runK;by_cases j:fuel<1\/2000<fuel
  · rw[show(ab ((fuel:Int)<1)||ab ((2000:Int)<fuel))=ar by simpa using j,cond_true,if_pos j];exact .mk _ _
  · rw[show(ab ((fuel:Int)<1)||ab ((2000:Int)<fuel))=aq by simpa using j,cond_false,if_neg j];show Is ((idx (iE w x.place).cos n).bind _) _;rw[hn];simp only[bnd];obtain⟨r,p,o⟩:=slice_g h (k:=x.place) (c:=c) (fuel:=fuel) V hN;rw[p];simp only[bnd];show Is (Ha N x n r.kind r.co r.aJ r.place r.says r.image (tL w.prog x.place c fuel).2 w.prog (tN w).places w.bQ) _;unfold Ha;by_cases d:(tL w.prog x.place c fuel).2=0
    · rw[dF (nn d),cond_false,if_neg (nn d)];have m:=slice_ok h.code g (r:=r) (fuel:=fuel) (k:=x.place) (by rw[o d,<-d]);rw[<-o d];show Is (bif ab ((x.kind:Int)=9)then(Jd N (tN w) x.place r x.n).bind _ else(vz N (tN w) x.place r).bind _) _;by_cases l:x.kind=9
      · rw[dT l,cond_true,if_pos l,tear_g h i m.w x.n hN];simp only[bnd];exact .mk _ _
      · rw[dF l,cond_false,if_neg l,note_g h i m.w hN];simp only[bnd];by_cases b:(pq (iE w x.place) r).2=0
        · rw[dF (nn b),cond_false,if_neg (nn b)];by_cases f:r.kind=3
          · rw[dT f,cond_true,if_pos f];have e:0<=x.place/\x.place<(EY w x.place (pq (iE w x.place) r).1).places.length:=by unfold EY;simp only[cq];exact a
            rw[g_at e];simp only[bnd];rw[pAt_set _ a a,if_pos rfl];show Is ((idx (pq (iE w x.place) r).1.cos n).bind _) _;rw[(note_log b).2,next3_idx (note_log b).1 f (h.at i).good.1 hn m.co.symm];simp only[bnd];rw[offer_g _ _ _ (KA (by have:=g.2.2;simp only;omega))];simp only[bnd];exact .mk _ _
          · rw[dF f,cond_false,if_neg f];show Is (aj ((0:Int),tN<|EY w x.place (pq (iE w x.place) r).1)) _;exact .mk _ _
        · rw[dT (show(pq (iE w x.place) r).2≠0 from b),cond_true,if_pos b];exact .err b
    · rw[dT (show(tL w.prog x.place c fuel).2≠0 from d),cond_true,if_pos d];exact .mk _ _
theorem run_g{w:pG}(h:WR w){x:kV}(d:On x.place){N:Nat}(hN:60002<=N):Is (Qf N (tN w) x) (runW w (Ar x)):=by
  have b:=UA h d;rw[runW_eq];unfold Qf;rw[g_at b];simp only[bnd];show Is ((qL (iE w x.place).cos x.co).bind _) _;rcases find_g (iE w x.place).cos x.co with⟨e1,e2⟩|⟨n,c,e1,e2,e3,e4⟩
  · rw[e1];simp only[bnd];rw[dT V,cond_true];show Is _ (match oP x.co (iE w x.place).cos with|none=>_|some c=>_);rw[e2];exact .mk _ _
  · rw[e1];simp only[bnd];rw[dF (show¬n<0 by omega),cond_false];show Is _ (match oP x.co (iE w x.place).cos with|none=>_|some c=>runK w x.kind x.place x.n c (if x.kind=9 then 2000 else x.n));rw[e2];have e:=(F9 e2).2;by_cases a:x.kind=9
    · rw[dT a,cond_true,if_pos a];exact runK_g h d e e3 _ hN
    · rw[dF a,cond_false,if_neg a];exact runK_g h d e e3 _ hN
end Pw
open Go Go.Proofs Go.LX
namespace Pw
open Dk
theorem resend_g{w:pG}(h:WR w){x:kV}(e:On x.place):Is (G9 (tN w) x) (X8 w (Ar x)):=by
  have b:=UA h e;unfold G9;rw[g_at b];simp only[bnd];show Is ((qL (iE w x.place).cos x.co).bind _) (match oP x.co (iE w x.place).cos with|none=>_|some c=>if c.offered<0 then(w,7)else(⟨w.prog,w.places,GG w.bQ<|Sr x.place c⟩,0));rcases find_g (iE w x.place).cos x.co with⟨e1,e2⟩|⟨n,c,e1,e2,e3,e4⟩
  · rw[e1,e2];simp only[bnd];rw[dT V,cond_true];exact .mk _ _
  · rw[e1,e2];simp only[bnd];rw[dF (show¬n<0 by omega),cond_false];show Is ((idx (iE w x.place).cos n).bind _) _;rw[e3];simp only[bnd];by_cases a:c.offered<0
    · rw[dT a,cond_true,if_pos a];exact .mk _ _
    · have d:=co_of h e (F9 e2).2;rw[dF a,cond_false,if_neg a,offer_g _ _ _ (KA (by have:=d.2.2;omega))];exact .mk _ _
theorem up_g(x:NF):(NY x).up=x.up:=rfl
theorem W9{w:pG}{N:Nat}(hN:60002<=N){l:List fT}{m:fT}{e:Int}(h:WR ⟨w.prog,w.places,l⟩)(b:aaA m):
  Is (yn N (tN w) (l,m,e) ar) (⟨w.prog,w.places,l⟩,0)/\
  Is (yn N (tN w) (l,m,e) aq) (EY ⟨w.prog,w.places,l⟩ m.jK (pq (iE ⟨w.prog,w.places,l⟩ m.jK) ⟨5,m.co,m.aJ-1,0,[],[]⟩).1,(pq (iE ⟨w.prog,w.places,l⟩ m.jK) ⟨5,m.co,m.aJ-1,0,[],[]⟩).2):=by
 obtain⟨m1,m2,c,d,-⟩:=b;refine⟨.mk ⟨w.prog,w.places,l⟩ 0,?_⟩;unfold yn;rw[cond_false,kC (KA (by simp only;omega))];show Is ((vz N (tN ⟨w.prog,w.places,l⟩) m.jK _).bind _) _;rw[note_g h m2 (J5 V c (by simp only;omega) V (fun x a=>by cases a) (fun x a=>by cases a)) hN];exact .mk _ _
theorem hear_g{w:pG}(h:WR w)(i:Int)(t:Bool){N:Nat}(hN:60002<=N):Is (M0 N (tN w) i t) (hearW w i t):=by
  unfold M0 hearW;show Is ((IM w.bQ i t).bind _) _;rw[wTake,if_neg (nn ((Jp _).2 ⟨h.mlen,h.mok⟩))];by_cases f:i<0\/(w.bQ.length:Int)<=i
  · rw[if_pos f,if_pos f];exact .mk _ _
  · rw[if_neg f,if_neg f];simp only[bnd];have p:i.toNat<w.bQ.length:=by omega
    have o:w.bQ[i.toNat]? =aj w.bQ[i.toNat]:=bh p;have a:w.bQ[i.toNat]∈w.bQ:=cx p;generalize w.bQ[i.toNat]=m at o a;rw[o];simp only[Option.getD_some];have b:=h.mok m a;have j:=UA h b.2.1;rw[dF V,cond_false,g_at j];simp only[bnd];rw[up_g];by_cases k:(iE w m.jK).up=aq
    · rw[k,if_pos rfl];exact .mk _ _
    · rw[if_neg k];have q:(iE w m.jK).up=true:=by simpa using k
      rw[q];simp only[eo,cond_false];have e:WR ⟨w.prog,w.places,if t=ar then w.bQ else w.bQ.take i.toNat++w.bQ.drop (i.toNat+1)⟩:=by
        cases t
        · exact h.drop i.toNat
        · exact h
      generalize (if t=ar then w.bQ else w.bQ.take i.toNat++w.bQ.drop (i.toNat+1))=l at e⊢;have hp:iE ⟨w.prog,w.places,l⟩ m.jK=iE w m.jK:=rfl;cases ht:m.taken with
      |true=>
        simp only[cond_true,if_true];show Is ((qL (iE w m.jK).cos m.co).bind _) (match oP m.co (iE ⟨w.prog,w.places,l⟩ m.jK).cos with|none=>_|some c=>_);rw[hp];rcases find_g (iE w m.jK).cos m.co with⟨e1,e2⟩|⟨n,c,e1,e2,e3,e4⟩
        · rw[e1,e2];simp only[bnd];rw[dT V,cond_true];exact(W9 hN e b).1
        · rw[e1,e2];simp only[bnd];rw[dF (show¬n<0 by omega),cond_false];show Is ((idx (iE w m.jK).cos n).bind _) _;rw[e3];simp only[bnd];rw[kC (KA (by have:=b.2.2.2.1;omega))];by_cases g:c.aJ≠m.aJ-1\/c.offered≠m.from_
          · rw[show(ab ((c.aJ:Int)≠(m.aJ-1))||ab ((c.offered:Int)≠m.from_))=ar by simpa using g,if_pos g];exact(W9 hN e b).1
          · rw[show(ab ((c.aJ:Int)≠(m.aJ-1))||ab ((c.offered:Int)≠m.from_))=aq by simpa using g,if_neg g];exact(W9 hN e b).2
      |false=>
        simp only[cond_false,cJ,if_false];rw[had_g (h.at b.2.1).disk _ _ hN];simp only[bnd];rw[hp];cases hh:hadP (iE w m.jK) m.co m.aJ with
        |true=>
          simp only[eo,cond_false,if_true];unfold Bb;show Is ((BM (tN ⟨w.prog,w.places,l⟩) _).bind _) _;rw[send_g];exact .mk _ _
        |false=>
          simp only[Bool.not_false,cond_true,cJ,if_false];show Is ((vz N (tN ⟨w.prog,w.places,l⟩) m.jK _).bind _) _;rw[note_g e b.2.1 (J5 V b.2.2.1 (by have:=b.2.2.2.1;omega) V (fun x r=>by cases r) (img_I64 h.code (h.mimg m a ht))) hN];simp only[bnd];rw[hp];by_cases d:(pq (iE w m.jK) ⟨4,m.co,m.aJ,0,[],m.image⟩).2=0
          · rw[dF (nn d),cond_false,if_neg (nn d)];unfold Bb;show Is ((BM (tN<|EY ⟨w.prog,w.places,l⟩ m.jK _) _).bind _) _;rw[send_g];exact .mk _ _
          · rw[dT (show(pq (iE w m.jK) ⟨4,m.co,m.aJ,0,[],m.image⟩).2≠0 from d),cond_true,if_pos d];exact .err d
theorem imgs_loop{N:Nat}(hN:60002<=N)(a:aZ)(k:Unit->Option (Int×aZ)):∀(l:List Co) (i:Int),
    ic (fun j(x:Co)s c=>(rG N a.prog x.image).bind fun q=>wH a c q.2) k i l ()=if KC a.prog l≠0 then aj (KC a.prog l,a)else k ()
  |[],i=>by rw[UK];simp[KC]
  |x::l,i=>by
    rw[yP,D8 _ _ V];simp only[bnd];unfold wH;by_cases h:(dQ a.prog x.image).2=0
    · rw[dF (nn h),cond_false];have b:=imgs_loop hN a k l<|i+1;unfold wH at b;rw[b,show KC a.prog (x::l)=KC a.prog l by rw[KC,if_neg (nn h)]]
    · rw[dT (show(dQ a.prog x.image).2≠0 from h),cond_true,show KC a.prog (x::l)=(dQ a.prog x.image).2 by rw[KC,if_pos h],if_pos h]
theorem boot_g{w:pG}(h:WR w){k:Int}(l:On k){N:Nat}(hN:60002<=N):Is (M3 N (tN w) k) (bootW w k):=by
  have c:=UA h l;have f:=(h.at l).disk;unfold M3 bootW;rw[g_at c];simp only[bnd];rw[up_g];by_cases e:(iE w k).up=ar
  · rw[e,if_pos rfl];exact .mk _ _
  · have n:(iE w k).up=false:=by simpa using e
    rw[if_neg e,n,cond_false,Qk f hN];simp only[bnd];rw[dF V,cond_false,replay_eq N V,if_neg (show¬120<(mJ (iE w k).d).length by have:=(dOk f).len;omega)];simp only[bnd];by_cases b:(jS [] (mJ (iE w k).d)).2=0
    · rw[dF (nn b),cond_false,if_neg (nn b),bj];rw[upto_eachI (g:=fun j(x:Co)s m=>(rG N (tN w).prog x.image).bind fun q=>wH (tN w) m q.2) (jS [] (mJ (iE w k).d)).1 (fun i x s m o=>by
        unfold IQ;rw[lh,o];rfl)]
      rw[imgs_loop hN (tN w)];show Is (if KC w.prog (jS []<|mJ (iE w k).d).1≠0 then _ else _) _;by_cases a:KC w.prog (jS [] (mJ (iE w k).d)).1=0
      · rw[if_neg (nn a),if_neg (nn a)];unfold IU;have:=g_set w k ⟨(jS []<|mJ (iE w k).d).1,(Qy (iE w k).d).1,ar⟩;show Is (aj ((0:Int),(⟨w.prog,(tN w).places.set k.toNat<|NY ⟨(jS []<|mJ (iE w k).d).1,(Qy (iE w k).d).1,ar⟩,w.bQ⟩:aZ))) _;rw[this];exact .mk _ _
      · rw[if_pos a,if_pos a];exact .mk _ _
    · rw[dT (show(jS [] (mJ (iE w k).d)).2≠0 from b),cond_true,if_pos b];exact .mk _ _
theorem begin_g{w:pG}(h:WR w){k i:Int}(a:On k){N:Nat}(hN:60002<=N):Is (JX N (tN w) k i) (aaD w k i):=by
  have b:=UA h a;have e:=(h.at a).disk;unfold JX aaD;by_cases c:i=k
  · subst c;rw[dF zq3,cond_false,if_neg zq3,g_at b];simp only[bnd];rw[Qk e hN];simp only[bnd,bj];rw[UQ (fun r:Rec=>ab ((r.kind:Int)=1)) (fun n=>xX N (tN w) i i (ab ((0:Int)<=n))) (mJ (iE w i).d) (fun n r l f=>by
      unfold Gg;rw[lh,f];rfl)]
    rw[<-any_find];cases hf:(mJ (iE w i).d).findIdx? (fun r:Rec=>ab ((r.kind:Int)=1))with
    |some n=>
      simp only[pD,if_true];rw[dT V];exact .mk _ _
    |none=>
      simp only[Option.isSome_none,cJ,if_false];unfold Gh xX;rw[cond_false];show Is ((Zl w.prog).bind _) _;rw[vm_New_eq,if_neg (nn h.code)];simp only[bnd];rw[dF V,cond_false];show Is ((EP N w.prog<|vB w.prog).bind _) _;have j:=aae<|pg h.code;rw[Uo _ _ V,if_neg (nn h.code),if_neg (nn (Jk.2 j))];simp only[bnd];rw[dF V,cond_false,note_g h a (J5 V a V V (fun x g=>by cases g) (img_b (pg h.code) (begin_img h.code)).1) hN];exact .mk _ _
  · rw[dT (show i≠k from c),cond_true,if_pos c];exact .mk _ _
end Pw
open Go Go.Proofs Go.LX
namespace Pw
open Dk
theorem step6_g{w:pG}(h:WR w){x:kV}(i:1<=x.kind/\x.kind<=9/\x.kind≠4/\x.kind≠5/\x.kind≠6){N:Nat}(hN:60002<=N):Is (p9 N x (tN w) ar) (fI w (Ar x)):=by
  have f:fI w (Ar x)=if x.place<0\/(w.places.length:Int)<=x.place then(w,5)else
      if x.kind=8 then bootW w x.place else
      if(iE w x.place).up=aq then(w,7)else
      if x.kind=1 then aaD w x.place x.co else
      if x.kind=3 then X8 w (Ar x)else
      if x.kind=7 then(EY w x.place ⟨[],(iE w x.place).d,aq⟩,0)else runW w (Ar x):=by
    unfold fI;rw[if_neg (show¬((Ar x).kind=4\/(Ar x).kind=5) by simp only[Ar];omega),if_neg (show¬(Ar x).kind=6 by simp only[Ar];omega),if_neg (show¬((Ar x).kind<1\/9<(Ar x).kind) by simp only[Ar];omega)];rfl
  rw[f];unfold p9;rw[cond_true];have g:((tN w).places.length:Int)=w.places.length:=by unfold tN;simp
  rw[g];by_cases e:x.place<0\/(w.places.length:Int)<=x.place
  · rw[show(ab ((x.place:Int)<0)||ab (((w.places.length:Int):Int)<=x.place))=ar by simpa using e,if_pos e];exact .mk _ _
  · rw[show(ab ((x.place:Int)<0)||ab (((w.places.length:Int):Int)<=x.place))=aq by simpa using e,if_neg e,cond_false];have j:=h.many;have hp:On x.place:=⟨by omega,by omega⟩;by_cases b:x.kind=8
    · rw[dT b,if_pos b];exact(boot_g h hp hN).pair
    · rw[dF b,if_neg b,cond_false,g_at (UA h hp)];simp only[bnd];rw[up_g];cases hu:(iE w x.place).up with
      |false=>exact .mk _ _
      |true=>
        simp only[eo,cond_false,mL,if_false];by_cases k1:x.kind=1
        · rw[dT k1,if_pos k1];exact(begin_g h hp hN).pair
        · rw[dF k1,if_neg k1,cond_false];by_cases a:x.kind=3
          · rw[dT a,if_pos a];exact(resend_g h hp).pair
          · rw[dF a,if_neg a,cond_false];by_cases c:x.kind=7
            · rw[dT c,if_pos c];have:=g_set w x.place ⟨[],(iE w x.place).d,aq⟩;show Is (aj ((0:Int),(⟨w.prog,(tN w).places.set x.place.toNat<|NY ⟨[],(iE w x.place).d,aq⟩,w.bQ⟩:aZ))) _;rw[this];exact .mk _ _
            · rw[dF c,if_neg c];exact(run_g h hp hN).pair
theorem step45_g{w:pG}(h:WR w)(x:kV)(a:x.kind=4\/x.kind=5){N:Nat}(hN:60002<=N):Is (qO N (tN w) x) (fI w (Ar x)):=by
  have b:fI w (Ar x)=hearW w x.n (decide<|x.kind=5):=by unfold fI;rw[if_pos (show((Ar x).kind=4\/(Ar x).kind=5)from a)];rfl
  have c:qO N (tN w) x=nQ N x (tN w) true:=by
    unfold qO;rcases a with h4|h5
    · rw[dT h4,cond_true]
    · rw[dF (show¬x.kind=4 by omega),dT h5,cond_false,cond_true]
  rw[b,c];unfold nQ;rw[cond_true,dT (show x.kind≠6 by omega),cond_true];exact(hear_g h _ _ hN).pair
theorem step_g{w:pG}(h:WR w)(x:kV){N:Nat}(hN:60002<=N):Is (qO N (tN w) x) (fI w (Ar x)):=by
  by_cases a:x.kind=4\/x.kind=5
  · exact step45_g h x a hN
  · by_cases c:x.kind=6
    · have g:fI w (Ar x)=if x.n<0\/(w.bQ.length:Int)<=x.n then(w,5)else(⟨w.prog,w.places,w.bQ.take x.n.toNat++w.bQ.drop (x.n.toNat+1)⟩,0):=by
        unfold fI;rw[if_neg (show¬((Ar x).kind=4\/(Ar x).kind=5)from a),if_pos (show(Ar x).kind=6 from c)];rfl
      have f:qO N (tN w) x=nQ N x (tN w) true:=by
        unfold qO;rw[dF (show¬x.kind=4 by omega),dF (show¬x.kind=5 by omega),dT c,cond_false,cond_false]
      rw[g,f];unfold nQ;rw[cond_true,dF (show¬x.kind≠6 by omega),cond_false];show Is ((IM w.bQ x.n aq).bind _) _;rw[wTake,if_neg (nn ((Jp _).2 ⟨h.mlen,h.mok⟩))];unfold Ko;by_cases b:x.n<0\/(w.bQ.length:Int)<=x.n
      · rw[if_pos b,if_pos b];exact .mk _ _
      · rw[if_neg b,if_neg b];exact .mk ⟨w.prog,w.places,w.bQ.take x.n.toNat++w.bQ.drop (x.n.toNat+1)⟩ 0
    · have f:qO N (tN w) x=nQ N x (tN w) false:=by
        unfold qO;rw[dF (show¬x.kind=4 by omega),dF (show¬x.kind=5 by omega),dF c,cond_false,cond_false]
      rw[f];unfold nQ;rw[cond_false];by_cases i:1<=x.kind/\x.kind<=9
      · have d:=step6_g h (x:=x) V hN;have:x.kind=1\/x.kind=2\/x.kind=3\/x.kind=7\/x.kind=8\/x.kind=9:=by omega
        rcases this with e|e|e|e|e|e<;>(rw[e];simp only[show ab ((1:Int)=1)=ar from rfl,show ab ((2:Int)=1)=aq from rfl,show ab ((2:Int)=2)=ar from rfl,show ab ((3:Int)=1)=aq from rfl,show ab ((3:Int)=2)=aq from rfl,show ab ((3:Int)=3)=ar from rfl,show ab ((7:Int)=1)=aq from rfl,show ab ((7:Int)=2)=aq from rfl,show ab ((7:Int)=3)=aq from rfl,show ab ((7:Int)=7)=ar from rfl,show ab ((8:Int)=1)=aq from rfl,show ab ((8:Int)=2)=aq from rfl,show ab ((8:Int)=3)=aq from rfl,show ab ((8:Int)=7)=aq from rfl,show ab ((8:Int)=8)=ar from rfl,show ab ((9:Int)=1)=aq from rfl,show ab ((9:Int)=2)=aq from rfl,show ab ((9:Int)=3)=aq from rfl,show ab ((9:Int)=7)=aq from rfl,show ab ((9:Int)=8)=aq from rfl,show ab ((9:Int)=9)=ar from rfl,cond_true,cond_false];exact d)
      · have g:fI w (Ar x)=(w,4):=by
          unfold fI;rw[if_neg (show¬((Ar x).kind=4\/(Ar x).kind=5)from a),if_neg (show¬(Ar x).kind=6 from c),if_pos (show(Ar x).kind<1\/9<(Ar x).kind by simp only[Ar];omega)]
        rw[g,dF (show¬x.kind=1 by omega),dF (show¬x.kind=2 by omega),dF (show¬x.kind=3 by omega),dF (show¬x.kind=7 by omega),dF (show¬x.kind=8 by omega),dF (show¬x.kind=9 by omega)];exact .mk _ _
theorem imgs_each{p:List bA}{N:Nat}(hN:60002<=N):∀l:List Co,each (DF N p) IL l ()=aj (KC p l)
  |[]=>rfl
  |x::l=>by
    rw[gL];have a:=imgs_each (p:=p) hN l;unfold DF at a⊢;rw[D8 _ _ V];simp only[bnd];by_cases h:(dQ p x.image).2=0
    · rw[dF (nn h),cond_false,a,KC,if_neg (nn h)]
    · rw[dT (show(dQ p x.image).2≠0 from h),cond_true,KC,if_pos h]
theorem plc_g(p:List bA)(x:NF)(g:x.d.wait.length<=9223372036854775807){N:Nat}(hN:60002<=N):JU N p (NY x)=aj (Bf p x):=by
  unfold JU Bf;show(vo N x.d).bind _=_;rw[Dk.L8 N hN _ g];simp only[bnd];by_cases b:iY x.d=0
  · rw[dF (nn b),cond_false,if_neg (nn b),up_g];cases hu:x.up with
    |false=>
      show(bif ab ((0:Int)<(x.cos.length:Int))then _ else _)=aj (if x.cos=[]then 0 else 4);by_cases a:x.cos=[]
      · rw[a,if_pos rfl];rfl
      · rw[if_neg a,dT (by have:=ql.2 a;omega)];rfl
    |true=>
      simp only[eo,cond_false,mL,if_false];show(bif ab ((0:Int)<(x.d.wait.length:Int))then _ else _)=_;by_cases a:x.d.wait=[]
      · rw[a,if_neg zq3];rw[dF zq3,cond_false,Qk b hN];simp only[bnd];rw[replay_eq N V,if_neg (show¬120<(mJ x.d).length by have:=(dOk b).len;omega)];simp only[bnd];by_cases f:(jS [] (mJ x.d)).2=0
        · rw[dF (nn f),cond_false,if_neg (nn f),coSame];simp only[bnd];show(bif !decide ((jS []<|mJ x.d).1=x.cos)then _ else _)=_;by_cases c:(jS [] (mJ x.d)).1=x.cos
          · rw[dT c,if_neg (fun e=>e c)];exact imgs_each hN x.cos
          · rw[dF c,if_pos c];rfl
        · rw[dT (show(jS [] (mJ x.d)).2≠0 from f),cond_true,if_pos f]
      · rw[if_pos a,dT (by have:=ql.2 a;omega),cond_true]
  · rw[dT (show iY x.d≠0 from b),cond_true,if_pos b]
theorem aaF{w:aZ}{N:Nat}(hN:60002<=N):∀l:List fT,each (wF N w) Bw l ()=aj (NG w.prog l)
  |[]=>rfl
  |m::l=>by
    rw[gL];have a:=aaF (w:=w) hN l;generalize each (wF N w) Bw l=F at a⊢;unfold wF DI NG;cases ht:m.taken with
    |true=>exact a
    |false=>
      rw[cond_false,D8 _ _ V,if_neg zq3];simp only[bnd];by_cases h:(dQ w.prog m.image).2=0
      · rw[dF (nn h),cond_false,a,if_neg (nn h)]
      · rw[dT (show(dQ w.prog m.image).2≠0 from h),cond_true,if_pos h]
theorem plcs_each{w:aZ}{N:Nat}(hN:60002<=N)(k:Unit->Option Int):∀l:List NF,(∀x∈l,x.d.wait.length<=9223372036854775807)->each (uI N w) k (l.map NY) ()=if Pv w.prog l≠0 then aj (Pv w.prog l)else k ()
  |[],_=>by simp[Pv,qU]
  |x::l,hw=>by
    rw[ck,gL];have a:=plcs_each (w:=w) hN k l fun y b=>hw y<|bk _ b;generalize each (uI N w) k (l.map NY)=F at a⊢;unfold uI;rw[plc_g _ _ (hw x zq3) hN];simp only[bnd];by_cases h:Bf w.prog x=0
    · rw[dF (nn h),cond_false,a,show Pv w.prog (x::l)=Pv w.prog l by rw[Pv,if_neg (nn h)]]
    · rw[dT (show Bf w.prog x≠0 from h),cond_true,show Pv w.prog (x::l)=Bf w.prog x by rw[Pv,if_pos h],if_pos h]
def Wts(w:pG):Prop:=∀x∈w.places,x.d.wait.length<=9223372036854775807
theorem WR.wts{w:pG}(h:WR w):Wts w:=fun x a=>by have:=UB (h.pl x a).disk;omega
theorem check_g{w:pG}(d:Wts w){N:Nat}(hN:60002<=N):Cn N (tN w)=aj (D9 w):=by
  unfold Cn D9;show(sM w.prog).bind _=_;rw[WJ];simp only[bnd];by_cases b:Js w.prog=0
  · rw[dF (nn b),cond_false,if_neg (nn b)];have e:((tN w).places.length:Int)=w.places.length:=by unfold tN;simp
    rw[e];by_cases f:w.places.length=3
    · rw[dF V,cond_false,if_neg V];show(bif ab ((dP w.bQ:Int)≠0)then aj (dP w.bQ)else _)=_;by_cases c:dP w.bQ=0
      · rw[dF (nn c),cond_false,if_neg (nn c)];show each (uI N<|tN w) _ (w.places.map NY) ()=_;rw[plcs_each hN _ _ d];unfold Gf;show(if Pv w.prog w.places≠0 then _ else each (wF N<|tN w) _ w.bQ ())=_;rw[aaF hN];by_cases a:Pv w.prog w.places=0
        · rw[if_neg (nn a),if_neg (nn a)];rfl
        · rw[if_pos a,if_pos a];rfl
      · rw[dT (show dP w.bQ≠0 from c),cond_true,if_pos c]
    · rw[dT V,cond_true,if_pos V]
  · rw[dT (show Js w.prog≠0 from b),cond_true,if_pos b]
end Pw
open Go Go.Proofs Go.LX
namespace Pw
open Dk
theorem args_each(F:Unit->Option (List bA)):∀l:List Ins,(∀c∈l,c.args.length<=3)->each AZ (Fb F) l ()=F ()
 |[],_=>rfl
 |c::l,h=>by
  rw[gL];have a:=args_each F l fun x b=>h x<|bk _ b;generalize each AZ (Fb F) l=G at a⊢;unfold AZ;have:=h c zq3;rw[ru V V];exact a
theorem code_copy{p:List bA}(h:p.length<=4/\∀x∈p,tY x/\∀c∈x.code,c.args.length<=3):Hu p=aj p:=by
 unfold Hu;rw[ru V V];simp only[bnd,bj];have b:∀(m i:Nat),i+m=p.length->upto (vk p) (A7 p) (i:Int) m ()=aj p:=by
  intro m;induction m with
  |zero=>intro i _;rfl
  |succ m ih=>
   intro i g;have e:i<p.length:=by omega
   show vk p (i:Int) () (upto (vk p) (A7 p) ((i:Int)+1) m)=_;have a:=ih (i+1) V;rw[show((i+1:Nat):Int)=(i:Int)+1 from rfl]at a;generalize upto (vk p) (A7 p) ((i:Int)+1) m=nx at a⊢;unfold vk;have d:=h.2 p[i]<|cx e;have f:=d.1;unfold tY at f;rw[xh e];simp only[bnd];rw[ru V V];simp only[bnd];rw[args_each _ _ d.2];exact a
 simpa using b p.length 0 V
theorem chk_good{p:List bA}(h:Js p=0):p.length<=4/\∀x∈p,tY x/\∀c∈x.code,c.args.length<=3:=by
 obtain⟨y,a,b⟩:=check_tot p;rw[WJ]at a;exact b (by rw[<-osi a];exact h)
theorem copy_g{w:pG}(h:WR w):BL (tN w)=aj (tN w):=by
 have k:=chk_good h.code;unfold BL;show(Hu w.prog).bind _=_;rw[code_copy k];simp only[bnd];have c:=h.many;show(clone 80<|w.places.map NY).bind _=_;rw[ru (by simp;omega) (by simp;omega)];simp only[bnd];show(DJ w.bQ).bind _=_;rw[wCopy h.mlen (fun m c=>(h.mok m c).2.2.2.2.2)];simp only[bnd];unfold Ki;rw[bj];have b:∀(m i:Nat),i+m=(w.places.map NY).length->upto vw (Ba w.prog w.bQ) (i:Int) m (w.places.map NY)=aj (tN w):=by
  intro m;induction m with
  |zero=>intro i _;rfl
  |succ m ih=>
   intro i n;have f:i<(w.places.map NY).length:=by omega
   show vw (i:Int) (w.places.map NY) (upto vw (Ba w.prog w.bQ) ((i:Int)+1) m)=_;have a:=ih (i+1) V;rw[show((i+1:Nat):Int)=(i:Int)+1 from rfl]at a;generalize upto vw (Ba w.prog w.bQ) ((i:Int)+1) m=nx at a⊢;unfold vw;rw[xh f];have j:i<w.places.length:=by simpa using f
   have e:(w.places.map NY)[i]=NY w.places[i]:=by simp
   have hp:=h.pl w.places[i]<|cx j;have l:=(Dk.wO hp.disk).1;simp only[bnd];rw[show(w.places.map NY)[i].cos=w.places[i].cos by rw[e];rfl,show(w.places.map NY)[i].safe=w.places[i].d.safe by rw[e];rfl,show(w.places.map NY)[i].wait=w.places[i].d.wait by rw[e];rfl];rw[coCopy hp.good.1.len (fun x g=>(hp.good.1.ok x g).2.2.2.2.2.2.2),ru V V];simp only[bnd];rw[ru V V];simp only[bnd,bj];rw[List.set_set,show(⟨w.places[i].cos,w.places[i].d.safe,w.places[i].d.wait,(w.places.map NY)[i].up⟩:fD)=(w.places.map NY)[i] by rw[e];rfl,List.set_getElem_self];exact a
 simpa using b (w.places.map NY).length 0 V
def zW:aZ:=⟨[],[],[]⟩
theorem do_of{w:pG}(c:Wts w)(x:kV){N:Nat}(hN:60002<=N){q:pG×Int}(f:WR w->Is (qO N (tN w) x) q):DX N (tN w) x=aj (if D9 w≠0 then(zW,D9 w)else if q.2≠0 then(zW,q.2)else(tN q.1,0)):=by
  unfold DX;rw[check_g c hN];simp only[bnd];by_cases a:D9 w=0
  · rw[dF (nn a),cond_false,if_neg (nn a)];have h:=(w_iff w).1 a;rw[copy_g h];simp only[bnd];obtain⟨v,d,e⟩:=f h;rw[d];simp only[bnd];by_cases b:q.2=0
    · rw[dF (nn b),cond_false,if_neg (nn b),e b]
    · rw[dT (show q.2≠0 from b),cond_true,if_pos b];rfl
  · rw[dT (show D9 w≠0 from a),cond_true,if_pos a];rfl
theorem do_g{w:pG}(a:Wts w)(x:kV){N:Nat}(hN:60002<=N):DX N (tN w) x=aj (if D9 w≠0 then(zW,D9 w)else if(fI w (Ar x)).2≠0 then(zW,(fI w (Ar x)).2)else(tN (fI w (Ar x)).1,0)):=do_of a x hN fun h=>step_g h x hN
theorem runs_loop{N:Nat}(hN:60002<=N):∀(l:List kV) (a:List Int) (w:pG),WR w->a.length+l.length<=120->
    each (Bc N) Bd l (a,w.prog,(tN w).places,w.bQ)=aj (tN (Uz w (l.map Ar)).1,a++(Uz w (l.map Ar)).2,0)
  |[],a,w,_,_=>by simp[qU,Bd,Uz,tN]
  |x::l,a,w,h,hl=>by
    rw[gL];simp only[bq]at hl;have c:=fun s w h f=>runs_loop hN l s w h f;generalize each (Bc N) Bd l=F at c⊢;unfold Bc;show(BL<|tN w).bind _=_;rw[copy_g h];simp only[bnd];obtain⟨v,e,i⟩:=step_g h x hN;rw[e];simp only[bnd];unfold Ff;rw[ck,runL_cons];have d:Room 8 a [(fI w (Ar x)).2]:=Room.mk (by simp;omega) (by simp;omega);by_cases b:(fI w (Ar x)).2=0
    · rw[dT b,cond_true,if_pos b,kC d,i b];have g:=(step_ev h (js Z b:fI w (Ar x)=((fI w<|Ar x).1,0))).1;have:=c (a++[(fI w (Ar x)).2]) _ g (by simp;omega);rw[show(tN (fI w (Ar x)).1).prog=(fI w (Ar x)).1.prog from rfl,show(tN (fI w (Ar x)).1).bQ=(fI w (Ar x)).1.bQ from rfl,this,cg];rfl
    · rw[dF b,cond_false,if_neg b,kC d];rw[c (a++[(fI w (Ar x)).2]) w h (by simp;omega),cg];rfl
theorem runs_g{w:pG}(c:Wts w)(l:List kV){N:Nat}(hN:60002<=N):Qg N (tN w) l=aj (if D9 w≠0 then(zW,[],D9 w)else if 120<l.length then(zW,[],2)else(tN (Uz w (l.map Ar)).1,(Uz w (l.map Ar)).2,0)):=by
  unfold Qg;rw[check_g c hN];simp only[bnd];by_cases a:D9 w=0
  · rw[dF (nn a),cond_false,if_neg (nn a)];by_cases b:120<l.length
    · rw[dT V,cond_true,if_pos b];rfl
    · have h:=(w_iff w).1 a;rw[dF V,cond_false,if_neg b,copy_g h];simp only[bnd];exact(runs_loop hN l [] w h (by simp;omega)).trans (by rw[cQ])
  · rw[dT (show D9 w≠0 from a),cond_true,if_pos a];rfl
end Pw
open Go Go.Proofs Go.LX
namespace Pw
open Dk
theorem hN:60002<=NN:=by decide
end Pw
open Go Go.Proofs Go.LX
namespace Pw
open Dk
theorem grow1(l:List fD)(h:l.length<=2)(x:fD):Room 80 l [x]:=Room.mk (by simp;omega) (by simp;omega)
theorem new_g(p:List bA){N:Nat}(hN:4<=N):Hw N p=aj (if Js p≠0 then(zW,Js p)else(tN (Nq p),0)):=by
  unfold Hw;rw[WJ];simp only[bnd];by_cases h:Js p=0
  · rw[dF (nn h),cond_false,if_neg (nn h),code_copy (chk_good h)];simp only[bnd];obtain⟨k,rfl⟩:∃k,N=k+4:=⟨N-4,by omega⟩;simp only[again,GU];rw[dT zq1,cond_true,kC (grow1 _ zq3 _),gI,dT zq1,cond_true,kC (grow1 _ zq3 _),gI,dT zq1,cond_true,kC (grow1 _ zq3 _),gI,dF zq1,cond_false];rfl
  · rw[dT (show Js p≠0 from h),cond_true,if_pos h];rfl
def clip(x:kV):kV:=if(x.kind=2\/x.kind=9)/\100<x.n then⟨x.kind,x.place,x.co,100⟩else x
def L9(w:pG)(x:Hap):pG:=if(fI w x).2≠0 then w else(fI w x).1
theorem play_cons(w:pG)(x:Hap)(l:List Hap):XA w (x::l)=XA (L9 w x) l:=by
 unfold L9
 conv=>lhs;unfold XA
 split<;>rfl
def tri(w:pG):List bA×List fD×List fT:=(w.prog,(tN w).places,w.bQ)
theorem do_r{w:pG}(h:WR w)(x:kV){N:Nat}(hN:60002<=N):DX N (tN w) x=aj (if(fI w (Ar x)).2≠0 then(zW,(fI w (Ar x)).2)else(tN (fI w (Ar x)).1,0)):=by
 rw[do_g h.wts x hN,if_neg (nn ((w_iff w).2 h))]
theorem clip_t{x:kV}(h:(x.kind=2\/x.kind=9)/\100<x.n):((ab (x.kind=2)||ab (x.kind=9))&&ab ((100:Int)<x.n))=ar/\clip x=⟨x.kind,x.place,x.co,100⟩:=by
 refine⟨?_,if_pos h⟩;obtain⟨a,b⟩:=h;rw[dT b,Bool.and_true];rcases a with a|a<;>simp[a]
theorem clip_f{x:kV}(h:¬((x.kind=2\/x.kind=9)/\100<x.n)):((ab (x.kind=2)||ab (x.kind=9))&&ab ((100:Int)<x.n))=aq/\clip x=⟨x.kind,x.place,x.co,x.n⟩:=by
 refine⟨?_,if_neg h⟩;rw[ir];intro a;simp only[cL,dw,decide_eq_true_eq]at a;exact h a
theorem safe_ok{d:iI}(h:iY d=0):iY ⟨d.safe,[]⟩=0/\mJ ⟨d.safe,[]⟩=wT d:=by
 have k:=dOk h;have a:En (wT d):=fun r c=>k.good r<|k.pre.subset c;have b:(wT d).length<=120:=Nat.le_trans k.pre.length_le k.len;have e:=aax (w:=[]) a b (by have:=k.room;rw[<-k.safe];simp;omega);rw[<-k.safe]at e;exact⟨e.1,(dOk e.1).still Z⟩
theorem Qi(e k:Int)(v:List Int):∀m:List (Int×List Int),lk e (yL k v m)=if e=k then aj v else lk e m
  |[]=>rfl
  |p::r=>by
    unfold yL;by_cases b:k=p.1
    · rw[if_pos b];show(if e=p.1 then aj v else lk e r)=if e=k then aj v else if e=p.1 then aj p.2 else lk e r
      rw[<-b];by_cases a:e=k
      · rw[if_pos a,if_pos a]
      · rw[if_neg a,if_neg a,if_neg a]
    · rw[if_neg b];show(if e=p.1 then aj p.2 else lk e (yL k v r))=if e=k then aj v else if e=p.1 then aj p.2 else lk e r
      rw[Qi e k v r];by_cases a:e=p.1
      · rw[if_pos a,if_pos a,if_neg V]
      · rw[if_neg a,if_neg a]
def putR(i:Int)(m:List (Int×List Int))(r:Rec):List (Int×List Int):=if r.co=i/\r.kind=2 then yL r.aJ (((lk r.aJ m).getD [])++r.says) m else m
theorem putR_at(i:Int)(m:List (Int×List Int))(r:Rec)(e:Nat):(lk (e:Int) (putR i m r)).getD []=(lk (e:Int) m).getD []++says i e [r]:=by
  rw[Ux];unfold putR;by_cases h:r.co=i/\r.kind=2
  · rw[if_pos h,Qi];by_cases a:(e:Int)=r.aJ
    · rw[if_pos a,if_pos ⟨h.2,h.1,a.symm⟩,a];rfl
    · rw[if_neg a,if_neg (fun q=>a q.2.2.symm),dt]
  · rw[if_neg h,if_neg (fun q=>h ⟨q.2.1,q.1⟩),dt]
theorem putL_at(i:Int)(e:Nat):∀(l:List Rec) (m:List (Int×List Int)),(lk (e:Int) (l.foldl (putR i) m)).getD []=(lk (e:Int) m).getD []++says i e l
 |[],m=>by simp[says]
 |r::l,m=>by
  rw[sC,putL_at i e l,putR_at,cg,<-Px];rfl
theorem aaG(i:Int)(e:Nat){l:List Rec}(h:∀r∈l,r.says.length<=40):(says i e l).length<=40*l.length:=by
 induction l with
 |nil=>simp[says]
 |cons r l ih=>
  have b:r::l=[r]++l:=rfl;have d:=ih fun x a=>h x<|bk _ a;have c:=h r zq3;rw[b,Px,bc,Ux,bc,dm];split<;>simp<;>omega
theorem recs_each(i:Int)(a:List (Int×List Int)->Option (List Int×Int)):∀(l:List Rec) (m:List (Int×List Int)) (B:Nat),(∀e:Nat,((lk (e:Int) m).getD []).length<=B)->(∀r∈l,r.says.length<=40/\1<=r.aJ)->B+40*l.length<=1000000->
    each (zQ i) (DZ a) l m=a (l.foldl (putR i) m)
  |[],m,B,_,_,_=>rfl
  |r::l,m,B,hB,hl,hn=>by
    rw[bq]at hn;obtain⟨f,j⟩:=hl r zq3;have d:=recs_each i a l (putR i m r) (B+40) (fun e=>by
      rw[putR_at,bc];have:=aaG i e (l:=[r]) (fun x c=>by rw[eS.1 c];exact f);have:=hB e;simp only[dm]at*;omega) (fun x c=>hl x (bk _ c)) V
    rw[gL,sC,<-d];generalize each (zQ i) (DZ a) l=F;unfold zQ DY putR;by_cases h:r.co=i/\r.kind=2
    · obtain⟨n,b⟩:=bs (show 0<=r.aJ by omega);have g:=hB n;rw[<-b]at g;rw[if_pos h,dT h.1,dT h.2,Bool.and_self,cond_true,kC (Room.mk V V)]
    · rw[if_neg h,show(ab (r.co=i)&&ab (r.kind=2))=aq from by rw[ir];intro q;simp only[cL,decide_eq_true_eq]at q;exact h q,cond_false]
def allR(i:Int)(l:List NF)(m:List (Int×List Int)):List (Int×List Int):=l.foldl (fun m x=>(wT x.d).foldl (putR i) m) m
theorem allR_at(i:Int)(e:Nat):∀(l:List NF) (m:List (Int×List Int)),(lk (e:Int) (allR i l m)).getD []=(lk (e:Int) m).getD []++l.flatMap fun x=>says i e (wT x.d)
 |[],m=>by simp[allR]
 |x::l,m=>by
  show(lk (e:Int)<|allR i l ((wT x.d).foldl (putR i) m)).getD []=_;rw[allR_at i e l,putL_at,eK,cg]
theorem sLog_good{d:iI}(h:iY d=0):(wT d).length<=120/\∀r∈wT d,r.says.length<=40/\1<=r.aJ:=by
 have k:=dOk h;refine⟨Nat.le_trans k.pre.length_le k.len,fun r a=>?_⟩;have g:=k.good r<|k.pre.subset a;have:=Us r (by rw[<-rec_eq];exact g.1);exact⟨this.says,this.aJ.1⟩
theorem XB{N:Nat}(hN:60002<=N)(i:Int)(k:List (Int×List Int)->Option (List Int×Int)):∀(l:List NF) (m:List (Int×List Int)) (B:Nat),(∀x∈l,iY x.d=0)->(∀e:Nat,((lk (e:Int) m).getD []).length<=B)->B+4800*l.length<=900000->
  each (wK N i) k (l.map NY) m=k (allR i l m)
 |[],m,B,_,_,_=>rfl
 |x::l,m,B,hl,hB,hn=>by
  rw[bq]at hn;have a:=hl x zq3;obtain⟨g1,g2⟩:=sLog_good a;have f:=XB hN i k l ((wT x.d).foldl (putR i) m) (B+4800) (fun y h=>hl y (bk _ h)) (fun e=>by
   rw[putL_at,bc];have:=aaG i e fun r g=>(g2 r g).1;have:=hB e;omega) V
  rw[ck,gL,show allR i (x::l) m=allR i l ((wT x.d).foldl (putR i) m)from rfl,<-f];generalize each (wK N i) k (l.map NY)=F;unfold wK;obtain⟨b,c⟩:=safe_ok a;rw[show(⟨(NY x).safe,[]⟩:iI)=⟨x.d.safe,[]⟩from rfl,aaw N hN _ zq3,Uu,if_neg (nn b)];simp only[bnd];rw[show(Qy ⟨x.d.safe,[]⟩).2=wT x.d from c];exact recs_each i F _ m B hB g2 V
def sumR(m:List (Int×List Int))(n:Nat):List Int:=(qv n).flatMap fun(e:Nat)=>(lk (e:Int) m).getD []
theorem sumR_len(m:List (Int×List Int))(a:∀e:Nat,((lk (e:Int) m).getD []).length<=14400):∀n,(sumR m n).length<=14400*n
 |0=>by simp[sumR]
 |n+1=>by
  unfold sumR;rw[nv,jG,ly,bc];have:=sumR_len m a n;unfold sumR at this;have:=a n;omega
theorem sum_loop(m:List (Int×List Int))(a:∀e:Nat,((lk (e:Int) m).getD []).length<=14400):∀(k n N:Nat),n+k=101->k<N->again (kT m) N (sumR m n,(n:Int))=aj (sumR m 101,0)
 |k,n,0,_,h=>by omega
 |0,n,N+1,h,_=>by
  obtain rfl:n=101:=by omega
  show kT m _ (again (kT m) N)=_;unfold kT;simp only[];rw[dF zq1,cond_false]
 |k+1,n,N+1,h,hN=>by
  have b:=sum_loop m a k (n+1) N V V;show kT m _ (again (kT m) N)=_;generalize again (kT m) N=F at b⊢;unfold kT;simp only[];have c:=sumR_len m a n;have d:=a n;rw[dT V,cond_true,kC (Room.mk V V),gI,<-b];unfold sumR;rw[nv,jG,ly];rfl
theorem scheck_g{w:pG}(h:WR w){i:Int}(a:0<=i/\i<3){N:Nat}(hN:60002<=N):F4 N (tN w) i=aj 0:=by
 unfold F4;rw[check_g h.wts hN,(w_iff w).2 h];simp only[bnd];rw[dF zq1,cond_false,dF V,dF V];rfl
theorem said_g{w:pG}(h:WR w){i:Int}(j:0<=i/\i<3){N:Nat}(hN:60002<=N):xE N (tN w) i=aj (yK w i,0):=by
 unfold xE;rw[scheck_g h j hN];simp only[bnd];rw[dF zq1,cond_false];have c:=h.many;show each (wK N i) (D5 N) (w.places.map NY) []=_;rw[XB hN i _ w.places [] 0 (fun x g=>(h.pl x g).disk) (fun e=>by simp[lk]) V];unfold D5;have a:∀e:Nat,(lk (e:Int)<|allR i w.places []).getD []=w.places.flatMap fun x=>says i e (wT x.d):=fun e=>by rw[allR_at];rfl
 have:=sum_loop (allR i w.places []) (fun e=>by
  rw[a,three c];simp only[eK,sb,bc,ez];have q:=fun k(b:On k)=>sLog_good (h.at b).disk;have l:=fun k(b:On k)=>aaG i e fun r f=>((q k b).2 r f).1;have:=l 0 ⟨by omega,by omega⟩;have:=l 1 ⟨by omega,by omega⟩;have:=l 2 ⟨by omega,by omega⟩;have:=(q 0 ⟨by omega,by omega⟩).1;have:=(q 1 ⟨by omega,by omega⟩).1;have:=(q 2 ⟨by omega,by omega⟩).1;omega) 101 0 N Z V
 refine(show again (kT<|allR i w.places []) N ([],0)=_ from this).trans ?_;unfold sumR yK;simp only[a]
end Pw
open Go Go.Proofs Go.LX
namespace Pw
def hz:List kV:=[⟨1,0,0,0⟩,⟨2,0,0,9⟩,⟨2,0,0,90⟩,⟨2,0,0,90⟩,⟨2,0,0,90⟩,⟨2,0,0,90⟩,⟨5,0,0,0⟩,⟨2,0,0,9⟩,⟨4,0,0,1⟩,⟨4,0,0,0⟩,⟨2,2,0,90⟩]
theorem gone_of{q:List ji}{p:List bA}{w:pG}(e:oJ NN=aj q)(g:uP NN q=aj p)(b:Js p=0)(h:(Uz (Nq p) (hz.map Ar)).2=[0,0,0,0,0,0,0,7,0,0,0])(f:(Uz (Nq p) (hz.map Ar)).1=w)(c:xE NN (tN w) 0=aj ([9,4],0))(d:M8 NN (tN w) 0=aj ([⟨2,2,-1⟩],0)):rM NN=aj true:=by
 unfold rM;rw[e];simp only[bnd];rw[g];simp only[bnd];rw[new_g p zq1,if_neg (nn b)];simp only[bnd];have a:=runs_g (si_new b).wr.wts hz hN;rw[if_neg (nn ((w_iff _).2 (si_new b).wr)),if_neg zq1,h,f]at a;unfold hz at a;rw[a];simp only[bnd];rw[c,d];rfl
noncomputable def qz:List ji:=(qy NN).getD []
noncomputable def pz:List bA:=(uP NN qz).getD []
noncomputable def wz:pG:=(Uz (Nq pz) (hz.map Ar)).1
theorem of_some{α:Type}{o:Option α}{d:α}(h:o.isSome=ar):o=aj (o.getD d):=by cases o with|none=>cases h|some x=>rfl
theorem qz_ok:(qy NN).isSome=true:=zq2
theorem qz_code:(uP NN qz).isSome=true:=zq2
theorem pz_ok:Js pz=0:=zq2
theorem wz_ran:(Uz (Nq pz) (hz.map Ar)).2=[0,0,0,0,0,0,0,7,0,0,0]:=zq2
theorem wz_said:xE NN (tN wz) 0=aj ([9,4],0):=zq2
theorem wz_held:M8 NN (tN wz) 0=aj ([⟨2,2,-1⟩],0):=zq2
end Pw
theorem gone_ok:rM NN=aj true:=Pw.gone_of (program_p.trans (Pw.of_some Pw.qz_ok)) (Pw.of_some Pw.qz_code) Pw.pz_ok Pw.wz_ran Z Pw.wz_said Pw.wz_held
open Go Go.Proofs Go.LX
namespace Pw
open Dk
theorem sixty{α:Type}(b:List α)(c:b.length<=9223372036854775807):∃l,sub? b 0 (min (b.length:Int) 60)=aj l:=by
  rcases Nat.le_total b.length 60 with h|h
  · rw[show min (b.length:Int) 60=((b.length:Nat):Int) by omega];exact⟨_,SS (a:=0) V V⟩
  · rw[show min (b.length:Int) 60=((60:Nat):Int) by omega];exact⟨_,SS (a:=0) V V⟩
theorem sub_min{l:List Int}{n:Nat}(h:n<=l.length){k:Int}(c:k=(n:Int)):sub? l 0 k=aj (l.take n):=by
 subst c;have:=SS (l:=l) (a:=0) (b:=n) V h;rw[List.drop_zero]at this;exact this
end Pw
open Go Go.Proofs Go.LX
namespace Pw
open Dk
theorem next_si{w:pG}(h:SI w)(x:Hap):SI (L9 w x):=by
 have:=(si_play [x] w h).1;rwa[play_cons]at this
theorem grow_ok{A B:List Int}(h:A<+:B)(F:Bool->Option Bool):(bif ab ((0:Int)≠0)then F ar else bif ab ((B.length:Int)<(A.length:Int))then F ar else(sub? B 0 (A.length:Int)).bind fun s=>(slices_Equal_int s A).bind fun e=>F (!e))=F false:=by
 obtain⟨t,rfl⟩:=h;rw[dF zq1,cond_false,dF (by rw[bc];omega),cond_false,sub_min (n:=A.length) (by rw[bc];omega) Z];simp only[bnd];rw[eqInt,iv,dT (show A=A from rfl)];rfl
theorem grows_step{N:Nat}(hN:60002<=N)(a:List bA)(x:kV){w:pG}(h:SI w){A B C:List Int}(o:A<+:yK w 0)(t:B<+:yK w 1)(r:C<+:yK w 2)(d:(List Int×List Int×List Int×List bA×List fD×List fT)->Option Bool):
    ∃A' g C',A'<+:yK (L9 w (Ar (clip x))) 0/\g<+:yK (L9 w (Ar (clip x))) 1/\C'<+:yK (L9 w (Ar (clip x))) 2/\iC N a x (A,B,C,tri w) d=d (A',g,C',tri (L9 w (Ar (clip x)))):=by
  have f:∀y:kV,∃A' g C',A'<+:yK (L9 w<|Ar y) 0/\g<+:yK (L9 w<|Ar y) 1/\C'<+:yK (L9 w<|Ar y) 2/\jA N w.prog (tN w).places w.bQ ⟨y.kind,y.place,y.co,0⟩ a d A B C y.n=d (A',g,C',tri<|L9 w<|Ar y):=by
    intro y;have i:=next_si h<|Ar y;by_cases c:(fI w (Ar y)).2=0
    · have e:L9 w (Ar y)=(fI w<|Ar y).1:=if_neg<|nn c;rw[e]at i⊢;have l:=o.trans<|Su h c 0;have p:=t.trans<|Su h c 1;have m:=r.trans<|Su h c 2;have q:DX N (tN w) y=aj (tN (fI w<|Ar y).1,0):=by rw[do_r h.wr y hN,if_neg<|nn c]
      generalize (fI w (Ar y)).1=v at i l p m q⊢;refine⟨_,_,_,cl _,cl _,cl _,?_⟩;unfold jA;show(DX N (tN w) y).bind _=_;rw[q];simp only[bnd];rw[dT trivial,cond_true,said_g i.wr zq1 hN];simp only[bnd];refine(grow_ok l fun b=>jy N a d (tN v,0) A B C (yK v 0,0) b).trans ?_;unfold jy;rw[cond_false,said_g i.wr zq1 hN];simp only[bnd];refine(grow_ok p fun b=>jw N a d (tN v,0) (yK v 0,0) B C (yK v 1,0) b).trans ?_;unfold jw;rw[cond_false,said_g i.wr zq1 hN];simp only[bnd];refine(grow_ok m fun b=>jv N a d (tN v,0) (yK v 0,0) (yK v 1,0) C (yK v 2,0) b).trans ?_;unfold jv;rw[cond_false];unfold jr;rw[cond_false];rfl
    · have e:L9 w (Ar y)=w:=if_pos c;rw[e];refine⟨A,B,C,o,t,r,?_⟩;unfold jA;show(DX N (tN w) y).bind _=_;rw[do_r h.wr y hN,if_pos c];simp only[bnd];rw[dF c,cond_false];rfl
  unfold iC tri;simp only[];by_cases s:(x.kind=2\/x.kind=9)/\100<x.n
  · obtain⟨j,k⟩:=clip_t s;rw[j,cond_true,k];exact f ⟨x.kind,x.place,x.co,100⟩
  · obtain⟨j,k⟩:=clip_f s;rw[j,cond_false,k];exact f ⟨x.kind,x.place,x.co,x.n⟩
theorem aaH{N:Nat}(hN:60002<=N)(a:List bA):∀(l:List kV) (w:pG) (A B C:List Int),SI w->A<+:yK w 0->B<+:yK w 1->C<+:yK w 2->each (iC N a) (kU N a) l (A,B,C,tri w)=iO N a ar
 |[],w,A,B,C,_,_,_,_=>rfl
 |x::l,w,A,B,C,h,hA,hB,hC=>by
  rw[gL];obtain⟨A',d,C',b,f,c,e⟩:=grows_step hN a x h hA hB hC<|each (iC N a) (kU N a) l;rw[e];exact aaH hN a l _ A' d C' (next_si h _) b f c
theorem storyGrows(a:List bA)(b:List kV)(f:b.length<=9223372036854775807):xG NN a b=aj true:=by
  unfold xG;rw[new_g a zq1];simp only[bnd];have d:∀q,(Js a=0->q=ar)->iO NN a q=aj true:=by
    intro q i;unfold iO;rw[new_g a zq1];simp only[bnd];by_cases c:Js a=0
    · rw[if_neg (nn c)];simp only[];rw[dF zq1,cond_false,gone_ok,i c];rfl
    · rw[if_pos c];simp only[];rw[dT (show Js a≠0 from c),cond_true,gone_ok];rfl
  by_cases c:Js a=0
  · rw[if_neg (nn c)];simp only[];rw[dF zq1,cond_false];obtain⟨l,g⟩:=sixty b f;rw[g];simp only[bnd];have e:=si_new c;show each (iC NN a) (kU NN a) l ([],[],[],tri<|Nq a)=_;rw[aaH hN a l _ _ _ _ e nw nw nw];exact d _ fun _=>rfl
  · rw[if_pos c];simp only[];rw[dT (show Js a≠0 from c),cond_true];exact d _ fun h=>absurd h c
end Pw
end Go.Proofs.YtodkbibbgakkdaaGreatDoor