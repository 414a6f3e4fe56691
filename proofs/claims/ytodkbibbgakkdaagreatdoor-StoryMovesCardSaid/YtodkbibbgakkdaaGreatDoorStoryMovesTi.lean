/-
  What the law StoryMoves needs of our own library and of the walks, no more.
-/
import Derived.Test.YtodkbibbgakkdaaGreatDoorStoryMovesTh
set_option linter.unusedSimpArgs false
set_option linter.unusedVariables false
set_option maxRecDepth 10000
open Go.LX renaming State->X2
open Bool renaming and_eq_true->cP,false_eq_true->cv,not_false->iS,not_true->ea,or_eq_true->dy,or_false->tA,or_self->pw,true_eq_false->nf,false->aq,true->aT
open Decidable renaming decide->ab
open Int renaming eq_ofNat_of_zero_le->bs,toNat_natCast->bh,toNat_zero->mE
open List renaming any_eq_true->jy,append_assoc->ck,append_nil->eL,drop_succ_cons->kd,drop_zero->ga,eq_nil_of_length_eq_zero->cl,exists_cons_of_ne_nil->oB,filter_cons->hO,find?_cons->fp,find?_eq_none->rb,find?_eq_some_iff_getElem->nF,findIdx?_eq_none_iff->kx,findIdx?_eq_some_iff_getElem->np,getElem?_cons_zero->fg,getElem?_eq_getElem->bc,getElem?_eq_some_iff->ld,getElem?_set->fh,getElem_mem->cA,length_append->bj,length_cons->bq,length_map->cH,length_nil->eA,length_pos_iff->qF,length_set->cp,length_take->cd,map_cons->cg,mem_append->cE,mem_cons->bm,mem_cons_of_mem->bl,mem_flatMap->lR,mem_of_getElem?->fx,mem_of_mem_drop->jH,mem_of_mem_take->jG,mem_singleton->eR,nil_append->cr,pairwise_cons->ee,prefix_append->fk,prefix_refl->ct,take_zero->jj
open Nat renaming le_refl->bE,zero_add->fa
open Option renaming bind_some->cM,getD_some->dw,isSome_some->qg,none->ar,some->ak
open Prod renaming ext->eW,fst->hS,snd->dk
namespace Go.Proofs.YtodkbibbgakkdaaGreatDoor
open Go Go.Proofs Go.LX
namespace Pw
open Dk
theorem lnP_inv(most:Int):∀(p:ZD Str) (l:ZD Rec) (n:Int),∃rs,(TJ most p l n).1=l++rs/\ER rs/\(TJ most p l n).2.1=n+((txt rs).length:Int)/\∃t,wN 10 p=txt rs++t/\((TJ most p l n).2.2=0->t=[])
  |[],l,n=>⟨[],by simp[TJ],JU,by simp[TJ,txt],[],by simp[wN,Lib.join_nil,txt],fun _=>rfl⟩
  |[x],l,n=>by
    unfold TJ;by_cases h:x=[]
    · rw[Z2 h];subst h;exact⟨[],by simp,JU,by simp[txt],[],by rw[CB];rfl,fun _=>rfl⟩
    · rw[Z3 h];exact⟨[],by simp,JU,by simp[txt],x,by rw[CB];rfl,fun h=>by simp at h⟩
  |x::y::r,l,n=>by
    unfold TJ;by_cases a:(og x).2=0
    · rw[Z3 V];by_cases c:most<=(l.length:Int)
      · rw[Z2 c];exact⟨[],by simp,JU,by simp[txt],_,Z,fun h=>by simp at h⟩
      · rw[Z3 c];obtain⟨rs,e,g,f,t,i,d⟩:=lnP_inv most (y::r) (l++[(og x).1])<|n+(x.length:Int)+1;obtain⟨k1,k2,b⟩:=read_ok (s:=x) (r:=(og x).1) (by rw[<-a]);refine⟨(og x).1::rs,by rw[e];simp,?_,?_,t,?_,d⟩
        · intro z hz;rcases bm.1 hz with rfl|hz
          · exact⟨k1,k2⟩
          · exact g z hz
        · rw[f];have:(xw (og x).1)=x:=b.symm;simp only[txt,bj,bq,this];omega
        · rw[zn,i];have:(xw (og x).1)=x:=b.symm;simp[txt,this]
    · rw[Z2 a];exact⟨[],by simp,JU,by simp[txt],_,Z,fun h=>ZJ h a⟩
theorem ln_inv(most:Int)(s:Str):ER (ln most s).1/\(ln most s).2.1=((txt (ln most s).1).length:Int)/\∃t,s=txt (ln most s).1++t/\((ln most s).2.2=0->t=[]):=by
 obtain⟨rs,a,e,d,t,b,c⟩:=lnP_inv most (jP 10 s) [] 0;rw[cr]at a;rw[CE]at b;unfold ln;rw[a];exact⟨e,by rw[d];omega,t,b,c⟩
def Bn(d:iW):ZD Rec:=(ln 120 d.safe).1
def lG(d:iW):ZD Rec:=(NY d).2
structure DOk(d:iW):Prop where
 safe:d.safe=txt (Bn d)
 good:ER (lG d)
 len:(lG d).length<=120
 room:d.safe.length+d.wait.length<=60000
 pre:Bn d<+:lG d
 whole:(NY d).1=⟨txt (lG d),[]⟩
 rroom:(txt (lG d)).length<=60000
 still:d.wait=[]->lG d=Bn d
theorem dOk{d:iW}(h:jv d=0):DOk d:=by
  obtain⟨l,i⟩:=Dk.xn h;obtain⟨g1,g2,t,c,k⟩:=ln_inv 120 d.safe;have g:=k i;subst g;rw[eL]at c;have n:((ln 120 d.safe).1.length:Int)<=120:=(abH 120 d.safe).2.2.2 V;obtain⟨k1,k2,u,f,o⟩:=ln_inv (120-((ln 120 d.safe).1.length:Int)) d.wait;have j:=(abH (120-((ln 120 d.safe).1.length:Int)) d.wait).2.2.2 V;have a:lG d=(ln 120 d.safe).1++(ln (120-((ln 120 d.safe).1.length:Int)) d.wait).1:=rfl;have b:d.wait.take (ln (120-((ln 120 d.safe).1.length:Int)) d.wait).2.1.toNat=txt (ln (120-((ln 120 d.safe).1.length:Int)) d.wait).1:=by
    generalize p:txt (ln (120-((ln 120 d.safe).1.length:Int)) d.wait).1=T at k2 f;rw[k2,bh,f,List.take_left]
  have q:(txt (ln (120-((ln 120 d.safe).1.length:Int)) d.wait).1).length<=d.wait.length:=by
    rw[<-b,cd];omega
  refine⟨c,?_,?_,l,?_,?_,?_,?_⟩
  · rw[a];exact fun r m=>(cE.1 m).elim (g1 r)<|k1 r
  · rw[a,bj];omega
  · rw[a];exact fk _ _
  · show(⟨d.safe++d.wait.take (ln (120-((ln 120 d.safe).1.length:Int)) d.wait).2.1.toNat,[]⟩:iW)=_;rw[b,a,Ii,<-c]
  · rw[a,Ii,bj,<-c];omega
  · intro e;rw[a,e];show _++(TJ _ (jP 10 []) [] 0).1=_;simp[jP,TJ,Bn]
theorem dOk_mk{a:ZD Rec}{w:Str}(h:ER a)(b:a.length<=120)(c:(txt a).length+w.length<=60000):jv ⟨txt a,w⟩=0/\Bn ⟨txt a,w⟩=a:=by
 refine⟨FD h b c,?_⟩;unfold Bn;rw[ln_all h V]
theorem note_disk{d:iW}(h:jv d=0)(s:d.wait=[]){r:Rec}(w:La r){d1 d2:iW}(v:vR d r=(d1,0))(g:Hf d1=(d2,0)):
    dC r=0/\d2=⟨txt (Bn d++[r]),[]⟩/\jv d2=0/\Bn d2=Bn d++[r]/\lG d2=Bn d++[r]/\(Bn d).length+1<=120:=by
  have i:=dOk h;obtain⟨t,z⟩:=d;simp only at s;subst s;have q:=i.safe;simp only at q;have f:=i.room;simp only[eA]at f;have m:=i.len;rw[i.still rfl]at m;have j:=i.good;rw[i.still rfl]at j;generalize y:Bn ⟨t,[]⟩=a at*;subst q;have e:=put_txt (a:=a) (b:=[]) (r:=r) j m (by simpa[txt]using f) w;rw[show txt ([]:ZD Rec)=[]from rfl,v]at e;rcases e with e|⟨e,er,el⟩
  · exact ZJ Z e
  · rw[cr]at e el;obtain rfl:=ZL hS e;simp only at g;have k:ER [r]:=fun x l=>by rw[eR]at l;subst l;exact⟨er,w⟩
    have p:ER (a++[r]):=fun x l=>(cE.1 l).elim (j x)<|k x;by_cases c:a.length+1<=120
    · rw[sync_txt j k (by simpa using c) el]at g;obtain rfl:=ZL hS g;obtain⟨k1,k2⟩:=dOk_mk (a:=a++[r]) (w:=[]) p (by simpa using c) (by rw[Ii];simp;omega);exact⟨er,Z,k1,k2,by rw[(dOk k1).still Z,k2],c⟩
    · exfalso;unfold Hf syncT at g;rw[Z3 (by rw[FD j m el];simp)]at g;simp only at g;have n:a.length=120:=by omega
      have:jv ⟨txt a++txt [r],[]⟩=2:=by
        unfold jv;simp only[eA,bj];rw[Z3 V];rw[ln_txt (txt [r]) j V];have o:jP 10 (txt [r])=[xw r,[]]:=by
          have:=XR [r] [];rw[eL]at this;rw[this];simp[jP]
        rw[o];unfold TJ;have u:og (xw r)=(r,0):=abE er w;rw[u,Z3 zq3,Z2 V]
      rw[this]at g;simp at g
theorem tear_disk{d:iW}(h:jv d=0)(q:d.wait=[]){r:Rec}(w:La r){d1:iW}(B:vR d r=(d1,0)){n:Int}(hn:0<=n/\n<=d1.wait.length):
    dC r=0/\(Lb d1 n).2=0/\jv (Lb d1 n).1=0/\Bn (Lb d1 n).1=Bn d/\(lG (Lb d1 n).1=Bn d\/lG (Lb d1 n).1=Bn d++[r]):=by
  have f:=dOk h;obtain⟨y,E⟩:=d;simp only at q;subst q;have p:=f.safe;simp only at p;have c:=f.room;simp only[eA]at c;have i:=f.len;rw[f.still rfl]at i;have g:=f.good;rw[f.still rfl]at g;generalize C:Bn ⟨y,[]⟩=a at*;subst p;have e:=put_txt (a:=a) (b:=[]) (r:=r) g i (by simpa[txt]using c) w;rw[show txt ([]:ZD Rec)=[]from rfl,B]at e;rcases e with e|⟨e,er,el⟩
  · exact ZJ Z e
  · rw[cr]at e el;obtain rfl:=ZL hS e;have v:jv ⟨txt a,txt [r]⟩=0:=FD g i el;simp only at hn;have z:Lb ⟨txt a,txt [r]⟩ n=(⟨txt a,(txt [r]).take n.toNat⟩,0):=by
      unfold Lb;simp only;rw[Z3 (by rw[v];simp),Z3 V]
    rw[z];obtain⟨k1,k2⟩:=dOk_mk (a:=a) (w:=(txt [r]).take n.toNat) g i (by rw[cd];omega);refine⟨er,Z,k1,k2,?_⟩;have u:lG ⟨txt a,(txt [r]).take n.toNat⟩=a++(ln (120-(a.length:Int)) ((txt [r]).take n.toNat)).1:=by
      show(ln 120<|txt a).1++_=_;rw[ln_all g V]
    simp only;rw[u];obtain⟨j,t,A,s⟩:=take_txt [r] n.toNat;have l:ER [r]:=fun x m=>by rw[eR]at m;subst m;exact⟨er,w⟩
    rw[A];cases j with
    |zero=>
      left;have:=(ln_torn (most:=120-(a.length:Int)) (rs:=[]) (t:=t) JU (by simp;omega) s).1;simp only[jj];rw[this,eL]
    |succ j=>
      simp only[List.take_succ_cons,List.take_nil];by_cases o:a.length+1<=120
      · right;rw[(ln_torn (most:=120-(a.length:Int)) l (by simp;omega) s).1]
      · left;have k:(120-(a.length:Int))=0:=by omega
        rw[k];have:=(abH 0<|txt [r]++t).2.2.2 V;have:(ln 0<|txt [r]++t).1=[]:=cl V;rw[this,eL]
end Pw
open Go Go.Proofs Go.LX
namespace Pw
open Dk
theorem QW{α:Type}{R:Rdr α}{g:α->ZD Int}(h:∀l x r,R l=ak (x,r)->l=g x++r):∀(n:Nat) (l:ZD Int) (xs:ZD α) (r:ZD Int),kL R n l=ak (xs,r)->l=xs.flatMap g++r/\xs.length=n
 |0,l,xs,r,e=>by
  have a:ak (([]:ZD α),l)=ak (xs,r):=e;cases a;exact⟨Z,Z⟩
 |n+1,l,xs,r,e=>by
  have a:(R l).bind (fun q=>(kL R n q.2).bind fun b=>ak (q.1::b.1,b.2))=ak (xs,r):=e;cases h1:R l with
  |none=>rw[h1]at a;cases a
  |some q=>
   rw[h1,cM]at a;cases h2:kL R n q.2 with
   |none=>rw[h2]at a;cases a
   |some b=>
    rw[h2,cM]at a;cases a;obtain⟨k1,k2⟩:=QW h n q.2 b.1 b.2 h2;refine⟨?_,by simp[k2]⟩;rw[h l q.1 q.2 h1,List.flatMap_cons,ck,<-k1]
theorem num_inv{l:ZD Int}{x:Int}{r:ZD Int}(h:Ih l=ak (x,r)):l=x::r:=by
 cases l with
 |nil=>cases h
 |cons a l=>cases h;rfl
theorem abI{m:Int}{l:ZD Int}{x:Nat}{r:ZD Int}(h:um m l=ak (x,r)):l=(x:Int)::r/\(x:Int)<=m:=by
  cases l with
  |nil=>cases h
  |cons a l=>
    unfold um at h;simp only at h;by_cases b:0<=a/\a<=m
    · rw[Z2 b]at h;cases h;rw[Int.toNat_of_nonneg b.1];exact⟨Z,b.2⟩
    · rw[Z3 b]at h;cases h
theorem xx{α β:Type}{R:Rdr α}{f:α->Rdr β}{l:ZD Int}{y:β}{r:ZD Int}(h:iQ R f l=ak (y,r)):∃x a,R l=ak (x,a)/\f x a=ak (y,r):=by
 unfold iQ at h;cases e:R l with
 |none=>rw[e]at h;cases h
 |some q=>rw[e,cM]at h;exact⟨q.1,q.2,Z,h⟩
theorem abJ{α:Type}{x y:α}{l r:ZD Int}(h:yC x l=ak (y,r)):x=y/\l=r:=by cases h;exact⟨Z,Z⟩
theorem val_inv{l:ZD Int}{x:Val}{r:ZD Int}(h:Y2 l=ak (x,r)):l=[x.kind,x.n]++r:=by
 obtain⟨k,d,b,h⟩:=xx h;obtain⟨n,c,a,h⟩:=xx h;obtain⟨rfl,rfl⟩:=abJ h;rw[num_inv b,num_inv a];rfl
theorem row_inv{m:Int}{l:ZD Int}{x:ZD Val}{r:ZD Int}(h:Ez m l=ak (x,r)):l=rowP x++r:=by
 obtain⟨k,a,c,h⟩:=xx h;obtain⟨b,d⟩:=QW (fun l x r=>val_inv) k a x r h;rw[(abI c).1,b,<-d];rfl
theorem fr_inv{l:ZD Int}{x:LX.Frame}{r:ZD Int}(h:TF l=ak (x,r)):l=frP x++r:=by
 obtain⟨a,n,g,h⟩:=xx h;obtain⟨b,m,f,h⟩:=xx h;obtain⟨c,k,e,h⟩:=xx h;obtain⟨d,j,i,h⟩:=xx h;obtain⟨rfl,rfl⟩:=abJ h;rw[num_inv g,num_inv f,num_inv e,row_inv i];rfl
theorem st_inv{l:ZD Int}{s:X2}{r:ZD Int}(h:TG l=ak (s,r)):l=vY s++r:=by
 obtain⟨a,z,y,h⟩:=xx h;obtain⟨b,A,d,h⟩:=xx h;obtain⟨n,j,i,h⟩:=xx h;obtain⟨f,g,v,h⟩:=xx h;obtain⟨k,w,o,h⟩:=xx h;obtain⟨c,t,u,h⟩:=xx h;obtain⟨rfl,rfl⟩:=abJ h;obtain⟨e,p⟩:=QW (fun l x r=>fr_inv) n j f g v;obtain⟨m,q⟩:=QW (fun l x r=>row_inv) k w c t u;rw[num_inv y,num_inv d,(abI i).1,e,(abI o).1,m,<-p,<-q];unfold vY;simp
structure Img(p:List aX)(l:List Int)(s:X2):Prop where
 un:dN p l=(s,0)
 st:wm p s
 idem:dS s=s
 eq:l=vY s
theorem XV{p:ZD aX}(hp:KD p=0){l:ZD Int}(h:(dN p l).2=0):Img p l (dN p l).1:=by
  have g:dN p l=((dN p l).1,0):=by rw[<-h]
  have a:=g;unfold dN at h;by_cases d:1200<l.length
  · rw[Z2 d]at h;simp at h
  · rw[Z3 d]at h;cases e:TG l with
    |none=>rw[e]at h;simp at h
    |some q=>
      obtain⟨s,r⟩:=q;rw[e]at h;cases r with
      |cons x r=>simp at h
      |nil=>
        simp only at h;have f:dN p l=endP p s:=by unfold dN;rw[Z3 d,e]
        rw[f]at a⊢;unfold endP at h a⊢;rw[Z3 V]at h a⊢;by_cases c:ckS p s=0
        · rw[Z3 V]at h a⊢;by_cases b:dS s=s
          · rw[Z2 b]at h a⊢;refine⟨?_,JO.1 c,b,?_⟩
            · rw[f];unfold endP;rw[Z3 V,Z3 V,Z2 b]
            · have:=st_inv e;rw[eL]at this;exact this
          · rw[Z3 b]at h;simp at h
        · rw[Z2 c]at h;exact ZJ h c
theorem img_pack{p:ZD aX}(hp:KD p=0){s:X2}(h:wm p s):Img p (vY (dS s)) (dS s):=
 ⟨unpack_pack hp h,Vd (nU hp) h,NU (h.sw (nU hp)),rfl⟩
theorem valsP_mem{l:ZD Val}{x:Int}(h:x∈abu l):∃v∈l,x=v.kind\/x=v.n:=by
 obtain⟨v,hv,a⟩:=lR.1 h;simp at a;exact⟨v,hv,a⟩
theorem Lc{x:Int}(h: -2000000000<=x/\x<=2000000000):kN x:=⟨by omega,by omega⟩
theorem val_b{n:Nat}{v:Val}(h:kv n v)(hn:n<=24):(-2000000000<=v.kind/\v.kind<=2000000000)/\ -2000000000<=v.n/\v.n<=2000000000:=by unfold kv at h;omega
theorem row_b{n:Nat}{l:ZD Val}(h:∀v∈l,kv n v)(hn:n<=24)(b:l.length<=40):∀x∈rowP l,-2000000000<=x/\x<=2000000000:=by
  intro x a;rcases bm.1 a with rfl|a
  · omega
  · obtain⟨v,hv,e⟩:=valsP_mem a;have:=val_b (h v hv) hn;rcases e with rfl|rfl
    · exact this.1
    · exact this.2
theorem pack_b{p:ZD aX}(hp:ny p){s:X2}(h:wm p s):∀x∈vY s,kN x:=by
  have e:=h.small hp;have B:=e.frames;have m:=e.cells;have r:=h.status;have w:=h.bU;intro x a;refine Lc ?_;unfold vY at a;rcases bm.1 a with rfl|a
  · omega
  rcases bm.1 a with rfl|a
  · omega
  rcases bm.1 a with rfl|a
  · omega
  rcases cE.1 a with a|a
  · obtain⟨f,b,a⟩:=lR.1 a;obtain⟨q,g⟩:=AX h.frames f b;have u:=(hp.mem g.proc).2.2.2;have v:=(aG g.proc).1;have y:f.proc.toNat<p.length:=by
      have:=(aG g.proc).2;exact(ld.1 this).1
    have o:=hp.many;have hat:=g.at_;unfold uB at u;have j: -2000000000<=f.iF/\f.iF<=2000000000:=by
      have i:∀(l:ZD LX.Frame) (t:Int),t<=40->(∀f∈l,f.regs.length<=40)->nV p s.cells.length t l->∀f∈l,0<=f.iF/\f.iF<40:=by
        intro l;induction l with
        |nil=>intro t _ _ _ f b;cases b
        |cons g l ih=>
          intro t A n d f b;rcases bm.1 b with rfl|b
          · have:=d.2.1;omega
          · exact ih _ (by have:=n g zq3;omega) (fun z hz=>n z (bl _ hz)) d.2.2 f b
      have:=i s.frames 1 V e.regs h.frames f b;omega
    unfold frP at a;rcases bm.1 a with rfl|a
    · omega
    rcases bm.1 a with rfl|a
    · omega
    rcases bm.1 a with rfl|a
    · exact j
    · exact row_b g.vals m (e.regs f b) x a
  · rcases bm.1 a with rfl|a
    · omega
    · obtain⟨c,k,a⟩:=lR.1 a;exact row_b (h.cells.2 c k).2 m (by have:=e.fields c k;omega) x a
theorem abK{p:ZD aX}(hp:ny p){l:ZD Int}{s:X2}(h:Img p l s):(∀x∈l,kN x)/\1<=l.length/\l.length<=1200:=by
 rw[h.eq];have:=abw<|h.st.small hp;refine⟨pack_b hp h.st,?_,by omega⟩;unfold vY;simp
def lH(i:Int)(l:ZD Co):Zs Co:=l.find? fun x=>ab (x.kJ=i)
theorem EB{i:Int}{l:ZD Co}{c:Co}(h:lH i l=ak c):c.kJ=i/\c∈l:=by
 have a:=List.find?_some h;exact⟨by simpa using a,List.mem_of_find?_eq_some h⟩
theorem FE{c:Co}{i:Int}:∀{l:ZD Co},(∀x∈l,x.kJ≠c.kJ)->lH i (Ij c l)=if i=c.kJ then ak c else lH i l
  |[],_=>by
    unfold Ij lH;rw[fp];by_cases h:i=c.kJ
    · rw[Z2 h,dT h.symm]
    · rw[Z3 h,dF (fun e=>h e.symm)]
  |x::r,hx=>by
    unfold Ij;by_cases a:x.kJ<c.kJ
    · rw[Z2 a];have b:=FE (c:=c) (i:=i) (l:=r) fun y d=>hx y<|bl _ d;unfold lH at b⊢;rw[fp,fp,b];by_cases h:x.kJ=i
      · rw[dT h];show ak x=_;rw[Z3 (by have:=hx x zq3;omega)]
      · rw[dF h]
    · rw[Z3 a];unfold lH;rw[fp];by_cases h:i=c.kJ
      · rw[Z2 h,dT h.symm]
      · rw[Z3 h,dF (fun e=>h e.symm)]
theorem IB{b:Rec}{i:Int}:∀{l:ZD Co},lH i (OE b l)=if i=b.co then ar else lH i l
  |[]=>by simp[lH,OE]
  |x::r=>by
    have c:=IB (b:=b) (i:=i) (l:=r);unfold lH OE at c⊢;rw[hO];by_cases h:x.kJ=b.co
    · rw[dF V];simp only[cv,if_false];rw[c,fp];by_cases a:i=b.co
      · rw[Z2 a,Z2 a]
      · rw[Z3 a,Z3 a,dF V]
    · rw[dT h];simp only[if_true];rw[fp,fp,c];by_cases a:x.kJ=i
      · rw[dT a];show ak x=_;rw[Z3 V]
      · rw[dF a]
inductive Did (r:Rec) (o n:Option Co):Prop
 |begin (h:r.kind=1/\r.aF=1) (ho:o=ar) (hn:n=ak ⟨r.co,r.aF,r.image,-1⟩)
 |take (h:r.kind=4/\r.aF≠1) (ho:o=ar) (hn:n=ak ⟨r.co,r.aF,r.image,-1⟩)
 |slice (c:Co) (h:r.kind=2) (ho:o=ak c) (he:c.aF=r.aF) (hf:c.offered= -1) (hn:n=ak ⟨c.kJ,c.aF,r.image,-1⟩)
 |offer (c:Co) (h:r.kind=3) (ho:o=ak c) (he:c.aF=r.aF) (hf:c.offered= -1) (hx:c.aF≠100) (hn:n=ak ⟨c.kJ,c.aF,c.image,r.place⟩)
 |gone (c:Co) (h:r.kind=5) (ho:o=ak c) (he:c.aF=r.aF) (hf:c.offered≠ -1) (hn:n=ar)
theorem XW{a:ZD Co}{r:Rec}(h:(gD a r).2=0):(∀i,i≠r.co->lH i (gD a r).1=lH i a)/\Did r (lH r.co a) (lH r.co (gD a r).1)/\fG r=0:=by
  have v:=(next_ok a r h).1;unfold gD at h⊢;by_cases q:gB a=0
  · by_cases o:fG r=0
    · have gr:=abA r o;rw[Z3 (by simpa using q),Z3 (by simpa using o)]at h⊢;have l:∀x∈OE r a,x.kJ≠r.co:=fun x m=>(Y3 m).2;have u:NZ r a=lH r.co a:=rfl;cases e:NZ r a with
      |none=>
        rw[e]at h;rw[u]at e;simp only at h⊢;by_cases f:r.kind=1\/r.kind=4
        · rw[Z2 f]at h⊢;by_cases j:(ab (r.aF=1) !=ab (r.kind=1))=aT
          · rw[Z2 j]at h;simp at h
          · rw[Z3 j];simp only;refine⟨fun i k=>?_,?_,o⟩
            · rw[FE l,Z3 k,IB,Z3 k]
            · rw[FE l,Z2 rfl,e];rcases f with f|f
              · refine .begin ⟨f,?_⟩ Z Z;by_cases g:r.aF=1
                · exact g
                · exact ZJ (by simp[f,g]) j
              · refine .take ⟨f,?_⟩ Z Z;intro g;exact ZJ (by simp[f,g]) j
        · rw[Z3 f]at h;simp at h
      |some c=>
        rw[e]at h;rw[u]at e;obtain⟨d,w⟩:=EB e;simp only at h⊢;by_cases f:r.kind=1\/r.kind=4
        · rw[Z2 f]at h;simp at h
        · rw[Z3 f]at h⊢;by_cases j:(ab (r.aF≠c.aF)||(ab (c.offered≠ -1) !=ab (r.kind=5)))=aT
          · rw[Z2 j]at h;simp at h
          · rw[Z3 j]at h⊢;have g:c.aF=r.aF:=by
              by_cases g:r.aF=c.aF
              · exact g.symm
              · exact ZJ (by simp[g]) j
            by_cases p:r.kind=5
            · rw[Z2 p];simp only;refine⟨fun i k=>by rw[IB,Z3 k],?_,o⟩;rw[IB,Z2 rfl,e];refine .gone c p Z g ?_ Z;intro n;exact ZJ (by simp[p,n]) j
            · have n:c.offered= -1:=by
                by_cases n:c.offered= -1
                · exact n
                · exact ZJ (by simp[p,n]) j
              rw[Z3 p]at h⊢;by_cases t:r.kind=2
              · rw[Z2 t];simp only;have b:∀x∈OE r a,x.kJ≠(⟨c.kJ,c.aF,r.image,c.offered⟩:Co).kJ:=fun x m=>by simp only[d];exact l x m
                refine⟨fun i k=>?_,?_,o⟩
                · rw[FE b,Z3 (by simp only[d];exact k),IB,Z3 k]
                · rw[FE b,Z2 (by simp only[d]),e];exact .slice c t Z g n (by rw[n])
              · rw[Z3 t]at h⊢;by_cases m:c.aF=100
                · rw[Z2 m]at h;simp at h
                · rw[Z3 m];simp only;have s:r.kind=3:=by have:=gr.kind;omega
                  have b:∀x∈OE r a,x.kJ≠(⟨c.kJ,c.aF,c.image,r.place⟩:Co).kJ:=fun x m=>by simp only[d];exact l x m
                  refine⟨fun i k=>?_,?_,o⟩
                  · rw[FE b,Z3 (by simp only[d];exact k),IB,Z3 k]
                  · rw[FE b,Z2 (by simp only[d]),e];exact .offer c s Z g n m Z
    · rw[Z3 (by simpa using q),Z2 o]at h;exact ZJ h o
  · rw[Z2 q]at h;exact ZJ h q
end Pw
open Go Go.Proofs Go.LX
namespace Pw
open Dk
structure MP where
 cos:List Co
 d:iW
 up:Bool
deriving DecidableEq
structure iY where
 prog:List aX
 places:List MP
 aY:List dE
structure Hap where
 kind:Int
 place:Int
 co:Int
 n:Int
theorem regAt_ok{n:Nat}{r:ZD Val}(h:∀v∈r,kv n v)(i:Int):kv n (jS r i):=by
  unfold jS idx;by_cases a:0<=i
  · rw[Z2 a];cases e:r[i.toNat]? with
    |none=>exact .inl ⟨rfl,rfl⟩
    |some v=>exact h v (fx e)
  · rw[Z3 a];exact .inl ⟨Z,Z⟩
theorem said_b{a:ZD aX}(e:ny a){s:X2}(h:wm a s)(g:s.status=0){t:X2}{z:Int}{p:Ys}(b:Aj a s=ak (t,ak z,p)):kN z:=by
  have i:=((Ak e h g b).2.2 Z).2;obtain⟨pre,f,x,c,m,j,k,l⟩:=IA e h g;rw[k]at b;rw[l]at i;unfold uk at b;simp only[i]at b;rw[Z3 V,Z3 V,Z3 V,Z3 V,Z3 V,Z3 V,Z3 V,Z3 V,Z2 trivial]at b;by_cases d:(jS f.regs c.a).kind=1
  · rw[Z2 d]at b;have:=regAt_ok j.fr.vals c.a;have:=this.int d;cases b;exact Lc V
  · rw[Z3 d]at b;cases b
theorem run_said{a:ZD aX}(f:ny a):∀(m:Nat) (b:ZD Int) (n:Nat) (s:X2),wm a s->(∀x∈b,kN x)->∀x∈(xE a m b n s).2.1,kN x
  |0,b,n,s,_,h=>h
  |m+1,b,n,s,hs,h=>by
    unfold xE;by_cases g:s.status=0
    · rw[Z3 V];by_cases d:b.length=40/\MM a s=9
      · rw[Z2 d];exact h
      · rw[Z3 d];cases e:Aj a s with
        |none=>exact h
        |some q=>
          obtain⟨t,o,p⟩:=q;have i:∀x∈b++o.toList,kN x:=by
            intro x c;rcases cE.1 c with c|c
            · exact h x c
            · cases o with
              |none=>cases c
              |some z=>simp at c;subst c;exact said_b f hs g e
          simp only;cases p with
          |true=>exact i
          |false=>exact run_said f m _ _ t (Ak f hs g e).1 i
    · rw[Z2 g];exact h
def XX(m:dE):Prop:=(0<=m.from_/\m.from_<=2)/\(0<=m.iF/\m.iF<=2)/\(0<=m.co/\m.co<=2)/\(2<=m.aF/\m.aF<=100)/\(m.taken=aT↔m.image=[])/\m.image.length<=1200
theorem mail_each:∀l:ZD dE,each Ay D9 l ()=0↔∀m∈l,XX m
  |[]=>by simp[rE,D9]
  |m::l=>by
    have f:=mail_each l;rw[gV];generalize each Ay D9 l=K at f⊢;unfold Ay;by_cases d:(0<=m.from_/\m.from_<=2)/\(0<=m.iF/\m.iF<=2)/\(0<=m.co/\m.co<=2)/\(2<=m.aF/\m.aF<=100)
    · rw[show(((((((ab ((m.from_:Int)<0)||ab ((3:Int)<=m.from_))||ab ((m.iF:Int)<0))||ab ((3:Int)<=m.iF))||ab ((m.co:Int)<0))||ab ((3:Int)<=m.co))||ab ((m.aF:Int)<2))||ab ((100:Int)<m.aF))=aq by
        simp only[Bool.or_eq_false_iff,decide_eq_false_iff_not];omega,Z1]
      by_cases b:(m.taken=aT↔m.image=[])/\m.image.length<=1200
      · rw[show((m.taken !=ab (((m.image.length:Int):Int)=0))||ab ((1200:Int)<(m.image.length:Int)))=aq by
          rw[dF (show¬(1200:Int)<(m.image.length:Int) by have:=b.2;omega),tA];by_cases a:m.image=[]
          · rw[b.1.2 a,a];simp
          · have:m.taken=false:=by
              cases e:m.taken with
              |false=>rfl
              |true=>exact ZJ (b.1.1 e) a
            rw[this,dF (fun h=>a (cl V))];rfl,Z1,f]
        constructor
        · intro h x c;rcases bm.1 c with rfl|c
          · exact⟨d.1,d.2.1,d.2.2.1,d.2.2.2,b⟩
          · exact h x c
        · exact fun h x c=>h x<|bl _ c
      · rw[show((m.taken !=ab (((m.image.length:Int):Int)=0))||ab ((1200:Int)<(m.image.length:Int)))=aT by
          by_cases g:m.image.length<=1200
          · rw[dF (show¬(1200:Int)<(m.image.length:Int) by omega),tA];by_cases a:m.image=[]
            · cases e:m.taken with
              |true=>exact ZJ ⟨⟨fun _=>a,fun _=>e⟩,g⟩ b
              |false=>rw[a];simp
            · cases e:m.taken with
              |true=>rw[dF (fun h=>a (cl V))];rfl
              |false=>exact ZJ ⟨⟨fun h=>(Bool.false_ne_true (e.symm.trans h)).elim,fun h=>ZJ h a⟩,g⟩ b
          · rw[dT (show(1200:Int)<(m.image.length:Int) by omega),Bool.or_true],ZS]
        constructor
        · intro h;simp at h
        · intro h;exact ZJ (h m zq3).2.2.2.2 b
    · rw[show(((((((ab ((m.from_:Int)<0)||ab ((3:Int)<=m.from_))||ab ((m.iF:Int)<0))||ab ((3:Int)<=m.iF))||ab ((m.co:Int)<0))||ab ((3:Int)<=m.co))||ab ((m.aF:Int)<2))||ab ((100:Int)<m.aF))=aT by
        simp only[dy,decide_eq_true_eq];omega,ZS]
      constructor
      · intro h;simp at h
      · intro h;have:=h m zq3;exact ZJ ⟨this.1,this.2.1,this.2.2.1,this.2.2.2.1⟩ d
theorem JV(l:ZD dE):dV l=0↔l.length<=40/\∀m∈l,XX m:=by
  unfold dV;by_cases h:l.length<=40
  · rw[dF V,Z1,mail_each];exact⟨fun x=>⟨h,x⟩,fun x=>x.2⟩
  · rw[dT V,ZS];exact⟨fun x=>by simp at x,fun x=>ZJ x.1 h⟩
def J7(p:ZD aX):ZD Co->Int
 |[]=>0
 |c::l=>if(dN p c.image).2≠0 then(dN p c.image).2 else J7 p l
theorem Vn(p:ZD aX):∀l,J7 p l=0↔∀c∈l,(dN p c.image).2=0
  |[]=>by simp[J7]
  |c::l=>by
    unfold J7;by_cases h:(dN p c.image).2=0
    · rw[Z3 V,Vn p l];simp[h]
    · rw[Z2 h];simp[h]
def BI(p:ZD aX)(x:MP):Int:=
 if jv x.d≠0 then jv x.d else if x.up=aq then(if x.cos=[]then 0 else 4)else if x.d.wait≠[]then 4 else
 if(iM [] (lG x.d)).2≠0 then(iM [] (lG x.d)).2 else if(iM [] (lG x.d)).1≠x.cos then 4 else J7 p x.cos
structure PlR(p:List aX)(x:MP):Prop where
 disk:jv x.d=0
 down:x.up=aq->x.cos=[]
 wait:x.up=aT->x.d.wait=[]
 cos:x.up=aT->iM [] (lG x.d)=(x.cos,0)
 img:∀c∈x.cos,(dN p c.image).2=0
theorem plc_iff(p:ZD aX)(x:MP):BI p x=0↔PlR p x:=by
  unfold BI;by_cases b:jv x.d=0
  · rw[Z3 V];cases hu:x.up with
    |false=>
      simp only[if_true];by_cases a:x.cos=[]
      · rw[Z2 a];exact⟨fun _=>⟨b,fun _=>a,fun h=>(by rw[hu]at h;cases h),fun h=>(by rw[hu]at h;cases h),by rw[a];simp⟩,fun _=>rfl⟩
      · rw[Z3 a];exact⟨fun h=>by simp at h,fun h=>ZJ (h.down hu) a⟩
    |true=>
      simp only[nf,if_false];by_cases a:x.d.wait=[]
      · rw[Z3 (by simpa using a)];by_cases c:(iM [] (lG x.d)).2=0
        · rw[Z3 V];by_cases e:(iM [] (lG x.d)).1=x.cos
          · rw[Z3 (by simpa using e),Vn];exact⟨fun h=>⟨b,fun h=>(by rw[hu]at h;cases h),fun _=>a,fun _=>by rw[<-e,<-c],h⟩,fun h=>h.img⟩
          · rw[Z2 e];exact⟨fun h=>by simp at h,fun h=>ZJ (by rw[h.cos hu]) e⟩
        · rw[Z2 c];exact⟨fun h=>ZJ h c,fun h=>ZJ (by rw[h.cos hu]) c⟩
      · rw[Z2 a];exact⟨fun h=>by simp at h,fun h=>ZJ (h.wait hu) a⟩
  · rw[Z2 b];exact⟨fun h=>ZJ h b,fun h=>ZJ h.disk b⟩
def Qf(p:ZD aX):ZD MP->Int
 |[]=>0
 |x::l=>if BI p x≠0 then BI p x else Qf p l
theorem abL(p:ZD aX):∀l,Qf p l=0↔∀x∈l,PlR p x
  |[]=>by simp[Qf]
  |x::l=>by
    unfold Qf;by_cases h:BI p x=0
    · rw[Z3 V,abL p l];have:=(plc_iff p x).1 h;simp[this]
    · rw[Z2 h];exact⟨fun a=>ZJ a h,fun a=>ZJ ((plc_iff p x).2<|a x zq3) h⟩
def Oh(p:ZD aX):ZD dE->Int
 |[]=>0
 |m::l=>if m.taken=aT then Oh p l else if(dN p m.image).2≠0 then(dN p m.image).2 else Oh p l
theorem XY(p:ZD aX):∀l,Oh p l=0↔∀m∈l,m.taken=aq->(dN p m.image).2=0
  |[]=>by simp[Oh]
  |m::l=>by
    unfold Oh;by_cases a:m.taken=aT
    · rw[Z2 a,XY p l];simp[a]
    · rw[Z3 a];have b:m.taken=false:=by simpa using a
      by_cases h:(dN p m.image).2=0
      · rw[Z3 V,XY p l];simp[h]
      · rw[Z2 h];simp[h,b]
def EC(w:iY):Int:=
 if KD w.prog≠0 then KD w.prog else if w.places.length≠3 then 4 else if dV w.aY≠0 then dV w.aY else
 if Qf w.prog w.places≠0 then Qf w.prog w.places else Oh w.prog w.aY
structure WR(w:iY):Prop where
 code:KD w.prog=0
 many:w.places.length=3
 XZ:w.aY.length<=40
 mok:∀m∈w.aY,XX m
 pl:∀x∈w.places,PlR w.prog x
 mimg:∀m∈w.aY,m.taken=aq->(dN w.prog m.image).2=0
theorem w_iff(w:iY):EC w=0↔WR w:=by
  unfold EC;by_cases c:KD w.prog=0
  · rw[Z3 V];by_cases e:w.places.length=3
    · rw[Z3 V];by_cases b:dV w.aY=0
      · rw[Z3 V];by_cases d:Qf w.prog w.places=0
        · rw[Z3 V,XY];have a:=(JV _).1 b;exact⟨fun h=>⟨c,e,a.1,a.2,(abL _ _).1 d,h⟩,fun h=>h.mimg⟩
        · rw[Z2 d];exact⟨fun h=>ZJ h d,fun h=>ZJ ((abL _ _).2 h.pl) d⟩
      · rw[Z2 b];exact⟨fun h=>ZJ h b,fun h=>ZJ ((JV _).2 ⟨h.XZ,h.mok⟩) b⟩
    · rw[Z2 e];exact⟨fun h=>by simp at h,fun h=>ZJ h.many e⟩
  · rw[Z2 c];exact⟨fun h=>ZJ h c,fun h=>ZJ h.code c⟩
def zP:MP:=⟨[],zD,aq⟩
def fw(w:iY)(k:Int):MP:=(idx w.places k).getD zP
def Bo(w:iY)(k:Int)(x:MP):iY:=⟨w.prog,w.places.set k.toNat x,w.aY⟩
def kS(x:MP)(r:Rec):MP×Int:=
 if(gD x.cos r).2≠0 then(x,(gD x.cos r).2)else if(vR x.d r).2≠0 then(x,(vR x.d r).2)else
 if(Hf (vR x.d r).1).2≠0 then(x,(Hf (vR x.d r).1).2)else(⟨(gD x.cos r).1,(Hf (vR x.d r).1).1,x.up⟩,0)
def RD(x:MP)(r:Rec)(keep:Int):MP×Int:=
 if(gD x.cos r).2≠0 then(x,(gD x.cos r).2)else if(vR x.d r).2≠0 then(x,(vR x.d r).2)else
 (⟨[],(Lb (vR x.d r).1 (max 0 (min keep ((vR x.d r).1.wait.length:Int)))).1,aq⟩,0)
def zg(l:ZD dE)(m:dE):ZD dE:=if dV l≠0\/dV [m]≠0 then l else if l.length<40 then l++[m]else l
def uq(p:ZD aX)(k:Int)(c:Co)(fuel:Int):Rec×Int:=
 if 0<=c.offered then(⟨2,c.kJ,c.aF,0,[],[]⟩,7)else
 if(dN p c.image).2≠0 then(⟨2,c.kJ,c.aF,0,[],[]⟩,(dN p c.image).2)else
 if(dN p c.image).1.status=3/\0<=(dN p c.image).1.bU/\(dN p c.image).1.bU<3/\(dN p c.image).1.bU≠k then(⟨3,c.kJ,c.aF,(dN p c.image).1.bU,[],[]⟩,0)else
 if(wake (dN p c.image).1).status≠0 then(⟨2,c.kJ,c.aF,0,[],[]⟩,7)else
 (⟨2,c.kJ,c.aF,0,(xE p fuel.toNat [] 0 (wake (dN p c.image).1)).2.1,vY (dS (xE p fuel.toNat [] 0 (wake (dN p c.image).1)).1)⟩,0)
def Am(k:Int)(c:Co):dE:=⟨k,c.offered,c.kJ,c.aF+1,aq,c.image⟩
def runW(w:iY)(x:Hap):iY×Int:=
 match lH x.co (fw w x.place).cos with
 |none=>(w,5)
 |some c=>
  let fuel:=if x.kind=9 then 2000 else x.n
  if fuel<1\/2000<fuel then(w,3)else
  let q:=uq w.prog x.place c fuel
  if q.2≠0 then(w,q.2)else
  if x.kind=9 then(Bo w x.place (RD (fw w x.place) q.1 x.n).1,(RD (fw w x.place) q.1 x.n).2)else
  if(kS (fw w x.place) q.1).2≠0 then(w,(kS (fw w x.place) q.1).2)else
  let v:=Bo w x.place (kS (fw w x.place) q.1).1
  if q.1.kind=3 then(⟨v.prog,v.places,zg v.aY (Am x.place ⟨c.kJ,c.aF,c.image,q.1.place⟩)⟩,0)else(v,0)
def FU(w:iY)(x:Hap):iY×Int:=
 match lH x.co (fw w x.place).cos with
 |none=>(w,5)
 |some c=>if c.offered<0 then(w,7)else(⟨w.prog,w.places,zg w.aY (Am x.place c)⟩,0)
def abM(w:iY)(k i:Int):iY×Int:=
 if i≠k then(w,5)else if(lG (fw w k).d).any (fun r=>ab (r.kind=1))then(w,6)else
 let r:Rec:=⟨1,i,1,0,[],vY (dS (uU w.prog))⟩
 (Bo w k (kS (fw w k) r).1,(kS (fw w k) r).2)
def OA(x:MP)(i e:Int):Ys:=(lG x.d).any fun r=>ab (r.kind=4)&&ab (r.co=i)&&ab (e<=r.aF)
def ED(w:iY)(i:Int)(a:Ys):iY×Int:=
 if i<0\/(w.aY.length:Int)<=i then(w,5)else
 let m:=(w.aY[i.toNat]?).getD zMail
 if(fw w m.iF).up=aq then(w,7)else
 let v:iY:=⟨w.prog,w.places,if a then w.aY else w.aY.take i.toNat++w.aY.drop (i.toNat+1)⟩
 if m.taken then
  match lH m.co (fw v m.iF).cos with
  |none=>(v,0)
  |some c=>if c.aF≠m.aF-1\/c.offered≠m.from_ then(v,0)else
   (Bo v m.iF (kS (fw v m.iF) ⟨5,m.co,m.aF-1,0,[],[]⟩).1,(kS (fw v m.iF) ⟨5,m.co,m.aF-1,0,[],[]⟩).2)
 else
  let b:dE:=⟨m.iF,m.from_,m.co,m.aF,aT,[]⟩
  if OA (fw v m.iF) m.co m.aF then(⟨v.prog,v.places,zg v.aY b⟩,0)else
  let r:Rec:=⟨4,m.co,m.aF,0,[],m.image⟩
  if(kS (fw v m.iF) r).2≠0 then(v,(kS (fw v m.iF) r).2)else
  let u:=Bo v m.iF (kS (fw v m.iF) r).1
  (⟨u.prog,u.places,zg u.aY b⟩,0)
def Vo(w:iY)(k:Int):iY×Int:=
 if(fw w k).up=aT then(w,7)else
 if(iM [] (lG (fw w k).d)).2≠0 then(w,(iM [] (lG (fw w k).d)).2)else
 if J7 w.prog (iM [] (lG (fw w k).d)).1≠0 then(w,J7 w.prog (iM [] (lG (fw w k).d)).1)else
 (Bo w k ⟨(iM [] (lG (fw w k).d)).1,(NY (fw w k).d).1,aT⟩,0)
def dD(w:iY)(x:Hap):iY×Int:=
 if x.kind=4\/x.kind=5 then ED w x.n (ab (x.kind=5))else
 if x.kind=6 then(if x.n<0\/(w.aY.length:Int)<=x.n then(w,5)else(⟨w.prog,w.places,w.aY.take x.n.toNat++w.aY.drop (x.n.toNat+1)⟩,0))else
 if x.kind<1\/9<x.kind then(w,4)else
 if x.place<0\/(w.places.length:Int)<=x.place then(w,5)else
 if x.kind=8 then Vo w x.place else
 if(fw w x.place).up=aq then(w,7)else
 if x.kind=1 then abM w x.place x.co else
 if x.kind=3 then FU w x else
 if x.kind=7 then(Bo w x.place ⟨[],(fw w x.place).d,aq⟩,0)else runW w x
end Pw
open Go Go.Proofs Go.LX
namespace Pw
open Dk
theorem findC_mem{l:ZD Co}(a:Up l){c:Co}(h:c∈l):lH c.kJ l=ak c:=by
  induction l with
  |nil=>cases h
  |cons x r ih=>
    rw[Up,ee]at a;unfold lH;rw[fp];rcases bm.1 h with rfl|h
    · rw[dT rfl]
    · have:=a.1 c h;rw[dF V];exact ih a.2 h
theorem good0:Dk.Good []:=⟨by simp,fun x h=>(by cases h),List.Pairwise.nil⟩
def Off(l:ZD Co):Prop:=∀c∈l,c.offered≠ -1->c.aF≠100
theorem rep_good:∀(l:ZD Rec) (s:ZD Co),Dk.Good s->Off s->(iM s l).2=0->Dk.Good (iM s l).1/\Off (iM s l).1
  |[],s,h,ho,_=>⟨h,ho⟩
  |r::l,s,h,ho,e=>by
    unfold iM at e⊢;by_cases b:(gD s r).2=0
    · rw[Z3 V]at e⊢;have d:=(next_ok s r b).2.1;obtain⟨k1,k2,-⟩:=XW b;refine rep_good l _ d ?_ e;intro c g;have a:=findC_mem d.up g;by_cases f:c.kJ=r.co
      · rw[f]at a;rw[a]at k2;rcases k2 with⟨_,_,hn⟩|⟨_,_,hn⟩|⟨c0,_,_,_,_,hn⟩|⟨c0,_,_,_,_,hx,hn⟩|⟨_,_,_,_,_,hn⟩
        · cases hn;exact fun h=>ZJ Z h
        · cases hn;exact fun h=>ZJ Z h
        · cases hn;exact fun h=>ZJ Z h
        · cases hn;exact fun _=>hx
        · cases hn
      · rw[k1 _ f]at a;exact ho c (EB a).2
    · rw[Z2 b]at e;exact ZJ e b
theorem PlR.good{p:ZD aX}{x:MP}(h:PlR p x):Dk.Good x.cos/\Off x.cos:=by
 cases hu:x.up with
 |true=>
  have e:=h.cos hu;have:=rep_good (lG x.d) [] good0 (fun c a=>by cases a) (by rw[e]);rw[e]at this;exact this
 |false=>rw[h.down hu];exact⟨good0,fun c a=>by cases a⟩
structure Vp(p:List aX)(x x':MP)(r:Rec):Prop where
 pl:PlR p x'
 up:x'.up=aT
 slog:Bn x'.d=Bn x.d++[r]
 flog:lG x'.d=lG x.d++[r]
 fs:lG x.d=Bn x.d
 cos:x'.cos=(gD x.cos r).1
 ok:(gD x.cos r).2=0
theorem abN{l:ZD Rec}{r:Rec}{s a:ZD Co}(h:iM s l=(a,0)):iM s (l++[r])=if(gD a r).2≠0 then([],(gD a r).2)else((gD a r).1,0):=by
  rw[pRep_app,h];simp only;rw[Z3 zq3];unfold iM;by_cases h:(gD a r).2=0
  · rw[Z3 V,Z3 V];rfl
  · rw[Z2 h,Z2 h]
theorem next_img{p:ZD aX}{a:ZD Co}{r:Rec}(b:(gD a r).2=0)(f:∀c∈a,(dN p c.image).2=0)(e:(r.kind=1\/r.kind=2\/r.kind=4)->(dN p r.image).2=0):∀c∈(gD a r).1,(dN p c.image).2=0:=by
  intro c h;have i:=(next_ok a r b).2.1;obtain⟨k1,k2,-⟩:=XW b;have d:=findC_mem i.up h;by_cases g:c.kJ=r.co
  · rw[g]at d;rw[d]at k2;rcases k2 with⟨hk,_,hn⟩|⟨hk,_,hn⟩|⟨c0,hk,_,_,_,hn⟩|⟨c0,_,ho,_,_,hx,hn⟩|⟨_,_,_,_,_,hn⟩
    · cases hn;exact e (.inl hk.1)
    · cases hn;exact e (.inr<|.inr hk.1)
    · cases hn;exact e (.inr<|.inl hk)
    · cases hn;exact f c0 (EB ho).2
    · cases hn
  · rw[k1 _ g]at d;exact f c (EB d).2
theorem KG{p:ZD aX}{x x':MP}{r:Rec}(h:PlR p x)(c:x.up=aT)(w:La r)(q:(r.kind=1\/r.kind=2\/r.kind=4)->(dN p r.image).2=0)(e:kS x r=(x',0)):Vp p x x' r:=by
  unfold kS at e;by_cases f:(gD x.cos r).2=0
  · rw[Z3 V]at e;by_cases g:(vR x.d r).2=0
    · rw[Z3 V]at e;by_cases i:(Hf (vR x.d r).1).2=0
      · rw[Z3 V]at e;obtain rfl:=ZL hS e;have b:=h.disk;have l:=dOk b;have k:=h.wait c;obtain⟨s,n,m,o,j,t⟩:=note_disk b k w (d1:=(vR x.d r).1) (d2:=(Hf (vR x.d r).1).1) (by rw[<-g]) (by rw[<-i]);have a:=l.still k;refine⟨⟨m,fun b=>(by simp only[c]at b;cases b),fun _=>(by rw[n]),fun _=>?_,next_img f h.img q⟩,c,o,by rw[j,a],a,Z,f⟩;simp only;rw[j,<-a,abN (h.cos c),Z3 V]
      · rw[Z2 i]at e;exact ZJ (ZL dk e) i
    · rw[Z2 g]at e;exact ZJ (ZL dk e) g
  · rw[Z2 f]at e;exact ZJ (ZL dk e) f
structure Torn(p:List aX)(x x':MP)(r:Rec):Prop where
 pl:PlR p x'
 down:x'.up=aq
 slog:Bn x'.d=Bn x.d
 flog:lG x'.d=lG x.d\/lG x'.d=lG x.d++[r]
 fs:lG x.d=Bn x.d
 ok:(gD x.cos r).2=0
theorem tear_ok{p:ZD aX}{x x':MP}{r:Rec}{n:Int}(h:PlR p x)(l:x.up=aT)(w:La r)(e:RD x r n=(x',0)):Torn p x x' r:=by
  unfold RD at e;by_cases g:(gD x.cos r).2=0
  · rw[Z3 V]at e;by_cases b:(vR x.d r).2=0
    · rw[Z3 V]at e;obtain rfl:=ZL hS e;have i:=h.wait l;have a:=(dOk h.disk).still i;obtain⟨q,s,m,o,k⟩:=tear_disk h.disk i w (d1:=(vR x.d r).1) (by rw[<-b]) (n:=max 0<|min n ((vR x.d r).1.wait.length:Int)) V;refine⟨⟨m,fun _=>rfl,fun f=>(by cases f),fun f=>(by cases f),fun c j=>(by cases j)⟩,Z,o,by rw[a];exact k,a,g⟩
    · rw[Z2 b]at e;exact ZJ (ZL dk e) b
  · rw[Z2 g]at e;exact ZJ (ZL dk e) g
theorem pAt_eq{w:iY}{k:Int}(h:0<=k/\k<w.places.length):idx w.places k=ak (fw w k)/\fw w k∈w.places/\w.places[k.toNat]? =ak (fw w k):=by
 obtain⟨n,rfl⟩:=bs h.1;have hn:n<w.places.length:=by omega
 have e:idx w.places (n:Int)=ak w.places[n]:=xI hn;unfold fw;rw[e];exact⟨Z,cA hn,by simp[hn]⟩
theorem pAt_set{w:iY}{k j:Int}(x:MP)(b:0<=k/\k<w.places.length)(a:0<=j/\j<w.places.length):fw (Bo w k x) j=if j=k then x else fw w j:=by
  obtain⟨n,rfl⟩:=bs b.1;obtain⟨m,rfl⟩:=bs a.1;unfold fw Bo;rw[lC,lC,bh,fh];by_cases h:n=m
  · subst h;rw[Z2 rfl,Z2 V,Z2 rfl];rfl
  · rw[Z3 h,Z3 V]
theorem WR.at{w:iY}(h:WR w){k:Int}(a:0<=k/\k<=2):PlR w.prog (fw w k):=h.pl _ (pAt_eq ⟨a.1,by have:=h.many;omega⟩).2.1
theorem WR.set{w:iY}(h:WR w){k:Int}{x:MP}(hx:PlR w.prog x):WR (Bo w k x) where
  code:=h.code
  many:=by show(w.places.set k.toNat x).length=3;rw[cp];exact h.many
  XZ:=h.XZ
  mok:=h.mok
  pl:=fun y hy=>by
    rcases List.mem_or_eq_of_mem_set hy with hy|rfl
    · exact h.pl y hy
    · exact hx
  mimg:=h.mimg
theorem WR.Oh{w:iY}(h:WR w){l:ZD dE}(c:l.length<=40)(b:∀m∈l,XX m/\(m.taken=aq->(dN w.prog m.image).2=0)):WR ⟨w.prog,w.places,l⟩:=
 ⟨h.code,h.many,c,fun m a=>(b m a).1,h.pl,fun m a=>(b m a).2⟩
instance:DecidablePred XX:=fun m=>by unfold XX;infer_instance
theorem Qg{w:iY}(h:WR w)(m:dE):zg w.aY m=if XX m/\w.aY.length<40 then w.aY++[m]else w.aY:=by
  unfold zg;have e:dV w.aY=0:=(JV _).2 ⟨h.XZ,h.mok⟩;by_cases a:XX m
  · have d:dV [m]=0:=(JV _).2 ⟨by simp,fun x c=>by rw[eR]at c;rw[c];exact a⟩;rw[Z3 V];by_cases b:w.aY.length<40
    · rw[Z2 b,Z2 ⟨a,b⟩]
    · rw[Z3 b,Z3 (fun h=>b h.2)]
  · have d:dV [m]≠0:=fun h=>a (((JV _).1 h).2 m zq3);rw[Z2 (.inr d),Z3 (fun h=>a h.1)]
theorem WR.send{w:iY}(h:WR w){m:dE}(c:m.taken=aq->(dN w.prog m.image).2=0):WR ⟨w.prog,w.places,zg w.aY m⟩:=by
  rw[Qg h];by_cases b:XX m/\w.aY.length<40
  · rw[Z2 b];refine h.Oh (by simp;omega) (fun x a=>?_);rcases cE.1 a with a|a
    · exact⟨h.mok x a,h.mimg x a⟩
    · rw[eR]at a;subst a;exact⟨b.1,c⟩
  · rw[Z3 b];exact h.Oh h.XZ (fun x a=>⟨h.mok x a,h.mimg x a⟩)
theorem WR.drop{w:iY}(h:WR w)(n:Nat):WR ⟨w.prog,w.places,w.aY.take n++w.aY.drop (n+1)⟩:=by
 refine h.Oh (by have:=h.XZ;simp;omega) (fun x a=>?_);have:x∈w.aY:=(cE.1 a).elim jG jH;exact⟨h.mok x this,h.mimg x this⟩
theorem Cb{k c e pl:Int}{s i:ZD Int}(g:1<=k/\k<=5)(f:0<=c/\c<=2)(d:0<=e/\e<=100)(h:0<=pl/\pl<=2)(a:∀x∈s,kN x)(b:∀x∈i,kN x):La ⟨k,c,e,pl,s,i⟩:=
 ⟨Lc (by simp only;omega),Lc (by simp only;omega),Lc (by simp only;omega),Lc (by simp only;omega),a,b⟩
structure abO(p:List aX)(k:Int)(c:Co)(fuel:Int)(r:Rec):Prop where
 w:La r
 co:r.co=c.kJ
 aF:r.aF=c.aF
 runs:c.offered= -1
 how:(r.kind=2/\r.place=0/\(wake (dN p c.image).1).status=0/\r.says=(xE p fuel.toNat [] 0 (wake (dN p c.image).1)).2.1/\r.image=vY (dS (xE p fuel.toNat [] 0 (wake (dN p c.image).1)).1)/\(dN p r.image).2=0)\/(r.kind=3/\(0<=r.place/\r.place<=2)/\r.place≠k/\r.says=[]/\r.image=[])
 img:Img p c.image (dN p c.image).1
theorem slice_ok{p:ZD aX}(hp:KD p=0){k:Int}{c:Co}{fuel:Int}{r:Rec}(n:coOk c)(e:uq p k c fuel=(r,0)):abO p k c fuel r:=by
  have f:=nU hp;obtain⟨c1,c2,t,m,q,s,-⟩:=n;unfold uq at e;by_cases l:0<=c.offered
  · rw[Z2 l]at e;simp at e
  · rw[Z3 l]at e;by_cases h:(dN p c.image).2=0
    · rw[Z3 V]at e;have g:=XV hp h;by_cases i:(dN p c.image).1.status=3/\0<=(dN p c.image).1.bU/\(dN p c.image).1.bU<3/\(dN p c.image).1.bU≠k
      · rw[Z2 i]at e;obtain rfl:=ZL hS e;exact⟨Cb V ⟨c1,c2⟩ ⟨by omega,m⟩ V (fun x a=>(by cases a)) (fun x a=>(by cases a)),Z,Z,by omega,.inr ⟨Z,by simp only;omega,i.2.2.2,rfl,rfl⟩,g⟩
      · rw[Z3 i]at e;by_cases j:(wake (dN p c.image).1).status=0
        · rw[Z3 V]at e;obtain rfl:=ZL hS e;have b:=Vj g.st;have o:=(XP f fuel.toNat [] 0 _ b zq3).1;have d:=img_pack hp o;refine⟨Cb V ⟨c1,c2⟩ ⟨by omega,m⟩ V (run_said f _ _ _ _ b (fun x a=>by cases a)) (abK f d).1,Z,Z,by omega,.inl ⟨Z,Z,j,Z,Z,by simp only;rw[d.un]⟩,g⟩
        · rw[Z2 j]at e;simp at e
    · rw[Z2 h]at e;exact ZJ (ZL dk e) h
theorem X0{p:ZD aX}(hp:KD p=0):Img p (vY (dS (uU p))) (dS (uU p)):=img_pack hp (abn (nU hp))
end Pw
open Go Go.Proofs Go.LX
namespace Pw
open Dk
def ansM(m:dE):dE:=⟨m.iF,m.from_,m.co,m.aF,aT,[]⟩
def Qh(p:ZD aX)(k:Int):Rec:=⟨1,k,1,0,[],vY (dS (uU p))⟩
inductive Ev (w w':iY):Prop
 |begin (k:Int) (x':MP) (hk:0<=k/\k<=2) (up:(fw w k).up=aT) (hno:∀r∈lG (fw w k).d,r.kind≠1) (N:Vp w.prog (fw w k) x' (Qh w.prog k)) (hp:w'.places=w.places.set k.toNat x') (hm:w'.aY=w.aY)
 |run (k:Int) (c:Co) (fuel:Int) (r:Rec) (x':MP) (hk:0<=k/\k<=2) (up:(fw w k).up=aT) (hc:lH c.kJ (fw w k).cos=ak c) (hf:1<=fuel/\fuel<=2000) (S:abO w.prog k c fuel r) (N:Vp w.prog (fw w k) x' r) (hp:w'.places=w.places.set k.toNat x') (hm:w'.aY=if r.kind=3 then zg w.aY (Am k ⟨c.kJ,c.aF,c.image,r.place⟩)else w.aY)
 |tear (k:Int) (c:Co) (r:Rec) (x':MP) (hk:0<=k/\k<=2) (up:(fw w k).up=aT) (hc:lH c.kJ (fw w k).cos=ak c) (S:abO w.prog k c 2000 r) (T:Torn w.prog (fw w k) x' r) (hp:w'.places=w.places.set k.toNat x') (hm:w'.aY=w.aY)
 |send (k:Int) (c:Co) (hk:0<=k/\k<=2) (up:(fw w k).up=aT) (hc:lH c.kJ (fw w k).cos=ak c) (ho:0<=c.offered) (hp:w'.places=w.places) (hm:w'.aY=zg w.aY (Am k c))
 |gone (m:dE) (c:Co) (x':MP) (hi:m∈w.aY) (ht:m.taken=aT) (up:(fw w m.iF).up=aT) (hc:lH m.co (fw w m.iF).cos=ak c) (he:c.aF=m.aF-1) (ho:c.offered=m.from_) (N:Vp w.prog (fw w m.iF) x' ⟨5,m.co,m.aF-1,0,[],[]⟩) (hp:w'.places=w.places.set m.iF.toNat x') (hm:∀y∈w'.aY,y∈w.aY)
 |take (m:dE) (x':MP) (hi:m∈w.aY) (ht:m.taken=aq) (up:(fw w m.iF).up=aT) (hno:OA (fw w m.iF) m.co m.aF=aq) (N:Vp w.prog (fw w m.iF) x' ⟨4,m.co,m.aF,0,[],m.image⟩) (hp:w'.places=w.places.set m.iF.toNat x') (hm:∀y∈w'.aY,y∈w.aY\/y=ansM m)
 |again (m:dE) (hi:m∈w.aY) (ht:m.taken=aq) (up:(fw w m.iF).up=aT) (had:OA (fw w m.iF) m.co m.aF=aT) (hp:w'.places=w.places) (hm:∀y∈w'.aY,y∈w.aY\/y=ansM m)
 |still (hp:w'.places=w.places) (hm:∀y∈w'.aY,y∈w.aY)
 |crash (k:Int) (hk:0<=k/\k<=2) (up:(fw w k).up=aT) (hp:w'.places=w.places.set k.toNat ⟨[],(fw w k).d,aq⟩) (hm:w'.aY=w.aY)
 |boot (k:Int) (hk:0<=k/\k<=2) (down:(fw w k).up=aq) (ok:(iM [] (lG (fw w k).d)).2=0) (hp:w'.places=w.places.set k.toNat ⟨(iM [] (lG (fw w k).d)).1,(NY (fw w k).d).1,aT⟩) (hm:w'.aY=w.aY)
theorem QX{d:iW}(h:jv d=0):jv (NY d).1=0/\Bn (NY d).1=lG d/\lG (NY d).1=lG d/\(NY d).1.wait=[]:=by
 have b:=dOk h;rw[b.whole];obtain⟨k1,k2⟩:=dOk_mk (a:=lG d) (w:=[]) b.good b.len (by have:=b.rroom;simp;omega);exact⟨k1,k2,by rw[(dOk k1).still Z,k2],Z⟩
theorem MQ{w:iY}(h:WR w){m y:dE}(a:y∈zg w.aY m):y∈w.aY\/y=m:=by
  rw[Qg h]at a;by_cases b:XX m/\w.aY.length<40
  · rw[Z2 b]at a;simpa using a
  · rw[Z3 b]at a;exact .inl a
theorem hear_ev{w w':iY}(h:WR w){i:Int}{t:Ys}(e:ED w i t=(w',0)):WR w'/\w'.prog=w.prog/\Ev w w':=by
  unfold ED at e;by_cases C:i<0\/(w.aY.length:Int)<=i
  · rw[Z2 C]at e;simp at e
  · rw[Z3 C]at e;obtain⟨n,rfl⟩:=bs (by omega:0<=i);have hn:n<w.aY.length:=by omega
    have G:(w.aY[n]?).getD zMail=w.aY[n]:=by rw[bc hn];rfl
    simp only[bh]at e;simp only[G]at e;have a:w.aY[n]∈w.aY:=cA hn;generalize w.aY[n]=m at*;have d:=h.mok m a;by_cases s:(fw w m.iF).up=aq
    · rw[Z2 s]at e;simp at e
    · rw[Z3 s]at e;have f:(fw w m.iF).up=true:=by simpa using s
      have hv:WR ⟨w.prog,w.places,if t=aT then w.aY else w.aY.take n++w.aY.drop (n+1)⟩:=by
        cases t with
        |true=>exact h
        |false=>exact h.drop n
      have b:∀y∈(if t=aT then w.aY else w.aY.take n++w.aY.drop (n+1)),y∈w.aY:=by
        intro y o;cases t with
        |true=>exact o
        |false=>exact(cE.1 o).elim jG jH
      generalize K:(if t=aT then w.aY else w.aY.take n++w.aY.drop (n+1))=L at*;have z:∀k,fw (⟨w.prog,w.places,L⟩:iY) k=fw w k:=fun k=>rfl;simp only[z]at e;have hat:=h.at ⟨d.2.1.1,d.2.1.2⟩;cases ht:m.taken with
      |true=>
        rw[ht]at e;simp only[if_true]at e;cases hf:lH m.co (fw w m.iF).cos with
        |none=>
          rw[hf]at e;cases e;exact⟨hv,Z,.still Z b⟩
        |some c=>
          rw[hf]at e;simp only at e;by_cases l:c.aF≠m.aF-1\/c.offered≠m.from_
          · rw[Z2 l]at e;cases e;exact⟨hv,Z,.still Z b⟩
          · rw[Z3 l]at e;have E:=ZL dk e;have B:=ZL hS e;simp only at B E;have N:=KG (x':=(kS (fw w m.iF) ⟨5,m.co,m.aF-1,0,[],[]⟩).1) (r:=⟨5,m.co,m.aF-1,0,[],[]⟩) hat f (Cb V d.2.2.1 (by have:=d.2.2.2.1;omega) V (fun x p=>(by cases p)) (fun x p=>(by cases p))) (fun h=>by simp only at h;omega) (eW Z E);subst B;exact⟨hv.set N.pl,Z,.gone m c _ a ht f hf V V N Z b⟩
      |false=>
        rw[ht]at e;simp only[cv,if_false]at e;have j:∀{u:iY},WR u->WR ⟨u.prog,u.places,zg u.aY<|ansM m⟩:=fun I=>I.send (fun h=>by cases h);by_cases l:OA (fw w m.iF) m.co m.aF=aT
        · rw[Z2 l]at e;cases e;refine⟨j hv,Z,.again m a ht f l Z fun y o=>?_⟩;exact(MQ hv o).imp (b y) id
        · rw[Z3 l]at e;have q:OA (fw w m.iF) m.co m.aF=false:=by simpa using l
          by_cases v:(kS (fw w m.iF) ⟨4,m.co,m.aF,0,[],m.image⟩).2=0
          · rw[Z3 V]at e;have g:=h.mimg m a ht;have F:=XV h.code g;have N:=KG (x':=(kS (fw w m.iF) ⟨4,m.co,m.aF,0,[],m.image⟩).1) (r:=⟨4,m.co,m.aF,0,[],m.image⟩) hat f (Cb V d.2.2.1 (by have:=d.2.2.2.1;omega) V (fun x p=>(by cases p)) (abK (nU h.code) F).1) (fun _=>g) (eW Z v);cases e;have A:=hv.set (k:=m.iF) N.pl;refine⟨j A,Z,.take m _ a ht f q N Z fun y o=>?_⟩;exact(MQ A o).imp (b y) id
          · rw[Z2 v]at e;exact ZJ (ZL dk e) v
theorem run_ev{w w':iY}(h:WR w){x:Hap}(f:0<=x.place/\x.place<=2)(a:(fw w x.place).up=aT)(e:runW w x=(w',0)):WR w'/\w'.prog=w.prog/\Ev w w':=by
  unfold runW at e;have hat:=h.at f;cases hf:lH x.co (fw w x.place).cos with
  |none=>rw[hf]at e;simp at e
  |some c=>
    rw[hf]at e;simp only at e;obtain⟨m,q⟩:=EB hf;rw[<-m]at hf;have i:=hat.good.1.ok c q;generalize d:(if x.kind=9 then(2000:Int)else x.n)=fuel at e;by_cases s:fuel<1\/2000<fuel
    · rw[Z2 s]at e;simp at e
    · rw[Z3 s]at e;by_cases g:(uq w.prog x.place c fuel).2=0
      · rw[Z3 V]at e;have S:=slice_ok h.code (r:=(uq w.prog x.place c fuel).1) i<|eW Z g;generalize (uq w.prog x.place c fuel).1=r at*;have u:(r.kind=1\/r.kind=2\/r.kind=4)->(dN w.prog r.image).2=0:=by
          rcases S.how with hh|hh
          · exact fun _=>hh.2.2.2.2.2
          · intro h;omega
        by_cases j:x.kind=9
        · rw[Z2 j]at e;rw[Z2 j]at d;subst d;have t:=ZL dk e;have p:=ZL hS e;simp only at p t;have T:=tear_ok (x':=(RD (fw w x.place) r x.n).1) hat a S.w<|eW Z t;subst p;exact⟨h.set T.pl,Z,.tear x.place c r _ f a hf S T Z Z⟩
        · rw[Z3 j]at e;by_cases l:(kS (fw w x.place) r).2=0
          · rw[Z3 V]at e;have N:=KG (x':=(kS (fw w x.place) r).1) hat a S.w u<|eW Z l;have o:=h.set (k:=x.place) N.pl;by_cases b:r.kind=3
            · rw[Z2 b]at e;cases e;refine⟨o.send (fun _=>?_),Z,.run x.place c fuel r _ f a hf V S N Z (by rw[Z2 b];rfl)⟩;exact hat.img c q
            · rw[Z3 b]at e;cases e;exact⟨o,Z,.run x.place c fuel r _ f a hf V S N Z (by rw[Z3 b];rfl)⟩
          · rw[Z2 l]at e;exact ZJ (ZL dk e) l
      · rw[Z2 g]at e;exact ZJ (ZL dk e) g
theorem N7{w w':iY}(h:WR w){x:Hap}(e:dD w x=(w',0)):WR w'/\w'.prog=w.prog/\Ev w w':=by
  unfold dD at e;by_cases v:x.kind=4\/x.kind=5
  · rw[Z2 v]at e;exact hear_ev h e
  · rw[Z3 v]at e;by_cases s:x.kind=6
    · rw[Z2 s]at e;by_cases k:x.n<0\/(w.aY.length:Int)<=x.n
      · rw[Z2 k]at e;simp at e
      · rw[Z3 k]at e;cases e;exact⟨h.drop _,Z,.still Z fun y G=>(cE.1 G).elim jG jH⟩
    · rw[Z3 s]at e;by_cases k:x.kind<1\/9<x.kind
      · rw[Z2 k]at e;simp at e
      · rw[Z3 k]at e;have m:=h.many;by_cases u:x.place<0\/(w.places.length:Int)<=x.place
        · rw[Z2 u]at e;simp at e
        · rw[Z3 u]at e;have j:0<=x.place/\x.place<=2:=by omega
          have hat:=h.at j;by_cases B:x.kind=8
          · rw[Z2 B]at e;unfold Vo at e;by_cases i:(fw w x.place).up=aT
            · rw[Z2 i]at e;simp at e
            · rw[Z3 i]at e;by_cases g:(iM [] (lG (fw w x.place).d)).2=0
              · rw[Z3 V]at e;by_cases b:J7 w.prog (iM [] (lG (fw w x.place).d)).1=0
                · rw[Z3 V]at e;cases e;obtain⟨I,O,F,K⟩:=QX hat.disk;have l:PlR w.prog ⟨(iM []<|lG (fw w x.place).d).1,(NY (fw w x.place).d).1,aT⟩:=
                    ⟨I,fun h=>(by cases h),fun _=>K,fun _=>(by simp only[F];rw[<-g]),(Vn _ _).1 b⟩
                  exact⟨h.set l,Z,.boot x.place j (by simpa using i) g Z Z⟩
                · rw[Z2 b]at e;exact ZJ (ZL dk e) b
              · rw[Z2 g]at e;exact ZJ (ZL dk e) g
          · rw[Z3 B]at e;by_cases i:(fw w x.place).up=aq
            · rw[Z2 i]at e;simp at e
            · rw[Z3 i]at e;have a:(fw w x.place).up=true:=by simpa using i
              by_cases g:x.kind=1
              · rw[Z2 g]at e;unfold abM at e;by_cases b:x.co≠x.place
                · rw[Z2 b]at e;simp at e
                · rw[Z3 b]at e;have p:x.co=x.place:=Decidable.not_not.1 b;by_cases f:(lG (fw w x.place).d).any (fun r=>ab (r.kind=1))=aT
                  · rw[Z2 f]at e;simp at e
                  · rw[Z3 f,p]at e;have t:=ZL dk e;have A:=ZL hS e;simp only at A t;have z:=X0 h.code;have N:=KG (x':=(kS (fw w x.place) (Qh w.prog x.place)).1) (r:=Qh w.prog x.place) hat a (Cb V j V V (fun x E=>(by cases E)) (abK (nU h.code) z).1) (fun _=>by unfold Qh;simp only;rw[z.un]) (eW rfl t);subst A;refine⟨h.set N.pl,Z,.begin x.place _ j a (fun r M q=>f ?_) N Z Z⟩;exact jy.2 ⟨r,M,by simpa using q⟩
              · rw[Z3 g]at e;by_cases b:x.kind=3
                · rw[Z2 b]at e;unfold FU at e;cases hf:lH x.co (fw w x.place).cos with
                  |none=>rw[hf]at e;simp at e
                  |some c=>
                    rw[hf]at e;simp only at e;obtain⟨o,L⟩:=EB hf;rw[<-o]at hf;by_cases f:c.offered<0
                    · rw[Z2 f]at e;simp at e
                    · rw[Z3 f]at e;cases e;exact⟨h.send fun _=>hat.img c L,Z,.send x.place c j a hf V Z Z⟩
                · rw[Z3 b]at e;by_cases f:x.kind=7
                  · rw[Z2 f]at e;cases e;exact⟨h.set ⟨hat.disk,fun _=>rfl,fun h=>(by cases h),fun h=>(by cases h),fun c C=>(by cases C)⟩,Z,.crash x.place j a Z Z⟩
                  · rw[Z3 f]at e;exact run_ev h j a e
end Pw
open Go Go.Proofs Go.LX
namespace Pw
open Dk
def Hd(F:Int->ZD Rec)(i k:Int):Zs Co:=lH i (iM [] (F k)).1
def lq(F:Int->ZD Rec)(k:Int)(r:Rec):Int->ZD Rec:=fun j=>if j=k then F k++[r]else F j
def On(k:Int):Prop:=0<=k/\k<=2
structure MOk(F:Int->List Rec)(i:Int)(E:Nat)(pl:Nat->Int)(m:dE):Prop where
 ok:∃e:Nat,1<=e/\e<=E/\m.aF=(e:Int)+1/\(m.taken=aq->m.from_=pl e/\∃r∈F (pl e),r.kind=3/\r.co=i/\r.aF=(e:Int)/\r.place=m.iF)/\
  (m.taken=aT->e+1<=E/\m.from_=pl (e+1)/\m.iF=pl e)
structure Ao(F:Int->List Rec)(L:List dE)(i:Int)(E:Nat)(pl:Nat->Int):Prop where
 rng:∀e,1<=e->e<=E->On (pl e)
 first:1<=E->pl 1=i
 P0:∀k,On k->∀r∈F k,0<=r.place
 T1:∀k,On k->∀r∈F k,r.co=i->(r.kind=1\/r.kind=4)->∃e:Nat,r.aF=(e:Int)/\1<=e/\e<=E/\pl e=k
 T2:∀e:Nat,1<=e->e<=E->∃r∈F (pl e),r.co=i/\r.aF=(e:Int)/\(e=1->r.kind=1)/\(e≠1->r.kind=4)
 O1:∀k,On k->∀r∈F k,r.co=i->r.kind=3->∃e:Nat,r.aF=(e:Int)/\1<=e/\e<=E/\pl e=k/\(e<E->r.place=pl (e+1))/\(e=E->∃c,Hd F i k=ak c/\c.aF=(e:Int)/\c.offered=r.place)
 H1:∀k,On k->∀c,Hd F i k=ak c->∃e:Nat,c.aF=(e:Int)/\1<=e/\e<=E/\pl e=k/\(c.offered= -1->e=E)/\(c.offered≠ -1->∃r∈F k,r.kind=3/\r.co=i/\r.aF=(e:Int)/\r.place=c.offered)
 H2:1<=E->∃c,Hd F i (pl E)=ak c/\c.aF=(E:Int)
 M:∀m∈L,m.co=i->MOk F i E pl m
section
variable{F:Int->ZD Rec}{L:ZD dE}{i:Int}{E:Nat}{pl:Nat->Int}
theorem Cc{k:Int}{r x:Rec}{j:Int}(h:x∈F j):x∈lq F k r j:=by
  unfold lq;by_cases e:j=k
  · rw[Z2 e];subst e;exact List.mem_append_left _ h
  · rw[Z3 e];exact h
theorem rA{k:Int}{r x:Rec}{j:Int}(h:x∈lq F k r j):x∈F j\/(j=k/\x=r):=by
  unfold lq at h;by_cases e:j=k
  · rw[Z2 e]at h;subst e;rcases cE.1 h with h|h
    · exact .inl h
    · exact .inr ⟨Z,by simpa using h⟩
  · rw[Z3 e]at h;exact .inl h
theorem yU{k:Int}{r:Rec}(g:(iM [] (F k)).2=0)(b:(gD (iM [] (F k)).1 r).2=0):(iM [] (lq F k r k)).2=0/\(∀j,j≠k->∀i,Hd (lq F k r) i j=Hd F i j)/\(∀i,i≠r.co->Hd (lq F k r) i k=Hd F i k)/\Did r (Hd F r.co k) (Hd (lq F k r) r.co k)/\0<=r.place:=by
  have e:iM [] (lq F k r k)=((gD (iM []<|F k).1 r).1,0):=by
    unfold lq;rw[Z2 rfl,abN (a:=(iM [] (F k)).1) (eW rfl g),Z3 V]
  obtain⟨f,c,l⟩:=XW b;refine⟨by rw[e],fun j d i=>?_,fun i h=>?_,?_,?_⟩
  · unfold Hd lq;rw[Z3 d]
  · unfold Hd;rw[e];exact f i h
  · unfold Hd;rw[e];exact c
  · have:=(abA r l).place;omega
theorem MOk.up{k:Int}{r:Rec}{m:dE}(h:MOk F i E pl m):MOk (lq F k r) i E pl m:=by
 obtain⟨e,j,g,f,c,d⟩:=h.ok;exact⟨e,j,g,f,fun a=>⟨(c a).1,(c a).2.imp fun r b=>⟨Cc b.1,b.2⟩⟩,d⟩
theorem Ao.aY{L':ZD dE}(h:Ao F L i E pl)(c:∀m∈L',m∈L\/(m.co=i->MOk F i E pl m)):Ao F L' i E pl:=
 {h with M:=fun m a b=>(c m a).elim (fun x=>h.M m x b) (fun x=>x b)}
theorem Ao.other{k:Int}{r:Rec}(h:Ao F L i E pl)(G:(iM [] (F k)).2=0)(l:(gD (iM [] (F k)).1 r).2=0)(v:i≠r.co):Ao (lq F k r) L i E pl:=by
  obtain⟨-,z,C,-,A⟩:=yU G l;have o:∀j,Hd (lq F k r) i j=Hd F i j:=fun j=>by
    by_cases e:j=k
    · subst e;exact C i v
    · exact z j e i
  refine⟨h.rng,h.first,fun j d x a=>?_,fun j d x a b s=>?_,fun e K y=>?_,fun j d x a b s=>?_,fun j d c b=>?_,fun w=>?_,fun m B b=>(h.M m B b).up⟩
  · rcases rA a with a|⟨_,rfl⟩
    · exact h.P0 j d x a
    · exact A
  · rcases rA a with a|⟨_,rfl⟩
    · exact h.T1 j d x a b s
    · exact ZJ b.symm v
  · obtain⟨x,a,f⟩:=h.T2 e K y;exact⟨x,Cc a,f⟩
  · rcases rA a with a|⟨_,rfl⟩
    · obtain⟨e,n,u,p,g,q,t⟩:=h.O1 j d x a b s;exact⟨e,n,u,p,g,q,fun I=>by rw[o];exact t I⟩
    · exact ZJ b.symm v
  · rw[o]at b;obtain⟨e,n,u,p,g,q,t⟩:=h.H1 j d c b;exact⟨e,n,u,p,g,q,fun ho=>(t ho).imp fun r f=>⟨Cc f.1,f.2⟩⟩
  · rw[o];exact h.H2 w
theorem Ao.slice{k:Int}{r:Rec}(h:Ao F L i E pl)(G:On k)(R:(iM [] (F k)).2=0)(v:(gD (iM [] (F k)).1 r).2=0)(P:r.co=i)(B:r.kind=2):Ao (lq F k r) L i E pl:=by
  obtain⟨-,w,-,A,K⟩:=yU R v;rw[P]at A;obtain⟨c,ho,C,q,hn⟩:∃c,Hd F i k=ak c/\c.aF=r.aF/\c.offered= -1/\Hd (lq F k r) i k=ak ⟨c.kJ,c.aF,r.image,-1⟩:=by
    rcases A with⟨x,_,_⟩|⟨x,_,_⟩|⟨c,_,ho,C,q,hn⟩|⟨c,x,_,_,_,_,_⟩|⟨c,x,_,_,_,_⟩
    · omega
    · omega
    · exact⟨c,ho,C,q,hn⟩
    · omega
    · omega
  refine⟨h.rng,h.first,fun j b x a=>?_,fun j b x a f G=>?_,fun e N B=>?_,fun j b x a f z=>?_,fun j b d t=>?_,fun Q=>?_,fun m O f=>(h.M m O f).up⟩
  · rcases rA a with a|⟨_,rfl⟩
    · exact h.P0 j b x a
    · exact K
  · rcases rA a with a|⟨_,rfl⟩
    · exact h.T1 j b x a f G
    · omega
  · obtain⟨x,a,s⟩:=h.T2 e N B;exact⟨x,Cc a,s⟩
  · rcases rA a with a|⟨_,rfl⟩
    · obtain⟨e,g,n,o,p,l,u⟩:=h.O1 j b x a f z;refine⟨e,g,n,o,p,l,fun y=>?_⟩;obtain⟨d,d1,d2,I⟩:=u y;by_cases e:j=k
      · subst e;rw[ho]at d1;cases d1;exact⟨_,hn,d2,by rw[<-I,q]⟩
      · exact⟨d,by rw[w j e];exact d1,d2,I⟩
    · omega
  · by_cases e:j=k
    · subst e;rw[hn]at t;cases t;obtain⟨e,g,n,o,p,l,u⟩:=h.H1 j b c ho;exact⟨e,g,n,o,p,fun _=>l q,fun x=>ZJ Z x⟩
    · rw[w j e]at t;obtain⟨e,g,n,o,p,l,u⟩:=h.H1 j b d t;exact⟨e,g,n,o,p,l,fun ho=>(u ho).imp fun r s=>⟨Cc s.1,s.2⟩⟩
  · obtain⟨d,d1,d2⟩:=h.H2 Q;by_cases e:pl E=k
    · rw[e]at d1⊢;rw[ho]at d1;cases d1;exact⟨_,hn,d2⟩
    · exact⟨d,by rw[w _ e];exact d1,d2⟩
theorem Ao.offer{k:Int}{r:Rec}(h:Ao F L i E pl)(z:On k)(hR:(iM [] (F k)).2=0)(s:(gD (iM [] (F k)).1 r).2=0)(R:r.co=i)(u:r.kind=3):Ao (lq F k r) L i E pl/\∃c,Hd F i k=ak c/\c.aF=r.aF/\c.offered= -1/\r.aF=(E:Int)/\1<=E/\pl E=k:=by
  obtain⟨-,P,-,O,S⟩:=yU hR s;rw[R]at O;obtain⟨c,ho,f,n,hn⟩:∃c,Hd F i k=ak c/\c.aF=r.aF/\c.offered= -1/\Hd (lq F k r) i k=ak ⟨c.kJ,c.aF,c.image,r.place⟩:=by
    rcases O with⟨x,_,_⟩|⟨x,_,_⟩|⟨c,x,_,_,_,_⟩|⟨c,x,ho,f,n,_,hn⟩|⟨c,x,_,_,_,_⟩
    · omega
    · omega
    · omega
    · exact⟨c,ho,f,n,hn⟩
    · omega
  obtain⟨N,g,v,Q,o,T,b6⟩:=h.H1 k z c ho;have b7:=T n;subst b7;refine⟨⟨h.rng,h.first,fun j b x a=>?_,fun j b x a l z=>?_,fun e X u=>?_,fun j b x a l y=>?_,fun j b d p=>?_,fun hE=>?_,fun m hm l=>(h.M m hm l).up⟩,c,ho,f,n,by rw[<-f];exact g,v,o⟩
  · rcases rA a with a|⟨_,rfl⟩
    · exact h.P0 j b x a
    · exact S
  · rcases rA a with a|⟨_,rfl⟩
    · exact h.T1 j b x a l z
    · omega
  · obtain⟨x,a,q⟩:=h.T2 e X u;exact⟨x,Cc a,q⟩
  · rcases rA a with a|⟨rfl,rfl⟩
    · obtain⟨e,t,C,G,A,B,K⟩:=h.O1 j b x a l y;have a0:=h.P0 j b x a;refine⟨e,t,C,G,A,B,fun w=>?_⟩;obtain⟨d,d1,d2,d3⟩:=K w;by_cases e:j=k
      · subst e;rw[ho]at d1;cases d1;omega
      · exact⟨d,by rw[P j e];exact d1,d2,d3⟩
    · exact⟨N,by rw[<-f];exact g,v,Q,o,fun I=>ZJ I (Nat.lt_irrefl _),fun _=>⟨_,hn,g,Z⟩⟩
  · by_cases e:j=k
    · subst e;rw[hn]at p;cases p;exact⟨N,g,v,Q,o,fun _=>rfl,fun _=>⟨r,by unfold lq;rw[Z2 rfl];simp,u,R,by rw[<-f];exact g,Z⟩⟩
    · rw[P j e]at p;obtain⟨e,t,C,G,A,B,K⟩:=h.H1 j b d p;exact⟨e,t,C,G,A,B,fun ho=>(K ho).imp fun r q=>⟨Cc q.1,q.2⟩⟩
  · rw[o];exact⟨_,hn,g⟩
theorem Ao.gone{k:Int}{r:Rec}(h:Ao F L i E pl)(N:On k)(R:(iM [] (F k)).2=0)(s:(gD (iM [] (F k)).1 r).2=0)(T:r.co=i)(I:r.kind=5)(Q:r.aF<(E:Int)):Ao (lq F k r) L i E pl:=by
  obtain⟨-,u,-,G,O⟩:=yU R s;rw[T]at G;obtain⟨c,ho,K,C,hn⟩:∃c,Hd F i k=ak c/\c.aF=r.aF/\c.offered≠ -1/\Hd (lq F k r) i k=none:=by
    rcases G with⟨x,_,_⟩|⟨x,_,_⟩|⟨c,x,_,_,_,_⟩|⟨c,x,_,_,_,_,_⟩|⟨c,x,ho,K,C,hn⟩
    · omega
    · omega
    · omega
    · omega
    · exact⟨c,ho,K,C,hn⟩
  have g:1<=E->pl E≠k:=by
    intro n e;obtain⟨d,d1,d2⟩:=h.H2 n;rw[e,ho]at d1;cases d1;omega
  refine⟨h.rng,h.first,fun j b x a=>?_,fun j b x a f N=>?_,fun e S I=>?_,fun j b x a f z=>?_,fun j b d p=>?_,fun n=>?_,fun m P f=>(h.M m P f).up⟩
  · rcases rA a with a|⟨_,rfl⟩
    · exact h.P0 j b x a
    · exact O
  · rcases rA a with a|⟨_,rfl⟩
    · exact h.T1 j b x a f N
    · omega
  · obtain⟨x,a,q⟩:=h.T2 e S I;exact⟨x,Cc a,q⟩
  · rcases rA a with a|⟨_,rfl⟩
    · obtain⟨e,t,w,A,o,v,B⟩:=h.O1 j b x a f z;refine⟨e,t,w,A,o,v,fun l=>?_⟩;have y:j≠k:=by rw[<-o,l];exact g V
      rw[u j y];exact B l
    · omega
  · by_cases e:j=k
    · subst e;rw[hn]at p;cases p
    · rw[u j e]at p;obtain⟨e,t,w,A,o,v,B⟩:=h.H1 j b d p;exact⟨e,t,w,A,o,v,fun ho=>(B ho).imp fun r q=>⟨Cc q.1,q.2⟩⟩
  · rw[u _ (g n)];exact h.H2 n
theorem Ao.begin{k:Int}{r:Rec}(h:Ao F L i E pl)(I:On k)(K:(iM [] (F k)).2=0)(p:(gD (iM [] (F k)).1 r).2=0)(y:r.co=i)(g:i=k)(z:r.kind=1)(hno:∀x∈F k,x.kind≠1):E=0/\Ao (lq F k r) L i 1 (fun _=>k):=by
  obtain⟨-,A,-,v,C⟩:=yU K p;rw[y]at v;obtain⟨n,ho,hn⟩:r.aF=1/\Hd F i k=ar/\Hd (lq F k r) i k=ak ⟨r.co,r.aF,r.image,-1⟩:=by
    rcases v with⟨x,ho,hn⟩|⟨x,_,_⟩|⟨c,x,_,_,_,_⟩|⟨c,x,_,_,_,_,_⟩|⟨c,x,_,_,_,_⟩
    · exact⟨x.2,ho,hn⟩
    · omega
    · omega
    · omega
    · omega
  have l:E=0:=by
    by_cases l:E=0
    · exact l
    · exfalso;obtain⟨x,a,N,O,B,P⟩:=h.T2 1 (bE _) V;rw[h.first V,g]at a;exact hno x a<|B Z
  subst l;refine⟨Z,fun _ _ _=>I,fun _=>g.symm,fun j b x a=>?_,fun j b x a f u=>?_,fun e Q z=>?_,fun j b x a f t=>?_,fun j b d o=>?_,fun l=>⟨_,hn,by simp only;rw[n];rfl⟩,fun m G f=>?_⟩
  · rcases rA a with a|⟨_,rfl⟩
    · exact h.P0 j b x a
    · exact C
  · rcases rA a with a|⟨e,rfl⟩
    · obtain⟨e,q,s,w,R⟩:=h.T1 j b x a f u;omega
    · exact⟨1,by rw[n];rfl,by omega,by omega,e.symm⟩
  · obtain rfl:e=1:=by omega
    exact⟨r,by unfold lq;rw[Z2 rfl];simp,y,by rw[n];rfl,fun _=> ‹r.kind=1›,fun h=>ZJ Z h⟩
  · rcases rA a with a|⟨_,rfl⟩
    · obtain⟨e,q,s,w,-⟩:=h.O1 j b x a f t;omega
    · omega
  · by_cases e:j=k
    · subst e;rw[hn]at o;cases o;exact⟨1,by simp only;rw[n];rfl,by omega,by omega,rfl,fun _=>rfl,fun x=>ZJ Z x⟩
    · rw[A j e]at o;obtain⟨e,q,s,w,-⟩:=h.H1 j b d o;omega
  · obtain⟨e,q,s,-⟩:=(h.M m G f).ok;omega
theorem Ao.take{k:Int}{r:Rec}{m:dE}(h:Ao F L i E pl)(hk:On k)(hR:(iM [] (F k)).2=0)(K:(gD (iM [] (F k)).1 r).2=0)(T:r.co=i)(h2:r.kind=4)(hm:m∈L)(q:m.co=i)(v:m.taken=aq)(G:m.iF=k)(l:r.aF=m.aF)(hno:∀x∈F k,x.kind=4->x.co=i->¬m.aF<=x.aF):
    m.aF=(E:Int)+1/\1<=E/\m.from_=pl E/\Ao (lq F k r) L i (E+1) (fun e=>if e=E+1 then k else pl e):=by
  obtain⟨-,u1,-,S,u4⟩:=yU hR K;rw[T]at S;obtain⟨he,ho,hn⟩:r.aF≠1/\Hd F i k=ar/\Hd (lq F k r) i k=ak ⟨r.co,r.aF,r.image,-1⟩:=by
    rcases S with⟨x,_,_⟩|⟨x,ho,hn⟩|⟨c,x,_,_,_,_⟩|⟨c,x,_,_,_,_,_⟩|⟨c,x,_,_,_,_⟩
    · omega
    · exact⟨x.2,ho,hn⟩
    · omega
    · omega
    · omega
  obtain⟨e,m1,m2,w,m4,-⟩:=(h.M m hm q).ok;obtain⟨m5,r0,r1,r2,r3,r4,r5⟩:=m4 v;have A:=h.rng e m1 m2;obtain⟨f,o1,o2,o3,o4,o5,o6⟩:=h.O1 _ A r0 r1 r3 r2;obtain rfl:f=e:=by omega
  have O:f=E:=by
    by_cases I:f<E
    · exfalso;have B:=o5 I;rw[r5,G]at B;obtain⟨x,X,x2,x3,x4,x5⟩:=h.T2 (f+1) V V;rw[<-B]at X;exact hno x X (x5 V) x2 (by rw[x3,w];push_cast;omega)
    · omega
  subst O;obtain⟨c0,c1,c2,c3⟩:=o6 Z;have a:∀x,x<=f->(if x=f+1 then k else pl x)=pl x:=fun x b=>Z3 V;refine⟨w,m1,m5,?_,?_,fun j s x b=>?_,fun j s x b q R=>?_,fun x N h2=>?_,fun j s x b q Q=>?_,fun j s d u=>?_,fun hE=>?_,fun y hy q=>?_⟩
  · intro x N h2;by_cases b:x=f+1
    · simp only[Z2 b];exact hk
    · simp only[Z3 b];exact h.rng x N V
  · intro _;rw[a 1 m1];exact h.first m1
  · rcases rA b with b|⟨_,rfl⟩
    · exact h.P0 j s x b
    · exact u4
  · rcases rA b with b|⟨e,rfl⟩
    · obtain⟨z,o,n,p,g⟩:=h.T1 j s x b q R;exact⟨z,o,n,by omega,by rw[a z p];exact g⟩
    · exact⟨f+1,by rw[l,w];push_cast;rfl,by omega,by omega,by simp only[eq_self,if_true];exact e.symm⟩
  · by_cases b:x=f+1
    · subst b;rw[Z2 rfl];exact⟨r,by unfold lq;rw[Z2 rfl];simp,T,by rw[l,w];push_cast;rfl,fun h=>by omega,fun _=> ‹r.kind=4›⟩
    · rw[a x V];obtain⟨z,hz,t⟩:=h.T2 x N V;exact⟨z,Cc hz,t⟩
  · rcases rA b with b|⟨_,rfl⟩
    · obtain⟨z,o,n,p,g,C,P⟩:=h.O1 j s x b q Q;refine⟨z,o,n,by omega,by rw[a z p];exact g,fun I=>?_,fun h=>by omega⟩;by_cases hz:z=f
      · subst hz;obtain⟨d,d1,d2,d3⟩:=P Z;rw[<-g,c1]at d1;cases d1;simp only[eq_self,if_true];rw[<-d3,c3,r5,G]
      · rw[a (z+1) V];exact C V
    · omega
  · by_cases e:j=k
    · subst e;rw[hn]at u;cases u;exact⟨f+1,by simp only;rw[l,w];push_cast;rfl,by omega,by omega,by simp only[eq_self,if_true],fun _=>rfl,fun x=>ZJ Z x⟩
    · rw[u1 j e]at u;obtain⟨z,o,n,p,g,C,P⟩:=h.H1 j s d u;refine⟨z,o,n,by omega,by rw[a z p];exact g,fun hf=>?_,fun ho=>(P ho).imp fun r t=>⟨Cc t.1,t.2⟩⟩;exfalso;have hz:=C hf;subst hz;rw[<-g,c1]at u;cases u;have a0:=h.P0 _ A r0 r1;omega
  · simp only[eq_self,if_true];exact⟨_,hn,by simp only;rw[l,w];push_cast;rfl⟩
  · obtain⟨z,o,n,p,g,C⟩:=(h.M y hy q).ok;refine⟨z,o,by omega,p,fun v=>?_,fun v=>?_⟩
    · rw[a z n];exact⟨(g v).1,(g v).2.imp fun r t=>⟨Cc t.1,t.2⟩⟩
    · obtain⟨b1,b2,b3⟩:=C v;rw[a z n,a (z+1) b1];exact⟨by omega,b2,b3⟩
end
end Pw
open Go Go.Proofs Go.LX
namespace Pw
open Dk
theorem abP{s t:X2}(h:dS s=dS t):s.status=t.status:=by
 show(dS s).status=(dS t).status;rw[h]
theorem wake_sim{s t:X2}(h:dS s=dS t):dS (wake s)=dS (wake t):=by
  have b:=abP h;unfold wake;by_cases a:s.status=3
  · rw[Z2 a,Z2 V];exact wake_sweep h 0 0
  · rw[Z3 a,Z3 V];exact h
theorem Yx{a:ZD aX}(c:ny a):∀(n:Nat) (s:X2),wm a s->wm a (uM a n s).1
  |0,s,h=>h
  |n+1,s,h=>by
    cases e:stepW a s with
    |none=>rw[NW e];exact h
    |some q=>
      obtain⟨t,o⟩:=q;rw[uo e];refine Yx c n t ?_;unfold stepW at e;by_cases b:(wake s).status=0
      · rw[Z3 V]at e;have d:=Vj h;cases e1:Aj a (wake s)with
        |none=>rw[e1]at e;cases e;exact fail_ok d b
        |some q=>obtain⟨f,o2,p⟩:=q;rw[e1]at e;cases e;exact(Ak c d b e1).1
      · rw[Z2 b]at e;cases e
theorem iterW_sim{a:ZD aX}(e:ny a):∀(n:Nat) (s t:X2),wm a s->wm a t->dS s=dS t->(uM a n s).2=(uM a n t).2/\dS (uM a n s).1=dS (uM a n t).1
  |0,s,t,_,_,h=>⟨rfl,h⟩
  |n+1,s,t,hs,ht,h=>by
    have g:=wake_sim h;have j:=abP g;have d:=Vj hs;have c:=Vj ht;by_cases f:(wake s).status=0
    · obtain⟨b,r⟩:=stepP_sim e d c f g;cases e1:Aj a (wake s)with
      |none=>
        rw[e1]at b;cases e2:Aj a (wake t)with
        |none=>
          have k1:stepW a s=ak ({wake s with status:=2},[]):=by unfold stepW;rw[Z3 V,e1]
          have k2:stepW a t=ak ({wake t with status:=2},[]):=by unfold stepW;rw[Z3 V,e2]
          rw[uo k1,uo k2,JS (by unfold wake;simp),JS (by unfold wake;simp)];exact⟨Z,fail_sweep g 2⟩
        |some q=>rw[e2]at b;exact b.elim
      |some q=>
        rw[e1]at b;cases e2:Aj a (wake t)with
        |none=>rw[e2]at b;exact b.elim
        |some q2=>
          rw[e2]at b;obtain⟨u,o,p⟩:=q;obtain⟨i,o2,v⟩:=q2;obtain⟨rfl,rfl,k⟩:=b;have k1:stepW a s=ak (u,o.toList):=by unfold stepW;rw[Z3 V,e1]
          have k2:stepW a t=ak (i,o.toList):=by unfold stepW;rw[Z3 V,e2]
          rw[uo k1,uo k2];obtain⟨m,l⟩:=iterW_sim e n u i (Ak e d f e1).1 (Ak e c V e2).1 k;exact⟨by simp only[m],l⟩
    · rw[JS f,JS V];exact⟨Z,h⟩
theorem slice_iter{a:ZD aX}(g:ny a){fuel:Nat}(c:1<=fuel){s:X2}(b:(wake s).status=0):∃k,xE a fuel [] 0 (wake s)=((uM a k s).1,(uM a k s).2,k):=by
 obtain⟨k,k1,k2,d,f⟩:=run_iter (a:=a) fuel [] 0<|wake s;have e:=f c b Z;refine⟨k,?_⟩;rw[k2,iter_W k _ d,iterW_wake e b];simp
def says(i:Int)(e:Nat)(l:ZD Rec):ZD Int:=(l.filter fun r=>ab (r.kind=2)&&ab (r.co=i)&&ab (r.aF=(e:Int))).flatMap (·.says)
theorem says_app(i:Int)(e:Nat)(a b:ZD Rec):says i e (a++b)=says i e a++says i e b:=by unfold says;rw[List.filter_append,List.flatMap_append]
theorem says_one{i:Int}{e:Nat}{r:Rec}:says i e [r]=if r.kind=2/\r.co=i/\r.aF=(e:Int)then r.says else []:=by
  unfold says;by_cases h:r.kind=2/\r.co=i/\r.aF=(e:Int)
  · rw[Z2 h];simp[h.1,h.2.1,h.2.2]
  · rw[Z3 h,hO,Z3 (by simp only[cP,decide_eq_true_eq];intro a;exact h ⟨a.1.1,a.1.2,a.2⟩)];rfl
theorem says_no{i:Int}{e:Nat}{l:ZD Rec}(h:∀r∈l,r.kind=2->r.co=i->r.aF≠(e:Int)):says i e l=[]:=by
 unfold says;rw[List.filter_eq_nil_iff.2 (fun r b=>by simp only[cP,decide_eq_true_eq];exact fun a=>h r b a.1.1 a.1.2 a.2)];rfl
def tot(F:Int->ZD Rec)(i:Int)(pl:Nat->Int):Nat->ZD Int
 |0=>[]
 |e+1=>tot F i pl e++says i (e+1) (F (pl (e+1)))
theorem IC{F b:Int->ZD Rec}{i:Int}{pl a:Nat->Int}:∀(E:Nat),(∀e,1<=e->e<=E->says i e (F (pl e))=says i e (b (a e)))->tot F i pl E=tot b i a E
 |0,_=>rfl
 |E+1,h=>by
  unfold tot;rw[IC E (fun e c d=>h e c V),h (E+1) V (bE _)]
structure Bp(p:List aX)(F G:Int->List Rec)(L:List dE)(i:Int)(E:Nat)(pl:Nat->Int):Prop where
 ch:Ao F L i E pl
 S1:∀k,On k->∀r∈F k,r.co=i->r.kind=2->∃e:Nat,r.aF=(e:Int)/\1<=e/\e<=E/\pl e=k
 pre:∀k,On k->G k<+:F k
 Q:∀k,On k->(∀e:Nat,says i e (G k)=says i e (F k))\/∃c,Hd F i k=ak c/\c.offered= -1
 D:∀e:Nat,1<=e->e<E->says i e (G (pl e))=says i e (F (pl e))
 run:1<=E->∃n c,Hd F i (pl E)=ak c/\tot F i pl E=(uM p n (uU p)).2/\c.image=vY (dS (uM p n (uU p)).1)
 im:∀m∈L,m.co=i->m.taken=aq->m.aF=(E:Int)+1->∃c,Hd F i (pl E)=ak c/\m.image=c.image
section
variable{p:ZD aX}{F G:Int->ZD Rec}{L:ZD dE}{i:Int}{E:Nat}{pl:Nat->Int}
theorem pM{k:Int}{r:Rec}{j:Int}(h:j≠k):lq F k r j=F j:=Z3 h
theorem upd_same{k:Int}{r:Rec}:lq F k r k=F k++[r]:=Z2 Z
theorem oW{k:Int}{r:Rec}{j:Int}{e:Nat}(h:¬(r.kind=2/\r.co=i/\r.aF=(e:Int))):says i e (lq F k r j)=says i e (F j):=by
  by_cases a:j=k
  · subst a;rw[upd_same,says_app,says_one,Z3 h,eL]
  · rw[pM a]
theorem Bp.aY{L':ZD dE}(h:Bp p F G L i E pl)(d:∀m∈L',m∈L\/(m.co=i->MOk F i E pl m/\(m.taken=aq->m.aF=(E:Int)+1->∃c,Hd F i (pl E)=ak c/\m.image=c.image))):Bp p F G L' i E pl:=
 {h with
  ch:=h.ch.aY fun m b=>(d m b).imp id fun x a=>(x a).1
  im:=fun m b a=>(d m b).elim (fun x=>h.im m x a) (fun x=>(x a).2)}
theorem Bp.other{l:Int->ZD Rec}{k:Int}{r:Rec}(h:Bp p F G L i E pl)(u:(iM [] (F k)).2=0)(a:(gD (iM [] (F k)).1 r).2=0)(f:i≠r.co)(t:l=G\/l=lq G k r)(C:G k=F k):Bp p (lq F k r) l L i E pl:=by
  obtain⟨-,B,K,-,R⟩:=yU u a;have q:∀j,Hd (lq F k r) i j=Hd F i j:=fun j=>by
    by_cases e:j=k
    · subst e;exact K i f
    · exact B j e i
  have s:∀(e:Nat) j,says i e (lq F k r j)=says i e (F j):=fun e j=>oW fun x=>f x.2.1.symm;have b:∀(e:Nat) j,says i e (l j)=says i e (G j):=fun e j=>by
    rcases t with rfl|rfl
    · rfl
    · exact oW fun x=>f x.2.1.symm
  refine⟨h.ch.other u a f,fun j d x o g M=>?_,fun j d=>?_,fun j d=>?_,fun e P y=>?_,fun v=>?_,fun m I g w O=>by rw[q];exact h.im m I g w O⟩
  · rcases rA o with o|⟨_,rfl⟩
    · exact h.S1 j d x o g M
    · exact ZJ g.symm f
  · have hp:=h.pre j d;rcases t with rfl|rfl
    · by_cases e:j=k
      · subst e;rw[upd_same];exact hp.trans (fk _ _)
      · rw[pM e];exact hp
    · by_cases e:j=k
      · subst e;rw[upd_same,upd_same,C];exact ct _
      · rw[pM e,pM e];exact hp
  · rw[q];exact(h.Q j d).imp (fun x e=>by rw[s,b];exact x e) id
  · rw[s,b];exact h.D e P y
  · obtain⟨n,c,z,N,A⟩:=h.run v;refine⟨n,c,by rw[q];exact z,?_,A⟩;rw[<-N];exact IC E fun e _ _=>s e _
theorem Bp.slice{B:Int->ZD Rec}{k:Int}{r:Rec}{c:Co}{fuel:Nat}(g:ny p)(h:Bp p F G L i E pl)(A:On k)(hR:(iM [] (F k)).2=0)(t:(gD (iM [] (F k)).1 r).2=0)(O:r.co=i)(u:r.kind=2)(N:B=G\/B=lq G k r)(VA:G k=F k)
    (q:Hd F i k=ak c) (C:1<=fuel) (R:Img p c.image (dN p c.image).1) (h0:(wake (dN p c.image).1).status=0) (hs:r.says=(xE p fuel [] 0 (wake (dN p c.image).1)).2.1) (X:r.image=vY (dS (xE p fuel [] 0 (wake (dN p c.image).1)).1)):Bp p (lq F k r) B L i E pl:=by
  have a4:=h.ch.slice A hR t O u;obtain⟨-,u1,-,u3,u4⟩:=yU hR t;rw[O]at u3;obtain⟨he,I,hn⟩:c.aF=r.aF/\c.offered= -1/\Hd (lq F k r) i k=ak ⟨c.kJ,c.aF,r.image,-1⟩:=by
    rcases u3 with⟨x,_,_⟩|⟨x,_,_⟩|⟨d,_,ho,he,C,hn⟩|⟨d,x,_,_,_,_,_⟩|⟨d,x,_,_,_,_⟩
    · omega
    · omega
    · rw[q]at ho;cases ho;exact⟨he,C,hn⟩
    · omega
    · omega
  obtain⟨o,b1,b2,b3,z,b5,b6⟩:=h.ch.H1 k A c q;obtain rfl:=b5 I;have v:r.aF=(o:Int):=by omega
  have y:∀(e:Nat) j,e≠o->says i e (lq F k r j)=says i e (F j):=fun e j l=>oW fun x=>l V;have S:∀(e:Nat) j,e≠o->says i e (B j)=says i e (G j):=fun e j l=>by
    rcases N with rfl|rfl
    · rfl
    · exact oW fun x=>l V
  refine⟨a4,fun j b x K q A=>?_,fun j b=>?_,fun j b=>?_,fun e h1 u=>?_,fun P=>?_,fun m hm w s a0=>?_⟩
  · rcases rA K with K|⟨e,rfl⟩
    · exact h.S1 j b x K q A
    · exact⟨o,v,b2,b3,z.trans e.symm⟩
  · have hp:=h.pre j b;rcases N with rfl|rfl
    · by_cases e:j=k
      · subst e;rw[upd_same];exact hp.trans (fk _ _)
      · rw[pM e];exact hp
    · by_cases e:j=k
      · subst e;rw[upd_same,upd_same,VA];exact ct _
      · rw[pM e,pM e];exact hp
  · by_cases e:j=k
    · subst e;exact .inr ⟨_,hn,Z⟩
    · rw[u1 j e];refine(h.Q j b).imp (fun x T=>?_) id;rw[pM e];rcases N with rfl|rfl
      · exact x T
      · rw[pM e];exact x T
  · rw[y e _ V,S e _ V];exact h.D e h1 u
  · obtain⟨n,d,a1,a2,a3⟩:=h.run P;rw[z,q]at a1;cases a1
    --the image is that of the state
    have s:=Yx g n _<|abn g;have hu:(dN p c.image).1=dS (uM p n<|uU p).1:=pack_inj (R.st.small g) (Qc g s) (by rw[<-R.eq,a3]);obtain⟨j,b⟩:=slice_iter g C h0;have P:dS (dN p c.image).1=dS (uM p n<|uU p).1:=by rw[hu];exact NU (s.sw g)
    obtain⟨q1,q2⟩:=iterW_sim g j _ _ R.st s P;have f:=iterW_add (a:=p) n j<|uU p;refine⟨n+j,_,by rw[z];exact hn,?_,?_⟩
    · rw[f];simp only;rw[<-q1,<-a2];cases o with
      |zero=>omega
      |succ e1=>
        unfold tot;rw[IC e1 (fun e h1 u=>y e _ V),z,upd_same,says_app,says_one,Z2 ⟨u,O,v⟩,hs,b,ck]
    · simp only;rw[X,b];simp only;rw[q2,f]
  · obtain⟨d,d1,d2⟩:=h.im m hm w s a0;exfalso
    --such aY tells of an offer
    obtain⟨e,m1,m2,m3,m4,-⟩:=(h.ch.M m hm w).ok;obtain⟨-,r0,r1,r2,r3,r4,r5⟩:=m4 s;obtain rfl:e=o:=by omega
    obtain⟨T,o1,o2,o3,o4,o5,o6⟩:=h.ch.O1 _ (h.ch.rng e m1 m2) r0 r1 r3 r2;obtain⟨x,x1,x2,x3⟩:=o6 V;rw[z,q]at x1;cases x1;have:=h.ch.P0 _ (h.ch.rng e m1 m2) r0 r1;omega
theorem Bp.offer{q:Int->ZD Rec}{k:Int}{r:Rec}{c:Co}(h:Bp p F G L i E pl)(z:On k)(N:(iM [] (F k)).2=0)(g:(gD (iM [] (F k)).1 r).2=0)(O:r.co=i)(s:r.kind=3)(M:q=G\/q=lq G k r)(K:G k=F k)(f:Hd F i k=ak c):
    Bp p (lq F k r) q L i E pl/\Hd (lq F k r) i (pl E)=ak ⟨c.kJ,c.aF,c.image,r.place⟩/\c.aF=(E:Int)/\r.aF=(E:Int)/\1<=E/\pl E=k:=by
  obtain⟨A,c0,ho,X,S,u,t,a⟩:=h.ch.offer z N g O s;rw[f]at ho;cases ho;obtain⟨-,R,-,B,u4⟩:=yU N g;rw[O]at B;have hn:Hd (lq F k r) i k=ak ⟨c.kJ,c.aF,c.image,r.place⟩:=by
    rcases B with⟨x,_,_⟩|⟨x,_,_⟩|⟨d,x,_,_,_,_⟩|⟨d,x,ho,X,hf,_,hn⟩|⟨d,x,_,_,_,_⟩
    · omega
    · omega
    · omega
    · rw[f]at ho;cases ho;exact hn
    · omega
  have o:∀(e:Nat) j,says i e (lq F k r j)=says i e (F j):=fun e j=>oW (fun x=>by omega);have b:∀(e:Nat) j,says i e (q j)=says i e (G j):=fun e j=>by
    rcases M with rfl|rfl
    · rfl
    · exact oW (fun x=>by omega)
  refine⟨⟨A,fun j l x v f z=>?_,fun j l=>?_,fun j l=>?_,fun e h1 s=>?_,fun P=>?_,fun m hm w ht y=>?_⟩,by rw[a];exact hn,by omega,u,t,a⟩
  · rcases rA v with v|⟨e,rfl⟩
    · exact h.S1 j l x v f z
    · omega
  · have hp:=h.pre j l;rcases M with rfl|rfl
    · by_cases e:j=k
      · subst e;rw[upd_same];exact hp.trans (fk _ _)
      · rw[pM e];exact hp
    · by_cases e:j=k
      · subst e;rw[upd_same,upd_same,K];exact ct _
      · rw[pM e,pM e];exact hp
  · by_cases e:j=k
    · subst e;exact .inl (fun I=>by rw[o,b,K])
    · rw[R j e];exact(h.Q j l).imp (fun x I=>by rw[o,b];exact x I) id
  · rw[o,b];exact h.D e h1 s
  · obtain⟨n,d,C,T,a3⟩:=h.run P;rw[a,f]at C;cases C;exact⟨n,⟨c.kJ,c.aF,c.image,r.place⟩,by rw[a];exact hn,by rw[<-T];exact IC E (fun e _ _=>o e _),a3⟩
  · obtain⟨d,d1,d2⟩:=h.im m hm w ht y;rw[a,f]at d1;cases d1;exact⟨⟨c.kJ,c.aF,c.image,r.place⟩,by rw[a];exact hn,d2⟩
theorem Bp.gone{k:Int}{r:Rec}(h:Bp p F G L i E pl)(y:On k)(M:(iM [] (F k)).2=0)(b:(gD (iM [] (F k)).1 r).2=0)(N:r.co=i)(o:r.kind=5)(w:r.aF<(E:Int))(u:1<=E)(K:G k=F k):Bp p (lq F k r) (lq G k r) L i E pl:=by
  have z:=h.ch.gone y M b N o w;obtain⟨-,q,-,B,u4⟩:=yU M b;rw[N]at B;obtain⟨c,ho,C,A,hn⟩:∃c,Hd F i k=ak c/\c.aF=r.aF/\c.offered≠ -1/\Hd (lq F k r) i k=none:=by
    rcases B with⟨x,_,_⟩|⟨x,_,_⟩|⟨c,x,_,_,_,_⟩|⟨c,x,_,_,_,_,_⟩|⟨c,x,ho,C,A,hn⟩
    · omega
    · omega
    · omega
    · omega
    · exact⟨c,ho,C,A,hn⟩
  have f:pl E≠k:=by
    intro e;obtain⟨d,d1,d2⟩:=h.ch.H2 u;rw[e,ho]at d1;cases d1;omega
  have l:∀(e:Nat) j,says i e (lq F k r j)=says i e (F j):=fun e j=>oW (fun x=>by omega);have a:∀(e:Nat) j,says i e (lq G k r j)=says i e (G j):=fun e j=>oW (fun x=>by omega);refine⟨z,fun j g x s P y=>?_,fun j g=>?_,fun j g=>?_,fun e h1 o=>?_,fun O=>?_,fun m hm t T v=>by rw[q _ f];exact h.im m hm t T v⟩
  · rcases rA s with s|⟨e,rfl⟩
    · exact h.S1 j g x s P y
    · omega
  · have hp:=h.pre j g;by_cases e:j=k
    · subst e;rw[upd_same,upd_same,K];exact ct _
    · rw[pM e,pM e];exact hp
  · by_cases e:j=k
    · subst e;exact .inl (fun I=>by rw[l,a,K])
    · rw[q j e];exact(h.Q j g).imp (fun x I=>by rw[l,a];exact x I) id
  · rw[l,a];exact h.D e h1 o
  · obtain⟨n,d,R,S,X⟩:=h.run O;exact⟨n,d,by rw[q _ f];exact R,by rw[<-S];exact IC E (fun e _ _=>l e _),X⟩
theorem Bp.begin{k:Int}{r:Rec}(h:Bp p F G L i E pl)(A:On k)(B:(iM [] (F k)).2=0)(b:(gD (iM [] (F k)).1 r).2=0)(C:r.co=i)(o:i=k)(w:r.kind=1)(hno:∀x∈F k,x.kind≠1)(z:G k=F k)(n:r.image=vY (dS (uU p))):
    E=0/\Bp p (lq F k r) (lq G k r) L i 1 (fun _=>k):=by
  obtain⟨u,t⟩:=h.ch.begin A B b C o w hno;subst u;obtain⟨-,K,-,v,X⟩:=yU B b;rw[C]at v;have hn:Hd (lq F k r) i k=ak ⟨r.co,r.aF,r.image,-1⟩:=by
    rcases v with⟨x,ho,hn⟩|⟨x,_,_⟩|⟨c,x,_,_,_,_⟩|⟨c,x,_,_,_,_,_⟩|⟨c,x,_,_,_,_⟩
    · exact hn
    · omega
    · omega
    · omega
    · omega
  have s:∀(e:Nat) j,says i e (lq F k r j)=says i e (F j):=fun e j=>oW (fun x=>by omega);have d:∀(e:Nat) j,says i e (lq G k r j)=says i e (G j):=fun e j=>oW (fun x=>by omega);refine⟨Z,t,fun j g x f l a=>?_,fun j g=>?_,fun j g=>?_,fun e h1 w=>by omega,fun u=>?_,fun m P q T R=>?_⟩
  · rcases rA f with f|⟨e,rfl⟩
    · obtain⟨e,I,N,O,-⟩:=h.S1 j g x f l a;omega
    · omega
  · have hp:=h.pre j g;by_cases e:j=k
    · subst e;rw[upd_same,upd_same,z];exact ct _
    · rw[pM e,pM e];exact hp
  · by_cases e:j=k
    · subst e;exact .inl (fun y=>by rw[s,d,z])
    · rw[K j e];exact(h.Q j g).imp (fun x y=>by rw[s,d];exact x y) id
  · refine⟨0,_,hn,?_,n⟩;show []++says i 1 (lq F k r k)=[];rw[cr,s];refine says_no fun x f a l S=>?_;obtain⟨e,I,N,O,-⟩:=h.S1 k A x f l a;omega
  · obtain⟨e,m1,m2,-⟩:=(h.ch.M m P q).ok;omega
theorem Bp.take{k:Int}{r:Rec}{m:dE}(h:Bp p F G L i E pl)(hk:On k)(hR:(iM [] (F k)).2=0)(hok:(gD (iM [] (F k)).1 r).2=0)(hi:r.co=i)(h2:r.kind=4)(hm:m∈L)(hc:m.co=i)(ht:m.taken=aq)(hto:m.iF=k)(hep:r.aF=m.aF)(hri:r.image=m.image)(hno:∀x∈F k,x.kind=4->x.co=i->¬m.aF<=x.aF)(VA:G k=F k):
    m.aF=(E:Int)+1/\1<=E/\m.from_=pl E/\Bp p (lq F k r) (lq G k r) L i (E+1) (fun e=>if e=E+1 then k else pl e):=by
  obtain⟨t1,t2,t3,hch⟩:=h.ch.take hk hR hok hi h2 hm hc ht hto hep hno;obtain⟨-,u1,-,u3,u4⟩:=yU hR hok;rw[hi]at u3;obtain⟨ho,hn⟩:Hd F i k=ar/\Hd (lq F k r) i k=ak ⟨r.co,r.aF,r.image,-1⟩:=by
    rcases u3 with⟨x,_,_⟩|⟨x,ho,hn⟩|⟨c,x,_,_,_,_⟩|⟨c,x,_,_,_,_,_⟩|⟨c,x,_,_,_,_⟩
    · omega
    · exact⟨ho,hn⟩
    · omega
    · omega
    · omega
  have hs:∀(e:Nat) j,says i e (lq F k r j)=says i e (F j):=fun e j=>oW (fun x=>by omega);have hs2:∀(e:Nat) j,says i e (lq G k r j)=says i e (G j):=fun e j=>oW (fun x=>by omega);have hpl:∀x,x<=E->(if x=E+1 then k else pl x)=pl x:=fun x hx=>Z3 V
  --it is offered where it was
  obtain⟨e,m1,m2,m3,m4,-⟩:=(h.ch.M m hm hc).ok;obtain⟨-,r0,r1,r2,r3,r4,r5⟩:=m4 ht;obtain rfl:e=E:=by omega
  have hpe:=h.ch.rng e m1 m2;obtain⟨e',o1,o2,o3,o4,o5,o6⟩:=h.ch.O1 _ hpe r0 r1 r3 r2;obtain⟨x,x1,x2,x3⟩:=o6 V;have hx0:=h.ch.P0 _ hpe r0 r1;refine⟨t1,t2,t3,hch,fun j hj y hy hc hk2=>?_,fun j hj=>?_,fun j hj=>?_,fun z h1 h2=>?_,fun hE=>?_,fun y hy hc' ht' hme=>?_⟩
  · rcases rA hy with hy|⟨_,rfl⟩
    · obtain⟨z,a1,a2,a3,a4⟩:=h.S1 j hj y hy hc hk2;exact⟨z,a1,a2,by omega,by rw[hpl z a3];exact a4⟩
    · omega
  · have hp:=h.pre j hj;by_cases e:j=k
    · subst e;rw[upd_same,upd_same,VA];exact ct _
    · rw[pM e,pM e];exact hp
  · by_cases e:j=k
    · subst e;exact .inl (fun e'=>by rw[hs,hs2,VA])
    · rw[u1 j e];exact(h.Q j hj).imp (fun x e'=>by rw[hs,hs2];exact x e') id
  · rw[hs,hs2,hpl z V];by_cases hz:z=e
    · subst hz;rcases h.Q _ hpe with hq|⟨c,c1,c2⟩
      · exact hq z
      · rw[x1]at c1;cases c1;omega
    · exact h.D z h1 V
  · obtain⟨n,d,a1,a2,a3⟩:=h.run t2;obtain⟨d',d1,d2⟩:=h.im m hm hc ht t1;rw[a1]at d1;cases d1;refine⟨n,_,by simp only[eq_self,if_true];exact hn,?_,?_⟩
    · unfold tot;simp only[eq_self,if_true];rw[hs,says_no (fun y hy hk2 hc he=>by
        obtain⟨z,b1,b2,b3,-⟩:=h.S1 k hk y hy hc hk2;have:=he.symm.trans b1
        push_cast at this
        omega),eL,<-a2]
      exact IC e (fun z h1 h2=>by rw[hpl z h2,hs])
    · simp only;rw[hri,d2,a3]
  · obtain⟨z,b1,b2,b3,-⟩:=(h.ch.M y hy hc').ok
    push_cast at hme
    omega
theorem Bp.boot{b:Int->ZD Rec}{k:Int}(h:Bp p F G L i E pl)(f:∀j,b j=if j=k then F k else G j):Bp p F b L i E pl:=by
  have d:∀j,j≠k->b j=G j:=fun j a=>by rw[f,Z3 a]
  have c:b k=F k:=by rw[f,Z2 Z]
  refine⟨h.ch,h.S1,fun j a=>?_,fun j a=>?_,fun e m l=>?_,h.run,h.im⟩
  · by_cases e:j=k
    · subst e;rw[c];exact ct _
    · rw[d j e];exact h.pre j a
  · by_cases e:j=k
    · subst e;exact .inl (fun _=>by rw[c])
    · exact(h.Q j a).imp (fun x g=>by rw[d j e];exact x g) id
  · by_cases a:pl e=k
    · rw[a,c]
    · rw[d _ a];exact h.D e m l
end
end Pw
open Go Go.Proofs Go.LX
namespace Pw
open Dk
def Fw(w:iY)(k:Int):ZD Rec:=lG (fw w k).d
def Gw(w:iY)(k:Int):ZD Rec:=Bn (fw w k).d
structure SI(w:iY):Prop where
 wr:WR w
 rep:∀k,On k->(iM [] (Fw w k)).2=0
 tale:∀i,∃E pl,Bp w.prog (Fw w) (Gw w) w.aY i E pl
theorem vS{w w':iY}{k:Int}{x:MP}(b:On k)(c:w.places.length=3)(h:w'.places=w.places.set k.toNat x):∀j,fw w' j=if j=k then x else fw w j:=by
  intro j;obtain⟨n,rfl⟩:=bs b.1;have hn:n<w.places.length:=by have:=b.2;omega
  unfold fw;rw[h,bh];by_cases a:0<=j
  · obtain⟨m,rfl⟩:=bs a;rw[lC,lC,fh];by_cases e:n=m
    · subst e;rw[Z2 rfl,Z2 hn,Z2 rfl];rfl
    · rw[Z3 e,Z3 V]
  · unfold idx;rw[Z3 a,Z3 a,Z3 V]
theorem Qi{w w':iY}(h:w'.places=w.places):∀j,fw w' j=fw w j:=fun j=>by unfold fw;rw[h]
theorem SI.upG{w:iY}(h:SI w){k:Int}(a:On k)(up:(fw w k).up=aT):Gw w k=Fw w k/\(fw w k).cos=(iM [] (Fw w k)).1:=by
 have hat:=h.wr.at a;exact⟨((dOk hat.disk).still (hat.wait up)).symm,by unfold Fw;rw[hat.cos up]⟩
theorem AZ{w w':iY}{k:Int}{x':MP}{r:Rec}{p:ZD aX}(h:SI w)(b:On k)(up:(fw w k).up=aT)(N:Vp p (fw w k) x' r)(hp:w'.places=w.places.set k.toNat x'):
    Fw w'=lq (Fw w) k r/\Gw w'=lq (Gw w) k r/\(gD (iM [] (Fw w k)).1 r).2=0:=by
  have e:=vS b h.wr.many hp;refine⟨funext fun j=>?_,funext fun j=>?_,?_⟩
  · unfold Fw lq;rw[e];by_cases a:j=k
    · subst a;rw[Z2 rfl,Z2 rfl];exact N.flog
    · rw[Z3 a,Z3 a]
  · unfold Gw lq;rw[e];by_cases a:j=k
    · subst a;rw[Z2 rfl,Z2 rfl];exact N.slog
    · rw[Z3 a,Z3 a]
  · rw[<-(h.upG b up).2];exact N.ok
theorem FV{w w':iY}(h:w'.places=w.places):Fw w'=Fw w/\Gw w'=Gw w:=
 ⟨funext fun j=>by unfold Fw;rw[Qi h],funext fun j=>by unfold Gw;rw[Qi h]⟩
def Goes(w w':iY)(i:Int):Prop:=∀E pl,Bp w.prog (Fw w) (Gw w) w.aY i E pl->∃b a,Bp w'.prog (Fw w') (Gw w') w'.aY i b a/\E<=b/\(∀e,1<=e->e<=E->a e=pl e)/\∀(e:Nat) j,On j->e≠E->says i e (Fw w' j)=says i e (Fw w j)
theorem Vq{w w':iY}{k:Int}{r:Rec}(h:SI w)(d:On k)(c:Fw w'=lq (Fw w) k r)(a:(gD (iM [] (Fw w k)).1 r).2=0):∀j,On j->(iM [] (Fw w' j)).2=0:=by
  intro j b;rw[c];by_cases e:j=k
  · subst e;exact(yU (h.rep j b) a).1
  · rw[pM e];exact h.rep j b
theorem G_upd{w w':iY}{k:Int}{r:Rec}(a:Gw w'=lq (Gw w) k r):∀j,On j->Gw w j<+:Gw w' j:=by
  intro j b;rw[a];by_cases e:j=k
  · subst e;rw[upd_same];exact fk _ _
  · rw[pM e];exact ct _
theorem SI.of{w w':iY}(h:SI w)(d:WR w')(g:∀j,On j->(iM [] (Fw w' j)).2=0)(c:∀k,On k->Gw w k<+:Gw w' k)(b:∀i,Goes w w' i):SI w'/\(∀k,On k->Gw w k<+:Gw w' k)/\∀i,Goes w w' i:=
 ⟨⟨d,g,fun i=>by obtain⟨E,pl,t⟩:=h.tale i;obtain⟨f,a,e,-⟩:=b i E pl t;exact⟨f,a,e⟩⟩,c,b⟩
theorem hd_of{w:iY}(h:SI w){k:Int}(a:On k)(up:(fw w k).up=aT){i:Int}:lH i (fw w k).cos=Hd (Fw w) i k:=by
 unfold Hd;rw[(h.upG a up).2]
theorem X3{w w':iY}(hp:w'.prog=w.prog)(a:w'.places=w.places){i:Int}(c:∀E pl,Bp w.prog (Fw w) (Gw w) w.aY i E pl->Bp w.prog (Fw w) (Gw w) w'.aY i E pl):Goes w w' i:=by
 intro E pl t;obtain⟨b,d⟩:=FV a;exact⟨E,pl,by rw[hp,b,d];exact c E pl t,bE _,fun _ _ _=>rfl,fun e j _ _=>by rw[b]⟩
theorem Yy{w:iY}(h:SI w){k:Int}{c:Co}{fuel:Int}{r:Rec}(f:On k)(up:(fw w k).up=aT)(d:lH c.kJ (fw w k).cos=ak c)(z:1<=fuel)(S:abO w.prog k c fuel r)(a:(gD (iM [] (Fw w k)).1 r).2=0){n:Int->ZD Rec}(m:n=Gw w\/n=lq (Gw w) k r)(i:Int)(E:Nat)(pl:Nat->Int)(t:Bp w.prog (Fw w) (Gw w) w.aY i E pl):
    Bp w.prog (lq (Fw w) k r) n w.aY i E pl/\(∀(e:Nat) j,e≠E->says i e (lq (Fw w) k r j)=says i e (Fw w j))/\(r.kind=3->c.kJ=i->Hd (lq (Fw w) k r) i (pl E)=ak ⟨c.kJ,c.aF,c.image,r.place⟩/\c.aF=(E:Int)/\r.aF=(E:Int)/\1<=E/\pl E=k):=by
  have p:=nU h.wr.code;have o:=h.rep k f;have l:=(h.upG f up).1;by_cases g:i=r.co
  · subst g;rw[S.co]at t⊢;rw[hd_of h f up]at d;obtain⟨y,v,A,B,F,s,C⟩:=t.ch.H1 k f c d;have u:=s S.runs;have q:r.aF=(E:Int):=by rw[S.aF,v,u]
    rcases S.how with⟨s1,s2,s3,s4,s5,s6⟩|⟨s1,s2,s3,s4,s5⟩
    · refine⟨t.slice (fuel:=fuel.toNat) p f o a S.co s1 m l d V S.img s3 s4 s5,fun e j b=>oW fun x=>b V,fun G=>by omega⟩
    · obtain⟨o1,o2⟩:=t.offer f o a S.co s1 m l d;exact⟨o1,fun e j b=>oW (fun x=>by omega),fun _ _=>o2⟩
  · exact⟨t.other o a g m l,fun e j b=>oW fun x=>g x.2.1.symm,fun _ d=>ZJ (d.symm.trans S.co.symm) g⟩
theorem Y5{w w':iY}(h:SI w)(v:WR w')(hp:w'.prog=w.prog)(ev:Ev w w'):SI w'/\(∀k,On k->Gw w k<+:Gw w' k)/\∀i,Goes w w' i:=by
  cases ev with
  |begin k x' b up hno N hpl hm=>
    obtain⟨f,g,d⟩:=AZ h b up N hpl;have K:=(h.upG b up).1;refine h.of v (Vq h b f d) (G_upd g) fun i E pl t=>?_;by_cases s:i=k
    · subst s;obtain⟨I,L⟩:=t.begin b (h.rep i b) d Z Z Z hno K Z;subst I;exact⟨1,_,by rw[hp,f,g,hm];exact L,by omega,fun e h1 h2=>by omega,fun e j _ o=>by rw[f];exact oW (fun x=>by have:=x.1;simp[Qh]at this)⟩
    · refine⟨E,pl,by rw[hp,f,g,hm];exact t.other (h.rep k b) d s (.inr Z) K,bE _,fun _ _ _=>rfl,fun e j _ o=>by rw[f];exact oW (fun x=>by have:=x.1;simp[Qh]at this)⟩
  |run k c fuel r x' b up hc hf S N hpl hm=>
    obtain⟨f,g,d⟩:=AZ h b up N hpl;refine h.of v (Vq h b f d) (G_upd g) fun i E pl t=>?_;obtain⟨L,O,ho⟩:=Yy h b up hc hf.1 S d (.inr Z) i E pl t;refine⟨E,pl,?_,bE _,fun _ _ _=>rfl,fun e j _ o=>by rw[f];exact O e j o⟩;rw[hp,f,g];by_cases h3:r.kind=3
    · rw[Z2 h3]at hm;refine L.aY fun m u=>?_;rw[hm]at u;refine(MQ h.wr u).imp id fun e l=>?_;subst e;have n:c.kJ=i:=l;obtain⟨o1,o2,o3,o4,o5⟩:=ho h3 n;refine⟨⟨E,o4,bE _,by show c.aF+1=_;omega,fun _=>⟨o5.symm,r,?_,h3,by rw[S.co];exact n,o3,Z⟩,fun C=>(by cases C)⟩,fun _ _=>⟨_,o1,Z⟩⟩;rw[o5,upd_same];simp
    · rw[Z3 h3]at hm;rw[hm];exact L
  |tear k c r x' b up hc S T hpl hm=>
    have e:=vS b h.wr.many hpl;have g:Gw w'=Gw w:=funext fun j=>by
      unfold Gw;rw[e];by_cases a:j=k
      · subst a;rw[Z2 rfl];exact T.slog
      · rw[Z3 a]
    have d:(gD (iM []<|Fw w k).1 r).2=0:=by rw[<-(h.upG b up).2];exact T.ok
    rcases T.flog with hf|hf
    · have f:Fw w'=Fw w:=funext fun j=>by
        unfold Fw;rw[e];by_cases a:j=k
        · subst a;rw[Z2 rfl];exact hf
        · rw[Z3 a]
      refine h.of v (fun j a=>by rw[f];exact h.rep j a) (fun j a=>by rw[g];exact ct _) (fun i E pl t=>?_);exact⟨E,pl,by rw[hp,f,g,hm];exact t,bE _,fun _ _ _=>rfl,fun e j _ _=>by rw[f]⟩
    · have f:Fw w'=lq (Fw w) k r:=funext fun j=>by
        unfold Fw lq;rw[e];by_cases a:j=k
        · subst a;rw[Z2 rfl,Z2 rfl];exact hf
        · rw[Z3 a,Z3 a]
      refine h.of v (Vq h b f d) (fun j a=>by rw[g];exact ct _) (fun i E pl t=>?_);obtain⟨L,O,-⟩:=Yy h b up hc V S d (.inl Z) i E pl t;exact⟨E,pl,by rw[hp,f,g,hm];exact L,bE _,fun _ _ _=>rfl,fun e j _ o=>by rw[f];exact O e j o⟩
  |send k c b up hc ho hpl hm=>
    obtain⟨e1,Q⟩:=FV hpl;refine h.of v (fun j a=>by rw[e1];exact h.rep j a) (fun j a=>by rw[Q];exact ct _) (fun i=>X3 hp hpl (fun E pl t=>t.aY (fun m u=>?_)));rw[hm]at u;refine(MQ h.wr u).imp id fun e l=>?_;subst e;have n:c.kJ=i:=l;rw[hd_of h b up,n]at hc;obtain⟨I,b1,b2,b3,b4,b5,b6⟩:=t.ch.H1 k b c hc;refine⟨⟨I,b2,b3,by show c.aF+1=_;omega,fun _=>⟨b4.symm,?_⟩,fun C=>(by cases C)⟩,fun _ he=>?_⟩
    · rw[b4];exact b6 V
    · have a6:c.aF+1=(E:Int)+1:=he;obtain rfl:I=E:=by omega
      exact⟨c,by rw[b4];exact hc,Z⟩
  |gone m c x' s C up hc he ho N hpl hm=>
    have q:=h.wr.mok m s;have b:On m.iF:=q.2.1;obtain⟨f,g,d⟩:=AZ h b up N hpl;have K:=(h.upG b up).1;refine h.of v (Vq h b f d) (G_upd g) fun i E pl t=>?_;have R:∀{F G:Int->ZD Rec},Bp w.prog F G w.aY i E pl->Bp w.prog F G w'.aY i E pl:=fun t=>t.aY fun y B=>.inl<|hm y B;refine⟨E,pl,?_,bE _,fun _ _ _=>rfl,fun e j _ o=>by rw[f];exact oW (fun x=>by have:=x.1;simp at this)⟩;rw[hp,f,g];refine R ?_;by_cases p:i=m.co
    · subst p;obtain⟨I,m1,m2,m3,-,m5⟩:=(t.ch.M m s Z).ok;have:=(m5 C).1;exact t.gone b (h.rep _ b) d Z Z (by show m.aF-1<_;omega) V K
    · exact t.other (h.rep _ b) d p (.inr Z) K
  |take m x' s C up hno N hpl hm=>
    have q:=h.wr.mok m s;have b:On m.iF:=q.2.1;obtain⟨f,g,d⟩:=AZ h b up N hpl;have K:=(h.upG b up).1;refine h.of v (Vq h b f d) (G_upd g) fun i E pl t=>?_;have O:∀(e:Nat) j,says i e (Fw w' j)=says i e (Fw w j):=fun e j=>by rw[f];exact oW (fun x=>by have:=x.1;simp at this)
    by_cases p:i=m.co
    · subst p;have X:∀x∈Fw w m.iF,x.kind=4->x.co=m.co->¬m.aF<=x.aF:=by
        intro x hx h4 l a5;have:OA (fw w m.iF) m.co m.aF=true:=jy.2 ⟨x,hx,by simp[h4,l,a5]⟩;rw[hno]at this;cases this
      obtain⟨t1,t2,t3,L⟩:=t.take b (h.rep _ b) d Z Z s Z C Z Z Z X K;refine⟨E+1,fun e=>if e=E+1 then m.iF else pl e,?_,by omega,fun e h1 h2=>Z3 V,fun e j _ _=>O e j⟩;rw[hp,f,g];refine L.aY fun y B=>(hm y B).imp id fun e l=>?_;subst e;refine⟨⟨E,t2,by omega,t1,fun x=>(by cases x),fun _=>⟨bE _,?_,?_⟩⟩,fun x=>(by cases x)⟩
      · show m.iF=_;simp only[eq_self,if_true]
      · show m.from_=_;rw[t3,Z3 V]
    · refine⟨E,pl,?_,bE _,fun _ _ _=>rfl,fun e j _ _=>O e j⟩;rw[hp,f,g];refine(t.other (h.rep _ b) d p (.inr Z) K).aY fun y B=>(hm y B).imp id fun e l=>?_;subst e;exact ZJ l.symm p
  |again m s C up had hpl hm=>
    obtain⟨e1,Q⟩:=FV hpl;have b:On m.iF:=(h.wr.mok m s).2.1;refine h.of v (fun j a=>by rw[e1];exact h.rep j a) (fun j a=>by rw[Q];exact ct _) (fun i=>X3 hp hpl (fun E pl t=>t.aY (fun y B=>(hm y B).imp id (fun e l=>?_))));subst e;have n:m.co=i:=l;subst n;obtain⟨I,m1,m2,m3,m4,-⟩:=(t.ch.M m s Z).ok;obtain⟨m5,r0,r1,r2,r3,r4,r5⟩:=m4 C;obtain⟨x,hx,A⟩:=jy.1 had;simp only[cP,decide_eq_true_eq]at A;obtain⟨z,a1,a2,a3,a4⟩:=t.ch.T1 m.iF b x hx A.1.2<|.inr A.1.1;obtain⟨e',o1,o2,o3,o4,o5,o6⟩:=t.ch.O1 _ (t.ch.rng I m1 m2) r0 r1 r3 r2;obtain rfl:e'=I:=by omega
    have a0:e'<E:=by have:=A.2;omega
    refine⟨⟨e',m1,m2,m3,fun x=>(by cases x),fun _=>⟨by omega,?_,m5⟩⟩,fun x=>(by cases x)⟩;show m.iF=_;rw[<-r5];exact o5 a0
  |still hpl hm=>
    obtain⟨e1,Q⟩:=FV hpl;exact h.of v (fun j a=>by rw[e1];exact h.rep j a) (fun j a=>by rw[Q];exact ct _) (fun i=>X3 hp hpl (fun E pl t=>t.aY (fun y B=>.inl (hm y B))))
  |crash k b up hpl hm=>
    have e:=vS b h.wr.many hpl;have g:Gw w'=Gw w:=funext fun j=>by
      unfold Gw;rw[e];by_cases a:j=k
      · subst a;rw[Z2 rfl]
      · rw[Z3 a]
    have f:Fw w'=Fw w:=funext fun j=>by
      unfold Fw;rw[e];by_cases a:j=k
      · subst a;rw[Z2 rfl]
      · rw[Z3 a]
    exact h.of v (fun j a=>by rw[f];exact h.rep j a) (fun j a=>by rw[g];exact ct _) (fun i E pl t=>⟨E,pl,by rw[hp,f,g,hm];exact t,bE _,fun _ _ _=>rfl,fun e j _ _=>by rw[f]⟩)
  |boot k b down ok hpl hm=>
    have e:=vS b h.wr.many hpl;have hat:=h.wr.at b;obtain⟨b1,b2,b3,b4⟩:=QX hat.disk;have g:∀j,Gw w' j=if j=k then Fw w k else Gw w j:=fun j=>by
      unfold Gw Fw;rw[e];by_cases a:j=k
      · subst a;rw[Z2 rfl,Z2 rfl];exact b2
      · rw[Z3 a,Z3 a]
    have f:Fw w'=Fw w:=funext fun j=>by
      unfold Fw;rw[e];by_cases a:j=k
      · subst a;rw[Z2 rfl];exact b3
      · rw[Z3 a]
    refine h.of v (fun j a=>by rw[f];exact h.rep j a) (fun j a=>?_) (fun i E pl t=>⟨E,pl,by rw[hp,f,hm];exact t.boot g,bE _,fun _ _ _=>rfl,fun e j _ _=>by rw[f]⟩);rw[g];by_cases P:j=k
    · subst P;rw[Z2 rfl];exact(dOk hat.disk).pre
    · rw[Z3 P];exact ct _
end Pw
open Go Go.Proofs Go.LX
namespace Pw
open Dk
def G6(p:ZD aX):iY:=⟨p,[⟨[],zD,aT⟩,⟨[],zD,aT⟩,⟨[],zD,aT⟩],[]⟩
theorem zD_ok:jv zD=0/\Bn zD=[]/\lG zD=[]:=by
 obtain⟨k1,k2⟩:=dOk_mk (a:=[]) (w:=[]) JU zq3 (by simp[txt]);have e:(⟨txt [],[]⟩:iW)=zD:=rfl;rw[e]at k1 k2;exact⟨k1,k2,by rw[(dOk k1).still Z,k2]⟩
theorem Y6(p:ZD aX)(k:Int):(fw (G6 p) k).d=zD/\(fw (G6 p) k).cos=[]:=by
  unfold fw G6 idx;by_cases a:0<=k
  · rw[Z2 a];simp only
    match h:k.toNat with
    |0=>exact⟨Z,Z⟩
    |1=>exact⟨Z,Z⟩
    |2=>exact⟨Z,Z⟩
    |n+3=>exact⟨rfl,rfl⟩
  · rw[Z3 a];exact⟨Z,Z⟩
theorem si_new{p:ZD aX}(hp:KD p=0):SI (G6 p):=by
  obtain⟨v,w,q⟩:=zD_ok;have b:∀k,Fw (G6 p) k=[]:=fun k=>by unfold Fw;rw[(Y6 p k).1,q]
  have o:∀k,Gw (G6 p) k=[]:=fun k=>by unfold Gw;rw[(Y6 p k).1,w]
  have u:∀i k,Hd (Fw<|G6 p) i k=none:=fun i k=>by unfold Hd;rw[b];rfl
  have j:PlR p ⟨[],zD,aT⟩:=⟨v,fun h=>(by cases h),fun _=>rfl,fun _=>(by simp only[q];rfl),fun c g=>(by cases g)⟩;have f:∀m,m∈(G6 p).aY->False:=fun m f=>by simp[G6]at f
  have l:∀i,Ao (Fw<|G6 p) (G6 p).aY i 0 (fun _=>0):=fun i=>
    { rng:=fun e s n=>by omega
      first:=fun h=>by omega
      P0:=fun k d r a=>by rw[b]at a;cases a
      T1:=fun k d r a=>by rw[b]at a;cases a
      T2:=fun e s n=>by omega
      O1:=fun k d r a=>by rw[b]at a;cases a
      H1:=fun k d c g=>by rw[u]at g;cases g
      H2:=fun h=>by omega
      M:=fun m h=>(f m h).elim}
  refine⟨⟨hp,Z,by simp[G6],fun m h=>(f m h).elim,fun x t=>?_,fun m h=>(f m h).elim⟩,fun k d=>(by rw[b];rfl),fun i=>⟨0,fun _=>0,?_⟩⟩
  · have:x=⟨[],zD,aT⟩:=by simpa[G6]using t
    rw[this];exact j
  · exact
      { ch:=l i
        S1:=fun k d r a=>by rw[b]at a;cases a
        pre:=fun k d=>by rw[b,o];exact ct _
        Q:=fun k d=>.inl fun e=>by rw[b,o]
        D:=fun e s n=>by omega
        run:=fun h=>by omega
        im:=fun m h=>(f m h).elim}
def Qj(w:iY):ZD Hap->iY
 |[]=>w
 |x::l=>if(dD w x).2≠0 then Qj w l else Qj (dD w x).1 l
theorem three{w:iY}(h:w.places.length=3):w.places=[fw w 0,fw w 1,fw w 2]:=by
 match hp:w.places,h with
 |[a,b,c],_=>
  have d:fw w 0=a:=by unfold fw idx;rw[hp];rfl
  have f:fw w 1=b:=by unfold fw idx;rw[hp];rfl
  have e:fw w 2=c:=by unfold fw idx;rw[hp];rfl
  rw[d,f,e]
theorem yD{k:Int}(h:On k):k=0\/k=1\/k=2:=by have:=h.1;have:=h.2;omega
def RF(w:iY)(i:Int):ZD (Int×Int×Int):=
 (match Hd (Fw w) i 0 with|some c=>[((0:Int),c.aF,c.offered)]|none=>[])++
 (match Hd (Fw w) i 1 with|some c=>[((1:Int),c.aF,c.offered)]|none=>[])++
 (match Hd (Fw w) i 2 with|some c=>[((2:Int),c.aF,c.offered)]|none=>[])
theorem abQ{w:iY}{i:Int}{x:Int×Int×Int}(a:x∈RF w i):On x.1/\∃c,Hd (Fw w) i x.1=ak c/\x.2.1=c.aF/\x.2.2=c.offered:=by
  unfold RF at a;rcases cE.1 a with a|a
  · rcases cE.1 a with a|a
    · cases h:Hd (Fw w) i 0 with
      |none=>rw[h]at a;cases a
      |some c=>rw[h]at a;simp at a;subst a;exact⟨⟨by omega,by omega⟩,c,h,Z,Z⟩
    · cases h:Hd (Fw w) i 1 with
      |none=>rw[h]at a;cases a
      |some c=>rw[h]at a;simp at a;subst a;exact⟨⟨by omega,by omega⟩,c,h,Z,Z⟩
  · cases h:Hd (Fw w) i 2 with
    |none=>rw[h]at a;cases a
    |some c=>rw[h]at a;simp at a;subst a;exact⟨⟨by omega,by omega⟩,c,h,Z,Z⟩
theorem held_up(w:iY)(i:Int):(RF w i).Pairwise (fun x y=>x.1<y.1):=by
 unfold RF;cases Hd (Fw w) i 0<;>cases Hd (Fw w) i 1<;>cases Hd (Fw w) i 2<;>simp
end Pw
open Go Go.Proofs Go.LX
namespace Pw
open Dk
theorem setP_self{w:iY}{k:Int}(h:0<=k/\k<w.places.length):Bo w k (fw w k)=w:=by
  have:=(pAt_eq h).2.2;unfold Bo;have e:w.places.set k.toNat (fw w k)=w.places:=by
    apply List.ext_getElem?;intro i;rw[fh];by_cases a:k.toNat=i
    · subst a;rw[Z2 rfl,Z2 (ld.1 this).1,this]
    · rw[Z3 a]
  rw[e]
theorem abR(l:ZD dE)(m:dE):zg l m=l\/zg l m=l++[m]:=by
  unfold zg;split
  · exact .inl Z
  · split
    · exact .inr Z
    · exact .inl Z
def Vr(w:iY):ZD Hap->iY×ZD Int
 |[]=>(w,[])
 |x::l=>let v:=if(dD w x).2=0 then(dD w x).1 else w;((Vr v l).1,(dD w x).2::(Vr v l).2)
theorem runL_cons(w:iY)(x:Hap)(l:ZD Hap):Vr w (x::l)=((Vr (if(dD w x).2=0 then(dD w x).1 else w) l).1,(dD w x).2::(Vr (if(dD w x).2=0 then(dD w x).1 else w) l).2):=rfl
end Pw
open Go Go.Proofs Go.LX
namespace Pw
open Dk
structure S2(w:iY):Prop where
 si:SI w
 ns:∀k,On k->∀r∈Fw w k,r.kind=3->r.place≠k
 img:∀k,On k->∀c∈(iM [] (Fw w k)).1,(dN w.prog c.image).2=0
theorem S2.of{w w':iY}(h:S2 w)(d:SI w')(hp:w'.prog=w.prog)(b:Fw w'=Fw w):S2 w':=
 ⟨d,fun k a r g f=>h.ns k a r (by rw[<-b];exact g) f,fun k a c e=>by rw[hp];exact h.img k a c (by rw[<-b];exact e)⟩
theorem S2.upd{w w':iY}{k:Int}{r:Rec}(h:S2 w)(p:On k)(n:SI w')(hp:w'.prog=w.prog)(l:Fw w'=lq (Fw w) k r)(i:(gD (iM [] (Fw w k)).1 r).2=0)(m:r.kind=3->r.place≠k)(o:(r.kind=1\/r.kind=2\/r.kind=4)->(dN w.prog r.image).2=0):S2 w':=by
  refine⟨n,fun j f x g b=>?_,fun j f c d=>?_⟩
  · rw[l]at g;rcases rA g with g|⟨rfl,rfl⟩
    · exact h.ns j f x g b
    · exact m b
  · rw[hp];rw[l]at d;by_cases e:j=k
    · subst e;rw[upd_same,abN (a:=(iM [] (Fw w j)).1) (eW rfl (h.si.rep j f)),Z3 V]at d;exact next_img i (h.img j f) o c d
    · rw[pM e]at d;exact h.img j f c d
theorem Ik{p:ZD aX}{k:Int}{c:Co}{f:Int}{r:Rec}(S:abO p k c f r):(r.kind=3->r.place≠k)/\((r.kind=1\/r.kind=2\/r.kind=4)->(dN p r.image).2=0):=by
  rcases S.how with hh|hh
  · exact⟨fun h=>by omega,fun _=>hh.2.2.2.2.2⟩
  · exact⟨fun _=>hh.2.2.1,fun h=>by omega⟩
def cnt(F:Int->ZD Rec):Nat:=(F 0).length+(F 1).length+(F 2).length
theorem QY{F:Int->ZD Rec}{k:Int}{r:Rec}(a:On k):cnt (lq F k r)=cnt F+1:=by
  unfold cnt;rcases yD a with rfl|rfl|rfl
  · rw[upd_same,pM V,pM V];simp;omega
  · rw[upd_same,pM V,pM V];simp;omega
  · rw[upd_same,pM V,pM V];simp;omega
theorem QZ{w w':iY}(h:S2 w)(l:WR w')(hp:w'.prog=w.prog)(ev:Ev w w'):S2 w'/\cnt (Fw w')<=cnt (Fw w)+1:=by
  have g:=(Y5 h.si l hp ev).1;cases ev with
  |begin k x' b up hno N hpl hm=>
    obtain⟨a,i,d⟩:=AZ h.si b up N hpl;exact⟨h.upd b g hp a d (fun x=>by simp[Qh]at x) (fun _=>by rw[show(Qh w.prog k).image=vY (dS (uU w.prog))from rfl,(X0 h.si.wr.code).un]),by rw[a,QY b];omega⟩
  |run k c fuel r x' b up hc hf S N hpl hm=>
    obtain⟨a,i,d⟩:=AZ h.si b up N hpl;exact⟨h.upd b g hp a d (Ik S).1 (Ik S).2,by rw[a,QY b];omega⟩
  |tear k c r x' b up hc S T hpl hm=>
    have e:=vS b h.si.wr.many hpl;have d:(gD (iM []<|Fw w k).1 r).2=0:=by rw[<-(h.si.upG b up).2];exact T.ok
    rcases T.flog with hf|hf
    · have a:Fw w'=Fw w:=funext fun j=>by
        unfold Fw;rw[e];by_cases f:j=k
        · subst f;rw[Z2 rfl];exact hf
        · rw[Z3 f]
      exact⟨h.of g hp a,by rw[a];omega⟩
    · have a:Fw w'=lq (Fw w) k r:=funext fun j=>by
        unfold Fw lq;rw[e];by_cases f:j=k
        · subst f;rw[Z2 rfl,Z2 rfl];exact hf
        · rw[Z3 f,Z3 f]
      exact⟨h.upd b g hp a d (Ik S).1 (Ik S).2,by rw[a,QY b];omega⟩
  |send k c b up hc ho hpl hm=>have a:=(FV hpl).1;exact⟨h.of g hp a,by rw[a];omega⟩
  |gone m c x' hi ht up hc he ho N hpl hm=>
    have b:On m.iF:=(h.si.wr.mok m hi).2.1;obtain⟨a,i,d⟩:=AZ h.si b up N hpl;exact⟨h.upd b g hp a d (fun x=>by simp at x) (fun x=>by simp at x),by rw[a,QY b];omega⟩
  |take m x' hi ht up hno N hpl hm=>
    have b:On m.iF:=(h.si.wr.mok m hi).2.1;obtain⟨a,i,d⟩:=AZ h.si b up N hpl;exact⟨h.upd b g hp a d (fun x=>by simp at x) (fun _=>h.si.wr.mimg m hi ht),by rw[a,QY b];omega⟩
  |again m hi ht up had hpl hm=>have a:=(FV hpl).1;exact⟨h.of g hp a,by rw[a];omega⟩
  |still hpl hm=>have a:=(FV hpl).1;exact⟨h.of g hp a,by rw[a];omega⟩
  |crash k b up hpl hm=>
    have e:=vS b h.si.wr.many hpl;have a:Fw w'=Fw w:=funext fun j=>by
      unfold Fw;rw[e];by_cases f:j=k
      · subst f;rw[Z2 rfl]
      · rw[Z3 f]
    exact⟨h.of g hp a,by rw[a];omega⟩
  |boot k b down ok hpl hm=>
    have e:=vS b h.si.wr.many hpl;obtain⟨o,p,n,q⟩:=QX (h.si.wr.at b).disk;have a:Fw w'=Fw w:=funext fun j=>by
      unfold Fw;rw[e];by_cases f:j=k
      · subst f;rw[Z2 rfl];exact n
      · rw[Z3 f]
    exact⟨h.of g hp a,by rw[a];omega⟩
theorem s2_new{p:ZD aX}(hp:KD p=0):S2 (G6 p):=by
 obtain⟨h,g,f⟩:=zD_ok;have a:∀k,Fw (G6 p) k=[]:=fun k=>by unfold Fw;rw[(Y6 p k).1,f]
 exact⟨si_new hp,fun k e r d=>(by rw[a]at d;cases d),fun k e c b=>(by rw[a]at b;cases b)⟩
theorem s2_play:∀(l:ZD Hap) (w:iY),S2 w->S2 (Qj w l)/\cnt (Fw (Qj w l))<=cnt (Fw w)+l.length
  |[],w,h=>⟨h,bE _⟩
  |x::l,w,h=>by
    unfold Qj;by_cases b:(dD w x).2=0
    · rw[Z3 V];obtain⟨f,e,d⟩:=N7 h.si.wr (w':=(dD w x).1)<|eW Z b;obtain⟨k1,k2⟩:=QZ h f e d;obtain⟨a,c⟩:=s2_play l _ k1;exact⟨a,by rw[bq];omega⟩
    · rw[Z2 b];obtain⟨a,c⟩:=s2_play l w h;exact⟨a,by rw[bq];omega⟩
theorem note_succ{p:ZD aX}{x:MP}{r:Rec}(h:PlR p x)(q:x.up=aT)(w:La r)(l:(gD x.cos r).2=0)(o:(txt (Bn x.d)).length<=30000)(g:(Bn x.d).length<=119):(kS x r).2=0:=by
 have k:=dOk h.disk;have i:=h.wait q;have j:=k.still i;have m:=k.good;rw[j]at m;have e:dC r=0:=pNext_rec l;have u:x.d=⟨txt<|Bn x.d,txt []⟩:=by
  have n:=k.safe;cases hx:x.d with
  |mk s t=>rw[hx]at n i;simp only at n i;subst i;rw[<-n];rfl
 have c:=put_ok (a:=Bn x.d) (b:=[]) (r:=r) m V (by simp[txt];omega) e w;rw[<-u]at c;have f:=sync_txt (a:=Bn x.d) (b:=[r]) m (fun z hz=>by rw[eR]at hz;subst hz;exact⟨e,w⟩) (by simpa using g) (by
  have:=line_len e w;simp only[txt,bj,bq,eA];omega)
 unfold kS;rw[Z3 V,c];simp only[cr];rw[Z3 zq3,f,Z3 zq3]
def hv(F:Int->ZD Rec)(i k:Int):Nat:=if(Hd F i k).isSome then 1 else 0
def runs(o:Zs Co):Ys:=match o with|some c=>ab (c.offered= -1)|none=>aq
def rv(F:Int->ZD Rec)(i:Int):Nat:=if runs (Hd F i 0)||runs (Hd F i 1)||runs (Hd F i 2)then 1 else 0
def OG(F:Int->ZD Rec):Nat:=cnt F+(hv F 0 0+hv F 0 1+hv F 0 2+(hv F 1 0+hv F 1 1+hv F 1 2)+(hv F 2 0+hv F 2 1+hv F 2 2))+2*((1-rv F 0)+(1-rv F 1)+(1-rv F 2))
theorem Vs(F:Int->ZD Rec)(i k:Int):hv F i k<=1:=by unfold hv;split<;>omega
theorem rv_le(F:Int->ZD Rec)(i:Int):rv F i<=1:=by unfold rv;split<;>omega
theorem psi_le(F:Int->ZD Rec):cnt F<=OG F/\OG F<=cnt F+15:=by
 unfold OG;have:=Vs F 0 0;have:=Vs F 0 1;have:=Vs F 0 2;have:=Vs F 1 0;have:=Vs F 1 1;have:=Vs F 1 2;have:=Vs F 2 0;have:=Vs F 2 1;have:=Vs F 2 2;have:=rv_le F 0;have:=rv_le F 1;have:=rv_le F 2;omega
def part(F:Int->ZD Rec)(i:Int):Nat:=hv F i 0+hv F i 1+hv F i 2+2*(1-rv F i)
theorem psi_part(F:Int->ZD Rec):OG F=cnt F+part F 0+part F 1+part F 2:=by unfold OG part;omega
theorem part_congr{F a:Int->ZD Rec}{i:Int}(h:∀k,On k->Hd a i k=Hd F i k):part a i=part F i:=by
 unfold part hv rv;rw[h 0 ⟨by omega,by omega⟩,h 1 ⟨by omega,by omega⟩,h 2 ⟨by omega,by omega⟩]
end Pw
open Go Go.Proofs Go.LX
namespace Pw
open Dk
inductive HEv (w w':iY):Prop
 |gone (m:dE) (c:Co) (x':MP) (hi:m∈w.aY) (ht:m.taken=aT) (up:(fw w m.iF).up=aT) (hc:lH m.co (fw w m.iF).cos=ak c) (he:c.aF=m.aF-1) (ho:c.offered=m.from_) (N:Vp w.prog (fw w m.iF) x' ⟨5,m.co,m.aF-1,0,[],[]⟩) (hp:w'.places=w.places.set m.iF.toNat x') (hm:∀y∈w'.aY,y∈w.aY)
 |take (m:dE) (x':MP) (hi:m∈w.aY) (ht:m.taken=aq) (up:(fw w m.iF).up=aT) (hno:OA (fw w m.iF) m.co m.aF=aq) (N:Vp w.prog (fw w m.iF) x' ⟨4,m.co,m.aF,0,[],m.image⟩) (hp:w'.places=w.places.set m.iF.toNat x') (hm:∀y∈w'.aY,y∈w.aY\/y=ansM m)
 |again (m:dE) (hi:m∈w.aY) (ht:m.taken=aq) (up:(fw w m.iF).up=aT) (had:OA (fw w m.iF) m.co m.aF=aT) (hp:w'.places=w.places) (hm:∀y∈w'.aY,y∈w.aY\/y=ansM m)
 |still (hp:w'.places=w.places) (hm:∀y∈w'.aY,y∈w.aY)
theorem HEv.ev{w w':iY}(h:HEv w w'):Ev w w':=by
 cases h with
 |gone m c x' h1 h2 h3 h4 h5 h6 h7 h8 h9=>exact .gone m c x' h1 h2 h3 h4 h5 h6 h7 h8 h9
 |take m x' a b c d e f g=>exact .take m x' a b c d e f g
 |again m a b c d e f=>exact .again m a b c d e f
 |still a b=>exact .still a b
theorem hear_hev{w w':iY}(h:WR w){i:Int}{t:Ys}(e:ED w i t=(w',0)):WR w'/\w'.prog=w.prog/\HEv w w':=by
  unfold ED at e;by_cases C:i<0\/(w.aY.length:Int)<=i
  · rw[Z2 C]at e;simp at e
  · rw[Z3 C]at e;obtain⟨n,rfl⟩:=bs (by omega:0<=i);have hn:n<w.aY.length:=by omega
    have G:(w.aY[n]?).getD zMail=w.aY[n]:=by rw[bc hn];rfl
    simp only[bh]at e;simp only[G]at e;have a:w.aY[n]∈w.aY:=cA hn;generalize w.aY[n]=m at*;have d:=h.mok m a;by_cases s:(fw w m.iF).up=aq
    · rw[Z2 s]at e;simp at e
    · rw[Z3 s]at e;have f:(fw w m.iF).up=true:=by simpa using s
      have hv:WR ⟨w.prog,w.places,if t=aT then w.aY else w.aY.take n++w.aY.drop (n+1)⟩:=by
        cases t with
        |true=>exact h
        |false=>exact h.drop n
      have b:∀y∈(if t=aT then w.aY else w.aY.take n++w.aY.drop (n+1)),y∈w.aY:=by
        intro y o;cases t with
        |true=>exact o
        |false=>exact(cE.1 o).elim jG jH
      generalize K:(if t=aT then w.aY else w.aY.take n++w.aY.drop (n+1))=L at*;have z:∀k,fw (⟨w.prog,w.places,L⟩:iY) k=fw w k:=fun k=>rfl;simp only[z]at e;have hat:=h.at ⟨d.2.1.1,d.2.1.2⟩;cases ht:m.taken with
      |true=>
        rw[ht]at e;simp only[if_true]at e;cases hf:lH m.co (fw w m.iF).cos with
        |none=>
          rw[hf]at e;cases e;exact⟨hv,Z,.still Z b⟩
        |some c=>
          rw[hf]at e;simp only at e;by_cases l:c.aF≠m.aF-1\/c.offered≠m.from_
          · rw[Z2 l]at e;cases e;exact⟨hv,Z,.still Z b⟩
          · rw[Z3 l]at e;have E:=ZL dk e;have B:=ZL hS e;simp only at B E;have N:=KG (x':=(kS (fw w m.iF) ⟨5,m.co,m.aF-1,0,[],[]⟩).1) (r:=⟨5,m.co,m.aF-1,0,[],[]⟩) hat f (Cb V d.2.2.1 (by have:=d.2.2.2.1;omega) V (fun x p=>(by cases p)) (fun x p=>(by cases p))) (fun h=>by simp only at h;omega) (eW Z E);subst B;exact⟨hv.set N.pl,Z,.gone m c _ a ht f hf V V N Z b⟩
      |false=>
        rw[ht]at e;simp only[cv,if_false]at e;have j:∀{u:iY},WR u->WR ⟨u.prog,u.places,zg u.aY<|ansM m⟩:=fun I=>I.send (fun h=>by cases h);by_cases l:OA (fw w m.iF) m.co m.aF=aT
        · rw[Z2 l]at e;cases e;refine⟨j hv,Z,.again m a ht f l Z fun y o=>?_⟩;exact(MQ hv o).imp (b y) id
        · rw[Z3 l]at e;have q:OA (fw w m.iF) m.co m.aF=false:=by simpa using l
          by_cases v:(kS (fw w m.iF) ⟨4,m.co,m.aF,0,[],m.image⟩).2=0
          · rw[Z3 V]at e;have g:=h.mimg m a ht;have F:=XV h.code g;have N:=KG (x':=(kS (fw w m.iF) ⟨4,m.co,m.aF,0,[],m.image⟩).1) (r:=⟨4,m.co,m.aF,0,[],m.image⟩) hat f (Cb V d.2.2.1 (by have:=d.2.2.2.1;omega) V (fun x p=>(by cases p)) (abK (nU h.code) F).1) (fun _=>g) (eW Z v);cases e;have A:=hv.set (k:=m.iF) N.pl;refine⟨j A,Z,.take m _ a ht f q N Z fun y o=>?_⟩;exact(MQ A o).imp (b y) id
          · rw[Z2 v]at e;exact ZJ (ZL dk e) v
structure Calm(w w':iY):Prop where
 s2:S2 w'
 prog:w'.prog=w.prog
 OG:OG (Fw w')=OG (Fw w)
 up:∀k,On k->(fw w k).up=aT->(fw w' k).up=aT
 grow:∀k,On k->Gw w k<+:Gw w' k
theorem Calm.refl{w:iY}(h:S2 w):Calm w w:=⟨h,rfl,rfl,fun _ _ h=>h,fun _ _=>ct _⟩
theorem Calm.trans{a b c:iY}(h:Calm a b)(g:Calm b c):Calm a c:=⟨g.s2,g.prog.trans h.prog,g.OG.trans h.OG,fun k d x=>g.up k d (h.up k d x),fun k d=>(h.grow k d).trans (g.grow k d)⟩
theorem rv_eq{F:Int->ZD Rec}{i k:Int}(a:On k)(h:runs (Hd F i k)=aT):rv F i=1:=by
 unfold rv;rw[Z2];rcases yD a with rfl|rfl|rfl<;>simp[h]
theorem rv_zero{F:Int->ZD Rec}{i:Int}(h:∀k,On k->runs (Hd F i k)=aq):rv F i=0:=by
 unfold rv;rw[Z3];rw[h 0 ⟨by omega,by omega⟩,h 1 ⟨by omega,by omega⟩,h 2 ⟨by omega,by omega⟩];simp
theorem part_gone{F b:Int->ZD Rec}{i k:Int}{c:Co}(o:On k)(p:Hd F i k=ak c)(q:c.offered≠ -1)(n:Hd b i k=ar)(d:∀j,On j->j≠k->Hd b i j=Hd F i j):part b i+1=part F i:=by
  have m:runs (Hd F i k)=false:=by rw[p];simp[runs,q]
  have e:runs (Hd b i k)=false:=by rw[n];rfl
  have g:hv F i k=1:=by unfold hv;rw[p];rfl
  have l:hv b i k=0:=by unfold hv;rw[n];rfl
  have f:rv b i=rv F i:=by
    unfold rv;rcases yD o with rfl|rfl|rfl
    · rw[m,e,d 1 ⟨by omega,by omega⟩ V,d 2 ⟨by omega,by omega⟩ V]
    · rw[m,e,d 0 ⟨by omega,by omega⟩ V,d 2 ⟨by omega,by omega⟩ V]
    · rw[m,e,d 0 ⟨by omega,by omega⟩ V,d 1 ⟨by omega,by omega⟩ V]
  have a:∀j,On j->j≠k->hv b i j=hv F i j:=fun j r h=>by unfold hv;rw[d j r h]
  unfold part;rw[f];rcases yD o with rfl|rfl|rfl
  · rw[g,l,a 1 ⟨by omega,by omega⟩ V,a 2 ⟨by omega,by omega⟩ V];omega
  · rw[g,l,a 0 ⟨by omega,by omega⟩ V,a 2 ⟨by omega,by omega⟩ V];omega
  · rw[g,l,a 0 ⟨by omega,by omega⟩ V,a 1 ⟨by omega,by omega⟩ V];omega
theorem part_take{F b:Int->ZD Rec}{i k:Int}{c:Co}(g:On k)(r:Hd F i k=ar)(o:∀j,On j->runs (Hd F i j)=aq)(h:Hd b i k=ak c)(l:c.offered= -1)(n:∀j,On j->j≠k->Hd b i j=Hd F i j):part b i+1=part F i:=by
  have d:hv F i k=0:=by unfold hv;rw[r];rfl
  have f:hv b i k=1:=by unfold hv;rw[h];rfl
  have m:=rv_zero o;have q:rv b i=1:=rv_eq g (by rw[h];simp[runs,l]);have a:∀j,On j->j≠k->hv b i j=hv F i j:=fun j p e=>by unfold hv;rw[n j p e]
  unfold part;rw[m,q];rcases yD g with rfl|rfl|rfl
  · rw[d,f,a 1 ⟨by omega,by omega⟩ V,a 2 ⟨by omega,by omega⟩ V];omega
  · rw[d,f,a 0 ⟨by omega,by omega⟩ V,a 2 ⟨by omega,by omega⟩ V];omega
  · rw[d,f,a 0 ⟨by omega,by omega⟩ V,a 1 ⟨by omega,by omega⟩ V]
theorem psi_of{F a:Int->ZD Rec}{i:Int}(c:On i)(b:cnt a=cnt F+1)(hp:part a i+1=part F i)(ho:∀j,On j->j≠i->part a j=part F j):OG a=OG F:=by
  rw[psi_part,psi_part,b];rcases yD c with rfl|rfl|rfl
  · rw[ho 1 ⟨by omega,by omega⟩ V,ho 2 ⟨by omega,by omega⟩ V];omega
  · rw[ho 0 ⟨by omega,by omega⟩ V,ho 2 ⟨by omega,by omega⟩ V];omega
  · rw[ho 0 ⟨by omega,by omega⟩ V,ho 1 ⟨by omega,by omega⟩ V];omega
theorem no_run{w:iY}(h:SI w){m:dE}(k:m∈w.aY)(B:m.taken=aq)(hno:OA (fw w m.iF) m.co m.aF=aq):∀j,On j->runs (Hd (Fw w) m.co j)=false:=by
  intro j r;obtain⟨E,pl,t⟩:=h.tale m.co;have P:On m.iF:=(h.wr.mok m k).2.1;obtain⟨e,m1,m2,X,v,-⟩:=(t.ch.M m k Z).ok;obtain⟨I,r0,l,A,y,R,s⟩:=v B;have a:=t.ch.rng e m1 m2;obtain⟨f,o1,o2,O,N,C,o⟩:=t.ch.O1 _ a r0 l y A;obtain rfl:f=e:=by omega
  have b:f=E:=by
    by_cases g:f<E
    · exfalso;have d:=C g;rw[s]at d;obtain⟨x,n,p,L,x4,q⟩:=t.ch.T2 (f+1) V V;rw[<-d]at n;have:OA (fw w m.iF) m.co m.aF=true:=jy.2 ⟨x,n,by rw[q V,p];simp;omega⟩;rw[hno]at this;cases this
    · omega
  obtain⟨Q,c1,c2,K⟩:=o b;cases hd:Hd (Fw w) m.co j with
  |none=>rfl
  |some c=>
    by_cases i:c.offered= -1
    · exfalso;obtain⟨z,G,S,T,F,u,a6⟩:=t.ch.H1 j r c hd;have:=u i;subst this;subst b;rw[<-F,c1]at hd;cases hd;have:=t.ch.P0 _ a r0 l;omega
    · simp[runs,i]
theorem X4{w w':iY}(h:S2 w){i:Int}{t:Ys}(e:ED w i t=(w',0)):Calm w w':=by
  obtain⟨C,o,A⟩:=hear_hev h.si.wr e;obtain⟨k1,k2⟩:=QZ h C o A.ev;obtain⟨-,g1,-⟩:=Y5 h.si C o A.ev;have g:∀{k:Int} {x':MP} {r:Rec},On k->(fw w k).up=aT->On r.co->Vp w.prog (fw w k) x' r->w'.places=w.places.set k.toNat x'->(part (Fw w') r.co+1=part (Fw w) r.co)->Calm w w':=by
    intro k x' r b up y N hp n;obtain⟨l,B,d⟩:=AZ h.si b up N hp;obtain⟨-,p,z,-,-⟩:=yU (h.si.rep k b) d;refine⟨k1,o,psi_of y (by rw[l,QY b]) n fun j u f=>part_congr fun q E=>?_,fun j u s=>?_,g1⟩
    · rw[l];by_cases e:q=k
      · subst e;exact z j f
      · exact p q e j
    · rw[vS b h.si.wr.many hp j];by_cases e:j=k
      · rw[Z2 e];exact N.up
      · rw[Z3 e];exact s
  cases A with
  |gone m c x' hi ht up hc he ho N hp hm=>
    have a:=h.si.wr.mok m hi;have b:On m.iF:=a.2.1;obtain⟨l,B,d⟩:=AZ h.si b up N hp;obtain⟨-,p,z,v,-⟩:=yU (h.si.rep _ b) d;refine g (r:=⟨5,m.co,m.aF-1,0,[],[]⟩) b up a.2.2.1 N hp ?_;rw[hd_of h.si b up]at hc;have hn:Hd (Fw w') m.co m.iF=none:=by
      rw[l];rcases v with⟨x,_,_⟩|⟨x,_,_⟩|⟨_,x,_,_,_,_⟩|⟨_,x,_,_,_,_,_⟩|⟨_,_,_,_,_,hn⟩
      · simp at x
      · simp at x
      · simp at x
      · simp at x
      · exact hn
    exact part_gone b hc (by rw[ho];have:=a.1;omega) hn (fun j u f=>by rw[l];exact p j f _)
  |take m x' hi ht up hno N hp hm=>
    have a:=h.si.wr.mok m hi;have b:On m.iF:=a.2.1;obtain⟨l,B,d⟩:=AZ h.si b up N hp;obtain⟨-,p,z,v,-⟩:=yU (h.si.rep _ b) d;refine g (r:=⟨4,m.co,m.aF,0,[],m.image⟩) b up a.2.2.1 N hp ?_;obtain⟨ho,hn⟩:Hd (Fw w) m.co m.iF=ar/\Hd (Fw w') m.co m.iF=ak ⟨m.co,m.aF,m.image,-1⟩:=by
      rw[l];rcases v with⟨x,_,_⟩|⟨x,ho,hn⟩|⟨_,x,_,_,_,_⟩|⟨_,x,_,_,_,_,_⟩|⟨_,x,_,_,_,_⟩
      · simp at x
      · exact⟨ho,hn⟩
      · simp at x
      · simp at x
      · simp at x
    exact part_take b ho (no_run h.si hi ht hno) hn Z (fun j u f=>by rw[l];exact p j f _)
  |again m hi ht up had hp hm=>exact⟨k1,o,by rw[(FV hp).1],fun j u s=>by rw[Qi hp];exact s,g1⟩
  |still hp hm=>exact⟨k1,o,by rw[(FV hp).1],fun j u s=>by rw[Qi hp];exact s,g1⟩
theorem TH{w w':iY}(h:S2 w){x:Hap}(e:dD w x=(w',0))(hp:w'.places=w.places):Calm w w':=by
 obtain⟨c,a,b⟩:=N7 h.si.wr e;obtain⟨k1,k2⟩:=QZ h c a b;obtain⟨-,g1,-⟩:=Y5 h.si c a b;exact⟨k1,a,by rw[(FV hp).1],fun j f d=>by rw[Qi hp];exact d,g1⟩
def dr1(w:iY):iY:=if(dD w ⟨4,0,0,0⟩).2=0 then(dD w ⟨4,0,0,0⟩).1 else if(dD w ⟨6,0,0,0⟩).2=0 then(dD w ⟨6,0,0,0⟩).1 else w
def yV:Nat->iY->iY
 |0,w=>w
 |n+1,w=>if w.aY=[]then w else yV n (dr1 w)
def mu:ZD dE->Nat
 |[]=>0
 |m::l=>(if m.taken=aT then 1 else 2)+mu l
theorem mu_app(a b:ZD dE):mu (a++b)=mu a+mu b:=by
 induction a with
 |nil=>simp[mu]
 |cons m a ih=>simp[mu,ih];omega
theorem mu_le(l:ZD dE):mu l<=2*l.length:=by
 induction l with
 |nil=>simp[mu]
 |cons m a ih=>simp only[mu,bq];split<;>omega
theorem hear0(w:iY):dD w ⟨4,0,0,0⟩=ED w 0 false:=by unfold dD;simp
theorem lose0(w:iY)(m:dE)(L:ZD dE)(h:w.aY=m::L):dD w ⟨6,0,0,0⟩=(⟨w.prog,w.places,L⟩,0):=by
 unfold dD;simp[h]
theorem hear_mail{w w':iY}{m:dE}{L:ZD dE}(h:w.aY=m::L)(e:ED w 0 aq=(w',0)):w'.aY=L\/(m.taken=aq/\w'.aY=L++[ansM m]):=by
  unfold ED at e;rw[Z3 (by rw[h,bq];omega)]at e;simp only[h,mE,fg,dw,jj,cr,fa,kd,ga,cv,if_false]at e;split at e
  · simp at e
  · split at e
    · split at e
      · cases e;exact .inl Z
      · split at e
        · cases e;exact .inl Z
        · have c:=ZL hS e;simp only at c;subst c;exact .inl Z
    · rename_i d;have b:m.taken=false:=by simpa using d
      split at e
      · cases e;rcases abR L (ansM m)with a|a
        · exact .inl a
        · exact .inr ⟨b,a⟩
      · split at e
        · rename_i a;exact ZJ (ZL dk e) a
        · cases e;rcases abR L (ansM m)with a|a
          · exact .inl a
          · exact .inr ⟨b,a⟩
theorem dr1_calm{w:iY}(h:S2 w)(d:w.aY≠[]):Calm w (dr1 w)/\mu (dr1 w).aY<mu w.aY:=by
  obtain⟨m,L,b⟩:=oB d;have a:mu w.aY=(if m.taken=aT then 1 else 2)+mu L:=by rw[b];rfl
  unfold dr1;by_cases c:(dD w ⟨4,0,0,0⟩).2=0
  · rw[Z2 c];have e:ED w 0 aq=((dD w ⟨4,0,0,0⟩).1,0):=by rw[<-hear0];exact eW Z c
    refine⟨X4 h e,?_⟩;rw[a];rcases hear_mail b e with hh|⟨ht,hh⟩
    · rw[hh];split<;>omega
    · rw[hh,mu_app,ht];simp[mu,ansM];omega
  · rw[Z3 c,lose0 w m L b];simp only[if_true];refine⟨TH h (lose0 w m L b) Z,?_⟩;rw[a];show mu L<_;split<;>omega
theorem FH:∀(n:Nat) (w:iY),S2 w->mu w.aY<=n->Calm w (yV n w)/\(yV n w).aY=[]
  |0,w,h,hn=>by
    refine⟨Calm.refl h,?_⟩;show w.aY=[];cases hw:w.aY with
    |nil=>rfl
    |cons m L=>rw[hw]at hn;simp only[mu]at hn;split at hn<;>omega
  |n+1,w,h,hn=>by
    unfold yV;by_cases a:w.aY=[]
    · rw[Z2 a];exact⟨Calm.refl h,a⟩
    · rw[Z3 a];obtain⟨c1,c2⟩:=dr1_calm h a;obtain⟨d1,d2⟩:=FH n _ c1.s2 V;exact⟨c1.trans d1,d2⟩
end Pw
open Go Go.Proofs Go.LX
namespace Pw
open Dk
theorem rec5_ok{i e:Int}(a:On i)(b:1<=e/\e<=100):fG ⟨5,i,e,0,[],[]⟩=0:=by
 rw[<-rec_eq];unfold dC;have:=a.1;have:=a.2;simp only;rw[dF (show¬(5:Int)<1 by omega),dF (show¬(5:Int)<5 by omega),pw,Z1,dF (show¬i<0 by omega),dF (show¬(3:Int)<=i by omega),dF (show¬e<0 by omega),dF (show¬(100:Int)<e by omega),dF (show¬(0:Int)<0 by omega),dF (show¬(3:Int)<=0 by omega),dF (show¬e=0 by omega)];simp
theorem rec4_ok{i e:Int}{l:ZD Int}(a:On i)(c:1<=e/\e<=100)(b:1<=l.length/\l.length<=1200):fG ⟨4,i,e,0,[],l⟩=0:=by
 rw[<-rec_eq];unfold dC;have:=a.1;have:=a.2;simp only;rw[dF (show¬(4:Int)<1 by omega),dF (show¬(5:Int)<4 by omega),pw,Z1,dF (show¬i<0 by omega),dF (show¬(3:Int)<=i by omega),dF (show¬e<0 by omega),dF (show¬(100:Int)<e by omega),dF (show¬(0:Int)<0 by omega),dF (show¬(3:Int)<=0 by omega),dF (show¬(1200:Int)<(l.length:Int) by omega),dT (show(0:Int)<(l.length:Int) by omega),dF (show¬e=0 by omega)];simp
theorem next5{a:ZD Co}{i e:Int}{c:Co}(f:Dk.Good a)(h:On i)(g:1<=e/\e<=100)(d:lH i a=ak c)(b:c.aF=e)(ho:c.offered≠ -1):(gD a ⟨5,i,e,0,[],[]⟩).2=0:=by
 unfold gD;rw[Z3 (by rw[(Vl a).2 f];simp),Z3 (by rw[rec5_ok h g];simp)];rw[show NZ ⟨5,i,e,0,[],[]⟩ a=ak c from d];simp[b,ho]
theorem next4{a:ZD Co}{i e:Int}{l:ZD Int}(b:Dk.Good a)(f:On i)(g:2<=e/\e<=100)(d:1<=l.length/\l.length<=1200):(gD a ⟨4,i,e,0,[],l⟩).2=0↔lH i a=none:=by
 unfold gD;rw[Z3 (by rw[(Vl a).2 b];simp),Z3 (by rw[rec4_ok f ⟨by omega,g.2⟩ d];simp)];rw[show NZ ⟨4,i,e,0,[],l⟩ a=lH i a from rfl];cases lH i a with
 |none=>
  simp;rw[Z3 V]
 |some c=>simp
def Bf(w:iY)(k i:Int):iY:=yV 100 (if(dD w ⟨3,k,i,0⟩).2=0 then(dD w ⟨3,k,i,0⟩).1 else w)
theorem send_eq{w:iY}(h:WR w){k:Int}(b:On k)(i:Int):dD w ⟨3,k,i,0⟩=if(fw w k).up=aq then(w,7)else FU w ⟨3,k,i,0⟩:=by
  have:=h.many;have:=b.1;have:=b.2;unfold dD;simp only;rw[Z3 V,Z3 V,Z3 V,Z3 V,Z3 V];by_cases a:(fw w k).up=aq
  · rw[Z2 a,Z2 a]
  · rw[Z3 a,Z3 a,Z3 V,Z2 trivial]
theorem resend_places{w:iY}{x:Hap}:(FU w x).1.places=w.places:=by
  unfold FU;split
  · rfl
  · split<;>rfl
theorem FI{w:iY}(h:S2 w){k:Int}(d:On k)(i:Int):Calm w (Bf w k i)/\(Bf w k i).aY=[]:=by
  unfold Bf;have a:∀{v:iY},S2 v->mu v.aY<=100:=fun{v}hv=>by have:=mu_le v.aY;have:=hv.si.wr.XZ;omega
  by_cases b:(dD w ⟨3,k,i,0⟩).2=0
  · rw[Z2 b];have c:(dD w ⟨3,k,i,0⟩).1.places=w.places:=by
      rw[send_eq h.si.wr d i];split
      · rfl
      · exact resend_places
    have c1:=TH h (w':=(dD w ⟨3,k,i,0⟩).1) (eW Z b) c;obtain⟨d1,d2⟩:=FH 100 _ c1.s2<|a c1.s2;exact⟨c1.trans d1,d2⟩
  · rw[Z3 b];exact FH 100 _ h<|a h
inductive TV (k:Int) (V V':Int->Option Co):Prop
 |same (h:V k=ar\/∃c,V k=ak c/\c.offered= -1) (e:∀j,On j->V' j=V j)
 |gone (c:Co) (h:V k=ak c) (ho:c.offered≠ -1) (hk:V' k=ar) (e:∀j,On j->j≠k->V' j=V j)
 |take (c c':Co) (j:Int) (h:V k=ak c) (ho:c.offered≠ -1) (top:∀q d,On q->V q=ak d->d.aF<=c.aF) (hj:On j) (hjk:j≠k) (h0:V j=ar) (hk:V' k=ar) (hn:V' j=ak c') (hr:c'.offered= -1) (e:∀q,On q->q≠k->q≠j->V' q=V q)
 |stuck (c:Co) (j:Int) (h:V k=ak c) (ho:c.offered≠ -1) (top:∀q d,On q->V q=ak d->d.aF<=c.aF) (hj:On j) (hjk:j≠k) (h0:V j≠ar) (e:∀q,On q->V' q=V q)
def Rm(w:iY):Prop:=∀k,On k->(txt (Gw w k)).length<=30000
theorem len_cnt{F:Int->ZD Rec}{k:Int}(a:On k):(F k).length<=cnt F:=by
 unfold cnt;rcases yD a with rfl|rfl|rfl<;>omega
theorem IE{n:Nat}{w:iY}(h:w.aY=[]):yV n w=w:=by
 cases n with
 |zero=>rfl
 |succ n=>unfold yV;rw[Z2 h]
theorem JW{n:Nat}{w:iY}(h:w.aY≠[]):yV (n+1) w=yV n (dr1 w):=by
 conv=>lhs;unfold yV
 rw[Z3 h]
theorem hear_word{w:iY}(h:S2 w){k j i e:Int}{c:Co}(b:On k)(up:(fw w k).up=aT)(t:w.aY=[⟨j,k,i,e+1,aT,[]⟩])(B:Hd (Fw w) i k=ak c)(K:c.aF=e)(ho:c.offered=j)(P:On j)(R:(txt (Gw w k)).length<=30000)(L:OG (Fw w)<=119):
    (dr1 w).aY=[]/\Hd (Fw (dr1 w)) i k=ar/\(∀q,On q->q≠k->∀y,Hd (Fw (dr1 w)) y q=Hd (Fw w) y q)/\∀y,y≠i->Hd (Fw (dr1 w)) y k=Hd (Fw w) y k:=by
  have hat:=h.si.wr.at b;have a:=h.si.wr.mok _ (show(⟨j,k,i,e+1,aT,[]⟩:dE)∈w.aY by rw[t];simp);have l:On i:=a.2.2.1;have I:2<=e+1/\e+1<=100:=a.2.2.2.1;have g:lH i (fw w k).cos=ak c:=by rw[hd_of h.si b up];exact B
  have M:=P.1;have n:(gD (fw w k).cos ⟨5,i,e,0,[],[]⟩).2=0:=next5 hat.good.1 l ⟨by omega,by omega⟩ g K V;have v:La ⟨5,i,e,0,[],[]⟩:=Cb V l V V (fun x s=>(by cases s)) (fun x s=>(by cases s));have C:(Bn (fw w k).d).length<=119:=by
    have Q:=(h.si.upG b up).1;have S:=len_cnt (F:=Fw w) b;have T:=(psi_le<|Fw w).1;have:(Gw w k).length=(Fw w k).length:=by rw[Q]
    show(Gw w k).length<=119;omega
  have u:=note_succ hat up v n R C;have N:=KG (x':=(kS (fw w k) ⟨5,i,e,0,[],[]⟩).1) hat up v (fun x=>by simp at x)<|eW Z u;have G:ED w 0 aq=(Bo ⟨w.prog,w.places,[]⟩ k (kS (fw w k) ⟨5,i,e,0,[],[]⟩).1,0):=by
    unfold ED;rw[Z3 (by rw[t];simp)];simp only[t,mE,fg,dw,jj,cr,fa,kd,ga,cv,if_false,if_true];rw[Z3 (by rw[up];simp)];have o:fw (⟨w.prog,w.places,[]⟩:iY) k=fw w k:=rfl;rw[o,g];simp only;rw[Z3 V,show e+1-1=e by omega,u]
  have m:dr1 w=Bo ⟨w.prog,w.places,[]⟩ k (kS (fw w k) ⟨5,i,e,0,[],[]⟩).1:=by
    unfold dr1;rw[hear0,G];simp
  obtain⟨r,hG,f⟩:=AZ (w':=dr1 w) h.si b up N (by rw[m];rfl);obtain⟨-,E,O,A,-⟩:=yU (h.si.rep k b) f;refine⟨by rw[m];rfl,?_,fun q X p y=>by rw[r];exact E q p y,fun y z=>by rw[r];exact O y z⟩;rw[r];rcases A with⟨x,_,_⟩|⟨x,_,_⟩|⟨_,x,_,_,_,_⟩|⟨_,x,_,_,_,_,_⟩|⟨_,_,_,_,_,hn⟩
  · simp at x
  · simp at x
  · simp at x
  · simp at x
  · exact hn
theorem X5{w:iY}(h:S2 w)(hm:w.aY=[])(a8:∀k,On k->(fw w k).up=aT)(c5:OG (Fw w)<=119)(hr:Rm w){k:Int}(p:On k)(i:Int):
    TV k (Hd (Fw w) i) (Hd (Fw (Bf w k i)) i)/\∀y,y≠i->∀q,On q->Hd (Fw (Bf w k i)) y q=Hd (Fw w) y q:=by
  have up:=a8 k p;have hat:=h.si.wr.at p;unfold Bf;have e3:dD w ⟨3,k,i,0⟩=FU w ⟨3,k,i,0⟩:=by rw[send_eq h.si.wr p i,Z3 (by rw[up];simp)]
  rw[e3];have A:lH i (fw w k).cos=Hd (Fw w) i k:=hd_of h.si p up;unfold FU;simp only;cases hH:Hd (Fw w) i k with
  |none=>
    rw[A,hH];simp only;rw[Z3 V,IE hm];exact⟨.same (.inl hH) fun _ _=>rfl,fun _ _ _ _=>rfl⟩
  |some c=>
    rw[A,hH];simp only;rw[hH]at A;obtain⟨X,cm⟩:=EB A;have c9:=hat.good.1.ok c cm;have b7:=hat.good.2 c cm;obtain⟨o1,o2,o3,o4,o5,o6,o7,o8⟩:=c9;by_cases v:c.offered<0
    · rw[Z2 v];simp only;rw[Z3 V,IE hm];exact⟨.same (.inr ⟨c,hH,by omega⟩) fun _ _=>rfl,fun _ _ _ _=>rfl⟩
    · rw[Z3 v];simp only[if_true]
      --the aY
      have M:On i:=by rw[<-X];exact⟨o1,o2⟩
      have m:On c.offered:=⟨by omega,o6⟩;have g:XX (Am k c):=by
        refine⟨p,m,⟨o1,o2⟩,?_,?_,o8⟩
        · have:=b7 V;show 2<=c.aF+1/\c.aF+1<=100;omega
        · constructor
          · intro x;cases x
          · intro x;have:c.image=[]:=x;rw[this]at o7;simp at o7
      have s:zg w.aY (Am k c)=[Am k c]:=by
        rw[Qg h.si.wr,Z2 ⟨g,by rw[hm];simp⟩,hm];rfl
      rw[s]
      --the world with it
      have a5:dD w ⟨3,k,i,0⟩=(⟨w.prog,w.places,[Am k c]⟩,0):=by
        rw[send_eq h.si.wr p i,Z3 (by rw[up];simp)];unfold FU;simp only;rw[A];simp only;rw[Z3 v,s]
      have c1:=TH h a5 Z;have u:Fw (⟨w.prog,w.places,[Am k c]⟩:iY)=Fw w:=rfl;obtain⟨E,pl,t⟩:=h.si.tale i;obtain⟨E1,e5,t1⟩:=c1.s2.si.tale i;obtain⟨e0,b1,b2,b3,b4,b5,b6⟩:=t.ch.H1 k p c hH;obtain⟨r0,q1,q2,q3,q4,q5⟩:=b6 V;have G:c.offered≠k:=by rw[<-q5];exact h.ns k p r0 q1 q2
      have f:=a8 _ m;generalize L:(⟨w.prog,w.places,[Am k c]⟩:iY)=w1 at*;have b:w1.aY=[Am k c]:=by rw[<-L]
      have r:∀q,fw w1 q=fw w q:=fun q=>by rw[<-L];rfl
      have c6:w1.prog=w.prog:=by rw[<-L]
      have d7:∀q,Gw w1 q=Gw w q:=fun q=>by unfold Gw;rw[r]
      --what follows,when it is answered
      have Q:∀{w2:iY},S2 w2->w2.aY=[⟨c.offered,k,i,c.aF+1,aT,[]⟩]->(fw w2 k).up=aT->Hd (Fw w2) i k=ak c->(txt<|Gw w2 k).length<=30000->OG (Fw w2)<=119->∀n,Hd (Fw<|yV (n+1) w2) i k=ar/\(∀q,On q->q≠k->∀y,Hd (Fw<|yV (n+1) w2) y q=Hd (Fw w2) y q)/\∀y,y≠i->Hd (Fw<|yV (n+1) w2) y k=Hd (Fw w2) y k:=by
        intro w2 h2 b8 d5 c7 d8 T n;obtain⟨a1,a2,K,a4⟩:=hear_word h2 p d5 b8 c7 Z Z m d8 T;rw[JW (by rw[b8];simp),IE a1];exact⟨a2,K,a4⟩
      by_cases a0:OA (fw w c.offered) i (c.aF+1)=aT
      · --it was a0:the answer comes
        have e1:ED w1 0 aq=(⟨w1.prog,w1.places,[⟨c.offered,k,i,c.aF+1,aT,[]⟩]⟩,0):=by
          unfold ED;rw[Z3 (by rw[b];simp)];simp only[b,mE,fg,dw,jj,cr,fa,kd,ga,cv,if_false];have B:∀q,fw (⟨w1.prog,w1.places,[]⟩:iY) q=fw w q:=fun q=>r q;simp only[B,r,Am,X];rw[Z3 (by rw[f];simp),Z3 zq3,Z2 a0];have c8:XX ⟨c.offered,k,i,c.aF+1,aT,[]⟩:=⟨m,p,M,g.2.2.2.1,by simp,by simp⟩;have:zg [] ⟨c.offered,k,i,c.aF+1,aT,[]⟩=[⟨c.offered,k,i,c.aF+1,aT,[]⟩]:=by
            have h0:=Qg h.si.wr ⟨c.offered,k,i,c.aF+1,aT,[]⟩;rw[hm,Z2 ⟨c8,by simp⟩]at h0;exact h0
          rw[this]
        have hd:dr1 w1=⟨w1.prog,w1.places,[⟨c.offered,k,i,c.aF+1,aT,[]⟩]⟩:=by
          unfold dr1;rw[hear0,e1];simp
        have c2:=X4 c1.s2 e1;rw[JW (by rw[b];simp),hd];obtain⟨a2,K,a4⟩:=Q (w2:=⟨w1.prog,w1.places,[⟨c.offered,k,i,c.aF+1,aT,[]⟩]⟩) c2.s2 Z (by show(fw w1 k).up=aT;rw[r];exact up) (by show Hd (Fw w1) i k=_;rw[u];exact hH) (by show(txt (Gw w1 k)).length<=_;rw[d7];exact hr k p) (by show OG (Fw w1)<=_;rw[u];exact c5) 98;have S:∀q,Fw (⟨w1.prog,w1.places,[⟨c.offered,k,i,c.aF+1,aT,[]⟩]⟩:iY) q=Fw w q:=fun q=>by show Fw w1 q=_;rw[u]
        have d0:Fw (⟨w1.prog,w1.places,[⟨c.offered,k,i,c.aF+1,aT,[]⟩]⟩:iY)=Fw w:=funext S;rw[d0]at K a4;refine⟨.gone c hH V a2 fun j hj d3=>K j hj d3 i,fun y hy q hq=>?_⟩;by_cases e:q=k
        · subst e;exact a4 y hy
        · exact K q hq e y
      · --it wasn't
        have O:OA (fw w c.offered) i (c.aF+1)=false:=by simpa using a0
        have e4:e0=E:=by
          by_cases d6:e0<E
          · exfalso;obtain⟨z,z1,z2,z3,z4,z5,z6⟩:=t.ch.O1 k p r0 q1 q3 q2;obtain rfl:z=e0:=by omega
            have d1:=z5 d6;obtain⟨x,x1,x2,x3,x4,x5⟩:=t.ch.T2 (z+1) V V;rw[<-d1,q5]at x1;have:OA (fw w c.offered) i (c.aF+1)=true:=jy.2 ⟨x,x1,by
              simp only[cP,decide_eq_true_eq];exact⟨⟨x5 V,x2⟩,by rw[x3];push_cast;omega⟩⟩
            rw[O]at this;cases this
          · omega
        have b9:∀q d,On q->Hd (Fw w) i q=ak d->d.aF<=c.aF:=by
          intro q d hq hd;obtain⟨z,z1,z2,z3,-⟩:=t.ch.H1 q hq d hd;omega
        have C:=h.si.wr.at m;have c0:lH i (fw w c.offered).cos=Hd (Fw w) i c.offered:=hd_of h.si m f;have a9:=next4 (a:=(fw w c.offered).cos) (i:=i) (e:=c.aF+1) (l:=c.image) C.good.1 M (by have:=g.2.2.2.1;exact this) ⟨o7,o8⟩;have P:=hat.img c cm;have d2:=XV h.si.wr.code P;have c3:La ⟨4,i,c.aF+1,0,[],c.image⟩:=Cb V M (by have:=g.2.2.2.1;show 0<=c.aF+1/\_;have:(Am k c).aF=c.aF+1:=rfl;omega) V (fun x hx=>(by cases hx)) (abK (nU h.si.wr.code) d2).1;have MR:ED w1 0 aq=if(kS (fw w c.offered) ⟨4,i,c.aF+1,0,[],c.image⟩).2≠0 then(⟨w1.prog,w1.places,[]⟩,(kS (fw w c.offered) ⟨4,i,c.aF+1,0,[],c.image⟩).2)else(⟨w1.prog,w1.places.set c.offered.toNat (kS (fw w c.offered) ⟨4,i,c.aF+1,0,[],c.image⟩).1,zg [] ⟨c.offered,k,i,c.aF+1,aT,[]⟩⟩,0):=by
          unfold ED;rw[Z3 (by rw[b];simp)];simp only[b,mE,fg,dw,jj,cr,fa,kd,ga,cv,if_false];have B:∀q,fw (⟨w1.prog,w1.places,[]⟩:iY) q=fw w q:=fun q=>r q;simp only[B,r,Am,X];rw[Z3 (by rw[f];simp),Z3 zq3,Z3 (by rw[O];simp)];rfl
        cases hHj:Hd (Fw w) i c.offered with
        |none=>
          have o:=a9.2<|c0.trans hHj;have hl:(Bn (fw w c.offered).d).length<=119:=by
            have h1:=(h.si.upG m f).1;have h2:=len_cnt (F:=Fw w) m;have h3:=(psi_le<|Fw w).1;have:(Gw w c.offered).length=(Fw w c.offered).length:=by rw[h1]
            show(Gw w c.offered).length<=119;omega
          have hs:=note_succ C f c3 o (hr _ m) hl;rw[Z3 V]at MR;have N:=KG (x':=(kS (fw w c.offered) ⟨4,i,c.aF+1,0,[],c.image⟩).1) C f c3 (fun _=>P)<|eW Z hs;generalize (kS (fw w c.offered) ⟨4,i,c.aF+1,0,[],c.image⟩).1=x' at*;have c4:zg [] ⟨c.offered,k,i,c.aF+1,aT,[]⟩=[⟨c.offered,k,i,c.aF+1,aT,[]⟩]:=by
            have h0:=Qg h.si.wr ⟨c.offered,k,i,c.aF+1,aT,[]⟩;rw[hm,Z2 ⟨⟨m,p,M,g.2.2.2.1,by simp,by simp⟩,by simp⟩]at h0;exact h0
          rw[c4]at MR;have c2:=X4 c1.s2 MR;have hd:dr1 w1=⟨w1.prog,w1.places.set c.offered.toNat x',[⟨c.offered,k,i,c.aF+1,aT,[]⟩]⟩:=by
            unfold dr1;rw[hear0,MR];simp
          rw[JW (by rw[b];simp),hd];generalize a7:(⟨w1.prog,w1.places.set c.offered.toNat x',[⟨c.offered,k,i,c.aF+1,aT,[]⟩]⟩:iY)=w2 at*;have R:w2.places=w.places.set c.offered.toNat x':=by rw[<-a7,<-L]
          obtain⟨hF,hG,a6⟩:=AZ (w':=w2) h.si m f N R;obtain⟨-,u1,u2,u3,-⟩:=yU (h.si.rep _ m) a6;have T:=vS m h.si.wr.many R;have I:k≠c.offered:=fun e=>G e.symm;obtain⟨a2,K,a4⟩:=Q (w2:=w2) c2.s2 (by rw[<-a7]) (by rw[T,Z3 I];exact up) (by rw[hF,u1 k I];exact hH) (by rw[hG,pM I];exact hr k p) (by rw[c2.OG,u];exact c5) 98;have b0:Hd (Fw w2) i c.offered=ak ⟨i,c.aF+1,c.image,-1⟩:=by
            rw[hF];rcases u3 with⟨x,_,_⟩|⟨x,_,hn⟩|⟨_,x,_,_,_,_⟩|⟨_,x,_,_,_,_,_⟩|⟨_,x,_,_,_,_⟩
            · simp at x
            · exact hn
            · simp at x
            · simp at x
            · simp at x
          refine⟨.take c ⟨i,c.aF+1,c.image,-1⟩ c.offered hH V b9 m G hHj a2 (by rw[K _ m G];exact b0) Z (fun q hq d4 d9=>by rw[K q hq d4,hF];exact u1 q d9 i),fun y hy q hq=>?_⟩;by_cases e:q=k
          · subst e;rw[a4 y hy,hF];exact u1 q I y
          · rw[K q hq e,hF];by_cases e2:q=c.offered
            · subst e2;exact u2 y hy
            · exact u1 q e2 y
        |some d=>
          have o:(gD (fw w c.offered).cos ⟨4,i,c.aF+1,0,[],c.image⟩).2≠0:=fun x=>by
            have:=a9.1 x;rw[c0,hHj]at this;cases this
          have hs:(kS (fw w c.offered) ⟨4,i,c.aF+1,0,[],c.image⟩).2≠0:=by
            unfold kS;rw[Z2 o];exact o
          rw[Z2 hs]at MR;have hd:dr1 w1=⟨w1.prog,w1.places,[]⟩:=by
            unfold dr1;rw[hear0,MR,Z3 hs,lose0 w1 _ [] b];simp
          rw[JW (by rw[b];simp),hd,IE rfl];have S:Fw (⟨w1.prog,w1.places,[]⟩:iY)=Fw w:=by show Fw w1=_;rw[u]
          rw[S];exact⟨.stuck c c.offered hH V b9 m G (by rw[hHj];simp) (fun _ _=>rfl),fun _ _ _ _=>rfl⟩
end Pw
open Go Go.Proofs Go.LX
namespace Pw
open Dk
def Old(a:Int->Zs Co)(k:Int):Prop:=∃c,a k=ak c/\∃q d,On q/\a q=ak d/\c.aF<d.aF
def Dst(a:Int->Zs Co):Prop:=∀k q c d,On k->On q->a k=ak c->a q=ak d->c.aF=d.aF->k=q
def Rn(a:Int->Zs Co):Prop:=∀k c,On k->a k=ak c->c.offered= -1->∀q d,On q->a q=ak d->d.aF<=c.aF
def SE(a:Int->Zs Co):Prop:=∀k q c d,On k->On q->a k=ak c->a q=ak d->k=q
def ST(a:Int->Zs Co)(k:Int):Prop:=∀c,a k=ak c->c.offered= -1
theorem Y7{w:iY}(h:SI w)(i:Int):Dst (Hd (Fw w) i)/\Rn (Hd (Fw w) i):=by
  obtain⟨E,pl,t⟩:=h.tale i;constructor
  · intro k q c d g f a b x;obtain⟨e,l,r,s,v,-⟩:=t.ch.H1 k g c a;obtain⟨j,m,o,u,p,-⟩:=t.ch.H1 q f d b;obtain rfl:e=j:=by omega
    omega
  · intro k c g a ho q d f b;obtain⟨e,l,r,s,v,n,-⟩:=t.ch.H1 k g c a;obtain⟨j,m,o,u,p,-⟩:=t.ch.H1 q f d b;have:=n ho;omega
theorem tv_no{k:Int}{a r:Int->Zs Co}(s:On k)(y:Dst a)(w:Rn a)(u:Rn r)(t:TV k a r):∀q,On q->(q=k\/¬Old a q)->¬Old r q:=by
  intro q o hn⟨m,f,l,d,g,b,n⟩;cases t with
  |same h e=>
    rw[e q o]at f;rw[e l g]at b;rcases hn with rfl|hn
    · rcases h with h|⟨c,h,ho⟩
      · rw[h]at f;cases f
      · rw[h]at f;cases f;have:=w q m s h ho l d g b;omega
    · exact hn ⟨m,f,l,d,g,b,n⟩
  |gone c h ho hkn e=>
    by_cases i:q=k
    · subst i;rw[hkn]at f;cases f
    · have v:l≠k:=fun x=>by subst x;rw[hkn]at b;cases b
      rw[e q o i]at f;rw[e l g v]at b;exact(hn.resolve_left i) ⟨m,f,l,d,g,b,n⟩
  |take c c' j h ho top hj hjk hj0 hkn hnew hrun e=>
    by_cases i:q=k
    · subst i;rw[hkn]at f;cases f
    · by_cases p:q=j
      · subst p;rw[hnew]at f;cases f;have:=u q m hj hnew hrun l d g b;omega
      · rw[e q o i p]at f;have hno:=hn.resolve_left i;have z:¬m.aF<c.aF:=fun x=>hno ⟨m,f,k,c,s,h,x⟩;have v:=top q m o f;exact i<|y q k m c o s f h V
  |stuck c j h ho top hj hjk hj0 e=>
    rw[e q o]at f;rw[e l g]at b;rcases hn with rfl|hn
    · rw[h]at f;cases f;have:=top l d g b;omega
    · exact hn ⟨m,f,l,d,g,b,n⟩
theorem se_of{a:Int->Zs Co}(h:Dst a)(hn:∀q,On q->¬Old a q):SE a:=by
 intro k q c d g e f b;refine h k q c d g e f b ?_;have j:¬c.aF<d.aF:=fun x=>hn k g ⟨c,f,q,d,e,b,x⟩;have i:¬d.aF<c.aF:=fun x=>hn q e ⟨d,b,k,c,g,f,x⟩;omega
theorem tv_st{k:Int}{f s:Int->Zs Co}(z:On k)(u:SE f)(t:TV k f s):SE s/\∀q,On q->(q=k\/ST f q)->ST s q:=by
  cases t with
  |same h e=>
    refine⟨fun a b c d i p o A=>u a b c d i p (by rw[<-e a i];exact o) (by rw[<-e b p];exact A),fun q r hn c o=>?_⟩;rw[e q r]at o;rcases hn with rfl|hn
    · rcases h with h|⟨c',h,ho⟩
      · rw[h]at o;cases o
      · rw[h]at o;cases o;exact ho
    · exact hn c o
  |gone c h ho hkn e=>
    have l:∀a x,On a->s a=ak x->f a=ak x:=fun a x i g=>by
      by_cases n:a=k
      · subst n;rw[hkn]at g;cases g
      · rw[<-e a i n];exact g
    refine⟨fun a b x y i p g v=>u a b x y i p (l a x i g)<|l b y p v,fun q r hn x g=>?_⟩;by_cases n:q=k
    · subst n;rw[hkn]at g;cases g
    · exact hn.resolve_left n x<|l q x r g
  |take c c' j h ho top hj hjk hj0 hkn hnew hrun e=>
    have m:∀a x,On a->s a=ak x->a=j:=fun a x i g=>by
      by_cases w:a=k
      · subst w;rw[hkn]at g;cases g
      · by_cases n:a=j
        · exact n
        · rw[e a i w n]at g;exact ZJ (u a k x c i z g h) w
    refine⟨fun a b x y i p g v=>(m a x i g).trans (m b y p v).symm,fun q r hn x g=>?_⟩;have:=m q x r g;subst this;rw[hnew]at g;cases g;exact hrun
  |stuck c j h ho top hj hjk hj0 e=>
    exfalso;cases hv:f j with
    |none=>exact hj0 hv
    |some d=>exact hjk (u j k d c hj z hv h)
theorem TV.congr{k:Int}{f s g u:Int->Zs Co}(o:On k)(m:∀q,On q->g q=f q)(n:∀q,On q->u q=s q)(t:TV k f s):TV k g u:=by
 cases t with
 |same h e=>exact .same (by rw[m k o];exact h) (fun j i=>by rw[m j i,n j i];exact e j i)
 |gone c h ho hkn e=>exact .gone c (by rw[m k o];exact h) ho (by rw[n k o];exact hkn) (fun j i p=>by rw[m j i,n j i];exact e j i p)
 |take c c' j h ho top i hjk hj0 hkn hnew hrun e=>exact .take c c' j (by rw[m k o];exact h) ho (fun q d l r=>top q d l (by rw[<-m q l];exact r)) i hjk (by rw[m j i];exact hj0) (by rw[n k o];exact hkn) (by rw[n j i];exact hnew) hrun (fun q l a b=>by rw[m q l,n q l];exact e q l a b)
 |stuck c j h ho top i hjk hj0 e=>exact .stuck c j (by rw[m k o];exact h) ho (fun q d l r=>top q d l (by rw[<-m q l];exact r)) i hjk (by rw[m j i];exact hj0) (fun q l=>by rw[m q l,n q l];exact e q l)
def Yz(w:iY)(k:Int):iY:=yV 100 (if(dD w ⟨8,k,0,0⟩).2=0 then(dD w ⟨8,k,0,0⟩).1 else w)
def phase(w:iY)(k:Int):iY:=Bf (Bf (Bf (Yz w k) k 0) k 1) k 2
def round(w:iY):iY:=phase (phase (phase w 0) 1) 2
def rounds:Nat->iY->iY
 |0,w=>w
 |n+1,w=>rounds n (round w)
theorem boot_eq{w:iY}(h:WR w){k:Int}(a:On k):dD w ⟨8,k,0,0⟩=Vo w k:=by
 have:=h.many;have:=a.1;have:=a.2;unfold dD;simp only;rw[Z3 V,Z3 V,Z3 V,Z3 V,Z2 trivial]
theorem boot_calm{w:iY}(h:S2 w){k:Int}(a:On k):Calm w (Yz w k)/\(Yz w k).aY=[]/\(fw (Yz w k) k).up=true:=by
  have g:∀{v:iY},S2 v->mu v.aY<=100:=fun{v}hv=>by have:=mu_le v.aY;have:=hv.si.wr.XZ;omega
  unfold Yz;by_cases m:(fw w k).up=aT
  · have e:dD w ⟨8,k,0,0⟩=(w,7):=by rw[boot_eq h.si.wr a];unfold Vo;rw[Z2 m]
    rw[e,Z3 zq3];obtain⟨d1,d2⟩:=FH 100 _ h<|g h;exact⟨d1,d2,d1.up k a m⟩
  · have f:=h.si.rep k a;have b:=(Vn w.prog _).2<|h.img k a;have e:dD w ⟨8,k,0,0⟩=(Bo w k ⟨(iM []<|lG (fw w k).d).1,(NY (fw w k).d).1,aT⟩,0):=by
      rw[boot_eq h.si.wr a];unfold Vo;have n:(iM []<|lG (fw w k).d).2=0:=f;have q:J7 w.prog (iM []<|lG (fw w k).d).1=0:=b;rw[Z3 m,Z3 V,Z3 V]
    obtain⟨s,l,r⟩:=N7 h.si.wr e;obtain⟨k1,k2⟩:=QZ h s l r;obtain⟨-,g1,-⟩:=Y5 h.si s l r;have hp:=vS (w':=Bo w k ⟨(iM []<|lG (fw w k).d).1,(NY (fw w k).d).1,aT⟩) a h.si.wr.many Z;obtain⟨x,y,u,z⟩:=QX (h.si.wr.at a).disk;have t:Fw (Bo w k ⟨(iM []<|lG (fw w k).d).1,(NY (fw w k).d).1,aT⟩)=Fw w:=funext fun j=>by
      unfold Fw;rw[hp];by_cases p:j=k
      · subst p;rw[Z2 rfl];exact u
      · rw[Z3 p]
    have c:Calm w (Bo w k ⟨(iM [] (lG (fw w k).d)).1,(NY (fw w k).d).1,aT⟩):=⟨k1,l,by rw[t],fun j p o=>by
      rw[hp];by_cases i:j=k
      · rw[Z2 i]
      · rw[Z3 i];exact o,g1⟩
    rw[e];simp only[if_true];obtain⟨d1,d2⟩:=FH 100 _ c.s2<|g c.s2;exact⟨c.trans d1,d2,d1.up k a (by rw[hp,Z2 Z])⟩
theorem Cv{w:iY}(h:S2 w){k:Int}(a:On k):Calm w (phase w k)/\(phase w k).aY=[]/\(fw (phase w k) k).up=true:=by
 obtain⟨c,f,d⟩:=boot_calm h a;obtain⟨b,e⟩:=FI c.s2 a 0;obtain⟨c1,c2⟩:=FI b.s2 a 1;obtain⟨d1,d2⟩:=FI c1.s2 a 2;exact⟨c.trans<|b.trans<|c1.trans d1,d2,d1.up k a<|c1.up k a<|b.up k a d⟩
structure Rdy(w:iY):Prop where
 s2:S2 w
 aY:w.aY=[]
 up:∀k,On k->(fw w k).up=aT
 OG:OG (Fw w)<=119
theorem IG{w:iY}(h:S2 w)(hp:OG (Fw w)<=119):Rdy (round w)/\Calm w (round w):=by
  have a:On 0:=⟨by omega,by omega⟩;have e:On 1:=⟨by omega,by omega⟩;have j:On 2:=⟨by omega,by omega⟩;obtain⟨d,n,l⟩:=Cv h a;obtain⟨b,m,g⟩:=Cv d.s2 e;obtain⟨c1,c2,f⟩:=Cv b.s2 j;have c:=d.trans<|b.trans c1;refine⟨⟨c1.s2,c2,fun k i=>?_,by rw[show Fw (round w)=Fw (phase (phase (phase w 0) 1) 2)from rfl,c.OG];exact hp⟩,c⟩;rcases yD i with rfl|rfl|rfl
  · exact c1.up 0 a<|b.up 0 a l
  · exact c1.up 1 e g
  · exact f
theorem rdy_of{w w':iY}(h:Rdy w)(c:Calm w w')(b:w'.aY=[]):Rdy w':=⟨c.s2,b,fun k a=>c.up k a (h.up k a),by rw[c.OG];exact h.OG⟩
theorem txt_pre{a b:ZD Rec}(h:a<+:b):(txt a).length<=(txt b).length:=by
 obtain⟨t,rfl⟩:=h;rw[Ii,bj];omega
theorem Calm.rm{w w':iY}(c:Calm w w')(h:Rm w'):Rm w:=fun k a=>Nat.le_trans (txt_pre (c.grow k a)) (h k a)
theorem rdy_boot{w:iY}(h:Rdy w){k:Int}(a:On k):Yz w k=w:=by
 unfold Yz;rw[boot_eq h.s2.si.wr a];unfold Vo;rw[Z2 (h.up k a),Z3 zq3,IE h.aY]
theorem phase_v{w:iY}(h:Rdy w){k:Int}(a:On k)(n:Rm (phase w k)):Rdy (phase w k)/\∀i,On i->TV k (Hd (Fw w) i) (Hd (Fw (phase w k)) i):=by
  have e:phase w k=Bf (Bf (Bf w k 0) k 1) k 2:=by unfold phase;rw[rdy_boot h a]
  rw[e]at n⊢;obtain⟨f,u⟩:=FI h.s2 a 0;have d:=rdy_of h f u;obtain⟨g,o⟩:=FI d.s2 a 1;have c:=rdy_of d g o;obtain⟨c1,c2⟩:=FI c.s2 a 2;have s:=rdy_of c c1 c2;have j:=c1.rm n;have m:=g.rm j;have t:=f.rm m;obtain⟨r,l⟩:=X5 h.s2 h.aY h.up h.OG t a 0;obtain⟨p,o1⟩:=X5 d.s2 d.aY d.up d.OG m a 1;obtain⟨x,o2⟩:=X5 c.s2 c.aY c.up c.OG j a 2;refine⟨s,fun i v=>?_⟩;rcases yD v with rfl|rfl|rfl
  · exact r.congr a (fun _ _=>rfl) (fun q b=>by rw[o2 0 V q b,o1 0 V q b])
  · exact p.congr a (fun q b=>(l 1 V q b).symm) fun q b=>o2 1 V q b
  · exact x.congr a (fun q b=>by rw[o1 2 V q b,l 2 V q b]) fun _ _=>rfl
theorem round_v{w:iY}(h:Rdy w)(x:Rm (round w)):Rdy (round w)/\∀i,On i->(∀q,On q->¬Old (Hd (Fw (round w)) i) q)/\((∀q,On q->¬Old (Hd (Fw w) i) q)->SE (Hd (Fw (round w)) i)/\∀q,On q->ST (Hd (Fw (round w)) i) q)/\(SE (Hd (Fw w) i)->SE (Hd (Fw (round w)) i)/\∀q,On q->ST (Hd (Fw (round w)) i) q):=by
  have a:On 0:=⟨by omega,by omega⟩;have b:On 1:=⟨by omega,by omega⟩;have c:On 2:=⟨by omega,by omega⟩;obtain⟨y,-,-⟩:=Cv h.s2 a;obtain⟨p,-,-⟩:=Cv y.s2 b;obtain⟨c1,-,-⟩:=Cv p.s2 c;have r:=c1.rm x;have I:=p.rm r;obtain⟨n,u⟩:=phase_v h a I;obtain⟨l,k⟩:=phase_v n b r;obtain⟨v,s⟩:=phase_v l c x;refine⟨v,fun i d=>?_⟩;obtain⟨j,G⟩:=Y7 h.s2.si i;obtain⟨d1,o⟩:=Y7 n.s2.si i;obtain⟨d2,t⟩:=Y7 l.s2.si i;obtain⟨K,B⟩:=Y7 v.s2.si i;have A:=tv_no a j G o<|u i d;have m:=tv_no b d1 o t<|k i d;have f:=tv_no c d2 t B<|s i d;have st:SE (Hd (Fw w) i)->SE (Hd (Fw<|round w) i)/\∀q,On q->ST (Hd (Fw<|round w) i) q:=by
    intro E;obtain⟨C,g1⟩:=tv_st a E<|u i d;obtain⟨z,g2⟩:=tv_st b C<|k i d;obtain⟨F,e⟩:=tv_st c z<|s i d;refine⟨F,fun q g=>?_⟩;rcases yD g with rfl|rfl|rfl
    · exact e 0 a<|.inr<|g2 0 a<|.inr<|g1 0 a<|.inl Z
    · exact e 1 b<|.inr<|g2 1 b<|.inl Z
    · exact e 2 c<|.inl Z
  refine⟨fun q g=>?_,fun hn=>st<|se_of j hn,st⟩;rcases yD g with rfl|rfl|rfl
  · exact f 0 a<|.inr<|m 0 a<|.inr<|A 0 a<|.inl Z
  · exact f 1 b<|.inr<|m 1 b<|.inl Z
  · exact f 2 c<|.inl Z
theorem KH:∀(n:Nat) (w:iY),S2 w->OG (Fw w)<=119->Calm w (rounds n w)
 |0,w,h,_=>Calm.refl h
 |n+1,w,h,hp=>by
  obtain⟨r,c⟩:=IG h hp;exact c.trans<|KH n _ r.s2 r.OG
theorem rounds_st:∀(n:Nat) (w:iY),Rdy w->Rm (rounds n w)->(∀i,On i->SE (Hd (Fw w) i)/\∀q,On q->ST (Hd (Fw w) i) q)->Rdy (rounds n w)/\∀i,On i->SE (Hd (Fw (rounds n w)) i)/\∀q,On q->ST (Hd (Fw (rounds n w)) i) q
 |0,w,h,_,hs=>⟨h,hs⟩
 |n+1,w,h,hr,hs=>by
  obtain⟨r,c⟩:=IG h.s2 h.OG;have d:=(KH n _ r.s2 r.OG).rm hr;obtain⟨b,v⟩:=round_v h d;exact rounds_st n _ b hr fun i a=>(v i a).2.2 (hs i a).1
theorem moves{w:iY}(h:S2 w)(hp:OG (Fw w)<=119)(n:Nat)(d:Rm (rounds (n+3) w)):Rdy (rounds (n+3) w)/\∀i,On i->SE (Hd (Fw (rounds (n+3) w)) i)/\∀q,On q->ST (Hd (Fw (rounds (n+3) w)) i) q:=by
 obtain⟨a,c1⟩:=IG h hp;obtain⟨c,c2⟩:=IG a.s2 a.OG;obtain⟨b,j⟩:=IG c.s2 c.OG;have e:rounds (n+3) w=rounds n (round<|round<|round w):=rfl;rw[e]at d⊢;have f:=(KH n _ b.s2 b.OG).rm d;have m2:=j.rm f;obtain⟨-,v2⟩:=round_v a m2;obtain⟨-,v3⟩:=round_v c f;exact rounds_st n _ b d fun i g=>(v3 i g).2.1 (v2 i g).1
end Pw
open Go Go.Proofs Go.LX
namespace Pw
open Dk
def Bq(x:jo):Hap:=⟨x.kind,x.place,x.co,x.n⟩
def OB(x:MP):bV:=⟨x.cos,x.d.safe,x.d.wait,x.up⟩
def rY(w:iY):aW:=⟨w.prog,w.places.map OB,w.aY⟩
theorem idx_map{α β:Type}(f:α->β)(l:ZD α)(k:Int):idx (l.map f) k=(idx l k).map f:=by
 unfold idx;split<;>simp
theorem g_at{w:iY}{k:Int}(h:0<=k/\k<w.places.length):idx (rY w).places k=ak (OB (fw w k)):=by
 show idx (w.places.map OB) k=_;rw[idx_map,(pAt_eq h).1];rfl
theorem g_set(w:iY)(k:Int)(x:MP):(⟨w.prog,(rY w).places.set k.toNat (OB x),w.aY⟩:aW)=rY (Bo w k x):=by
 unfold rY Bo;simp only[List.map_set]
theorem Vt{w:iY}(h:WR w){k:Int}(a:On k):0<=k/\k<w.places.length:=by
 have:=h.many;have:=a.1;have:=a.2;omega
theorem Vu{d:iW}(h:jv d=0):d.wait.length<=60000:=by
 have:=(Dk.xn h).1;omega
theorem put_wait(d:iW)(r:Rec):(vR d r).1.wait.length<=60000:=by
 unfold vR putT;repeat' split
 all_goals first|(show([]:Str).length<=60000;simp)|(simp only[bj,bq,eA];omega)
theorem note_g{w:iY}(h:WR w){k:Int}(g:On k){r:Rec}(j:La r){N:Nat}(hN:60002<=N):
    vQ N (rY w) k r=ak ((kS (fw w k) r).2,rY (Bo w k (kS (fw w k) r).1)):=by
  have a:=Vt h g;have hp:=h.at g;have l:=Vu hp.disk;have i:=put_wait (fw w k).d r;have f:rY w=rY (Bo w k<|fw w k):=by rw[setP_self a]
  unfold vQ kS;rw[g_at a];simp only[bnd];rw[next_eq N V];simp only[bnd];by_cases e:(gD (fw w k).cos r).2=0
  · rw[dF (show¬(gD (OB (fw w k)).cos r).2≠0 from fun h=>h e),Z1,Z3 (show¬(gD (fw w k).cos r).2≠0 from fun h=>h e)];show(Jl N (fw w k).d r).bind _=_;rw[put_eq N hN _ r V j];simp only[bnd];unfold KU;by_cases b:(vR (fw w k).d r).2=0
    · rw[dF (show¬(vR (fw w k).d r).2≠0 from fun h=>h b),Z1,Z3 (show¬(vR (fw w k).d r).2≠0 from fun h=>h b)];show(Mq N (vR (fw w k).d r).1).bind _=_;rw[sync_eq N hN _ V];simp only[bnd];by_cases c:(Hf (vR (fw w k).d r).1).2=0
      · rw[dF (show¬(Hf (vR (fw w k).d r).1).2≠0 from fun h=>h c),Z1,Z3 (show¬(Hf (vR (fw w k).d r).1).2≠0 from fun h=>h c)];rw[<-g_set,List.set_set];rfl
      · rw[dT (show(Hf (vR (fw w k).d r).1).2≠0 from c),ZS,Z2 c,<-f]
    · rw[dT (show(vR (fw w k).d r).2≠0 from b),ZS,Z2 b,<-f]
  · rw[dT (show(gD (OB (fw w k)).cos r).2≠0 from e),ZS,Z2 e,<-f];rfl
theorem tear_g{w:iY}(h:WR w){k:Int}(e:On k){r:Rec}(g:La r)(n:Int){N:Nat}(hN:60002<=N):
    JD N (rY w) k r n=ak ((RD (fw w k) r n).2,rY (Bo w k (RD (fw w k) r n).1)):=by
  have a:=Vt h e;have hp:=h.at e;have j:=Vu hp.disk;have i:=put_wait (fw w k).d r;have f:rY w=rY (Bo w k<|fw w k):=by rw[setP_self a]
  unfold JD RD;rw[g_at a];simp only[bnd];rw[next_eq N V];simp only[bnd];by_cases c:(gD (fw w k).cos r).2=0
  · rw[dF (show¬(gD (OB (fw w k)).cos r).2≠0 from fun h=>h c),Z1,Z3 (show¬(gD (fw w k).cos r).2≠0 from fun h=>h c)];show(Jl N (fw w k).d r).bind _=_;rw[put_eq N hN _ r V g];simp only[bnd];unfold KY;by_cases b:(vR (fw w k).d r).2=0
    · rw[dF (show¬(vR (fw w k).d r).2≠0 from fun h=>h b),Z1,Z3 (show¬(vR (fw w k).d r).2≠0 from fun h=>h b)];show(JC N (vR (fw w k).d r).1 _).bind _=_;rw[crash_eq N hN _ _ V];simp only[bnd];rw[<-g_set];rfl
    · rw[dT (show(vR (fw w k).d r).2≠0 from b),ZS,Z2 b,<-f]
  · rw[dT (show(gD (OB (fw w k)).cos r).2≠0 from c),ZS,Z2 c,<-f];rfl
theorem send_g(w:iY)(m:dE):Cr (rY w) m=ak (rY ⟨w.prog,w.places,zg w.aY m⟩):=by
  unfold Cr;show(Py w.aY m).bind _=_;rw[wSend];simp only[bnd];unfold zg;by_cases b:dV w.aY=0
  · rw[Z3 (show¬dV w.aY≠0 from fun h=>h b)];by_cases a:dV [m]=0
    · rw[Z3 (show¬dV [m]≠0 from fun h=>h a),Z3 (show¬(dV w.aY≠0\/dV [m]≠0) by simp[b,a])];rw[dT rfl,ZS];rfl
    · rw[Z2 (show dV [m]≠0 from a),Z2 (show(dV w.aY≠0\/dV [m]≠0)from .inr a)];rw[dF a,Z1]
  · rw[Z2 (show dV w.aY≠0 from b),Z2 (show(dV w.aY≠0\/dV [m]≠0)from .inl b)];rw[dF b,Z1]
theorem offer_g(w:iY)(k:Int)(c:Co)(a:kN (c.aF+1)):Gs (rY w) k c=ak (rY ⟨w.prog,w.places,zg w.aY (Am k c)⟩):=by
 unfold Gs;rw[kz a,send_g];rfl
theorem MS{x:MP}(h:jv x.d=0){N:Nat}(hN:60002<=N):oL N (⟨(OB x).safe,(OB x).wait⟩:iW)=ak ((NY x.d).1,lG x.d,0):=by
 show oL N x.d=_;have:=Vu h;rw[recover_eq N hN _ V];unfold abG;rw[Z3 (show¬jv x.d≠0 from fun e=>e h)];rfl
theorem any_find{α:Type}{p:α->Ys}{l:ZD α}:(l.findIdx? p).isSome=l.any p:=by
  induction l with
  |nil=>rfl
  |cons x l ih=>
    rw[List.findIdx?_cons,List.any_cons];cases p x
    · simp[ih]
    · simp
theorem had_g{x:MP}(h:jv x.d=0)(i e:Int){N:Nat}(hN:60002<=N):QL N (OB x) i e=ak (OA x i e):=by
 unfold QL OA;rw[MS h hN];simp only[bnd,bh];rw[Qq (fun r:Rec=>(ab ((r.kind:Int)=4)&&ab ((r.co:Int)=i))&&ab ((e:Int)<=r.aF)) (fun n=>ak (ab ((0:Int)<=n))) (lG x.d) (fun n r b a=>by
  unfold KW;rw[show idx (lG x.d) (n:Int)=ak r by unfold idx;rw[Z2 V,bh];exact a];rfl)]
 rw[<-any_find];cases hf:(lG x.d).findIdx? (fun r:Rec=>(ab ((r.kind:Int)=4)&&ab ((r.co:Int)=i))&&ab ((e:Int)<=r.aF))with
 |none=>rfl
 |some n=>simp only[qg];rw[dT V]
end Pw
open Go Go.Proofs Go.LX
namespace Pw
open Dk
theorem nn{x:Int}(h:x=0):¬x≠0:=fun e=>e h
theorem find_g(a:ZD Co)(i:Int):(rq a i=ak (-1)/\lH i a=ar)\/∃(n:Int) (c:Co),rq a i=ak n/\lH i a=ak c/\idx a n=ak c/\0<=n:=by
  rw[findEq];unfold lH;cases h:a.findIdx? (fun x=>ab (x.kJ=i))with
  |none=>
    refine .inl ⟨Z,?_⟩;rw[kx]at h;rw[rb];intro x d;rw[h x d];simp
  |some n=>
    obtain⟨b,g,f⟩:=np.1 h;refine .inr ⟨n,a[n],Z,?_,?_,by omega⟩
    · rw[nF];exact⟨g,n,b,Z,fun j e=>by simpa using f j e⟩
    · unfold idx;rw[Z2 V,bh];exact bc b
theorem slice_g{w:iY}(h:WR w){k:Int}{c:Co}{fuel:Int}(x:1<=fuel/\fuel<=2000){N:Nat}(hN:60002<=N):
    ∃r,Kz N (rY w) k c fuel=ak (r,(uq w.prog k c fuel).2,rY w)/\((uq w.prog k c fuel).2=0->r=(uq w.prog k c fuel).1):=by
  have hp:=h.code;have q:=nU hp;unfold Kz uq;by_cases j:0<=c.offered
  · rw[dT j,ZS,Z2 j];exact⟨_,Z,fun _=>rfl⟩
  · rw[dF j,Z1,Z3 j];show∃r,(rZ N w.prog c.image).bind _=_/\_;rw[EA _ _ V];simp only[bnd];unfold JB;by_cases f:(dN w.prog c.image).2=0
    · rw[dF (nn f),Z1,Z3 (nn f)];have i:=XV hp f;have st:=Vj i.st;generalize (dN w.prog c.image).1=s at i st⊢;have go:∀t:X2,t=wake s->t.status=0->(wake s).status=0->∃r,xg N (rY w) fuel c t.frames t.cells t.status t.bU=ak (r,0,rY w)/\r=(⟨2,c.kJ,c.aF,0,(xE w.prog fuel.toNat [] 0<|wake s).2.1,vY<|dS (xE w.prog fuel.toNat [] 0<|wake s).1⟩:Rec):=by
        intro t u y l;unfold xg;show∃r,(Xu N w.prog t fuel).bind _=_/\_;rw[vm_Run_eq _ _ _ V,u];rw[Z3 (nn hp),Z3 (nn (JO.2 st)),Z3 V,Z3 (nn l)];simp only[bnd];rw[dF V,Z1];show∃r,(Fx N w.prog _).bind _=_/\_;rw[Vh _ _ V,Z3 (nn hp),Z3 (nn (JO.2 (XP q fuel.toNat [] 0 _ st zq3).1))];exact⟨_,Z,Z⟩
      by_cases b:s.status=3
      · have a:wake s=⟨s.frames,s.cells,0,0⟩:=by unfold wake;rw[Z2 b]
        by_cases d:0<=s.bU/\s.bU<3/\s.bU≠k
        · rw[dT b,ZS,show((ab ((0:Int)<=s.bU)&&ab ((s.bU:Int)<3))&&ab ((s.bU:Int)≠k))=aT by
            rw[dT d.1,dT d.2.1,dT d.2.2];rfl,ZS,Z2 ⟨b,d⟩]
          exact⟨_,Z,fun _=>rfl⟩
        · rw[dT b,ZS,show((ab ((0:Int)<=s.bU)&&ab ((s.bU:Int)<3))&&ab ((s.bU:Int)≠k))=aq by
            simp only[Bool.and_eq_false_iff,decide_eq_false_iff_not];by_cases o:0<=s.bU
            · by_cases p:s.bU<3
              · exact .inr fun v=>d ⟨o,p,v⟩
              · exact .inl<|.inr p
            · exact .inl (.inl o),Z1,Z3 (fun e=>d e.2)]
          show∃r,(UN w.prog s).bind _=_/\_;rw[vm_Wake_eq,Z3 (nn hp),Z3 (nn (JO.2 i.st)),Z3 (show¬s.status≠3 from fun e=>e b)];simp only[bnd];rw[dF V,Z1,Z3 (nn (by rw[a]))];obtain⟨r,m,n⟩:=go ⟨s.frames,s.cells,0,0⟩ a.symm Z (by rw[a]);exact⟨r,m,fun _=>n⟩
      · have a:wake s=s:=by unfold wake;rw[Z3 b]
        rw[dF b,Z1,Z3 (fun e=>b e.1)];by_cases g:s.status=0
        · rw[Z3 (nn (by rw[a];exact g))];obtain⟨r,m,n⟩:=go s a.symm g (by rw[a];exact g);exact⟨r,m,fun _=>n⟩
        · rw[Z2 (show(wake s).status≠0 by rw[a];exact g)];unfold xg;show∃r,(Xu N w.prog s fuel).bind _=_/\_;rw[vm_Run_eq _ _ _ V];rw[Z3 (nn hp),Z3 (nn (JO.2 i.st)),Z3 V,Z2 g];exact⟨_,Z,fun e=>ZJ e zq3⟩
    · rw[dT (show(dN w.prog c.image).2≠0 from f),ZS,Z2 f];exact⟨_,Z,fun _=>rfl⟩
theorem co_of{w:iY}(h:WR w){k:Int}(b:On k){c:Co}(a:c∈(fw w k).cos):coOk c:=(h.at b).good.1.ok c a
theorem img_I64{p:ZD aX}(hp:KD p=0){l:ZD Int}(h:(dN p l).2=0):∀x∈l,kN x:=(abK (nU hp) (XV hp h)).1
def Is(o:Zs (Int×aW))(q:iY×Int):Prop:=∃v,o=ak (q.2,rY v)/\(q.2=0->v=q.1)
theorem Is.mk(v:iY)(e:Int):Is (ak (e,rY v)) (v,e):=⟨v,rfl,fun _=>rfl⟩
theorem Is.err{v u:iY}{e:Int}(h:e≠0):Is (ak (e,rY v)) (u,e):=⟨v,rfl,fun a=>ZJ a h⟩
theorem Is.pair{o:Zs (Int×aW)}{q:iY×Int}(h:Is o q):Is (o.bind fun y=>ak (y.1,y.2)) q:=by
 obtain⟨v,rfl,a⟩:=h;exact⟨v,Z,a⟩
def runK(w:iY)(b a m:Int)(c:Co)(fuel:Int):iY×Int:=
 if fuel<1\/2000<fuel then(w,3)else
 if(uq w.prog a c fuel).2≠0 then(w,(uq w.prog a c fuel).2)else
 if b=9 then(Bo w a (RD (fw w a) (uq w.prog a c fuel).1 m).1,(RD (fw w a) (uq w.prog a c fuel).1 m).2)else
 if(kS (fw w a) (uq w.prog a c fuel).1).2≠0 then(w,(kS (fw w a) (uq w.prog a c fuel).1).2)else
 if(uq w.prog a c fuel).1.kind=3 then(⟨w.prog,(Bo w a (kS (fw w a) (uq w.prog a c fuel).1).1).places,zg w.aY (Am a ⟨c.kJ,c.aF,c.image,(uq w.prog a c fuel).1.place⟩)⟩,0)else(Bo w a (kS (fw w a) (uq w.prog a c fuel).1).1,0)
theorem runW_eq(w:iY)(x:Hap):runW w x=match lH x.co (fw w x.place).cos with
 |none=>(w,5)
 |some c=>runK w x.kind x.place x.n c (if x.kind=9 then 2000 else x.n):=rfl
theorem note_log{x:MP}{r:Rec}(h:(kS x r).2=0):(gD x.cos r).2=0/\(kS x r).1.cos=(gD x.cos r).1:=by
  unfold kS at h⊢;by_cases a:(gD x.cos r).2=0
  · rw[Z3 (nn a)]at h⊢;by_cases c:(vR x.d r).2=0
    · rw[Z3 (nn c)]at h⊢;by_cases b:(Hf (vR x.d r).1).2=0
      · rw[Z3 (nn b)];exact⟨a,Z⟩
      · rw[Z2 b]at h;exact ZJ h b
    · rw[Z2 c]at h;exact ZJ h c
  · rw[Z2 a]at h;exact ZJ h a
theorem next3_idx{a:ZD Co}{r:Rec}{c:Co}{n:Int}(h:(gD a r).2=0)(u:r.kind=3)(o:Dk.Good a)(hn:idx a n=ak c)(s:c.kJ=r.co):idx (gD a r).1 n=ak ⟨c.kJ,c.aF,c.image,r.place⟩:=by
  have b:0<=n/\a[n.toNat]? =ak c:=by
    unfold idx at hn;split at hn
    · exact⟨by assumption,hn⟩
    · cases hn
  unfold gD at h⊢;by_cases m:gB a=0
  · rw[Z3 (nn m)]at h⊢;by_cases g:fG r=0
    · rw[Z3 (nn g)]at h⊢;rcases Vm r a with⟨e1,e2,-⟩|⟨k,c',e1,e2,e3,e4⟩
      · exfalso;rw[kx]at e2;have:=e2 c<|fx b.2;simp[s]at this
      · have j:k=n.toNat:=by
          have p:=o.up;unfold Up at p;rw[List.pairwise_iff_getElem]at p;have i:=M7 e3;have f:=M7 b.2;have d:=bc i;have e:=bc f;rw[e3]at d;rw[b.2]at e;have d:=osi d;have e:=osi e;rcases Nat.lt_trichotomy k n.toNat with hlt|heq|hgt
          · have:=p k n.toNat i f hlt;rw[<-d,<-e]at this;omega
          · exact heq
          · have:=p n.toNat k f i hgt;rw[<-d,<-e]at this;omega
        subst j;have l:c'=c:=by rw[b.2]at e3;exact(osi e3).symm
        subst l;rw[e1]at h⊢;simp only at h⊢;rw[Z3 (show¬(r.kind=1\/r.kind=4) by omega)]at h⊢;split at h
        · simp at h
        · rename_i t;rw[Z3 t];rw[Z3 (show¬r.kind=5 by omega),Z3 (show¬r.kind=2 by omega)]at h⊢;split at h
          · simp at h
          · rename_i q;rw[Z3 q];simp only;rw[<-Y4 r a n.toNat c' ⟨c'.kJ,c'.aF,c'.image,r.place⟩ o.up e3 e4 e4];unfold idx;rw[Z2 b.1];exact ou b.2
    · rw[Z2 g]at h;exact ZJ h g
  · rw[Z2 m]at h;exact ZJ h m
theorem runK_g{w:iY}(h:WR w){x:jo}(i:On x.place){n:Int}{c:Co}(p:c∈(fw w x.place).cos)(hn:idx (fw w x.place).cos n=ak c)(fuel:Int){N:Nat}(hN:60002<=N):
    Is (Ex N (rY w) (OB (fw w x.place)) n x fuel) (runK w x.kind x.place x.n c fuel):=by
  have b:=Vt h i;have e:=co_of h i p;unfold Ex runK;by_cases l:fuel<1\/2000<fuel
  · rw[show(ab ((fuel:Int)<1)||ab ((2000:Int)<fuel))=aT by simpa using l,ZS,Z2 l];exact .mk _ _
  · rw[show(ab ((fuel:Int)<1)||ab ((2000:Int)<fuel))=aq by simpa using l,Z1,Z3 l];show Is ((idx (fw w x.place).cos n).bind _) _;rw[hn];simp only[bnd];obtain⟨r,q,o⟩:=slice_g h (k:=x.place) (c:=c) (fuel:=fuel) V hN;rw[q];simp only[bnd];show Is (Ic N x n r.kind r.co r.aF r.place r.says r.image (uq w.prog x.place c fuel).2 w.prog (rY w).places w.aY) _;unfold Ic;by_cases a:(uq w.prog x.place c fuel).2=0
    · rw[dF (nn a),Z1,Z3 (nn a)];have m:=slice_ok h.code e (r:=r) (fuel:=fuel) (k:=x.place) (by rw[o a,<-a]);rw[<-o a];show Is (bif ab ((x.kind:Int)=9)then(JD N (rY w) x.place r x.n).bind _ else(vQ N (rY w) x.place r).bind _) _;by_cases j:x.kind=9
      · rw[dT j,ZS,Z2 j,tear_g h i m.w x.n hN];simp only[bnd];exact .mk _ _
      · rw[dF j,Z1,Z3 j,note_g h i m.w hN];simp only[bnd];by_cases d:(kS (fw w x.place) r).2=0
        · rw[dF (nn d),Z1,Z3 (nn d)];by_cases g:r.kind=3
          · rw[dT g,ZS,Z2 g];have f:0<=x.place/\x.place<(Bo w x.place (kS (fw w x.place) r).1).places.length:=by unfold Bo;simp only[cp];exact b
            rw[g_at f];simp only[bnd];rw[pAt_set _ b b,Z2 rfl];show Is ((idx (kS (fw w x.place) r).1.cos n).bind _) _;rw[(note_log d).2,next3_idx (note_log d).1 g (h.at i).good.1 hn m.co.symm];simp only[bnd];rw[offer_g _ _ _ (Lc (by have:=e.2.2;simp only;omega))];simp only[bnd];exact .mk _ _
          · rw[dF g,Z1,Z3 g];show Is (ak ((0:Int),rY<|Bo w x.place (kS (fw w x.place) r).1)) _;exact .mk _ _
        · rw[dT (show(kS (fw w x.place) r).2≠0 from d),ZS,Z2 d];exact .err d
    · rw[dT (show(uq w.prog x.place c fuel).2≠0 from a),ZS,Z2 a];exact .mk _ _
theorem run_g{w:iY}(h:WR w){x:jo}(d:On x.place){N:Nat}(hN:60002<=N):Is (QT N (rY w) x) (runW w (Bq x)):=by
  have b:=Vt h d;rw[runW_eq];unfold QT;rw[g_at b];simp only[bnd];show Is ((rq (fw w x.place).cos x.co).bind _) _;rcases find_g (fw w x.place).cos x.co with⟨e1,e2⟩|⟨n,c,e1,e2,e3,e4⟩
  · rw[e1];simp only[bnd];rw[dT V,ZS];show Is _ (match lH x.co (fw w x.place).cos with|none=>_|some c=>_);rw[e2];exact .mk _ _
  · rw[e1];simp only[bnd];rw[dF (show¬n<0 by omega),Z1];show Is _ (match lH x.co (fw w x.place).cos with|none=>_|some c=>runK w x.kind x.place x.n c (if x.kind=9 then 2000 else x.n));rw[e2];have e:=(EB e2).2;by_cases a:x.kind=9
    · rw[dT a,ZS,Z2 a];exact runK_g h d e e3 _ hN
    · rw[dF a,Z1,Z3 a];exact runK_g h d e e3 _ hN
end Pw
open Go Go.Proofs Go.LX
namespace Pw
open Dk
theorem resend_g{w:iY}(h:WR w){x:jo}(e:On x.place):Is (Ib (rY w) x) (FU w (Bq x)):=by
  have d:=Vt h e;unfold Ib;rw[g_at d];simp only[bnd];show Is ((rq (fw w x.place).cos x.co).bind _) (match lH x.co (fw w x.place).cos with|none=>_|some c=>if c.offered<0 then(w,7)else(⟨w.prog,w.places,zg w.aY<|Am x.place c⟩,0));rcases find_g (fw w x.place).cos x.co with⟨e1,e2⟩|⟨n,c,e1,e2,e3,e4⟩
  · rw[e1,e2];simp only[bnd];rw[dT V,ZS];exact .mk _ _
  · rw[e1,e2];simp only[bnd];rw[dF (show¬n<0 by omega),Z1];show Is ((idx (fw w x.place).cos n).bind _) _;rw[e3];simp only[bnd];by_cases a:c.offered<0
    · rw[dT a,ZS,Z2 a];exact .mk _ _
    · have b:=co_of h e (EB e2).2;rw[dF a,Z1,Z3 a,offer_g _ _ _ (Lc (by have:=b.2.2;omega))];exact .mk _ _
theorem up_g(x:MP):(OB x).up=x.up:=rfl
theorem X6{w:iY}{N:Nat}(hN:60002<=N){l:ZD dE}{m:dE}{e:Int}(h:WR ⟨w.prog,w.places,l⟩)(c:XX m):
  Is (yK N (rY w) (l,m,e) aT) (⟨w.prog,w.places,l⟩,0)/\
  Is (yK N (rY w) (l,m,e) aq) (Bo ⟨w.prog,w.places,l⟩ m.iF (kS (fw ⟨w.prog,w.places,l⟩ m.iF) ⟨5,m.co,m.aF-1,0,[],[]⟩).1,(kS (fw ⟨w.prog,w.places,l⟩ m.iF) ⟨5,m.co,m.aF-1,0,[],[]⟩).2):=by
 obtain⟨m1,m2,b,d,-⟩:=c;refine⟨.mk ⟨w.prog,w.places,l⟩ 0,?_⟩;unfold yK;rw[Z1,kz (Lc (by simp only;omega))];show Is ((vQ N (rY ⟨w.prog,w.places,l⟩) m.iF _).bind _) _;rw[note_g h m2 (Cb V b (by simp only;omega) V (fun x a=>by cases a) (fun x a=>by cases a)) hN];exact .mk _ _
theorem hear_g{w:iY}(h:WR w)(i:Int)(t:Ys){N:Nat}(hN:60002<=N):Is (NK N (rY w) i t) (ED w i t):=by
  unfold NK ED;show Is ((Jk w.aY i t).bind _) _;rw[wTake,Z3 (nn ((JV _).2 ⟨h.XZ,h.mok⟩))];by_cases g:i<0\/(w.aY.length:Int)<=i
  · rw[Z2 g,Z2 g];exact .mk _ _
  · rw[Z3 g,Z3 g];simp only[bnd];have o:i.toNat<w.aY.length:=by omega
    have p:w.aY[i.toNat]? =ak w.aY[i.toNat]:=bc o;have a:w.aY[i.toNat]∈w.aY:=cA o;generalize w.aY[i.toNat]=m at p a;rw[p];simp only[dw];have b:=h.mok m a;have k:=Vt h b.2.1;rw[dF V,Z1,g_at k];simp only[bnd];rw[up_g];by_cases j:(fw w m.iF).up=aq
    · rw[j,Z2 rfl];exact .mk _ _
    · rw[Z3 j];have r:(fw w m.iF).up=true:=by simpa using j
      rw[r];simp only[ea,Z1];have d:WR ⟨w.prog,w.places,if t=aT then w.aY else w.aY.take i.toNat++w.aY.drop (i.toNat+1)⟩:=by
        cases t
        · exact h.drop i.toNat
        · exact h
      generalize (if t=aT then w.aY else w.aY.take i.toNat++w.aY.drop (i.toNat+1))=l at d⊢;have hp:fw ⟨w.prog,w.places,l⟩ m.iF=fw w m.iF:=rfl;cases ht:m.taken with
      |true=>
        simp only[ZS,if_true];show Is ((rq (fw w m.iF).cos m.co).bind _) (match lH m.co (fw ⟨w.prog,w.places,l⟩ m.iF).cos with|none=>_|some c=>_);rw[hp];rcases find_g (fw w m.iF).cos m.co with⟨e1,e2⟩|⟨n,c,e1,e2,e3,e4⟩
        · rw[e1,e2];simp only[bnd];rw[dT V,ZS];exact(X6 hN d b).1
        · rw[e1,e2];simp only[bnd];rw[dF (show¬n<0 by omega),Z1];show Is ((idx (fw w m.iF).cos n).bind _) _;rw[e3];simp only[bnd];rw[kz (Lc (by have:=b.2.2.2.1;omega))];by_cases f:c.aF≠m.aF-1\/c.offered≠m.from_
          · rw[show(ab ((c.aF:Int)≠(m.aF-1))||ab ((c.offered:Int)≠m.from_))=aT by simpa using f,Z2 f];exact(X6 hN d b).1
          · rw[show(ab ((c.aF:Int)≠(m.aF-1))||ab ((c.offered:Int)≠m.from_))=aq by simpa using f,Z3 f];exact(X6 hN d b).2
      |false=>
        simp only[Z1,cv,if_false];rw[had_g (h.at b.2.1).disk _ _ hN];simp only[bnd];rw[hp];cases hh:OA (fw w m.iF) m.co m.aF with
        |true=>
          simp only[ea,Z1,if_true];unfold BD;show Is ((Cr (rY ⟨w.prog,w.places,l⟩) _).bind _) _;rw[send_g];exact .mk _ _
        |false=>
          simp only[iS,ZS,cv,if_false];show Is ((vQ N (rY ⟨w.prog,w.places,l⟩) m.iF _).bind _) _;rw[note_g d b.2.1 (Cb V b.2.2.1 (by have:=b.2.2.2.1;omega) V (fun x q=>by cases q) (img_I64 h.code (h.mimg m a ht))) hN];simp only[bnd];rw[hp];by_cases e:(kS (fw w m.iF) ⟨4,m.co,m.aF,0,[],m.image⟩).2=0
          · rw[dF (nn e),Z1,Z3 (nn e)];unfold BD;show Is ((Cr (rY<|Bo ⟨w.prog,w.places,l⟩ m.iF _) _).bind _) _;rw[send_g];exact .mk _ _
          · rw[dT (show(kS (fw w m.iF) ⟨4,m.co,m.aF,0,[],m.image⟩).2≠0 from e),ZS,Z2 e];exact .err e
theorem imgs_loop{N:Nat}(hN:60002<=N)(a:aW)(k:Unit->Zs (Int×aW)):∀(l:ZD Co) (i:Int),
    ib (fun j(x:Co)s c=>(rZ N a.prog x.image).bind fun q=>w9 a c q.2) k i l ()=if J7 a.prog l≠0 then ak (J7 a.prog l,a)else k ()
  |[],i=>by rw[VD];simp[J7]
  |x::l,i=>by
    rw[sG,EA _ _ V];simp only[bnd];unfold w9;by_cases h:(dN a.prog x.image).2=0
    · rw[dF (nn h),Z1];have b:=imgs_loop hN a k l<|i+1;unfold w9 at b;rw[b,show J7 a.prog (x::l)=J7 a.prog l by rw[J7,Z3 (nn h)]]
    · rw[dT (show(dN a.prog x.image).2≠0 from h),ZS,show J7 a.prog (x::l)=(dN a.prog x.image).2 by rw[J7,Z2 h],Z2 h]
theorem boot_g{w:iY}(h:WR w){k:Int}(l:On k){N:Nat}(hN:60002<=N):Is (NL N (rY w) k) (Vo w k):=by
  have c:=Vt h l;have m:=(h.at l).disk;unfold NL Vo;rw[g_at c];simp only[bnd];rw[up_g];by_cases e:(fw w k).up=aT
  · rw[e,Z2 rfl];exact .mk _ _
  · have o:(fw w k).up=false:=by simpa using e
    rw[Z3 e,o,Z1,MS m hN];simp only[bnd];rw[dF V,Z1,XT N V,Z3 (show¬120<(lG (fw w k).d).length by have:=(dOk m).len;omega)];simp only[bnd];by_cases a:(iM [] (lG (fw w k).d)).2=0
    · rw[dF (nn a),Z1,Z3 (nn a),bh];rw[upto_eachI (g:=fun j(x:Co)s f=>(rZ N (rY w).prog x.image).bind fun q=>w9 (rY w) f q.2) (iM [] (lG (fw w k).d)).1 (fun i x s f n=>by
        unfold Jm;rw[lC,n];rfl)]
      rw[imgs_loop hN (rY w)];show Is (if J7 w.prog (iM []<|lG (fw w k).d).1≠0 then _ else _) _;by_cases b:J7 w.prog (iM [] (lG (fw w k).d)).1=0
      · rw[Z3 (nn b),Z3 (nn b)];unfold Jn;have:=g_set w k ⟨(iM []<|lG (fw w k).d).1,(NY (fw w k).d).1,aT⟩;show Is (ak ((0:Int),(⟨w.prog,(rY w).places.set k.toNat<|OB ⟨(iM []<|lG (fw w k).d).1,(NY (fw w k).d).1,aT⟩,w.aY⟩:aW))) _;rw[this];exact .mk _ _
      · rw[Z2 b,Z2 b];exact .mk _ _
    · rw[dT (show(iM [] (lG (fw w k).d)).2≠0 from a),ZS,Z2 a];exact .mk _ _
theorem begin_g{w:iY}(h:WR w){k i:Int}(a:On k){N:Nat}(hN:60002<=N):Is (Ky N (rY w) k i) (abM w k i):=by
  have b:=Vt h a;have j:=(h.at a).disk;unfold Ky abM;by_cases c:i=k
  · subst c;rw[dF zq3,Z1,Z3 zq3,g_at b];simp only[bnd];rw[MS j hN];simp only[bnd,bh];rw[Qq (fun r:Rec=>ab ((r.kind:Int)=1)) (fun n=>yx N (rY w) i i (ab ((0:Int)<=n))) (lG (fw w i).d) (fun n r l g=>by
      unfold GK;rw[lC,g];rfl)]
    rw[<-any_find];cases hf:(lG (fw w i).d).findIdx? (fun r:Rec=>ab ((r.kind:Int)=1))with
    |some n=>
      simp only[qg,if_true];rw[dT V];exact .mk _ _
    |none=>
      simp only[Option.isSome_none,cv,if_false];unfold GL yx;rw[Z1];show Is ((aan w.prog).bind _) _;rw[vm_New_eq,Z3 (nn h.code)];simp only[bnd];rw[dF V,Z1];show Is ((Fx N w.prog<|uU w.prog).bind _) _;have f:=abn<|nU h.code;rw[Vh _ _ V,Z3 (nn h.code),Z3 (nn (JO.2 f))];simp only[bnd];rw[dF V,Z1,note_g h a (Cb V a V V (fun x e=>by cases e) (abK (nU h.code) (X0 h.code)).1) hN];exact .mk _ _
  · rw[dT (show i≠k from c),ZS,Z2 c];exact .mk _ _
end Pw
open Go Go.Proofs Go.LX
namespace Pw
open Dk
theorem step6_g{w:iY}(h:WR w){x:jo}(i:1<=x.kind/\x.kind<=9/\x.kind≠4/\x.kind≠5/\x.kind≠6){N:Nat}(hN:60002<=N):Is (qp N x (rY w) aT) (dD w (Bq x)):=by
  have f:dD w (Bq x)=if x.place<0\/(w.places.length:Int)<=x.place then(w,5)else
      if x.kind=8 then Vo w x.place else
      if(fw w x.place).up=aq then(w,7)else
      if x.kind=1 then abM w x.place x.co else
      if x.kind=3 then FU w (Bq x)else
      if x.kind=7 then(Bo w x.place ⟨[],(fw w x.place).d,aq⟩,0)else runW w (Bq x):=by
    unfold dD;rw[Z3 (show¬((Bq x).kind=4\/(Bq x).kind=5) by simp only[Bq];omega),Z3 (show¬(Bq x).kind=6 by simp only[Bq];omega),Z3 (show¬((Bq x).kind<1\/9<(Bq x).kind) by simp only[Bq];omega)];rfl
  rw[f];unfold qp;rw[ZS];have g:((rY w).places.length:Int)=w.places.length:=by unfold rY;simp
  rw[g];by_cases e:x.place<0\/(w.places.length:Int)<=x.place
  · rw[show(ab ((x.place:Int)<0)||ab (((w.places.length:Int):Int)<=x.place))=aT by simpa using e,Z2 e];exact .mk _ _
  · rw[show(ab ((x.place:Int)<0)||ab (((w.places.length:Int):Int)<=x.place))=aq by simpa using e,Z3 e,Z1];have j:=h.many;have hp:On x.place:=⟨by omega,by omega⟩;by_cases c:x.kind=8
    · rw[dT c,Z2 c];exact(boot_g h hp hN).pair
    · rw[dF c,Z3 c,Z1,g_at (Vt h hp)];simp only[bnd];rw[up_g];cases hu:(fw w x.place).up with
      |false=>exact .mk _ _
      |true=>
        simp only[ea,Z1,nf,if_false];by_cases k1:x.kind=1
        · rw[dT k1,Z2 k1];exact(begin_g h hp hN).pair
        · rw[dF k1,Z3 k1,Z1];by_cases a:x.kind=3
          · rw[dT a,Z2 a];exact(resend_g h hp).pair
          · rw[dF a,Z3 a,Z1];by_cases b:x.kind=7
            · rw[dT b,Z2 b];have:=g_set w x.place ⟨[],(fw w x.place).d,aq⟩;show Is (ak ((0:Int),(⟨w.prog,(rY w).places.set x.place.toNat<|OB ⟨[],(fw w x.place).d,aq⟩,w.aY⟩:aW))) _;rw[this];exact .mk _ _
            · rw[dF b,Z3 b];exact(run_g h hp hN).pair
theorem step45_g{w:iY}(h:WR w)(x:jo)(a:x.kind=4\/x.kind=5){N:Nat}(hN:60002<=N):Is (rz N (rY w) x) (dD w (Bq x)):=by
  have c:dD w (Bq x)=ED w x.n (decide<|x.kind=5):=by unfold dD;rw[Z2 (show((Bq x).kind=4\/(Bq x).kind=5)from a)];rfl
  have b:rz N (rY w) x=oo N x (rY w) true:=by
    unfold rz;rcases a with h4|h5
    · rw[dT h4,ZS]
    · rw[dF (show¬x.kind=4 by omega),dT h5,Z1,ZS]
  rw[c,b];unfold oo;rw[ZS,dT (show x.kind≠6 by omega),ZS];exact(hear_g h _ _ hN).pair
theorem step_g{w:iY}(h:WR w)(x:jo){N:Nat}(hN:60002<=N):Is (rz N (rY w) x) (dD w (Bq x)):=by
  by_cases a:x.kind=4\/x.kind=5
  · exact step45_g h x a hN
  · by_cases b:x.kind=6
    · have d:dD w (Bq x)=if x.n<0\/(w.aY.length:Int)<=x.n then(w,5)else(⟨w.prog,w.places,w.aY.take x.n.toNat++w.aY.drop (x.n.toNat+1)⟩,0):=by
        unfold dD;rw[Z3 (show¬((Bq x).kind=4\/(Bq x).kind=5)from a),Z2 (show(Bq x).kind=6 from b)];rfl
      have f:rz N (rY w) x=oo N x (rY w) true:=by
        unfold rz;rw[dF (show¬x.kind=4 by omega),dF (show¬x.kind=5 by omega),dT b,Z1,Z1]
      rw[d,f];unfold oo;rw[ZS,dF (show¬x.kind≠6 by omega),Z1];show Is ((Jk w.aY x.n aq).bind _) _;rw[wTake,Z3 (nn ((JV _).2 ⟨h.XZ,h.mok⟩))];unfold KZ;by_cases c:x.n<0\/(w.aY.length:Int)<=x.n
      · rw[Z2 c,Z2 c];exact .mk _ _
      · rw[Z3 c,Z3 c];exact .mk ⟨w.prog,w.places,w.aY.take x.n.toNat++w.aY.drop (x.n.toNat+1)⟩ 0
    · have f:rz N (rY w) x=oo N x (rY w) false:=by
        unfold rz;rw[dF (show¬x.kind=4 by omega),dF (show¬x.kind=5 by omega),dF b,Z1,Z1]
      rw[f];unfold oo;rw[Z1];by_cases i:1<=x.kind/\x.kind<=9
      · have g:=step6_g h (x:=x) V hN;have:x.kind=1\/x.kind=2\/x.kind=3\/x.kind=7\/x.kind=8\/x.kind=9:=by omega
        rcases this with e|e|e|e|e|e<;>(rw[e];simp only[show ab ((1:Int)=1)=aT from rfl,show ab ((2:Int)=1)=aq from rfl,show ab ((2:Int)=2)=aT from rfl,show ab ((3:Int)=1)=aq from rfl,show ab ((3:Int)=2)=aq from rfl,show ab ((3:Int)=3)=aT from rfl,show ab ((7:Int)=1)=aq from rfl,show ab ((7:Int)=2)=aq from rfl,show ab ((7:Int)=3)=aq from rfl,show ab ((7:Int)=7)=aT from rfl,show ab ((8:Int)=1)=aq from rfl,show ab ((8:Int)=2)=aq from rfl,show ab ((8:Int)=3)=aq from rfl,show ab ((8:Int)=7)=aq from rfl,show ab ((8:Int)=8)=aT from rfl,show ab ((9:Int)=1)=aq from rfl,show ab ((9:Int)=2)=aq from rfl,show ab ((9:Int)=3)=aq from rfl,show ab ((9:Int)=7)=aq from rfl,show ab ((9:Int)=8)=aq from rfl,show ab ((9:Int)=9)=aT from rfl,ZS,Z1];exact g)
      · have d:dD w (Bq x)=(w,4):=by
          unfold dD;rw[Z3 (show¬((Bq x).kind=4\/(Bq x).kind=5)from a),Z3 (show¬(Bq x).kind=6 from b),Z2 (show(Bq x).kind<1\/9<(Bq x).kind by simp only[Bq];omega)]
        rw[d,dF (show¬x.kind=1 by omega),dF (show¬x.kind=2 by omega),dF (show¬x.kind=3 by omega),dF (show¬x.kind=7 by omega),dF (show¬x.kind=8 by omega),dF (show¬x.kind=9 by omega)];exact .mk _ _
theorem imgs_each{p:ZD aX}{N:Nat}(hN:60002<=N):∀l:ZD Co,each (Ej N p) Jj l ()=ak (J7 p l)
  |[]=>rfl
  |x::l=>by
    rw[gV];have a:=imgs_each (p:=p) hN l;unfold Ej at a⊢;rw[EA _ _ V];simp only[bnd];by_cases h:(dN p x.image).2=0
    · rw[dF (nn h),Z1,a,J7,Z3 (nn h)]
    · rw[dT (show(dN p x.image).2≠0 from h),ZS,J7,Z2 h]
theorem plc_g(p:ZD aX)(x:MP)(g:x.d.wait.length<=9223372036854775807){N:Nat}(hN:60002<=N):Ku N p (OB x)=ak (BI p x):=by
  unfold Ku BI;show(vN N x.d).bind _=_;rw[Dk.MO N hN _ g];simp only[bnd];by_cases b:jv x.d=0
  · rw[dF (nn b),Z1,Z3 (nn b),up_g];cases hu:x.up with
    |false=>
      show(bif ab ((0:Int)<(x.cos.length:Int))then _ else _)=ak (if x.cos=[]then 0 else 4);by_cases a:x.cos=[]
      · rw[a,Z2 rfl];rfl
      · rw[Z3 a,dT (by have:=qF.2 a;omega)];rfl
    |true=>
      simp only[ea,Z1,nf,if_false];show(bif ab ((0:Int)<(x.d.wait.length:Int))then _ else _)=_;by_cases a:x.d.wait=[]
      · rw[a,Z3 zq3];rw[dF zq3,Z1,MS b hN];simp only[bnd];rw[XT N V,Z3 (show¬120<(lG x.d).length by have:=(dOk b).len;omega)];simp only[bnd];by_cases f:(iM [] (lG x.d)).2=0
        · rw[dF (nn f),Z1,Z3 (nn f),coSame];simp only[bnd];show(bif !decide ((iM []<|lG x.d).1=x.cos)then _ else _)=_;by_cases c:(iM [] (lG x.d)).1=x.cos
          · rw[dT c,Z3 (fun e=>e c)];exact imgs_each hN x.cos
          · rw[dF c,Z2 c];rfl
        · rw[dT (show(iM [] (lG x.d)).2≠0 from f),ZS,Z2 f]
      · rw[Z2 a,dT (by have:=qF.2 a;omega),ZS]
  · rw[dT (show jv x.d≠0 from b),ZS,Z2 b]
theorem mails_each{w:aW}{N:Nat}(hN:60002<=N):∀l:ZD dE,each (wY N w) Ca l ()=ak (Oh w.prog l)
  |[]=>rfl
  |m::l=>by
    rw[gV];have a:=mails_each (w:=w) hN l;generalize each (wY N w) Ca l=F at a⊢;unfold wY El Oh;cases ht:m.taken with
    |true=>exact a
    |false=>
      rw[Z1,EA _ _ V,Z3 zq3];simp only[bnd];by_cases h:(dN w.prog m.image).2=0
      · rw[dF (nn h),Z1,a,Z3 (nn h)]
      · rw[dT (show(dN w.prog m.image).2≠0 from h),ZS,Z2 h]
theorem plcs_each{w:aW}{N:Nat}(hN:60002<=N)(k:Unit->Zs Int):∀l:ZD MP,(∀x∈l,x.d.wait.length<=9223372036854775807)->each (uX N w) k (l.map OB) ()=if Qf w.prog l≠0 then ak (Qf w.prog l)else k ()
  |[],_=>by simp[Qf,rE]
  |x::l,hw=>by
    rw[cg,gV];have a:=plcs_each (w:=w) hN k l fun y b=>hw y<|bl _ b;generalize each (uX N w) k (l.map OB)=F at a⊢;unfold uX;rw[plc_g _ _ (hw x zq3) hN];simp only[bnd];by_cases h:BI w.prog x=0
    · rw[dF (nn h),Z1,a,show Qf w.prog (x::l)=Qf w.prog l by rw[Qf,Z3 (nn h)]]
    · rw[dT (show BI w.prog x≠0 from h),ZS,show Qf w.prog (x::l)=BI w.prog x by rw[Qf,Z2 h],Z2 h]
def Wts(w:iY):Prop:=∀x∈w.places,x.d.wait.length<=9223372036854775807
theorem WR.wts{w:iY}(h:WR w):Wts w:=fun x a=>by have:=Vu (h.pl x a).disk;omega
theorem check_g{w:iY}(d:Wts w){N:Nat}(hN:60002<=N):CX N (rY w)=ak (EC w):=by
  unfold CX EC;show(tL w.prog).bind _=_;rw[XK];simp only[bnd];by_cases b:KD w.prog=0
  · rw[dF (nn b),Z1,Z3 (nn b)];have e:((rY w).places.length:Int)=w.places.length:=by unfold rY;simp
    rw[e];by_cases f:w.places.length=3
    · rw[dF V,Z1,Z3 V];show(bif ab ((dV w.aY:Int)≠0)then ak (dV w.aY)else _)=_;by_cases a:dV w.aY=0
      · rw[dF (nn a),Z1,Z3 (nn a)];show each (uX N<|rY w) _ (w.places.map OB) ()=_;rw[plcs_each hN _ _ d];unfold GJ;show(if Qf w.prog w.places≠0 then _ else each (wY N<|rY w) _ w.aY ())=_;rw[mails_each hN];by_cases c:Qf w.prog w.places=0
        · rw[Z3 (nn c),Z3 (nn c)];rfl
        · rw[Z2 c,Z2 c];rfl
      · rw[dT (show dV w.aY≠0 from a),ZS,Z2 a]
    · rw[dT V,ZS,Z2 V]
  · rw[dT (show KD w.prog≠0 from b),ZS,Z2 b]
end Pw
open Go Go.Proofs Go.LX
namespace Pw
open Dk
theorem args_each(F:Unit->Zs (ZD aX)):∀l:ZD Ins,(∀c∈l,c.args.length<=3)->each Bw (FM F) l ()=F ()
 |[],_=>rfl
 |c::l,h=>by
  rw[gV];have a:=args_each F l fun x b=>h x<|bl _ b;generalize each Bw (FM F) l=G at a⊢;unfold Bw;have:=h c zq3;rw[rQ V V];exact a
theorem code_copy{p:ZD aX}(h:p.length<=4/\∀x∈p,uB x/\∀c∈x.code,c.args.length<=3):Iq p=ak p:=by
 unfold Iq;rw[rQ V V];simp only[bnd,bh];have b:∀(m i:Nat),i+m=p.length->upto (vM p) (Bz p) (i:Int) m ()=ak p:=by
  intro m;induction m with
  |zero=>intro i _;rfl
  |succ m ih=>
   intro i g;have e:i<p.length:=by omega
   show vM p (i:Int) () (upto (vM p) (Bz p) ((i:Int)+1) m)=_;have a:=ih (i+1) V;rw[show((i+1:Nat):Int)=(i:Int)+1 from rfl]at a;generalize upto (vM p) (Bz p) ((i:Int)+1) m=nx at a⊢;unfold vM;have d:=h.2 p[i]<|cA e;have f:=d.1;unfold uB at f;rw[xI e];simp only[bnd];rw[rQ V V];simp only[bnd];rw[args_each _ _ d.2];exact a
 simpa using b p.length 0 V
theorem chk_good{p:ZD aX}(h:KD p=0):p.length<=4/\∀x∈p,uB x/\∀c∈x.code,c.args.length<=3:=by
 obtain⟨y,a,b⟩:=check_tot p;rw[XK]at a;exact b (by rw[<-osi a];exact h)
theorem copy_g{w:iY}(h:WR w):Cq (rY w)=ak (rY w):=by
 have j:=chk_good h.code;unfold Cq;show(Iq w.prog).bind _=_;rw[code_copy j];simp only[bnd];have f:=h.many;show(clone 80<|w.places.map OB).bind _=_;rw[rQ (by simp;omega) (by simp;omega)];simp only[bnd];show(Em w.aY).bind _=_;rw[wCopy h.XZ (fun m f=>(h.mok m f).2.2.2.2.2)];simp only[bnd];unfold KT;rw[bh];have b:∀(m i:Nat),i+m=(w.places.map OB).length->upto vP (BC w.prog w.aY) (i:Int) m (w.places.map OB)=ak (rY w):=by
  intro m;induction m with
  |zero=>intro i _;rfl
  |succ m ih=>
   intro i l;have c:i<(w.places.map OB).length:=by omega
   show vP (i:Int) (w.places.map OB) (upto vP (BC w.prog w.aY) ((i:Int)+1) m)=_;have a:=ih (i+1) V;rw[show((i+1:Nat):Int)=(i:Int)+1 from rfl]at a;generalize upto vP (BC w.prog w.aY) ((i:Int)+1) m=nx at a⊢;unfold vP;rw[xI c];have k:i<w.places.length:=by simpa using c
   have e:(w.places.map OB)[i]=OB w.places[i]:=by simp
   have hp:=h.pl w.places[i]<|cA k;have n:=(Dk.xn hp.disk).1;simp only[bnd];rw[show(w.places.map OB)[i].cos=w.places[i].cos by rw[e];rfl,show(w.places.map OB)[i].safe=w.places[i].d.safe by rw[e];rfl,show(w.places.map OB)[i].wait=w.places[i].d.wait by rw[e];rfl];rw[coCopy hp.good.1.len (fun x g=>(hp.good.1.ok x g).2.2.2.2.2.2.2),rQ V V];simp only[bnd];rw[rQ V V];simp only[bnd,bh];rw[List.set_set,show(⟨w.places[i].cos,w.places[i].d.safe,w.places[i].d.wait,(w.places.map OB)[i].up⟩:bV)=(w.places.map OB)[i] by rw[e];rfl,List.set_getElem_self];exact a
 simpa using b (w.places.map OB).length 0 V
def zW:aW:=⟨[],[],[]⟩
theorem do_of{w:iY}(e:Wts w)(x:jo){N:Nat}(hN:60002<=N){q:iY×Int}(c:WR w->Is (rz N (rY w) x) q):oO N (rY w) x=ak (if EC w≠0 then(zW,EC w)else if q.2≠0 then(zW,q.2)else(rY q.1,0)):=by
  unfold oO;rw[check_g e hN];simp only[bnd];by_cases b:EC w=0
  · rw[dF (nn b),Z1,Z3 (nn b)];have h:=(w_iff w).1 b;rw[copy_g h];simp only[bnd];obtain⟨v,d,f⟩:=c h;rw[d];simp only[bnd];by_cases a:q.2=0
    · rw[dF (nn a),Z1,Z3 (nn a),f a]
    · rw[dT (show q.2≠0 from a),ZS,Z2 a];rfl
  · rw[dT (show EC w≠0 from b),ZS,Z2 b];rfl
theorem do_g{w:iY}(a:Wts w)(x:jo){N:Nat}(hN:60002<=N):oO N (rY w) x=ak (if EC w≠0 then(zW,EC w)else if(dD w (Bq x)).2≠0 then(zW,(dD w (Bq x)).2)else(rY (dD w (Bq x)).1,0)):=do_of a x hN fun h=>step_g h x hN
theorem runs_loop{N:Nat}(hN:60002<=N):∀(l:ZD jo) (a:ZD Int) (w:iY),WR w->a.length+l.length<=120->
    each (BF N) BG l (a,w.prog,(rY w).places,w.aY)=ak (rY (Vr w (l.map Bq)).1,a++(Vr w (l.map Bq)).2,0)
  |[],a,w,_,_=>by simp[rE,BG,Vr,rY]
  |x::l,a,w,h,hl=>by
    rw[gV];simp only[bq]at hl;have c:=fun s w h f=>runs_loop hN l s w h f;generalize each (BF N) BG l=F at c⊢;unfold BF;show(Cq<|rY w).bind _=_;rw[copy_g h];simp only[bnd];obtain⟨v,g,i⟩:=step_g h x hN;rw[g];simp only[bnd];unfold FO;rw[cg,runL_cons];have d:Room 8 a [(dD w (Bq x)).2]:=Room.mk (by simp;omega) (by simp;omega);by_cases b:(dD w (Bq x)).2=0
    · rw[dT b,ZS,Z2 b,kz d,i b];have e:=(N7 h (eW Z b:dD w (Bq x)=((dD w<|Bq x).1,0))).1;have:=c (a++[(dD w (Bq x)).2]) _ e (by simp;omega);rw[show(rY (dD w (Bq x)).1).prog=(dD w (Bq x)).1.prog from rfl,show(rY (dD w (Bq x)).1).aY=(dD w (Bq x)).1.aY from rfl,this,ck];rfl
    · rw[dF b,Z1,Z3 b,kz d];rw[c (a++[(dD w (Bq x)).2]) w h (by simp;omega),ck];rfl
theorem runs_g{w:iY}(c:Wts w)(l:ZD jo){N:Nat}(hN:60002<=N):QU N (rY w) l=ak (if EC w≠0 then(zW,[],EC w)else if 120<l.length then(zW,[],2)else(rY (Vr w (l.map Bq)).1,(Vr w (l.map Bq)).2,0)):=by
  unfold QU;rw[check_g c hN];simp only[bnd];by_cases a:EC w=0
  · rw[dF (nn a),Z1,Z3 (nn a)];by_cases b:120<l.length
    · rw[dT V,ZS,Z2 b];rfl
    · have h:=(w_iff w).1 a;rw[dF V,Z1,Z3 b,copy_g h];simp only[bnd];exact(runs_loop hN l [] w h (by simp;omega)).trans (by rw[cr])
  · rw[dT (show EC w≠0 from a),ZS,Z2 a];rfl
end Pw
open Go Go.Proofs Go.LX
namespace Pw
open Dk
theorem hN:60002<=NN:=by decide
end Pw
open Go Go.Proofs Go.LX
namespace Pw
open Dk
theorem grow1(l:ZD bV)(h:l.length<=2)(x:bV):Room 80 l [x]:=Room.mk (by simp;omega) (by simp;omega)
theorem new_g(p:ZD aX){N:Nat}(hN:4<=N):L6 N p=ak (if KD p≠0 then(zW,KD p)else(rY (G6 p),0)):=by
  unfold L6;rw[XK];simp only[bnd];by_cases h:KD p=0
  · rw[dF (nn h),Z1,Z3 (nn h),code_copy (chk_good h)];simp only[bnd];obtain⟨k,rfl⟩:∃k,N=k+4:=⟨N-4,by omega⟩;simp only[again,HV];rw[dT zq1,ZS,kz (grow1 _ zq3 _),gI,dT zq1,ZS,kz (grow1 _ zq3 _),gI,dT zq1,ZS,kz (grow1 _ zq3 _),gI,dF zq1,Z1];rfl
  · rw[dT (show KD p≠0 from h),ZS,Z2 h];rfl
def clip(x:jo):jo:=if(x.kind=2\/x.kind=9)/\100<x.n then⟨x.kind,x.place,x.co,100⟩else x
def YA(w:iY)(x:Hap):iY:=if(dD w x).2≠0 then w else(dD w x).1
theorem play_cons(w:iY)(x:Hap)(l:ZD Hap):Qj w (x::l)=Qj (YA w x) l:=by
 unfold YA
 conv=>lhs;unfold Qj
 split<;>rfl
theorem next_wr{w:iY}(h:WR w)(x:Hap):WR (YA w x):=by
  unfold YA;by_cases a:(dD w x).2=0
  · rw[Z3 (nn a)];exact(N7 h (w':=(dD w x).1)<|eW Z a).1
  · rw[Z2 a];exact h
def Dp(w:iY):ZD aX×ZD bV×ZD dE:=(w.prog,(rY w).places,w.aY)
theorem do_r{w:iY}(h:WR w)(x:jo){N:Nat}(hN:60002<=N):oO N (rY w) x=ak (if(dD w (Bq x)).2≠0 then(zW,(dD w (Bq x)).2)else(rY (dD w (Bq x)).1,0)):=by
 rw[do_g h.wts x hN,Z3 (nn ((w_iff w).2 h))]
theorem play_each{body:jo->(ZD aX×ZD bV×ZD dE)->((ZD aX×ZD bV×ZD dE)->Zs Ys)->Zs Ys}{k:(ZD aX×ZD bV×ZD dE)->Zs Ys}(b:∀x w a,WR w->body x (Dp w) a=a (Dp (YA w (Bq (clip x))))):∀(l:ZD jo) (w:iY),WR w->each body k l (Dp w)=k (Dp (Qj w (l.map (Bq∘clip))))
 |[],w,h=>rfl
 |x::l,w,h=>by
  rw[gV,b x w _ h,play_each b l _ (next_wr h _),cg,play_cons];rfl
theorem clip_t{x:jo}(h:(x.kind=2\/x.kind=9)/\100<x.n):((ab (x.kind=2)||ab (x.kind=9))&&ab ((100:Int)<x.n))=aT/\clip x=⟨x.kind,x.place,x.co,100⟩:=by
 refine⟨?_,Z2 h⟩;obtain⟨a,b⟩:=h;rw[dT b,Bool.and_true];rcases a with a|a<;>simp[a]
theorem clip_f{x:jo}(h:¬((x.kind=2\/x.kind=9)/\100<x.n)):((ab (x.kind=2)||ab (x.kind=9))&&ab ((100:Int)<x.n))=aq/\clip x=⟨x.kind,x.place,x.co,x.n⟩:=by
 refine⟨?_,Z3 h⟩;rw[Bool.eq_false_iff];intro a;simp only[cP,dy,decide_eq_true_eq]at a;exact h a
theorem scheck_g{w:iY}(h:WR w){i:Int}(a:0<=i/\i<3){N:Nat}(hN:60002<=N):Gy N (rY w) i=ak 0:=by
 unfold Gy;rw[check_g h.wts hN,(w_iff w).2 h];simp only[bnd];rw[dF zq1,Z1,dF V,dF V];rfl
end Pw
open Go Go.Proofs Go.LX
namespace Pw
def hz:ZD jo:=[⟨1,0,0,0⟩,⟨2,0,0,9⟩,⟨2,0,0,90⟩,⟨2,0,0,90⟩,⟨2,0,0,90⟩,⟨2,0,0,90⟩,⟨5,0,0,0⟩,⟨2,0,0,9⟩,⟨4,0,0,1⟩,⟨4,0,0,0⟩,⟨2,2,0,90⟩]
theorem gone_of{q:ZD jq}{p:ZD aX}{w:iY}(f:pg NN=ak q)(e:vw NN q=ak p)(b:KD p=0)(h:(Vr (G6 p) (hz.map Bq)).2=[0,0,0,0,0,0,0,7,0,0,0])(d:(Vr (G6 p) (hz.map Bq)).1=w)(g:NR NN (rY w) 0=ak ([9,4],0))(c:Ag NN (rY w) 0=ak ([⟨2,2,-1⟩],0)):sD NN=ak true:=by
 unfold sD;rw[f];simp only[bnd];rw[e];simp only[bnd];rw[new_g p zq1,Z3 (nn b)];simp only[bnd];have a:=runs_g (si_new b).wr.wts hz hN;rw[Z3 (nn ((w_iff _).2 (si_new b).wr)),Z3 zq1,h,d]at a;unfold hz at a;rw[a];simp only[bnd];rw[g,c];rfl
noncomputable def qz:ZD jq:=(qO NN).getD []
noncomputable def pz:ZD aX:=(vw NN qz).getD []
noncomputable def wz:iY:=(Vr (G6 pz) (hz.map Bq)).1
theorem of_some{α:Type}{o:Zs α}{d:α}(h:o.isSome=aT):o=ak (o.getD d):=by cases o with|none=>cases h|some x=>rfl
theorem qz_ok:(qO NN).isSome=true:=zq2
theorem qz_code:(vw NN qz).isSome=true:=zq2
theorem pz_ok:KD pz=0:=zq2
theorem wz_ran:(Vr (G6 pz) (hz.map Bq)).2=[0,0,0,0,0,0,0,7,0,0,0]:=zq2
theorem wz_said:NR NN (rY wz) 0=ak ([9,4],0):=zq2
theorem wz_held:Ag NN (rY wz) 0=ak ([⟨2,2,-1⟩],0):=zq2
end Pw
theorem gone_ok:sD NN=ak true:=Pw.gone_of (program_p.trans (Pw.of_some Pw.qz_ok)) (Pw.of_some Pw.qz_code) Pw.pz_ok Pw.wz_ran Z Pw.wz_said Pw.wz_held
open Go Go.Proofs Go.LX
namespace Pw
open Dk
def Qk(k:Int)(o:Zs Co):ZD T3:=match o with|some c=>[⟨k,c.aF,c.offered⟩]|none=>[]
theorem held_pl{N:Nat}(hN:60002<=N)(i k:Int){x:MP}(h:jv x.d=0)(m:(iM [] (lG x.d)).2=0){a:ZD T3}(o:a.length<=2)(b:ZD T3->Zs (ZD T3×Int)):
  yA N i k (OB x) a b=b (a++Qk k (lH i (iM [] (lG x.d)).1)):=by
 unfold yA;rw[MS h hN];simp only[bnd];have p:=(dOk h).len;rw[XT N V,Z3 V];simp only[bnd];rw[dF (nn m),Z1,bh];generalize iM [] (lG x.d)=y;rw[Qq (fun z:Co=>ab (z.kJ=i)) (fun n=>pK y a k b n) y.1 (fun j z f c=>by
  unfold GM;rw[lC,c];rfl)]
 unfold lH;cases h:y.1.findIdx? (fun z=>ab (z.kJ=i))with
 |none=>
  rw[kx]at h;rw[show y.1.find? (fun z=>ab (z.kJ=i))=ar from by
   rw[rb];intro z hz;rw[h z hz];simp]
  show pK y a k b (-1)=_;unfold pK;rw[dF zq1,Z1];simp[Qk,yz]
 |some n=>
  obtain⟨e,g,l⟩:=np.1 h;rw[show y.1.find? (fun z=>ab (z.kJ=i))=ak y.1[n]from by
   rw[nF];exact⟨g,n,e,Z,fun j c=>by simpa using l j c⟩]
  show pK y a k b (n:Int)=_;unfold pK;rw[dT V,ZS,lC,bc e];simp only[bnd];rw[kz (Room.mk (by simp;omega) (by simp;omega))];rfl
def tT(x:Int×Int×Int):T3:=⟨x.1,x.2.1,x.2.2⟩
theorem heldT_len(k:Int)(o:Zs Co):(Qk k o).length<=1:=by cases o<;>simp[Qk]
theorem held_g{w:iY}(h:SI w){i:Int}(e:0<=i/\i<3){N:Nat}(hN:60002<=N):Ag N (rY w) i=ak ((RF w i).map tT,0):=by
 unfold Ag;rw[scheck_g h.wr e hN];simp only[bnd];rw[dF zq1,Z1];show ib (yA N i) GN 0 (w.places.map OB) []=_;have c:=fun k(a:On k)=>(h.wr.at a).disk;have b:=fun k(a:On k)=>h.rep k a;have d:On 0:=⟨by omega,by omega⟩;have o1:On 1:=⟨by omega,by omega⟩;have o2:On 2:=⟨by omega,by omega⟩;rw[three h.wr.many];have g:=heldT_len 0<|Hd (Fw w) i 0;have f:=heldT_len 1<|Hd (Fw w) i 1;simp only[cg,List.map_nil];rw[sG,held_pl hN i 0 (c 0 d) (b 0 d) zq3,sG,held_pl hN i (0+1) (c 1 o1) (b 1 o1) (by
  show([]++Qk 0 (Hd (Fw w) i 0)).length<=2;rw[cr];omega),sG,held_pl hN i (0+1+1) (c 2 o2) (b 2 o2) (by
  show([]++Qk 0 (Hd (Fw w) i 0)++Qk 1 (Hd (Fw w) i 1)).length<=2;rw[cr,bj];omega)]
 show ak ([]++Qk 0 (Hd (Fw w) i 0)++Qk 1 (Hd (Fw w) i 1)++Qk 2 (Hd (Fw w) i 2),(0:Int))=_;unfold RF Qk;cases Hd (Fw w) i 0<;>cases Hd (Fw w) i 1<;>cases Hd (Fw w) i 2<;>rfl
end Pw
open Go Go.Proofs Go.LX
namespace Pw
open Dk
theorem again3{β:Type}{body:Int->(Int->Zs β)->Zs β}{N:Nat}(hN:4<=N){z:Zs β}(b:∀(i:Int) a,0<=i/\i<3->body i a=a (i+1))(c:∀a,body 3 a=z):again body N 0=z:=by
 obtain⟨k,rfl⟩:∃k,N=k+4:=⟨N-4,by omega⟩;show body 0 (again body<|k+3)=z;rw[b _ _ V];show body 1 (again body<|k+2)=z;rw[b _ _ V];show body 2 (again body<|k+1)=z;rw[b _ _ V];exact c _
end Pw
open Go Go.Proofs Go.LX
namespace Pw
open Dk
abbrev Tri:Type:=ZD aX×ZD bV×ZD dE
theorem moves_b{N:Nat}(hN:60002<=N)(x:jo)(w:iY)(c:Tri->Zs Ys)(h:WR w):kH N x (Dp w) c=c (Dp (YA w (Bq (clip x)))):=by
  have b:∀y:jo,kG N w.prog (rY w).places w.aY ⟨y.kind,y.place,y.co,0⟩ c y.n=c (Dp<|YA w<|Bq y):=by
    intro y;unfold kG mY;show(oO N (rY w) y).bind _=_;rw[do_r h y hN];unfold YA;by_cases a:(dD w (Bq y)).2=0
    · rw[Z3 (nn a),Z3 (nn a)];rfl
    · rw[Z2 a,Z2 a];simp only[bnd];rw[dF a,Z1];rfl
  unfold kH Dp;simp only[];by_cases f:(x.kind=2\/x.kind=9)/\100<x.n
  · obtain⟨d,e⟩:=clip_t f;rw[d,ZS,e];exact b ⟨x.kind,x.place,x.co,100⟩
  · obtain⟨d,e⟩:=clip_f f;rw[d,Z1,e];exact b ⟨x.kind,x.place,x.co,x.n⟩
theorem drain_g{body:Tri->(Tri->Zs Ys)->Zs Ys}{E:Tri->Zs Ys}(b:∀w d,S2 w->body (Dp w) d=if w.aY=[]then E (Dp w)else d (Dp (dr1 w))):∀(n N:Nat) (w:iY),S2 w->mu w.aY<=n->n<N->again body N (Dp w)=E (Dp (yV n w))
  |n,0,w,_,_,hn=>by omega
  |0,N+1,w,h,hm,_=>by
    have:w.aY=[]:=by
      cases a:w.aY with
      |nil=>rfl
      |cons m l=>rw[a]at hm;simp only[mu]at hm;split at hm<;>omega
    show body (Dp w) (again body N)=_;rw[b w _ h,Z2 this];rfl
  |n+1,N+1,w,h,hm,hn=>by
    show body (Dp w) (again body N)=_;rw[b w _ h];by_cases a:w.aY=[]
    · rw[Z2 a,IE a]
    · rw[Z3 a,JW a];obtain⟨c,e⟩:=dr1_calm h a;exact drain_g b n N (dr1 w) c.s2 V V
theorem drain_all{body:Tri->(Tri->Zs Ys)->Zs Ys}{E:Tri->Zs Ys}(b:∀w a,S2 w->body (Dp w) a=if w.aY=[]then E (Dp w)else a (Dp (dr1 w))){N:Nat}(hN:60002<=N){w:iY}(h:S2 w):again body N (Dp w)=E (Dp (yV 100 w)):=
 drain_g b 100 N w h (by have:=mu_le w.aY;have:=h.si.wr.XZ;omega) V
theorem hear_round{N:Nat}(hN:60002<=N){w:iY}(h:S2 w)(e E:Tri->Zs Ys){F:Ys->Tri->Zs Ys}(d:∀b t,F b t=bif b then e t else E t)
    {B:Tri->Zs Ys} (j:B (Dp w)=bif ab ((0:Int)<(w.aY.length:Int))then(oO N (rY w) ⟨4,0,0,0⟩).bind fun y=>bif ab (y.2=0)then(bif ab (y.2=0)then F aT (y.1.prog,y.1.places,y.1.aY)else(oO N y.1 ⟨6,0,0,0⟩).bind fun z=>bif ab (z.2=0)then F (ab (z.2=0)) (z.1.prog,z.1.places,z.1.aY)else F (ab (z.2=0)) (y.1.prog,y.1.places,y.1.aY))else(bif ab (y.2=0)then F aT (Dp w)else(oO N (rY w) ⟨6,0,0,0⟩).bind fun z=>bif ab (z.2=0)then F (ab (z.2=0)) (z.1.prog,z.1.places,z.1.aY)else F (ab (z.2=0)) (Dp w))else F aq (Dp w)):
    B (Dp w)=if w.aY=[]then E (Dp w)else e (Dp (dr1 w)):=by
  rw[j];by_cases c:w.aY=[]
  · rw[Z2 c,c,dF zq3,Z1,d];rfl
  · obtain⟨m,L,f⟩:=oB c;rw[Z3 c,dT (show(0:Int)<(w.aY.length:Int) by rw[f,bq];omega),ZS,do_r h.si.wr _ hN];have k:Bq ⟨4,0,0,0⟩=⟨4,0,0,0⟩:=rfl;have i:Bq ⟨6,0,0,0⟩=⟨6,0,0,0⟩:=rfl;unfold dr1;rw[k];by_cases a:(dD w ⟨4,0,0,0⟩).2=0
    · rw[Z3 (nn a),Z2 a];simp only[bnd];rw[dT trivial,ZS,ZS,d];rfl
    · rw[Z2 a,Z3 a];simp only[bnd];have g:=lose0 w m L f;rw[dF a,Z1,Z1,do_r h.si.wr _ hN,i,g,Z3 (fun q=>q rfl),Z2 rfl];simp only[bnd];rw[dT trivial,ZS,d];rfl
theorem again3w{body:Int×Tri->(Int×Tri->Zs Ys)->Zs Ys}{F:iY->Int->iY}{E:iY->Zs Ys}(b:∀w (i:Int) a,S2 w->0<=i/\i<3->body (i,Dp w) a=a (i+1,Dp (F w i)))(c:∀w (i:Int),S2 w->0<=i/\i<3->S2 (F w i))(g:∀w a,S2 w->body (3,Dp w) a=E w){N:Nat}(hN:60002<=N){w:iY}(h:S2 w):again body N (0,Dp w)=E (F (F (F w 0) 1) 2):=by
 obtain⟨k,rfl⟩:∃k,N=k+4:=⟨N-4,by omega⟩;have e:=c w 0 h V;have d:=c _ 1 e V;have f:=c _ 2 d V;show body (0,Dp w) (again body<|k+3)=_;rw[b _ _ _ h V];show body (1,Dp<|F w 0) (again body<|k+2)=_;rw[b _ _ _ e V];show body (2,Dp<|F (F w 0) 1) (again body<|k+1)=_;rw[b _ _ _ d V];exact g _ _ f
theorem on_i{i:Int}(h:0<=i/\i<3):On i:=⟨h.1,by omega⟩
theorem turn_g{N:Nat}(hN:60002<=N)(k:Int)(g:Int×Tri->Zs Ys)(p:On k){w:iY}(h:S2 w){i:Int}(a:Int×Tri->Zs Ys)(o:0<=i/\i<3):fF N k g (i,Dp w) a=a (i+1,Dp (Bf w k i)):=by
  unfold fF Dp;simp only[];rw[dT (show i<3 from o.2),ZS];show(oO N (rY w) _).bind _=_;rw[do_r h.si.wr _ hN];show _=a (i+1,Dp<|Bf w k i);have e:∀v:iY,S2 v->kC N i a v.prog (rY v).places v.aY=a (i+1,Dp<|yV 100 v):=by
    intro v hv;unfold kC;show again _ N (Dp v)=_;rw[drain_all (E:=fun t=>a (i+1,t)) (fun u c j=>hear_round hN j c (fun t=>a (i+1,t)) (F:=fun b t=>jg c i a b t.1 t.2.1 t.2.2) (fun b t=>by
      unfold jg;cases b with
      |true=>rfl
      |false=>rw[Z1,Z1,gI V V]) (B:=fun t=>mW N i a t c) Z) hN hv]
  unfold Bf;have m:Bq ⟨3,k,i,0⟩=⟨3,k,i,0⟩:=rfl;rw[m];by_cases d:(dD w ⟨3,k,i,0⟩).2=0
  · rw[Z3 (nn d),Z2 d];simp only[bnd];rw[dT trivial,ZS];obtain⟨f,l,n⟩:=N7 h.si.wr (w':=(dD w ⟨3,k,i,0⟩).1)<|eW Z d;exact e _ (QZ h f l n).1
  · rw[Z2 d,Z3 d];simp only[bnd];rw[dF d,Z1];exact e w h
theorem turns_g{N:Nat}(hN:60002<=N)(k:Int)(c:On k)(a:Int×Tri->Zs Ys){w:iY}(h:S2 w):again (fF N k a) N (0,Dp w)=a (k+1,Dp (Bf (Bf (Bf w k 0) k 1) k 2)):=
 again3w (F:=fun w i=>Bf w k i) (E:=fun w=>a (k+1,Dp w)) (fun w i d b e=>turn_g hN k a c b d e) (fun w i b e=>(FI b c i).1.s2) (fun w d b=>by
  have:=c.1;have:=c.2;unfold fF Dp;simp only[];rw[dF zq1,Z1,gI V V]) hN h
theorem phase_g{N:Nat}(hN:60002<=N)(x:Int)(f:Int×Tri->Zs Ys){w:iY}(h:S2 w){k:Int}(a:Int×Tri->Zs Ys)(g:0<=k/\k<3):ji N x f (k,Dp w) a=a (k+1,Dp (phase w k)):=by
  have p:=on_i g;unfold ji Dp;simp only[];rw[dT (show k<3 from g.2),ZS];show(oO N (rY w) _).bind _=_;rw[do_r h.si.wr _ hN];show _=a (k+1,Dp<|phase w k);have e:∀v:iY,S2 v->kD N k a v.prog (rY v).places v.aY=a (k+1,Dp<|Bf (Bf (Bf (yV 100 v) k 0) k 1) k 2):=by
    intro v hv;unfold kD;show again _ N (Dp v)=_;have m:=(FH 100 v hv (by have:=mu_le v.aY;have:=hv.si.wr.XZ;omega)).1.s2;rw[drain_all (E:=fun t=>again (fF N k a) N (0,t)) (fun u c j=>hear_round hN j c (fun t=>again (fF N k a) N (0,t)) (F:=fun b t=>jh N c k a b t.1 t.2.1 t.2.2) (fun b t=>by
      unfold jh;rfl) (B:=fun t=>mX N k a t c) Z) hN hv]
    exact turns_g hN k p a m
  unfold phase Yz;have n:Bq ⟨8,k,0,0⟩=⟨8,k,0,0⟩:=rfl;rw[n];by_cases d:(dD w ⟨8,k,0,0⟩).2=0
  · rw[Z3 (nn d),Z2 d];simp only[bnd];rw[dT trivial,ZS];obtain⟨i,l,o⟩:=N7 h.si.wr (w':=(dD w ⟨8,k,0,0⟩).1)<|eW Z d;exact e _ (QZ h i l o).1
  · rw[Z2 d,Z3 d];simp only[bnd];rw[dF d,Z1];exact e w h
theorem round_g{N:Nat}(hN:60002<=N){x:Int}(e:0<=x/\x<27)(b:Int×Tri->Zs Ys){w:iY}(h:S2 w):eQ N (x,Dp w) b=b (x+1,Dp (round w)):=by
 unfold eQ Dp;simp only[];rw[dT (show x<27 from e.2),ZS];exact again3w (F:=phase) (E:=fun w=>b (x+1,Dp w)) (fun w i a c d=>phase_g hN x b c a d) (fun w i c d=>(Cv c (on_i d)).1.s2) (fun w a c=>by
  unfold ji Dp;simp only[];rw[dF zq1,Z1,gI V V]) hN h
noncomputable def fin(N:Nat)(w:iY):Zs Ys:=each il (kF N w.prog (rY w).places w.aY) (rY w).places ()
theorem rounds_g{N:Nat}(hN:60002<=N):∀(m n M:Nat) (w:iY),n+m=27->m<M->S2 w->OG (Fw w)<=119->again (eQ N) M ((n:Int),Dp w)=fin N (rounds m w)
 |m,n,0,w,_,hm,_,_=>by omega
 |0,n,M+1,w,hn,_,h,_=>by
  obtain rfl:n=27:=by omega
  show eQ N _ (again _ M)=_;unfold eQ Dp;simp only[];rw[dF zq1,Z1];rfl
 |m+1,n,M+1,w,hn,hm,h,hp=>by
  show eQ N ((n:Int),Dp w) (again _ M)=_;rw[round_g hN V _ h];obtain⟨r,-⟩:=IG h hp;exact rounds_g hN m (n+1) M (round w) V V r.s2 r.OG
theorem still_one{w:iY}(h:SI w){i:Int}(f:SE (Hd (Fw w) i))(e:∀q,On q->ST (Hd (Fw w) i) q):(RF w i).length<=1/\∀x∈RF w i,x.2.2= -1:=by
  constructor
  · have a:=held_up w i
    match hl:RF w i with
    |[]=>simp
    |[x]=>simp
    |x::y::l=>
      rw[hl]at a;have g:=(ee.1 a).1 y zq3;obtain⟨k1,c,c1,-⟩:=abQ (w:=w) (i:=i) (x:=x) (by rw[hl];simp);obtain⟨k2,d,d1,-⟩:=abQ (w:=w) (i:=i) (x:=y) (by rw[hl];simp);have:=f _ _ c d k1 k2 c1 d1;omega
  · intro x b;obtain⟨k1,c,c1,-,c2⟩:=abQ b;rw[c2];exact e _ k1 c c1
theorem room_each(k:Unit->Zs Ys)(l:ZD MP):each il k (l.map OB) ()=ak aT\/(each il k (l.map OB) ()=k ()/\∀x∈l,x.d.safe.length<=30000):=by
  induction l with
  |nil=>exact .inr ⟨rfl,fun x c=>by cases c⟩
  |cons x l ih=>
    rw[cg,gV];generalize each il k (l.map OB)=F at ih⊢;unfold il;show(bif ab ((30000:Int)<(x.d.safe.length:Int))|| !x.up then ak aT else F ())=_\/(bif ab ((30000:Int)<(x.d.safe.length:Int))|| !x.up then ak aT else F ())=_/\_;by_cases b:(30000:Int)<(x.d.safe.length:Int)
    · rw[dT b];exact .inl Z
    · rw[dF b];cases x.up with
      |false=>exact .inl Z
      |true=>
        simp only[Bool.false_or,ea,Z1];rcases ih with e|⟨e,h⟩
        · exact .inl e
        · refine .inr ⟨e,fun y a=>?_⟩;rcases bm.1 a with rfl|a
          · omega
          · exact h y a
theorem fin_ok{w:iY}(h:S2 w)(r:Rm w->∀i,On i->SE (Hd (Fw w) i)/\∀q,On q->ST (Hd (Fw w) i) q):fin NN w=ak true:=by
  unfold fin;rcases room_each (kF NN w.prog (rY w).places w.aY) w.places with e|⟨e,hr⟩
  · exact e
  · refine Eq.trans e ?_;have n:Rm w:=fun k b=>by
      have o:=h.si.wr.at b;have m:=(dOk o.disk).safe;have d:=hr (fw w k) (by
        rw[three h.si.wr.many];rcases yD b with rfl|rfl|rfl<;>simp)
      rw[m]at d;exact d
    have p:=r n;unfold kF;refine again3 zq1 (fun i g a=>?_) fun g=>?_
    · unfold kE;rw[dT (show i<3 from a.2),ZS];show(Ag NN (rY w) i).bind _=_;rw[held_g h.si a hN];simp only[bnd];obtain⟨j,f⟩:=p i<|on_i a;obtain⟨k1,k2⟩:=still_one h.si j f;generalize RF w i=l at k1 k2;rw[dF (show¬((0:Int)≠0) by decide),dF (by rw[cH];omega),pw,Z1]
      match l,k1,k2 with
      |[],_,_=>
        rw[dF zq1,Z1];unfold jk;rw[Z1,gI V V]
      |[x],_,k2=>
        have:=k2 x zq3;rw[dT (show(((List.map tT [x]).length:Int))=1 from rfl),ZS];show(ak<|tT x).bind _=_;simp only[bnd];unfold jk;rw[dF (show¬(0:Int)<=(tT x).c from by show¬(0:Int)<=x.2.2;omega),Z1,gI V V]
    · unfold kE;rw[dF zq1,Z1,gone_ok];rfl
theorem sixty2{α:Type}(b:ZD α)(c:b.length<=9223372036854775807):∃l,sub? b 0 (min (b.length:Int) 60)=ak l/\l.length<=60:=by
  rcases Nat.le_total b.length 60 with h|h
  · rw[show min (b.length:Int) 60=((b.length:Nat):Int) by omega];exact⟨_,Yc (a:=0) V V,by simp;omega⟩
  · rw[show min (b.length:Int) 60=((60:Nat):Int) by omega];exact⟨_,Yc (a:=0) V V,by simp;omega⟩
theorem storyMoves(a:ZD aX)(b:ZD jo)(h:b.length<=9223372036854775807):xW NN a b=ak true:=by
  unfold xW;rw[new_g a zq1];simp only[bnd];by_cases c:KD a=0
  · rw[Z3 (nn c)];simp only[];rw[dF zq1,Z1];obtain⟨l,f,hn⟩:=sixty2 b h;rw[f];simp only[bnd];have e:=s2_new c;show each (kH NN) (mZ NN) l (Dp<|G6 a)=_;rw[play_each (moves_b hN) l _ e.si.wr];obtain⟨k1,k2⟩:=s2_play (l.map<|Bq∘clip) _ e;rw[cH]at k2;have j:cnt (Fw<|G6 a)=0:=by
      obtain⟨n,m,g⟩:=zD_ok;have d:∀k,Fw (G6 a) k=[]:=fun k=>by unfold Fw;rw[(Y6 a k).1,g]
      unfold cnt;rw[d,d,d];rfl
    have hp:=(psi_le<|Fw<|Qj (G6 a)<|l.map<|Bq∘clip).2;generalize Qj (G6 a) (l.map (Bq∘clip))=w at k1 k2 hp;unfold mZ Dp;simp only[];unfold mf;rw[ea,Z1];show again (eQ NN) NN (((0:Nat):Int),Dp w)=_;rw[rounds_g hN 27 0 NN w rfl zq1 k1 V];exact fin_ok (KH 27 w k1 V).s2 fun i=>(moves k1 V 24 i).2
  · rw[Z2 c];simp only[];rw[dT (show KD a≠0 from c),ZS];unfold mf;rw[iS,ZS,gone_ok];rfl
end Pw
end Go.Proofs.YtodkbibbgakkdaaGreatDoor