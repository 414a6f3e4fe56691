/-
  What the law StoryOne needs of our own library and of the walks, no more.
-/
import Derived.Test.YtodkbibbgakkdaaGreatDoorStoryOneTh
set_option linter.unusedSimpArgs false
set_option linter.unusedVariables false
set_option maxRecDepth 10000
open Bool renaming and_eq_true->cS,false_eq_true->cM,not_true->ej,or_eq_true->dy,or_false->kt,true_eq_false->mN,false->ao,true->ba
open Decidable renaming decide->ab
open Int renaming eq_ofNat_of_zero_le->bs,toNat_natCast->bh
open List renaming any_eq_true->ng,append_assoc->ck,append_nil->eI,eq_nil_of_length_eq_zero->cl,filter_cons->gR,find?_cons->fi,find?_eq_none->qC,find?_eq_some_iff_getElem->nh,findIdx?_eq_none_iff->kj,findIdx?_eq_some_iff_getElem->mX,getElem?_eq_getElem->bc,getElem?_eq_some_iff->kq,getElem?_set->eW,getElem_mem->cx,length_append->bk,length_cons->bw,length_nil->eE,length_pos_iff->qh,length_set->cm,length_take->ca,map_cons->cj,mem_append->cE,mem_cons->bn,mem_cons_of_mem->bj,mem_flatMap->lz,mem_of_getElem?->fl,mem_of_mem_drop->ml,mem_of_mem_take->mj,mem_singleton->fc,nil_append->cD,pairwise_cons->du,pairwise_iff_getElem->ks,prefix_append->ff,prefix_refl->cv
open Nat renaming le_refl->bq
open Option renaming bind_some->cJ,isSome_some->pD,none->aw,some->aj
open Prod renaming ext->jn,fst->jm,snd->dr
namespace Go.Proofs.YtodkbibbgakkdaaGreatDoor
open Go Go.Proofs Go.LX
namespace Pw
open Dk
theorem lnP_inv(most:Int):∀(p:List Str) (l:List Rec) (n:Int),∃rs,(Tg most p l n).1=l++rs/\Gl rs/\(Tg most p l n).2.1=n+((txt rs).length:Int)/\∃t,wR 10 p=txt rs++t/\((Tg most p l n).2.2=0->t=[])
  |[],l,n=>⟨[],by simp[Tg],JO,by simp[Tg,txt],[],by simp[wR,Lib.join_nil,txt],fun _=>rfl⟩
  |[x],l,n=>by
    unfold Tg;by_cases h:x=[]
    · rw[if_pos h];subst h;exact⟨[],by simp,JO,by simp[txt],[],by rw[Cs];rfl,fun _=>rfl⟩
    · rw[if_neg h];exact⟨[],by simp,JO,by simp[txt],x,by rw[Cs];rfl,fun h=>by simp at h⟩
  |x::y::r,l,n=>by
    unfold Tg;by_cases a:(nW x).2=0
    · rw[if_neg V];by_cases c:most<=(l.length:Int)
      · rw[if_pos c];exact⟨[],by simp,JO,by simp[txt],_,Z,fun h=>by simp at h⟩
      · rw[if_neg c];obtain⟨rs,e,g,f,t,d,i⟩:=lnP_inv most (y::r) (l++[(nW x).1])<|n+(x.length:Int)+1;obtain⟨k1,k2,b⟩:=read_ok (s:=x) (r:=(nW x).1) (by rw[<-a]);refine⟨(nW x).1::rs,by rw[e];simp,?_,?_,t,?_,i⟩
        · intro z hz;rcases bn.1 hz with rfl|hz
          · exact⟨k1,k2⟩
          · exact g z hz
        · rw[f];have:(Ao (nW x).1)=x:=b.symm;simp only[txt,bk,bw,this];omega
        · rw[zw,d];have:(Ao (nW x).1)=x:=b.symm;simp[txt,this]
    · rw[if_pos a];exact⟨[],by simp,JO,by simp[txt],_,Z,fun h=>absurd h a⟩
theorem ln_inv(most:Int)(s:Str):Gl (ln most s).1/\(ln most s).2.1=((txt (ln most s).1).length:Int)/\∃t,s=txt (ln most s).1++t/\((ln most s).2.2=0->t=[]):=by
 obtain⟨rs,a,c,e,t,b,d⟩:=lnP_inv most (jL 10 s) [] 0;rw[cD]at a;rw[Ct]at b;unfold ln;rw[a];exact⟨c,by rw[e];omega,t,b,d⟩
def Gn(d:iV):List Rec:=(ln 120 d.safe).1
def ma(d:iV):List Rec:=(SY d).2
structure DOk(d:iV):Prop where
 safe:d.safe=txt (Gn d)
 good:Gl (ma d)
 len:(ma d).length<=120
 room:d.safe.length+d.wait.length<=60000
 pre:Gn d<+:ma d
 whole:(SY d).1=⟨txt (ma d),[]⟩
 rroom:(txt (ma d)).length<=60000
 still:d.wait=[]->ma d=Gn d
theorem dOk{d:iV}(h:jh d=0):DOk d:=by
  obtain⟨k,m⟩:=Dk.xz h;obtain⟨g1,g2,t,c,j⟩:=ln_inv 120 d.safe;have l:=j m;subst l;rw[eI]at c;have p:((ln 120 d.safe).1.length:Int)<=120:=(aaQ 120 d.safe).2.2.2 V;obtain⟨k1,k2,u,f,n⟩:=ln_inv (120-((ln 120 d.safe).1.length:Int)) d.wait;have i:=(aaQ (120-((ln 120 d.safe).1.length:Int)) d.wait).2.2.2 V;have a:ma d=(ln 120 d.safe).1++(ln (120-((ln 120 d.safe).1.length:Int)) d.wait).1:=rfl;have b:d.wait.take (ln (120-((ln 120 d.safe).1.length:Int)) d.wait).2.1.toNat=txt (ln (120-((ln 120 d.safe).1.length:Int)) d.wait).1:=by
    generalize q:txt (ln (120-((ln 120 d.safe).1.length:Int)) d.wait).1=T at k2 f;rw[k2,bh,f,List.take_left]
  have o:(txt (ln (120-((ln 120 d.safe).1.length:Int)) d.wait).1).length<=d.wait.length:=by
    rw[<-b,ca];omega
  refine⟨c,?_,?_,k,?_,?_,?_,?_⟩
  · rw[a];exact fun r g=>(cE.1 g).elim (g1 r)<|k1 r
  · rw[a,bk];omega
  · rw[a];exact ff _ _
  · show(⟨d.safe++d.wait.take (ln (120-((ln 120 d.safe).1.length:Int)) d.wait).2.1.toNat,[]⟩:iV)=_;rw[b,a,NG,<-c]
  · rw[a,NG,bk,<-c];omega
  · intro e;rw[a,e];show _++(Tg _ (jL 10 []) [] 0).1=_;simp[jL,Tg,Gn]
theorem dOk_mk{a:List Rec}{w:Str}(h:Gl a)(c:a.length<=120)(b:(txt a).length+w.length<=60000):jh ⟨txt a,w⟩=0/\Gn ⟨txt a,w⟩=a:=by
 refine⟨Iq h c b,?_⟩;unfold Gn;rw[ln_all h V]
theorem note_disk{d:iV}(h:jh d=0)(q:d.wait=[]){r:Rec}(w:QT r){d1 d2:iV}(v:xD d r=(d1,0))(g:GV d1=(d2,0)):
    dV r=0/\d2=⟨txt (Gn d++[r]),[]⟩/\jh d2=0/\Gn d2=Gn d++[r]/\ma d2=Gn d++[r]/\(Gn d).length+1<=120:=by
  have j:=dOk h;obtain⟨u,z⟩:=d;simp only at q;subst q;have s:=j.safe;simp only at s;have f:=j.room;simp only[eE]at f;have o:=j.len;rw[j.still rfl]at o;have i:=j.good;rw[j.still rfl]at i;generalize y:Gn ⟨u,[]⟩=a at*;subst s;have e:=put_txt (a:=a) (b:=[]) (r:=r) i o (by simpa[txt]using f) w;rw[show txt ([]:List Rec)=[]from rfl,v]at e;rcases e with e|⟨e,er,el⟩
  · exact absurd Z e
  · rw[cD]at e el;obtain rfl:=congrArg jm e;simp only at g;have k:Gl [r]:=fun x l=>by rw[fc]at l;subst l;exact⟨er,w⟩
    have p:Gl (a++[r]):=fun x l=>(cE.1 l).elim (i x)<|k x;by_cases c:a.length+1<=120
    · rw[sync_txt i k (by simpa using c) el]at g;obtain rfl:=congrArg jm g;obtain⟨k1,k2⟩:=dOk_mk (a:=a++[r]) (w:=[]) p (by simpa using c) (by rw[NG];simp;omega);exact⟨er,Z,k1,k2,by rw[(dOk k1).still Z,k2],c⟩
    · exfalso;unfold GV syncT at g;rw[if_neg (by rw[Iq i o el];simp)]at g;simp only at g;have n:a.length=120:=by omega
      have:jh ⟨txt a++txt [r],[]⟩=2:=by
        unfold jh;simp only[eE,bk];rw[if_neg V];rw[ln_txt (txt [r]) i V];have m:jL 10 (txt [r])=[Ao r,[]]:=by
          have:=Xl [r] [];rw[eI]at this;rw[this];simp[jL]
        rw[m];unfold Tg;have t:nW (Ao r)=(r,0):=aaN er w;rw[t,if_neg zq3,if_pos V]
      rw[this]at g;simp at g
theorem tear_disk{d:iV}(h:jh d=0)(m:d.wait=[]){r:Rec}(w:QT r){d1:iV}(z:xD d r=(d1,0)){n:Int}(hn:0<=n/\n<=d1.wait.length):
    dV r=0/\(KZ d1 n).2=0/\jh (KZ d1 n).1=0/\Gn (KZ d1 n).1=Gn d/\(ma (KZ d1 n).1=Gn d\/ma (KZ d1 n).1=Gn d++[r]):=by
  have f:=dOk h;obtain⟨u,E⟩:=d;simp only at m;subst m;have o:=f.safe;simp only at o;have c:=f.room;simp only[eE]at c;have i:=f.len;rw[f.still rfl]at i;have g:=f.good;rw[f.still rfl]at g;generalize C:Gn ⟨u,[]⟩=a at*;subst o;have e:=put_txt (a:=a) (b:=[]) (r:=r) g i (by simpa[txt]using c) w;rw[show txt ([]:List Rec)=[]from rfl,z]at e;rcases e with e|⟨e,er,el⟩
  · exact absurd Z e
  · rw[cD]at e el;obtain rfl:=congrArg jm e;have v:jh ⟨txt a,txt [r]⟩=0:=Iq g i el;simp only at hn;have B:KZ ⟨txt a,txt [r]⟩ n=(⟨txt a,(txt [r]).take n.toNat⟩,0):=by
      unfold KZ;simp only;rw[if_neg (by rw[v];simp),if_neg V]
    rw[B];obtain⟨k1,k2⟩:=dOk_mk (a:=a) (w:=(txt [r]).take n.toNat) g i (by rw[ca];omega);refine⟨er,Z,k1,k2,?_⟩;have y:ma ⟨txt a,(txt [r]).take n.toNat⟩=a++(ln (120-(a.length:Int)) ((txt [r]).take n.toNat)).1:=by
      show(ln 120<|txt a).1++_=_;rw[ln_all g V]
    simp only;rw[y];obtain⟨j,t,A,p⟩:=take_txt [r] n.toNat;have k:Gl [r]:=fun x q=>by rw[fc]at q;subst q;exact⟨er,w⟩
    rw[A];cases j with
    |zero=>
      left;have:=(ln_torn (most:=120-(a.length:Int)) (rs:=[]) (t:=t) JO (by simp;omega) p).1;simp only[List.take_zero];rw[this,eI]
    |succ j=>
      simp only[List.take_succ_cons,List.take_nil];by_cases s:a.length+1<=120
      · right;rw[(ln_torn (most:=120-(a.length:Int)) k (by simp;omega) p).1]
      · left;have l:(120-(a.length:Int))=0:=by omega
        rw[l];have:=(aaQ 0<|txt [r]++t).2.2.2 V;have:(ln 0<|txt [r]++t).1=[]:=cl V;rw[this,eI]
end Pw
open Go Go.Proofs Go.LX
namespace Pw
open Dk
theorem QD{α:Type}{R:Rdr α}{g:α->List Int}(h:∀l x r,R l=aj (x,r)->l=g x++r):∀(n:Nat) (l:List Int) (xs:List α) (r:List Int),kC R n l=aj (xs,r)->l=xs.flatMap g++r/\xs.length=n
 |0,l,xs,r,e=>by
  have a:aj (([]:List α),l)=aj (xs,r):=e;cases a;exact⟨Z,Z⟩
 |n+1,l,xs,r,e=>by
  have a:(R l).bind (fun q=>(kC R n q.2).bind fun b=>aj (q.1::b.1,b.2))=aj (xs,r):=e;cases h1:R l with
  |none=>rw[h1]at a;cases a
  |some q=>
   rw[h1,cJ]at a;cases h2:kC R n q.2 with
   |none=>rw[h2]at a;cases a
   |some b=>
    rw[h2,cJ]at a;cases a;obtain⟨k1,k2⟩:=QD h n q.2 b.1 b.2 h2;refine⟨?_,by simp[k2]⟩;rw[h l q.1 q.2 h1,List.flatMap_cons,ck,<-k1]
theorem num_inv{l:List Int}{x:Int}{r:List Int}(h:H9 l=aj (x,r)):l=x::r:=by
 cases l with
 |nil=>cases h
 |cons a l=>cases h;rfl
theorem aaR{m:Int}{l:List Int}{x:Nat}{r:List Int}(h:uy m l=aj (x,r)):l=(x:Int)::r/\(x:Int)<=m:=by
  cases l with
  |nil=>cases h
  |cons a l=>
    unfold uy at h;simp only at h;by_cases b:0<=a/\a<=m
    · rw[if_pos b]at h;cases h;rw[Int.toNat_of_nonneg b.1];exact⟨Z,b.2⟩
    · rw[if_neg b]at h;cases h
theorem xE{α β:Type}{R:Rdr α}{f:α->Rdr β}{l:List Int}{y:β}{r:List Int}(h:iR R f l=aj (y,r)):∃x a,R l=aj (x,a)/\f x a=aj (y,r):=by
 unfold iR at h;cases e:R l with
 |none=>rw[e]at h;cases h
 |some q=>rw[e,cJ]at h;exact⟨q.1,q.2,Z,h⟩
theorem aaS{α:Type}{x y:α}{l r:List Int}(h:yI x l=aj (y,r)):x=y/\l=r:=by cases h;exact⟨Z,Z⟩
theorem val_inv{l:List Int}{x:Val}{r:List Int}(h:Yn l=aj (x,r)):l=[x.kind,x.n]++r:=by
 obtain⟨k,c,a,h⟩:=xE h;obtain⟨n,d,b,h⟩:=xE h;obtain⟨rfl,rfl⟩:=aaS h;rw[num_inv a,num_inv b];rfl
theorem row_inv{m:Int}{l:List Int}{x:List Val}{r:List Int}(h:Eo m l=aj (x,r)):l=rowP x++r:=by
 obtain⟨k,b,a,h⟩:=xE h;obtain⟨c,d⟩:=QD (fun l x r=>val_inv) k b x r h;rw[(aaR a).1,c,<-d];rfl
theorem fr_inv{l:List Int}{x:LX.Frame}{r:List Int}(h:SV l=aj (x,r)):l=frP x++r:=by
 obtain⟨a,n,f,h⟩:=xE h;obtain⟨b,j,g,h⟩:=xE h;obtain⟨c,m,i,h⟩:=xE h;obtain⟨d,k,e,h⟩:=xE h;obtain⟨rfl,rfl⟩:=aaS h;rw[num_inv f,num_inv g,num_inv i,row_inv e];rfl
theorem st_inv{l:List Int}{s:LX.State}{r:List Int}(h:SX l=aj (s,r)):l=xC s++r:=by
 obtain⟨a,A,q,h⟩:=xE h;obtain⟨b,z,t,h⟩:=xE h;obtain⟨n,v,y,h⟩:=xE h;obtain⟨f,o,i,h⟩:=xE h;obtain⟨k,m,j,h⟩:=xE h;obtain⟨c,d,w,h⟩:=xE h;obtain⟨rfl,rfl⟩:=aaS h;obtain⟨g,u⟩:=QD (fun l x r=>fr_inv) n v f o i;obtain⟨p,e⟩:=QD (fun l x r=>row_inv) k m c d w;rw[num_inv q,num_inv t,(aaR y).1,g,(aaR j).1,p,<-u,<-e];unfold xC;simp
structure Img(p:List bA)(l:List Int)(s:LX.State):Prop where
 un:dO p l=(s,0)
 st:wB p s
 idem:dM s=s
 eq:l=xC s
theorem img_of{p:List bA}(hp:KW p=0){l:List Int}(h:(dO p l).2=0):Img p l (dO p l).1:=by
  have g:dO p l=((dO p l).1,0):=by rw[<-h]
  have a:=g;unfold dO at h;by_cases c:1200<l.length
  · rw[if_pos c]at h;simp at h
  · rw[if_neg c]at h;cases e:SX l with
    |none=>rw[e]at h;simp at h
    |some q=>
      obtain⟨s,r⟩:=q;rw[e]at h;cases r with
      |cons x r=>simp at h
      |nil=>
        simp only at h;have f:dO p l=endP p s:=by unfold dO;rw[if_neg c,e]
        rw[f]at a⊢;unfold endP at h a⊢;rw[if_neg V]at h a⊢;by_cases d:ckS p s=0
        · rw[if_neg V]at h a⊢;by_cases b:dM s=s
          · rw[if_pos b]at h a⊢;refine⟨?_,JJ.1 d,b,?_⟩
            · rw[f];unfold endP;rw[if_neg V,if_neg V,if_pos b]
            · have:=st_inv e;rw[eI]at this;exact this
          · rw[if_neg b]at h;simp at h
        · rw[if_pos d]at h;exact absurd h d
theorem img_pack{p:List bA}(hp:KW p=0){s:LX.State}(h:wB p s):Img p (xC (dM s)) (dM s):=
 ⟨unpack_pack hp h,UJ (pU hp) h,NC (h.sw (pU hp)),rfl⟩
theorem valsP_mem{l:List Val}{x:Int}(h:x∈aaD l):∃v∈l,x=v.kind\/x=v.n:=by
 obtain⟨v,b,a⟩:=lz.1 h;simp at a;exact⟨v,b,a⟩
theorem K3{x:Int}(h: -2000000000<=x/\x<=2000000000):kv x:=⟨by omega,by omega⟩
theorem val_b{n:Nat}{v:Val}(h:kr n v)(hn:n<=24):(-2000000000<=v.kind/\v.kind<=2000000000)/\ -2000000000<=v.n/\v.n<=2000000000:=by unfold kr at h;omega
theorem row_b{n:Nat}{l:List Val}(h:∀v∈l,kr n v)(hn:n<=24)(c:l.length<=40):∀x∈rowP l,-2000000000<=x/\x<=2000000000:=by
  intro x a;rcases bn.1 a with rfl|a
  · omega
  · obtain⟨v,b,e⟩:=valsP_mem a;have:=val_b (h v b) hn;rcases e with rfl|rfl
    · exact this.1
    · exact this.2
theorem pack_b{p:List bA}(hp:mH p){s:LX.State}(h:wB p s):∀x∈xC s,kv x:=by
  have e:=h.small hp;have B:=e.frames;have n:=e.cells;have r:=h.status;have o:=h.bS;intro x a;refine K3 ?_;unfold xC at a;rcases bn.1 a with rfl|a
  · omega
  rcases bn.1 a with rfl|a
  · omega
  rcases bn.1 a with rfl|a
  · omega
  rcases cE.1 a with a|a
  · obtain⟨f,b,a⟩:=lz.1 a;obtain⟨q,g⟩:=AV h.frames f b;have w:=(hp.mem g.proc).2.2.2;have u:=(aF g.proc).1;have v:f.proc.toNat<p.length:=by
      have:=(aF g.proc).2;exact(kq.1 this).1
    have y:=hp.many;have hat:=g.at_;unfold uG at w;have i: -2000000000<=f.jD/\f.jD<=2000000000:=by
      have j:∀(l:List LX.Frame) (t:Int),t<=40->(∀f∈l,f.regs.length<=40)->ni p s.cells.length t l->∀f∈l,0<=f.jD/\f.jD<40:=by
        intro l;induction l with
        |nil=>intro t _ _ _ f b;cases b
        |cons g l ih=>
          intro t A k d f b;rcases bn.1 b with rfl|b
          · have:=d.2.1;omega
          · exact ih _ (by have:=k g zq3;omega) (fun z hz=>k z (bj _ hz)) d.2.2 f b
      have:=j s.frames 1 V e.regs h.frames f b;omega
    unfold frP at a;rcases bn.1 a with rfl|a
    · omega
    rcases bn.1 a with rfl|a
    · omega
    rcases bn.1 a with rfl|a
    · exact i
    · exact row_b g.vals n (e.regs f b) x a
  · rcases bn.1 a with rfl|a
    · omega
    · obtain⟨c,m,a⟩:=lz.1 a;exact row_b (h.cells.2 c m).2 n (by have:=e.fields c m;omega) x a
theorem img_b{p:List bA}(hp:mH p){l:List Int}{s:LX.State}(h:Img p l s):(∀x∈l,kv x)/\1<=l.length/\l.length<=1200:=by
 rw[h.eq];have:=aaF<|h.st.small hp;refine⟨pack_b hp h.st,?_,by omega⟩;unfold xC;simp
def nY(i:Int)(l:List Co):Option Co:=l.find? fun x=>ab (x.kz=i)
theorem Gp{i:Int}{l:List Co}{c:Co}(h:nY i l=aj c):c.kz=i/\c∈l:=by
 have a:=List.find?_some h;exact⟨by simpa using a,List.mem_of_find?_eq_some h⟩
theorem Fh{c:Co}{i:Int}:∀{l:List Co},(∀x∈l,x.kz≠c.kz)->nY i (Ia c l)=if i=c.kz then aj c else nY i l
  |[],_=>by
    unfold Ia nY;rw[fi];by_cases h:i=c.kz
    · rw[if_pos h,dT h.symm]
    · rw[if_neg h,dF (fun e=>h e.symm)]
  |x::r,hx=>by
    unfold Ia;by_cases a:x.kz<c.kz
    · rw[if_pos a];have b:=Fh (c:=c) (i:=i) (l:=r) fun y d=>hx y<|bj _ d;unfold nY at b⊢;rw[fi,fi,b];by_cases h:x.kz=i
      · rw[dT h];show aj x=_;rw[if_neg (by have:=hx x zq3;omega)]
      · rw[dF h]
    · rw[if_neg a];unfold nY;rw[fi];by_cases h:i=c.kz
      · rw[if_pos h,dT h.symm]
      · rw[if_neg h,dF (fun e=>h e.symm)]
theorem Ir{b:Rec}{i:Int}:∀{l:List Co},nY i (Oi b l)=if i=b.co then aw else nY i l
  |[]=>by simp[nY,Oi]
  |x::r=>by
    have c:=Ir (b:=b) (i:=i) (l:=r);unfold nY Oi at c⊢;rw[gR];by_cases h:x.kz=b.co
    · rw[dF V];simp only[cM,if_false];rw[c,fi];by_cases a:i=b.co
      · rw[if_pos a,if_pos a]
      · rw[if_neg a,if_neg a,dF V]
    · rw[dT h];simp only[if_true];rw[fi,fi,c];by_cases a:x.kz=i
      · rw[dT a];show aj x=_;rw[if_neg V]
      · rw[dF a]
inductive Did (r:Rec) (o n:Option Co):Prop
 |begin (h:r.kind=1/\r.aJ=1) (ho:o=aw) (hn:n=aj ⟨r.co,r.aJ,r.image,-1⟩)
 |take (h:r.kind=4/\r.aJ≠1) (ho:o=aw) (hn:n=aj ⟨r.co,r.aJ,r.image,-1⟩)
 |slice (c:Co) (h:r.kind=2) (ho:o=aj c) (he:c.aJ=r.aJ) (hf:c.offered= -1) (hn:n=aj ⟨c.kz,c.aJ,r.image,-1⟩)
 |offer (c:Co) (h:r.kind=3) (ho:o=aj c) (he:c.aJ=r.aJ) (hf:c.offered= -1) (hx:c.aJ≠100) (hn:n=aj ⟨c.kz,c.aJ,c.image,r.place⟩)
 |gone (c:Co) (h:r.kind=5) (ho:o=aj c) (he:c.aJ=r.aJ) (hf:c.offered≠ -1) (hn:n=aw)
theorem Xo{a:List Co}{r:Rec}(h:(iI a r).2=0):(∀i,i≠r.co->nY i (iI a r).1=nY i a)/\Did r (nY r.co a) (nY r.co (iI a r).1)/\ic r=0:=by
  have w:=(next_ok a r h).1;unfold iI at h⊢;by_cases q:ig a=0
  · by_cases o:ic r=0
    · have gr:=aaJ r o;rw[if_neg (by simpa using q),if_neg (by simpa using o)]at h⊢;have l:∀x∈Oi r a,x.kz≠r.co:=fun x m=>(Yo m).2;have u:S9 r a=nY r.co a:=rfl;cases e:S9 r a with
      |none=>
        rw[e]at h;rw[u]at e;simp only at h⊢;by_cases f:r.kind=1\/r.kind=4
        · rw[if_pos f]at h⊢;by_cases k:(ab (r.aJ=1) !=ab (r.kind=1))=ba
          · rw[if_pos k]at h;simp at h
          · rw[if_neg k];simp only;refine⟨fun i j=>?_,?_,o⟩
            · rw[Fh l,if_neg j,Ir,if_neg j]
            · rw[Fh l,if_pos rfl,e];rcases f with f|f
              · refine .begin ⟨f,?_⟩ Z Z;by_cases g:r.aJ=1
                · exact g
                · exact absurd (by simp[f,g]) k
              · refine .take ⟨f,?_⟩ Z Z;intro g;exact absurd (by simp[f,g]) k
        · rw[if_neg f]at h;simp at h
      |some c=>
        rw[e]at h;rw[u]at e;obtain⟨d,v⟩:=Gp e;simp only at h⊢;by_cases f:r.kind=1\/r.kind=4
        · rw[if_pos f]at h;simp at h
        · rw[if_neg f]at h⊢;by_cases k:(ab (r.aJ≠c.aJ)||(ab (c.offered≠ -1) !=ab (r.kind=5)))=ba
          · rw[if_pos k]at h;simp at h
          · rw[if_neg k]at h⊢;have g:c.aJ=r.aJ:=by
              by_cases g:r.aJ=c.aJ
              · exact g.symm
              · exact absurd (by simp[g]) k
            by_cases p:r.kind=5
            · rw[if_pos p];simp only;refine⟨fun i j=>by rw[Ir,if_neg j],?_,o⟩;rw[Ir,if_pos rfl,e];refine .gone c p Z g ?_ Z;intro n;exact absurd (by simp[p,n]) k
            · have n:c.offered= -1:=by
                by_cases n:c.offered= -1
                · exact n
                · exact absurd (by simp[p,n]) k
              rw[if_neg p]at h⊢;by_cases s:r.kind=2
              · rw[if_pos s];simp only;have b:∀x∈Oi r a,x.kz≠(⟨c.kz,c.aJ,r.image,c.offered⟩:Co).kz:=fun x m=>by simp only[d];exact l x m
                refine⟨fun i j=>?_,?_,o⟩
                · rw[Fh b,if_neg (by simp only[d];exact j),Ir,if_neg j]
                · rw[Fh b,if_pos (by simp only[d]),e];exact .slice c s Z g n (by rw[n])
              · rw[if_neg s]at h⊢;by_cases m:c.aJ=100
                · rw[if_pos m]at h;simp at h
                · rw[if_neg m];simp only;have t:r.kind=3:=by have:=gr.kind;omega
                  have b:∀x∈Oi r a,x.kz≠(⟨c.kz,c.aJ,c.image,r.place⟩:Co).kz:=fun x m=>by simp only[d];exact l x m
                  refine⟨fun i j=>?_,?_,o⟩
                  · rw[Fh b,if_neg (by simp only[d];exact j),Ir,if_neg j]
                  · rw[Fh b,if_pos (by simp only[d]),e];exact .offer c t Z g n m Z
    · rw[if_neg (by simpa using q),if_pos o]at h;exact absurd h o
  · rw[if_pos q]at h;exact absurd h q
end Pw
open Go Go.Proofs Go.LX
namespace Pw
open Dk
structure Oj where
 cos:List Co
 d:iV
 up:Bool
deriving DecidableEq
structure pG where
 prog:List bA
 places:List Oj
 bO:List fI
structure Hap where
 kind:Int
 place:Int
 co:Int
 n:Int
theorem regAt_ok{n:Nat}{r:List Val}(h:∀v∈r,kr n v)(i:Int):kr n (jO r i):=by
  unfold jO idx;by_cases a:0<=i
  · rw[if_pos a];cases e:r[i.toNat]? with
    |none=>exact .inl ⟨rfl,rfl⟩
    |some v=>exact h v (fl e)
  · rw[if_neg a];exact .inl ⟨Z,Z⟩
theorem said_b{a:List bA}(g:mH a){s:LX.State}(h:wB a s)(i:s.status=0){t:LX.State}{z:Int}{p:Bool}(b:Ak a s=aj (t,aj z,p)):kv z:=by
  have e:=((Al g h i b).2.2 Z).2;obtain⟨pre,f,x,c,m,k,l,j⟩:=Ip g h i;rw[l]at b;rw[j]at e;unfold uw at b;simp only[e]at b;rw[if_neg V,if_neg V,if_neg V,if_neg V,if_neg V,if_neg V,if_neg V,if_neg V,if_pos trivial]at b;by_cases d:(jO f.regs c.a).kind=1
  · rw[if_pos d]at b;have:=regAt_ok k.fr.vals c.a;have:=this.int d;cases b;exact K3 V
  · rw[if_neg d]at b;cases b
theorem run_said{a:List bA}(f:mH a):∀(m:Nat) (b:List Int) (n:Nat) (s:LX.State),wB a s->(∀x∈b,kv x)->∀x∈(xJ a m b n s).2.1,kv x
  |0,b,n,s,_,h=>h
  |m+1,b,n,s,hs,h=>by
    unfold xJ;by_cases g:s.status=0
    · rw[if_neg V];by_cases d:b.length=40/\Mw a s=9
      · rw[if_pos d];exact h
      · rw[if_neg d];cases e:Ak a s with
        |none=>exact h
        |some q=>
          obtain⟨t,o,p⟩:=q;have i:∀x∈b++o.toList,kv x:=by
            intro x c;rcases cE.1 c with c|c
            · exact h x c
            · cases o with
              |none=>cases c
              |some z=>simp at c;subst c;exact said_b f hs g e
          simp only;cases p with
          |true=>exact i
          |false=>exact run_said f m _ _ t (Al f hs g e).1 i
    · rw[if_pos g];exact h
def aaT(m:fI):Prop:=(0<=m.from_/\m.from_<=2)/\(0<=m.jD/\m.jD<=2)/\(0<=m.co/\m.co<=2)/\(2<=m.aJ/\m.aJ<=100)/\(m.taken=ba↔m.image=[])/\m.image.length<=1200
theorem mail_each:∀l:List fI,each Ay DW l ()=0↔∀m∈l,aaT m
  |[]=>by simp[rz,DW]
  |m::l=>by
    have f:=mail_each l;rw[gW];generalize each Ay DW l=K at f⊢;unfold Ay;by_cases d:(0<=m.from_/\m.from_<=2)/\(0<=m.jD/\m.jD<=2)/\(0<=m.co/\m.co<=2)/\(2<=m.aJ/\m.aJ<=100)
    · rw[show(((((((ab ((m.from_:Int)<0)||ab ((3:Int)<=m.from_))||ab ((m.jD:Int)<0))||ab ((3:Int)<=m.jD))||ab ((m.co:Int)<0))||ab ((3:Int)<=m.co))||ab ((m.aJ:Int)<2))||ab ((100:Int)<m.aJ))=ao by
        simp only[Bool.or_eq_false_iff,decide_eq_false_iff_not];omega,cond_false]
      by_cases b:(m.taken=ba↔m.image=[])/\m.image.length<=1200
      · rw[show((m.taken !=ab (((m.image.length:Int):Int)=0))||ab ((1200:Int)<(m.image.length:Int)))=ao by
          rw[dF (show¬(1200:Int)<(m.image.length:Int) by have:=b.2;omega),kt];by_cases a:m.image=[]
          · rw[b.1.2 a,a];simp
          · have:m.taken=false:=by
              cases e:m.taken with
              |false=>rfl
              |true=>exact absurd (b.1.1 e) a
            rw[this,dF (fun h=>a (cl V))];rfl,cond_false,f]
        constructor
        · intro h x c;rcases bn.1 c with rfl|c
          · exact⟨d.1,d.2.1,d.2.2.1,d.2.2.2,b⟩
          · exact h x c
        · exact fun h x c=>h x<|bj _ c
      · rw[show((m.taken !=ab (((m.image.length:Int):Int)=0))||ab ((1200:Int)<(m.image.length:Int)))=ba by
          by_cases g:m.image.length<=1200
          · rw[dF (show¬(1200:Int)<(m.image.length:Int) by omega),kt];by_cases a:m.image=[]
            · cases e:m.taken with
              |true=>exact absurd ⟨⟨fun _=>a,fun _=>e⟩,g⟩ b
              |false=>rw[a];simp
            · cases e:m.taken with
              |true=>rw[dF (fun h=>a (cl V))];rfl
              |false=>exact absurd ⟨⟨fun h=>(Bool.false_ne_true (e.symm.trans h)).elim,fun h=>absurd h a⟩,g⟩ b
          · rw[dT (show(1200:Int)<(m.image.length:Int) by omega),Bool.or_true],cond_true]
        constructor
        · intro h;simp at h
        · intro h;exact absurd (h m zq3).2.2.2.2 b
    · rw[show(((((((ab ((m.from_:Int)<0)||ab ((3:Int)<=m.from_))||ab ((m.jD:Int)<0))||ab ((3:Int)<=m.jD))||ab ((m.co:Int)<0))||ab ((3:Int)<=m.co))||ab ((m.aJ:Int)<2))||ab ((100:Int)<m.aJ))=ba by
        simp only[dy,decide_eq_true_eq];omega,cond_true]
      constructor
      · intro h;simp at h
      · intro h;have:=h m zq3;exact absurd ⟨this.1,this.2.1,this.2.2.1,this.2.2.2.1⟩ d
theorem JQ(l:List fI):dN l=0↔l.length<=40/\∀m∈l,aaT m:=by
  unfold dN;by_cases h:l.length<=40
  · rw[dF V,cond_false,mail_each];exact⟨fun x=>⟨h,x⟩,fun x=>x.2⟩
  · rw[dT V,cond_true];exact⟨fun x=>by simp at x,fun x=>absurd x.1 h⟩
def K4(p:List bA):List Co->Int
 |[]=>0
 |c::l=>if(dO p c.image).2≠0 then(dO p c.image).2 else K4 p l
theorem aaU(p:List bA):∀l,K4 p l=0↔∀c∈l,(dO p c.image).2=0
  |[]=>by simp[K4]
  |c::l=>by
    unfold K4;by_cases h:(dO p c.image).2=0
    · rw[if_neg V,aaU p l];simp[h]
    · rw[if_pos h];simp[h]
def BD(p:List bA)(x:Oj):Int:=
 if jh x.d≠0 then jh x.d else if x.up=ao then(if x.cos=[]then 0 else 4)else if x.d.wait≠[]then 4 else
 if(jC [] (ma x.d)).2≠0 then(jC [] (ma x.d)).2 else if(jC [] (ma x.d)).1≠x.cos then 4 else K4 p x.cos
structure PlR(p:List bA)(x:Oj):Prop where
 disk:jh x.d=0
 down:x.up=ao->x.cos=[]
 wait:x.up=ba->x.d.wait=[]
 cos:x.up=ba->jC [] (ma x.d)=(x.cos,0)
 img:∀c∈x.cos,(dO p c.image).2=0
theorem plc_iff(p:List bA)(x:Oj):BD p x=0↔PlR p x:=by
  unfold BD;by_cases b:jh x.d=0
  · rw[if_neg V];cases hu:x.up with
    |false=>
      simp only[if_true];by_cases a:x.cos=[]
      · rw[if_pos a];exact⟨fun _=>⟨b,fun _=>a,fun h=>(by rw[hu]at h;cases h),fun h=>(by rw[hu]at h;cases h),by rw[a];simp⟩,fun _=>rfl⟩
      · rw[if_neg a];exact⟨fun h=>by simp at h,fun h=>absurd (h.down hu) a⟩
    |true=>
      simp only[mN,if_false];by_cases a:x.d.wait=[]
      · rw[if_neg (by simpa using a)];by_cases e:(jC [] (ma x.d)).2=0
        · rw[if_neg V];by_cases c:(jC [] (ma x.d)).1=x.cos
          · rw[if_neg (by simpa using c),aaU];exact⟨fun h=>⟨b,fun h=>(by rw[hu]at h;cases h),fun _=>a,fun _=>by rw[<-c,<-e],h⟩,fun h=>h.img⟩
          · rw[if_pos c];exact⟨fun h=>by simp at h,fun h=>absurd (by rw[h.cos hu]) c⟩
        · rw[if_pos e];exact⟨fun h=>absurd h e,fun h=>absurd (by rw[h.cos hu]) e⟩
      · rw[if_pos a];exact⟨fun h=>by simp at h,fun h=>absurd (h.wait hu) a⟩
  · rw[if_pos b];exact⟨fun h=>absurd h b,fun h=>absurd h.disk b⟩
def PV(p:List bA):List Oj->Int
 |[]=>0
 |x::l=>if BD p x≠0 then BD p x else PV p l
theorem aaV(p:List bA):∀l,PV p l=0↔∀x∈l,PlR p x
  |[]=>by simp[PV]
  |x::l=>by
    unfold PV;by_cases h:BD p x=0
    · rw[if_neg V,aaV p l];have:=(plc_iff p x).1 h;simp[this]
    · rw[if_pos h];exact⟨fun a=>absurd a h,fun a=>absurd ((plc_iff p x).2<|a x zq3) h⟩
def NT(p:List bA):List fI->Int
 |[]=>0
 |m::l=>if m.taken=ba then NT p l else if(dO p m.image).2≠0 then(dO p m.image).2 else NT p l
theorem Xp(p:List bA):∀l,NT p l=0↔∀m∈l,m.taken=ao->(dO p m.image).2=0
  |[]=>by simp[NT]
  |m::l=>by
    unfold NT;by_cases a:m.taken=ba
    · rw[if_pos a,Xp p l];simp[a]
    · rw[if_neg a];have b:m.taken=false:=by simpa using a
      by_cases h:(dO p m.image).2=0
      · rw[if_neg V,Xp p l];simp[h]
      · rw[if_pos h];simp[h,b]
def Er(w:pG):Int:=
 if KW w.prog≠0 then KW w.prog else if w.places.length≠3 then 4 else if dN w.bO≠0 then dN w.bO else
 if PV w.prog w.places≠0 then PV w.prog w.places else NT w.prog w.bO
structure WR(w:pG):Prop where
 code:KW w.prog=0
 many:w.places.length=3
 mlen:w.bO.length<=40
 mok:∀m∈w.bO,aaT m
 pl:∀x∈w.places,PlR w.prog x
 mimg:∀m∈w.bO,m.taken=ao->(dO w.prog m.image).2=0
theorem w_iff(w:pG):Er w=0↔WR w:=by
  unfold Er;by_cases c:KW w.prog=0
  · rw[if_neg V];by_cases e:w.places.length=3
    · rw[if_neg V];by_cases d:dN w.bO=0
      · rw[if_neg V];by_cases b:PV w.prog w.places=0
        · rw[if_neg V,Xp];have a:=(JQ _).1 d;exact⟨fun h=>⟨c,e,a.1,a.2,(aaV _ _).1 b,h⟩,fun h=>h.mimg⟩
        · rw[if_pos b];exact⟨fun h=>absurd h b,fun h=>absurd ((aaV _ _).2 h.pl) b⟩
      · rw[if_pos d];exact⟨fun h=>absurd h d,fun h=>absurd ((JQ _).2 ⟨h.mlen,h.mok⟩) d⟩
    · rw[if_pos e];exact⟨fun h=>by simp at h,fun h=>absurd h.many e⟩
  · rw[if_pos c];exact⟨fun h=>absurd h c,fun h=>absurd h.code c⟩
def zP:Oj:=⟨[],zD,ao⟩
def iE(w:pG)(k:Int):Oj:=(idx w.places k).getD zP
def Fj(w:pG)(k:Int)(x:Oj):pG:=⟨w.prog,w.places.set k.toNat x,w.bO⟩
def pV(x:Oj)(r:Rec):Oj×Int:=
 if(iI x.cos r).2≠0 then(x,(iI x.cos r).2)else if(xD x.d r).2≠0 then(x,(xD x.d r).2)else
 if(GV (xD x.d r).1).2≠0 then(x,(GV (xD x.d r).1).2)else(⟨(iI x.cos r).1,(GV (xD x.d r).1).1,x.up⟩,0)
def Rc(x:Oj)(r:Rec)(keep:Int):Oj×Int:=
 if(iI x.cos r).2≠0 then(x,(iI x.cos r).2)else if(xD x.d r).2≠0 then(x,(xD x.d r).2)else
 (⟨[],(KZ (xD x.d r).1 (max 0 (min keep ((xD x.d r).1.wait.length:Int)))).1,ao⟩,0)
def GX(l:List fI)(m:fI):List fI:=if dN l≠0\/dN [m]≠0 then l else if l.length<40 then l++[m]else l
def uA(p:List bA)(k:Int)(c:Co)(fuel:Int):Rec×Int:=
 if 0<=c.offered then(⟨2,c.kz,c.aJ,0,[],[]⟩,7)else
 if(dO p c.image).2≠0 then(⟨2,c.kz,c.aJ,0,[],[]⟩,(dO p c.image).2)else
 if(dO p c.image).1.status=3/\0<=(dO p c.image).1.bS/\(dO p c.image).1.bS<3/\(dO p c.image).1.bS≠k then(⟨3,c.kz,c.aJ,(dO p c.image).1.bS,[],[]⟩,0)else
 if(wake (dO p c.image).1).status≠0 then(⟨2,c.kz,c.aJ,0,[],[]⟩,7)else
 (⟨2,c.kz,c.aJ,0,(xJ p fuel.toNat [] 0 (wake (dO p c.image).1)).2.1,xC (dM (xJ p fuel.toNat [] 0 (wake (dO p c.image).1)).1)⟩,0)
def Ta(k:Int)(c:Co):fI:=⟨k,c.offered,c.kz,c.aJ+1,ao,c.image⟩
def runW(w:pG)(x:Hap):pG×Int:=
 match nY x.co (iE w x.place).cos with
 |none=>(w,5)
 |some c=>
  let fuel:=if x.kind=9 then 2000 else x.n
  if fuel<1\/2000<fuel then(w,3)else
  let q:=uA w.prog x.place c fuel
  if q.2≠0 then(w,q.2)else
  if x.kind=9 then(Fj w x.place (Rc (iE w x.place) q.1 x.n).1,(Rc (iE w x.place) q.1 x.n).2)else
  if(pV (iE w x.place) q.1).2≠0 then(w,(pV (iE w x.place) q.1).2)else
  let v:=Fj w x.place (pV (iE w x.place) q.1).1
  if q.1.kind=3 then(⟨v.prog,v.places,GX v.bO (Ta x.place ⟨c.kz,c.aJ,c.image,q.1.place⟩)⟩,0)else(v,0)
def Yq(w:pG)(x:Hap):pG×Int:=
 match nY x.co (iE w x.place).cos with
 |none=>(w,5)
 |some c=>if c.offered<0 then(w,7)else(⟨w.prog,w.places,GX w.bO (Ta x.place c)⟩,0)
def aaW(w:pG)(k i:Int):pG×Int:=
 if i≠k then(w,5)else if(ma (iE w k).d).any (fun r=>ab (r.kind=1))then(w,6)else
 let r:Rec:=⟨1,i,1,0,[],xC (dM (vY w.prog))⟩
 (Fj w k (pV (iE w k) r).1,(pV (iE w k) r).2)
def hadP(x:Oj)(i e:Int):Bool:=(ma x.d).any fun r=>ab (r.kind=4)&&ab (r.co=i)&&ab (e<=r.aJ)
def hearW(w:pG)(i:Int)(a:Bool):pG×Int:=
 if i<0\/(w.bO.length:Int)<=i then(w,5)else
 let m:=(w.bO[i.toNat]?).getD zMail
 if(iE w m.jD).up=ao then(w,7)else
 let v:pG:=⟨w.prog,w.places,if a then w.bO else w.bO.take i.toNat++w.bO.drop (i.toNat+1)⟩
 if m.taken then
  match nY m.co (iE v m.jD).cos with
  |none=>(v,0)
  |some c=>if c.aJ≠m.aJ-1\/c.offered≠m.from_ then(v,0)else
   (Fj v m.jD (pV (iE v m.jD) ⟨5,m.co,m.aJ-1,0,[],[]⟩).1,(pV (iE v m.jD) ⟨5,m.co,m.aJ-1,0,[],[]⟩).2)
 else
  let b:fI:=⟨m.jD,m.from_,m.co,m.aJ,ba,[]⟩
  if hadP (iE v m.jD) m.co m.aJ then(⟨v.prog,v.places,GX v.bO b⟩,0)else
  let r:Rec:=⟨4,m.co,m.aJ,0,[],m.image⟩
  if(pV (iE v m.jD) r).2≠0 then(v,(pV (iE v m.jD) r).2)else
  let u:=Fj v m.jD (pV (iE v m.jD) r).1
  (⟨u.prog,u.places,GX u.bO b⟩,0)
def bootW(w:pG)(k:Int):pG×Int:=
 if(iE w k).up=ba then(w,7)else
 if(jC [] (ma (iE w k).d)).2≠0 then(w,(jC [] (ma (iE w k).d)).2)else
 if K4 w.prog (jC [] (ma (iE w k).d)).1≠0 then(w,K4 w.prog (jC [] (ma (iE w k).d)).1)else
 (Fj w k ⟨(jC [] (ma (iE w k).d)).1,(SY (iE w k).d).1,ba⟩,0)
def fO(w:pG)(x:Hap):pG×Int:=
 if x.kind=4\/x.kind=5 then hearW w x.n (ab (x.kind=5))else
 if x.kind=6 then(if x.n<0\/(w.bO.length:Int)<=x.n then(w,5)else(⟨w.prog,w.places,w.bO.take x.n.toNat++w.bO.drop (x.n.toNat+1)⟩,0))else
 if x.kind<1\/9<x.kind then(w,4)else
 if x.place<0\/(w.places.length:Int)<=x.place then(w,5)else
 if x.kind=8 then bootW w x.place else
 if(iE w x.place).up=ao then(w,7)else
 if x.kind=1 then aaW w x.place x.co else
 if x.kind=3 then Yq w x else
 if x.kind=7 then(Fj w x.place ⟨[],(iE w x.place).d,ao⟩,0)else runW w x
end Pw
open Go Go.Proofs Go.LX
namespace Pw
open Dk
theorem findC_mem{l:List Co}(a:Up l){c:Co}(h:c∈l):nY c.kz l=aj c:=by
  induction l with
  |nil=>cases h
  |cons x r ih=>
    rw[Up,du]at a;unfold nY;rw[fi];rcases bn.1 h with rfl|h
    · rw[dT rfl]
    · have:=a.1 c h;rw[dF V];exact ih a.2 h
theorem good0:Dk.Good []:=⟨by simp,fun x h=>(by cases h),List.Pairwise.nil⟩
def Off(l:List Co):Prop:=∀c∈l,c.offered≠ -1->c.aJ≠100
theorem rep_good:∀(l:List Rec) (s:List Co),Dk.Good s->Off s->(jC s l).2=0->Dk.Good (jC s l).1/\Off (jC s l).1
  |[],s,h,ho,_=>⟨h,ho⟩
  |r::l,s,h,ho,e=>by
    unfold jC at e⊢;by_cases b:(iI s r).2=0
    · rw[if_neg V]at e⊢;have f:=(next_ok s r b).2.1;obtain⟨k1,k2,-⟩:=Xo b;refine rep_good l _ f ?_ e;intro c g;have a:=findC_mem f.up g;by_cases d:c.kz=r.co
      · rw[d]at a;rw[a]at k2;rcases k2 with⟨_,_,hn⟩|⟨_,_,hn⟩|⟨c0,_,_,_,_,hn⟩|⟨c0,_,_,_,_,hx,hn⟩|⟨_,_,_,_,_,hn⟩
        · cases hn;exact fun h=>absurd Z h
        · cases hn;exact fun h=>absurd Z h
        · cases hn;exact fun h=>absurd Z h
        · cases hn;exact fun _=>hx
        · cases hn
      · rw[k1 _ d]at a;exact ho c (Gp a).2
    · rw[if_pos b]at e;exact absurd e b
theorem PlR.good{p:List bA}{x:Oj}(h:PlR p x):Dk.Good x.cos/\Off x.cos:=by
 cases hu:x.up with
 |true=>
  have e:=h.cos hu;have:=rep_good (ma x.d) [] good0 (fun c a=>by cases a) (by rw[e]);rw[e]at this;exact this
 |false=>rw[h.down hu];exact⟨good0,fun c a=>by cases a⟩
structure Noted(p:List bA)(x x':Oj)(r:Rec):Prop where
 pl:PlR p x'
 up:x'.up=ba
 slog:Gn x'.d=Gn x.d++[r]
 flog:ma x'.d=ma x.d++[r]
 fs:ma x.d=Gn x.d
 cos:x'.cos=(iI x.cos r).1
 ok:(iI x.cos r).2=0
theorem rep_snoc{l:List Rec}{r:Rec}{s a:List Co}(h:jC s l=(a,0)):jC s (l++[r])=if(iI a r).2≠0 then([],(iI a r).2)else((iI a r).1,0):=by
  rw[pRep_app,h];simp only;rw[if_neg zq3];unfold jC;by_cases h:(iI a r).2=0
  · rw[if_neg V,if_neg V];rfl
  · rw[if_pos h,if_pos h]
theorem next_img{p:List bA}{a:List Co}{r:Rec}(b:(iI a r).2=0)(g:∀c∈a,(dO p c.image).2=0)(e:(r.kind=1\/r.kind=2\/r.kind=4)->(dO p r.image).2=0):∀c∈(iI a r).1,(dO p c.image).2=0:=by
  intro c h;have i:=(next_ok a r b).2.1;obtain⟨k1,k2,-⟩:=Xo b;have d:=findC_mem i.up h;by_cases f:c.kz=r.co
  · rw[f]at d;rw[d]at k2;rcases k2 with⟨hk,_,hn⟩|⟨hk,_,hn⟩|⟨c0,hk,_,_,_,hn⟩|⟨c0,_,ho,_,_,hx,hn⟩|⟨_,_,_,_,_,hn⟩
    · cases hn;exact e (.inl hk.1)
    · cases hn;exact e (.inr<|.inr hk.1)
    · cases hn;exact e (.inr<|.inl hk)
    · cases hn;exact g c0 (Gp ho).2
    · cases hn
  · rw[k1 _ f]at d;exact g c (Gp d).2
theorem Yr{p:List bA}{x x':Oj}{r:Rec}(h:PlR p x)(c:x.up=ba)(w:QT r)(n:(r.kind=1\/r.kind=2\/r.kind=4)->(dO p r.image).2=0)(e:pV x r=(x',0)):Noted p x x' r:=by
  unfold pV at e;by_cases f:(iI x.cos r).2=0
  · rw[if_neg V]at e;by_cases g:(xD x.d r).2=0
    · rw[if_neg V]at e;by_cases i:(GV (xD x.d r).1).2=0
      · rw[if_neg V]at e;obtain rfl:=congrArg jm e;have b:=h.disk;have o:=dOk b;have k:=h.wait c;obtain⟨t,m,l,q,j,s⟩:=note_disk b k w (d1:=(xD x.d r).1) (d2:=(GV (xD x.d r).1).1) (by rw[<-g]) (by rw[<-i]);have a:=o.still k;refine⟨⟨l,fun b=>(by simp only[c]at b;cases b),fun _=>(by rw[m]),fun _=>?_,next_img f h.img n⟩,c,q,by rw[j,a],a,Z,f⟩;simp only;rw[j,<-a,rep_snoc (h.cos c),if_neg V]
      · rw[if_pos i]at e;exact absurd (congrArg dr e) i
    · rw[if_pos g]at e;exact absurd (congrArg dr e) g
  · rw[if_pos f]at e;exact absurd (congrArg dr e) f
structure Torn(p:List bA)(x x':Oj)(r:Rec):Prop where
 pl:PlR p x'
 down:x'.up=ao
 slog:Gn x'.d=Gn x.d
 flog:ma x'.d=ma x.d\/ma x'.d=ma x.d++[r]
 fs:ma x.d=Gn x.d
 ok:(iI x.cos r).2=0
theorem tear_ok{p:List bA}{x x':Oj}{r:Rec}{n:Int}(h:PlR p x)(l:x.up=ba)(w:QT r)(e:Rc x r n=(x',0)):Torn p x x' r:=by
  unfold Rc at e;by_cases f:(iI x.cos r).2=0
  · rw[if_neg V]at e;by_cases g:(xD x.d r).2=0
    · rw[if_neg V]at e;obtain rfl:=congrArg jm e;have i:=h.wait l;have a:=(dOk h.disk).still i;obtain⟨s,q,j,o,k⟩:=tear_disk h.disk i w (d1:=(xD x.d r).1) (by rw[<-g]) (n:=max 0<|min n ((xD x.d r).1.wait.length:Int)) V;refine⟨⟨j,fun _=>rfl,fun b=>(by cases b),fun b=>(by cases b),fun c m=>(by cases m)⟩,Z,o,by rw[a];exact k,a,f⟩
    · rw[if_pos g]at e;exact absurd (congrArg dr e) g
  · rw[if_pos f]at e;exact absurd (congrArg dr e) f
theorem pAt_eq{w:pG}{k:Int}(h:0<=k/\k<w.places.length):idx w.places k=aj (iE w k)/\iE w k∈w.places/\w.places[k.toNat]? =aj (iE w k):=by
 obtain⟨n,rfl⟩:=bs h.1;have hn:n<w.places.length:=by omega
 have e:idx w.places (n:Int)=aj w.places[n]:=xM hn;unfold iE;rw[e];exact⟨Z,cx hn,by simp[hn]⟩
theorem pAt_set{w:pG}{k j:Int}(x:Oj)(b:0<=k/\k<w.places.length)(a:0<=j/\j<w.places.length):iE (Fj w k x) j=if j=k then x else iE w j:=by
  obtain⟨n,rfl⟩:=bs b.1;obtain⟨m,rfl⟩:=bs a.1;unfold iE Fj;rw[jP,jP,bh,eW];by_cases h:n=m
  · subst h;rw[if_pos rfl,if_pos V,if_pos rfl];rfl
  · rw[if_neg h,if_neg V]
theorem WR.at{w:pG}(h:WR w){k:Int}(a:0<=k/\k<=2):PlR w.prog (iE w k):=h.pl _ (pAt_eq ⟨a.1,by have:=h.many;omega⟩).2.1
theorem WR.set{w:pG}(h:WR w){k:Int}{x:Oj}(hx:PlR w.prog x):WR (Fj w k x) where
  code:=h.code
  many:=by show(w.places.set k.toNat x).length=3;rw[cm];exact h.many
  mlen:=h.mlen
  mok:=h.mok
  pl:=fun y hy=>by
    rcases List.mem_or_eq_of_mem_set hy with hy|rfl
    · exact h.pl y hy
    · exact hx
  mimg:=h.mimg
theorem WR.NT{w:pG}(h:WR w){l:List fI}(c:l.length<=40)(b:∀m∈l,aaT m/\(m.taken=ao->(dO w.prog m.image).2=0)):WR ⟨w.prog,w.places,l⟩:=
 ⟨h.code,h.many,c,fun m a=>(b m a).1,h.pl,fun m a=>(b m a).2⟩
instance:DecidablePred aaT:=fun m=>by unfold aaT;infer_instance
theorem sendP_eq{w:pG}(h:WR w)(m:fI):GX w.bO m=if aaT m/\w.bO.length<40 then w.bO++[m]else w.bO:=by
  unfold GX;have e:dN w.bO=0:=(JQ _).2 ⟨h.mlen,h.mok⟩;by_cases b:aaT m
  · have d:dN [m]=0:=(JQ _).2 ⟨by simp,fun x c=>by rw[fc]at c;rw[c];exact b⟩;rw[if_neg V];by_cases a:w.bO.length<40
    · rw[if_pos a,if_pos ⟨b,a⟩]
    · rw[if_neg a,if_neg (fun h=>a h.2)]
  · have d:dN [m]≠0:=fun h=>b (((JQ _).1 h).2 m zq3);rw[if_pos (.inr d),if_neg (fun h=>b h.1)]
theorem WR.send{w:pG}(h:WR w){m:fI}(c:m.taken=ao->(dO w.prog m.image).2=0):WR ⟨w.prog,w.places,GX w.bO m⟩:=by
  rw[sendP_eq h];by_cases b:aaT m/\w.bO.length<40
  · rw[if_pos b];refine h.NT (by simp;omega) (fun x a=>?_);rcases cE.1 a with a|a
    · exact⟨h.mok x a,h.mimg x a⟩
    · rw[fc]at a;subst a;exact⟨b.1,c⟩
  · rw[if_neg b];exact h.NT h.mlen (fun x a=>⟨h.mok x a,h.mimg x a⟩)
theorem WR.drop{w:pG}(h:WR w)(n:Nat):WR ⟨w.prog,w.places,w.bO.take n++w.bO.drop (n+1)⟩:=by
 refine h.NT (by have:=h.mlen;simp;omega) (fun x a=>?_);have:x∈w.bO:=(cE.1 a).elim mj ml;exact⟨h.mok x this,h.mimg x this⟩
theorem Kv{k c e pl:Int}{s i:List Int}(g:1<=k/\k<=5)(d:0<=c/\c<=2)(h:0<=e/\e<=100)(f:0<=pl/\pl<=2)(a:∀x∈s,kv x)(b:∀x∈i,kv x):QT ⟨k,c,e,pl,s,i⟩:=
 ⟨K3 (by simp only;omega),K3 (by simp only;omega),K3 (by simp only;omega),K3 (by simp only;omega),a,b⟩
structure Sliced(p:List bA)(k:Int)(c:Co)(fuel:Int)(r:Rec):Prop where
 w:QT r
 co:r.co=c.kz
 aJ:r.aJ=c.aJ
 runs:c.offered= -1
 how:(r.kind=2/\r.place=0/\(wake (dO p c.image).1).status=0/\r.says=(xJ p fuel.toNat [] 0 (wake (dO p c.image).1)).2.1/\r.image=xC (dM (xJ p fuel.toNat [] 0 (wake (dO p c.image).1)).1)/\(dO p r.image).2=0)\/(r.kind=3/\(0<=r.place/\r.place<=2)/\r.place≠k/\r.says=[]/\r.image=[])
 img:Img p c.image (dO p c.image).1
theorem slice_ok{p:List bA}(hp:KW p=0){k:Int}{c:Co}{fuel:Int}{r:Rec}(n:coOk c)(e:uA p k c fuel=(r,0)):Sliced p k c fuel r:=by
  have g:=pU hp;obtain⟨c1,c2,s,m,t,q,-⟩:=n;unfold uA at e;by_cases j:0<=c.offered
  · rw[if_pos j]at e;simp at e
  · rw[if_neg j]at e;by_cases f:(dO p c.image).2=0
    · rw[if_neg V]at e;have h:=img_of hp f;by_cases i:(dO p c.image).1.status=3/\0<=(dO p c.image).1.bS/\(dO p c.image).1.bS<3/\(dO p c.image).1.bS≠k
      · rw[if_pos i]at e;obtain rfl:=congrArg jm e;exact⟨Kv V ⟨c1,c2⟩ ⟨by omega,m⟩ V (fun x a=>(by cases a)) (fun x a=>(by cases a)),Z,Z,by omega,.inr ⟨Z,by simp only;omega,i.2.2.2,rfl,rfl⟩,h⟩
      · rw[if_neg i]at e;by_cases l:(wake (dO p c.image).1).status=0
        · rw[if_neg V]at e;obtain rfl:=congrArg jm e;have d:=UQ h.st;have o:=(Xj g fuel.toNat [] 0 _ d zq3).1;have b:=img_pack hp o;refine⟨Kv V ⟨c1,c2⟩ ⟨by omega,m⟩ V (run_said g _ _ _ _ d (fun x a=>by cases a)) (img_b g b).1,Z,Z,by omega,.inl ⟨Z,Z,l,Z,Z,by simp only;rw[b.un]⟩,h⟩
        · rw[if_pos l]at e;simp at e
    · rw[if_pos f]at e;exact absurd (congrArg dr e) f
theorem begin_img{p:List bA}(hp:KW p=0):Img p (xC (dM (vY p))) (dM (vY p)):=img_pack hp (aax (pU hp))
end Pw
open Go Go.Proofs Go.LX
namespace Pw
open Dk
def ansM(m:fI):fI:=⟨m.jD,m.from_,m.co,m.aJ,ba,[]⟩
def Xq(p:List bA)(k:Int):Rec:=⟨1,k,1,0,[],xC (dM (vY p))⟩
inductive Ev (w w':pG):Prop
 |begin (k:Int) (x':Oj) (hk:0<=k/\k<=2) (up:(iE w k).up=ba) (hno:∀r∈ma (iE w k).d,r.kind≠1) (N:Noted w.prog (iE w k) x' (Xq w.prog k)) (hp:w'.places=w.places.set k.toNat x') (hm:w'.bO=w.bO)
 |run (k:Int) (c:Co) (fuel:Int) (r:Rec) (x':Oj) (hk:0<=k/\k<=2) (up:(iE w k).up=ba) (hc:nY c.kz (iE w k).cos=aj c) (hf:1<=fuel/\fuel<=2000) (S:Sliced w.prog k c fuel r) (N:Noted w.prog (iE w k) x' r) (hp:w'.places=w.places.set k.toNat x') (hm:w'.bO=if r.kind=3 then GX w.bO (Ta k ⟨c.kz,c.aJ,c.image,r.place⟩)else w.bO)
 |tear (k:Int) (c:Co) (r:Rec) (x':Oj) (hk:0<=k/\k<=2) (up:(iE w k).up=ba) (hc:nY c.kz (iE w k).cos=aj c) (S:Sliced w.prog k c 2000 r) (T:Torn w.prog (iE w k) x' r) (hp:w'.places=w.places.set k.toNat x') (hm:w'.bO=w.bO)
 |send (k:Int) (c:Co) (hk:0<=k/\k<=2) (up:(iE w k).up=ba) (hc:nY c.kz (iE w k).cos=aj c) (ho:0<=c.offered) (hp:w'.places=w.places) (hm:w'.bO=GX w.bO (Ta k c))
 |gone (m:fI) (c:Co) (x':Oj) (hi:m∈w.bO) (ht:m.taken=ba) (up:(iE w m.jD).up=ba) (hc:nY m.co (iE w m.jD).cos=aj c) (he:c.aJ=m.aJ-1) (ho:c.offered=m.from_) (N:Noted w.prog (iE w m.jD) x' ⟨5,m.co,m.aJ-1,0,[],[]⟩) (hp:w'.places=w.places.set m.jD.toNat x') (hm:∀y∈w'.bO,y∈w.bO)
 |take (m:fI) (x':Oj) (hi:m∈w.bO) (ht:m.taken=ao) (up:(iE w m.jD).up=ba) (hno:hadP (iE w m.jD) m.co m.aJ=ao) (N:Noted w.prog (iE w m.jD) x' ⟨4,m.co,m.aJ,0,[],m.image⟩) (hp:w'.places=w.places.set m.jD.toNat x') (hm:∀y∈w'.bO,y∈w.bO\/y=ansM m)
 |again (m:fI) (hi:m∈w.bO) (ht:m.taken=ao) (up:(iE w m.jD).up=ba) (had:hadP (iE w m.jD) m.co m.aJ=ba) (hp:w'.places=w.places) (hm:∀y∈w'.bO,y∈w.bO\/y=ansM m)
 |still (hp:w'.places=w.places) (hm:∀y∈w'.bO,y∈w.bO)
 |crash (k:Int) (hk:0<=k/\k<=2) (up:(iE w k).up=ba) (hp:w'.places=w.places.set k.toNat ⟨[],(iE w k).d,ao⟩) (hm:w'.bO=w.bO)
 |boot (k:Int) (hk:0<=k/\k<=2) (down:(iE w k).up=ao) (ok:(jC [] (ma (iE w k).d)).2=0) (hp:w'.places=w.places.set k.toNat ⟨(jC [] (ma (iE w k).d)).1,(SY (iE w k).d).1,ba⟩) (hm:w'.bO=w.bO)
theorem boot_disk{d:iV}(h:jh d=0):jh (SY d).1=0/\Gn (SY d).1=ma d/\ma (SY d).1=ma d/\(SY d).1.wait=[]:=by
 have b:=dOk h;rw[b.whole];obtain⟨k1,k2⟩:=dOk_mk (a:=ma d) (w:=[]) b.good b.len (by have:=b.rroom;simp;omega);exact⟨k1,k2,by rw[(dOk k1).still Z,k2],Z⟩
theorem UU{w:pG}(h:WR w){m y:fI}(a:y∈GX w.bO m):y∈w.bO\/y=m:=by
  rw[sendP_eq h]at a;by_cases b:aaT m/\w.bO.length<40
  · rw[if_pos b]at a;simpa using a
  · rw[if_neg b]at a;exact .inl a
theorem hear_ev{w w':pG}(h:WR w){i:Int}{t:Bool}(e:hearW w i t=(w',0)):WR w'/\w'.prog=w.prog/\Ev w w':=by
  unfold hearW at e;by_cases C:i<0\/(w.bO.length:Int)<=i
  · rw[if_pos C]at e;simp at e
  · rw[if_neg C]at e;obtain⟨n,rfl⟩:=bs (by omega:0<=i);have hn:n<w.bO.length:=by omega
    have K:(w.bO[n]?).getD zMail=w.bO[n]:=by rw[bc hn];rfl
    simp only[bh]at e;simp only[K]at e;have a:w.bO[n]∈w.bO:=cx hn;generalize w.bO[n]=m at*;have d:=h.mok m a;by_cases v:(iE w m.jD).up=ao
    · rw[if_pos v]at e;simp at e
    · rw[if_neg v]at e;have f:(iE w m.jD).up=true:=by simpa using v
      have p:WR ⟨w.prog,w.places,if t=ba then w.bO else w.bO.take n++w.bO.drop (n+1)⟩:=by
        cases t with
        |true=>exact h
        |false=>exact h.drop n
      have b:∀y∈(if t=ba then w.bO else w.bO.take n++w.bO.drop (n+1)),y∈w.bO:=by
        intro y o;cases t with
        |true=>exact o
        |false=>exact(cE.1 o).elim mj ml
      generalize M:(if t=ba then w.bO else w.bO.take n++w.bO.drop (n+1))=L at*;have s:∀k,iE (⟨w.prog,w.places,L⟩:pG) k=iE w k:=fun k=>rfl;simp only[s]at e;have hat:=h.at ⟨d.2.1.1,d.2.1.2⟩;cases ht:m.taken with
      |true=>
        rw[ht]at e;simp only[if_true]at e;cases hf:nY m.co (iE w m.jD).cos with
        |none=>
          rw[hf]at e;cases e;exact⟨p,Z,.still Z b⟩
        |some c=>
          rw[hf]at e;simp only at e;by_cases l:c.aJ≠m.aJ-1\/c.offered≠m.from_
          · rw[if_pos l]at e;cases e;exact⟨p,Z,.still Z b⟩
          · rw[if_neg l]at e;have F:=congrArg dr e;have E:=congrArg jm e;simp only at E F;have N:=Yr (x':=(pV (iE w m.jD) ⟨5,m.co,m.aJ-1,0,[],[]⟩).1) (r:=⟨5,m.co,m.aJ-1,0,[],[]⟩) hat f (Kv V d.2.2.1 (by have:=d.2.2.2.1;omega) V (fun x q=>(by cases q)) (fun x q=>(by cases q))) (fun h=>by simp only at h;omega) (jn Z F);subst E;exact⟨p.set N.pl,Z,.gone m c _ a ht f hf V V N Z b⟩
      |false=>
        rw[ht]at e;simp only[cM,if_false]at e;have j:∀{u:pG},WR u->WR ⟨u.prog,u.places,GX u.bO<|ansM m⟩:=fun G=>G.send (fun h=>by cases h);by_cases l:hadP (iE w m.jD) m.co m.aJ=ba
        · rw[if_pos l]at e;cases e;refine⟨j p,Z,.again m a ht f l Z fun y o=>?_⟩;exact(UU p o).imp (b y) id
        · rw[if_neg l]at e;have z:hadP (iE w m.jD) m.co m.aJ=false:=by simpa using l
          by_cases A:(pV (iE w m.jD) ⟨4,m.co,m.aJ,0,[],m.image⟩).2=0
          · rw[if_neg V]at e;have g:=h.mimg m a ht;have I:=img_of h.code g;have N:=Yr (x':=(pV (iE w m.jD) ⟨4,m.co,m.aJ,0,[],m.image⟩).1) (r:=⟨4,m.co,m.aJ,0,[],m.image⟩) hat f (Kv V d.2.2.1 (by have:=d.2.2.2.1;omega) V (fun x q=>(by cases q)) (img_b (pU h.code) I).1) (fun _=>g) (jn Z A);cases e;have B:=p.set (k:=m.jD) N.pl;refine⟨j B,Z,.take m _ a ht f z N Z fun y o=>?_⟩;exact(UU B o).imp (b y) id
          · rw[if_pos A]at e;exact absurd (congrArg dr e) A
theorem run_ev{w w':pG}(h:WR w){x:Hap}(f:0<=x.place/\x.place<=2)(a:(iE w x.place).up=ba)(e:runW w x=(w',0)):WR w'/\w'.prog=w.prog/\Ev w w':=by
  unfold runW at e;have hat:=h.at f;cases hf:nY x.co (iE w x.place).cos with
  |none=>rw[hf]at e;simp at e
  |some c=>
    rw[hf]at e;simp only at e;obtain⟨l,t⟩:=Gp hf;rw[<-l]at hf;have g:=hat.good.1.ok c t;generalize d:(if x.kind=9 then(2000:Int)else x.n)=fuel at e;by_cases p:fuel<1\/2000<fuel
    · rw[if_pos p]at e;simp at e
    · rw[if_neg p]at e;by_cases j:(uA w.prog x.place c fuel).2=0
      · rw[if_neg V]at e;have S:=slice_ok h.code (r:=(uA w.prog x.place c fuel).1) g<|jn Z j;generalize (uA w.prog x.place c fuel).1=r at*;have u:(r.kind=1\/r.kind=2\/r.kind=4)->(dO w.prog r.image).2=0:=by
          rcases S.how with hh|hh
          · exact fun _=>hh.2.2.2.2.2
          · intro h;omega
        by_cases i:x.kind=9
        · rw[if_pos i]at e;rw[if_pos i]at d;subst d;have s:=congrArg dr e;have q:=congrArg jm e;simp only at q s;have T:=tear_ok (x':=(Rc (iE w x.place) r x.n).1) hat a S.w<|jn Z s;subst q;exact⟨h.set T.pl,Z,.tear x.place c r _ f a hf S T Z Z⟩
        · rw[if_neg i]at e;by_cases m:(pV (iE w x.place) r).2=0
          · rw[if_neg V]at e;have N:=Yr (x':=(pV (iE w x.place) r).1) hat a S.w u<|jn Z m;have o:=h.set (k:=x.place) N.pl;by_cases b:r.kind=3
            · rw[if_pos b]at e;cases e;refine⟨o.send (fun _=>?_),Z,.run x.place c fuel r _ f a hf V S N Z (by rw[if_pos b];rfl)⟩;exact hat.img c t
            · rw[if_neg b]at e;cases e;exact⟨o,Z,.run x.place c fuel r _ f a hf V S N Z (by rw[if_neg b];rfl)⟩
          · rw[if_pos m]at e;exact absurd (congrArg dr e) m
      · rw[if_pos j]at e;exact absurd (congrArg dr e) j
theorem step_ev{w w':pG}(h:WR w){x:Hap}(e:fO w x=(w',0)):WR w'/\w'.prog=w.prog/\Ev w w':=by
  unfold fO at e;by_cases s:x.kind=4\/x.kind=5
  · rw[if_pos s]at e;exact hear_ev h e
  · rw[if_neg s]at e;by_cases t:x.kind=6
    · rw[if_pos t]at e;by_cases k:x.n<0\/(w.bO.length:Int)<=x.n
      · rw[if_pos k]at e;simp at e
      · rw[if_neg k]at e;cases e;exact⟨h.drop _,Z,.still Z fun y L=>(cE.1 L).elim mj ml⟩
    · rw[if_neg t]at e;by_cases k:x.kind<1\/9<x.kind
      · rw[if_pos k]at e;simp at e
      · rw[if_neg k]at e;have q:=h.many;by_cases z:x.place<0\/(w.places.length:Int)<=x.place
        · rw[if_pos z]at e;simp at e
        · rw[if_neg z]at e;have i:0<=x.place/\x.place<=2:=by omega
          have hat:=h.at i;by_cases A:x.kind=8
          · rw[if_pos A]at e;unfold bootW at e;by_cases g:(iE w x.place).up=ba
            · rw[if_pos g]at e;simp at e
            · rw[if_neg g]at e;by_cases j:(jC [] (ma (iE w x.place).d)).2=0
              · rw[if_neg V]at e;by_cases b:K4 w.prog (jC [] (ma (iE w x.place).d)).1=0
                · rw[if_neg V]at e;cases e;obtain⟨C,O,K,I⟩:=boot_disk hat.disk;have p:PlR w.prog ⟨(jC []<|ma (iE w x.place).d).1,(SY (iE w x.place).d).1,ba⟩:=
                    ⟨C,fun h=>(by cases h),fun _=>I,fun _=>(by simp only[K];rw[<-j]),(aaU _ _).1 b⟩
                  exact⟨h.set p,Z,.boot x.place i (by simpa using g) j Z Z⟩
                · rw[if_pos b]at e;exact absurd (congrArg dr e) b
              · rw[if_pos j]at e;exact absurd (congrArg dr e) j
          · rw[if_neg A]at e;by_cases g:(iE w x.place).up=ao
            · rw[if_pos g]at e;simp at e
            · rw[if_neg g]at e;have a:(iE w x.place).up=true:=by simpa using g
              by_cases j:x.kind=1
              · rw[if_pos j]at e;unfold aaW at e;by_cases b:x.co≠x.place
                · rw[if_pos b]at e;simp at e
                · rw[if_neg b]at e;have l:x.co=x.place:=Decidable.not_not.1 b;by_cases f:(ma (iE w x.place).d).any (fun r=>ab (r.kind=1))=ba
                  · rw[if_pos f]at e;simp at e
                  · rw[if_neg f,l]at e;have B:=congrArg dr e;have u:=congrArg jm e;simp only at u B;have v:=begin_img h.code;have N:=Yr (x':=(pV (iE w x.place) (Xq w.prog x.place)).1) (r:=Xq w.prog x.place) hat a (Kv V i V V (fun x M=>(by cases M)) (img_b (pU h.code) v).1) (fun _=>by unfold Xq;simp only;rw[v.un]) (jn rfl B);subst u;refine⟨h.set N.pl,Z,.begin x.place _ i a (fun r E o=>f ?_) N Z Z⟩;exact ng.2 ⟨r,E,by simpa using o⟩
              · rw[if_neg j]at e;by_cases b:x.kind=3
                · rw[if_pos b]at e;unfold Yq at e;cases hf:nY x.co (iE w x.place).cos with
                  |none=>rw[hf]at e;simp at e
                  |some c=>
                    rw[hf]at e;simp only at e;obtain⟨m,F⟩:=Gp hf;rw[<-m]at hf;by_cases f:c.offered<0
                    · rw[if_pos f]at e;simp at e
                    · rw[if_neg f]at e;cases e;exact⟨h.send fun _=>hat.img c F,Z,.send x.place c i a hf V Z Z⟩
                · rw[if_neg b]at e;by_cases f:x.kind=7
                  · rw[if_pos f]at e;cases e;exact⟨h.set ⟨hat.disk,fun _=>rfl,fun h=>(by cases h),fun h=>(by cases h),fun c G=>(by cases G)⟩,Z,.crash x.place i a Z Z⟩
                  · rw[if_neg f]at e;exact run_ev h i a e
end Pw
open Go Go.Proofs Go.LX
namespace Pw
open Dk
def Hd(F:Int->List Rec)(i k:Int):Option Co:=nY i (jC [] (F k)).1
def lQ(F:Int->List Rec)(k:Int)(r:Rec):Int->List Rec:=fun j=>if j=k then F k++[r]else F j
def On(k:Int):Prop:=0<=k/\k<=2
structure MOk(F:Int->List Rec)(i:Int)(E:Nat)(pl:Nat->Int)(m:fI):Prop where
 ok:∃e:Nat,1<=e/\e<=E/\m.aJ=(e:Int)+1/\(m.taken=ao->m.from_=pl e/\∃r∈F (pl e),r.kind=3/\r.co=i/\r.aJ=(e:Int)/\r.place=m.jD)/\
  (m.taken=ba->e+1<=E/\m.from_=pl (e+1)/\m.jD=pl e)
structure Ap(F:Int->List Rec)(L:List fI)(i:Int)(E:Nat)(pl:Nat->Int):Prop where
 rng:∀e,1<=e->e<=E->On (pl e)
 first:1<=E->pl 1=i
 P0:∀k,On k->∀r∈F k,0<=r.place
 T1:∀k,On k->∀r∈F k,r.co=i->(r.kind=1\/r.kind=4)->∃e:Nat,r.aJ=(e:Int)/\1<=e/\e<=E/\pl e=k
 T2:∀e:Nat,1<=e->e<=E->∃r∈F (pl e),r.co=i/\r.aJ=(e:Int)/\(e=1->r.kind=1)/\(e≠1->r.kind=4)
 O1:∀k,On k->∀r∈F k,r.co=i->r.kind=3->∃e:Nat,r.aJ=(e:Int)/\1<=e/\e<=E/\pl e=k/\(e<E->r.place=pl (e+1))/\(e=E->∃c,Hd F i k=aj c/\c.aJ=(e:Int)/\c.offered=r.place)
 H1:∀k,On k->∀c,Hd F i k=aj c->∃e:Nat,c.aJ=(e:Int)/\1<=e/\e<=E/\pl e=k/\(c.offered= -1->e=E)/\(c.offered≠ -1->∃r∈F k,r.kind=3/\r.co=i/\r.aJ=(e:Int)/\r.place=c.offered)
 H2:1<=E->∃c,Hd F i (pl E)=aj c/\c.aJ=(E:Int)
 M:∀m∈L,m.co=i->MOk F i E pl m
section
variable{F:Int->List Rec}{L:List fI}{i:Int}{E:Nat}{pl:Nat->Int}
theorem BU{k:Int}{r x:Rec}{j:Int}(h:x∈F j):x∈lQ F k r j:=by
  unfold lQ;by_cases e:j=k
  · rw[if_pos e];subst e;exact List.mem_append_left _ h
  · rw[if_neg e];exact h
theorem sD{k:Int}{r x:Rec}{j:Int}(h:x∈lQ F k r j):x∈F j\/(j=k/\x=r):=by
  unfold lQ at h;by_cases e:j=k
  · rw[if_pos e]at h;subst e;rcases cE.1 h with h|h
    · exact .inl h
    · exact .inr ⟨Z,by simpa using h⟩
  · rw[if_neg e]at h;exact .inl h
theorem Fp{k:Int}{r:Rec}(f:(jC [] (F k)).2=0)(b:(iI (jC [] (F k)).1 r).2=0):(jC [] (lQ F k r k)).2=0/\(∀j,j≠k->∀i,Hd (lQ F k r) i j=Hd F i j)/\(∀i,i≠r.co->Hd (lQ F k r) i k=Hd F i k)/\Did r (Hd F r.co k) (Hd (lQ F k r) r.co k)/\0<=r.place:=by
  have e:jC [] (lQ F k r k)=((iI (jC []<|F k).1 r).1,0):=by
    unfold lQ;rw[if_pos rfl,rep_snoc (a:=(jC [] (F k)).1) (jn rfl f),if_neg V]
  obtain⟨d,l,g⟩:=Xo b;refine⟨by rw[e],fun j c i=>?_,fun i h=>?_,?_,?_⟩
  · unfold Hd lQ;rw[if_neg c]
  · unfold Hd;rw[e];exact d i h
  · unfold Hd;rw[e];exact l
  · have:=(aaJ r g).place;omega
theorem MOk.up{k:Int}{r:Rec}{m:fI}(h:MOk F i E pl m):MOk (lQ F k r) i E pl m:=by
 obtain⟨e,f,g,j,b,d⟩:=h.ok;exact⟨e,f,g,j,fun c=>⟨(b c).1,(b c).2.imp fun r a=>⟨BU a.1,a.2⟩⟩,d⟩
theorem Ap.bO{L':List fI}(h:Ap F L i E pl)(c:∀m∈L',m∈L\/(m.co=i->MOk F i E pl m)):Ap F L' i E pl:=
 {h with M:=fun m a b=>(c m a).elim (fun x=>h.M m x b) (fun x=>x b)}
theorem Ap.other{k:Int}{r:Rec}(h:Ap F L i E pl)(I:(jC [] (F k)).2=0)(s:(iI (jC [] (F k)).1 r).2=0)(o:i≠r.co):Ap (lQ F k r) L i E pl:=by
  obtain⟨-,y,w,-,K⟩:=Fp I s;have v:∀j,Hd (lQ F k r) i j=Hd F i j:=fun j=>by
    by_cases e:j=k
    · subst e;exact w i o
    · exact y j e i
  refine⟨h.rng,h.first,fun j d x a=>?_,fun j d x a b q=>?_,fun e z B=>?_,fun j d x a b q=>?_,fun j d c b=>?_,fun G=>?_,fun m A b=>(h.M m A b).up⟩
  · rcases sD a with a|⟨_,rfl⟩
    · exact h.P0 j d x a
    · exact K
  · rcases sD a with a|⟨_,rfl⟩
    · exact h.T1 j d x a b q
    · exact absurd b.symm o
  · obtain⟨x,a,f⟩:=h.T2 e z B;exact⟨x,BU a,f⟩
  · rcases sD a with a|⟨_,rfl⟩
    · obtain⟨e,n,g,t,u,p,l⟩:=h.O1 j d x a b q;exact⟨e,n,g,t,u,p,fun C=>by rw[v];exact l C⟩
    · exact absurd b.symm o
  · rw[v]at b;obtain⟨e,n,g,t,u,p,l⟩:=h.H1 j d c b;exact⟨e,n,g,t,u,p,fun ho=>(l ho).imp fun r f=>⟨BU f.1,f.2⟩⟩
  · rw[v];exact h.H2 G
theorem Ap.slice{k:Int}{r:Rec}(h:Ap F L i E pl)(G:On k)(Q:(jC [] (F k)).2=0)(z:(iI (jC [] (F k)).1 r).2=0)(K:r.co=i)(B:r.kind=2):Ap (lQ F k r) L i E pl:=by
  obtain⟨-,y,-,C,R⟩:=Fp Q z;rw[K]at C;obtain⟨c,ho,I,s,hn⟩:∃c,Hd F i k=aj c/\c.aJ=r.aJ/\c.offered= -1/\Hd (lQ F k r) i k=aj ⟨c.kz,c.aJ,r.image,-1⟩:=by
    rcases C with⟨x,_,_⟩|⟨x,_,_⟩|⟨c,_,ho,I,s,hn⟩|⟨c,x,_,_,_,_,_⟩|⟨c,x,_,_,_,_⟩
    · omega
    · omega
    · exact⟨c,ho,I,s,hn⟩
    · omega
    · omega
  refine⟨h.rng,h.first,fun j b x a=>?_,fun j b x a f G=>?_,fun e P B=>?_,fun j b x a f w=>?_,fun j b d u=>?_,fun O=>?_,fun m N f=>(h.M m N f).up⟩
  · rcases sD a with a|⟨_,rfl⟩
    · exact h.P0 j b x a
    · exact R
  · rcases sD a with a|⟨_,rfl⟩
    · exact h.T1 j b x a f G
    · omega
  · obtain⟨x,a,q⟩:=h.T2 e P B;exact⟨x,BU a,q⟩
  · rcases sD a with a|⟨_,rfl⟩
    · obtain⟨e,n,p,l,o,g,t⟩:=h.O1 j b x a f w;refine⟨e,n,p,l,o,g,fun v=>?_⟩;obtain⟨d,d1,d2,A⟩:=t v;by_cases e:j=k
      · subst e;rw[ho]at d1;cases d1;exact⟨_,hn,d2,by rw[<-A,s]⟩
      · exact⟨d,by rw[y j e];exact d1,d2,A⟩
    · omega
  · by_cases e:j=k
    · subst e;rw[hn]at u;cases u;obtain⟨e,n,p,l,o,g,t⟩:=h.H1 j b c ho;exact⟨e,n,p,l,o,fun _=>g s,fun x=>absurd Z x⟩
    · rw[y j e]at u;obtain⟨e,n,p,l,o,g,t⟩:=h.H1 j b d u;exact⟨e,n,p,l,o,g,fun ho=>(t ho).imp fun r q=>⟨BU q.1,q.2⟩⟩
  · obtain⟨d,d1,d2⟩:=h.H2 O;by_cases e:pl E=k
    · rw[e]at d1⊢;rw[ho]at d1;cases d1;exact⟨_,hn,d2⟩
    · exact⟨d,by rw[y _ e];exact d1,d2⟩
theorem Ap.offer{k:Int}{r:Rec}(h:Ap F L i E pl)(C:On k)(hR:(jC [] (F k)).2=0)(G:(iI (jC [] (F k)).1 r).2=0)(N:r.co=i)(u:r.kind=3):Ap (lQ F k r) L i E pl/\∃c,Hd F i k=aj c/\c.aJ=r.aJ/\c.offered= -1/\r.aJ=(E:Int)/\1<=E/\pl E=k:=by
  obtain⟨-,Q,-,R,u4⟩:=Fp hR G;rw[N]at R;obtain⟨c,ho,g,o,hn⟩:∃c,Hd F i k=aj c/\c.aJ=r.aJ/\c.offered= -1/\Hd (lQ F k r) i k=aj ⟨c.kz,c.aJ,c.image,r.place⟩:=by
    rcases R with⟨x,_,_⟩|⟨x,_,_⟩|⟨c,x,_,_,_,_⟩|⟨c,x,ho,g,o,_,hn⟩|⟨c,x,_,_,_,_⟩
    · omega
    · omega
    · omega
    · exact⟨c,ho,g,o,hn⟩
    · omega
  obtain⟨O,f,s,P,p,b5,b6⟩:=h.H1 k C c ho;have b7:=b5 o;subst b7;refine⟨⟨h.rng,h.first,fun j b x a=>?_,fun j b x a l C=>?_,fun e h1 u=>?_,fun j b x a l v=>?_,fun j b d q=>?_,fun hE=>?_,fun m T l=>(h.M m T l).up⟩,c,ho,g,o,by rw[<-g];exact f,s,p⟩
  · rcases sD a with a|⟨_,rfl⟩
    · exact h.P0 j b x a
    · exact u4
  · rcases sD a with a|⟨_,rfl⟩
    · exact h.T1 j b x a l C
    · omega
  · obtain⟨x,a,n⟩:=h.T2 e h1 u;exact⟨x,BU a,n⟩
  · rcases sD a with a|⟨rfl,rfl⟩
    · obtain⟨e,B,K,z,I,y,w⟩:=h.O1 j b x a l v;have X:=h.P0 j b x a;refine⟨e,B,K,z,I,y,fun t=>?_⟩;obtain⟨d,d1,d2,S⟩:=w t;by_cases e:j=k
      · subst e;rw[ho]at d1;cases d1;omega
      · exact⟨d,by rw[Q j e];exact d1,d2,S⟩
    · exact⟨O,by rw[<-g];exact f,s,P,p,fun A=>absurd A (Nat.lt_irrefl _),fun _=>⟨_,hn,f,Z⟩⟩
  · by_cases e:j=k
    · subst e;rw[hn]at q;cases q;exact⟨O,f,s,P,p,fun _=>rfl,fun _=>⟨r,by unfold lQ;rw[if_pos rfl];simp,u,N,by rw[<-g];exact f,Z⟩⟩
    · rw[Q j e]at q;obtain⟨e,B,K,z,I,y,w⟩:=h.H1 j b d q;exact⟨e,B,K,z,I,y,fun ho=>(w ho).imp fun r n=>⟨BU n.1,n.2⟩⟩
  · rw[p];exact⟨_,hn,f⟩
theorem Ap.gone{k:Int}{r:Rec}(h:Ap F L i E pl)(I:On k)(S:(jC [] (F k)).2=0)(A:(iI (jC [] (F k)).1 r).2=0)(O:r.co=i)(K:r.kind=5)(Q:r.aJ<(E:Int)):Ap (lQ F k r) L i E pl:=by
  obtain⟨-,v,-,G,T⟩:=Fp S A;rw[O]at G;obtain⟨c,ho,N,C,hn⟩:∃c,Hd F i k=aj c/\c.aJ=r.aJ/\c.offered≠ -1/\Hd (lQ F k r) i k=none:=by
    rcases G with⟨x,_,_⟩|⟨x,_,_⟩|⟨c,x,_,_,_,_⟩|⟨c,x,_,_,_,_,_⟩|⟨c,x,ho,N,C,hn⟩
    · omega
    · omega
    · omega
    · omega
    · exact⟨c,ho,N,C,hn⟩
  have f:1<=E->pl E≠k:=by
    intro n e;obtain⟨d,d1,d2⟩:=h.H2 n;rw[e,ho]at d1;cases d1;omega
  refine⟨h.rng,h.first,fun j b x a=>?_,fun j b x a l I=>?_,fun e R K=>?_,fun j b x a l B=>?_,fun j b d p=>?_,fun n=>?_,fun m P l=>(h.M m P l).up⟩
  · rcases sD a with a|⟨_,rfl⟩
    · exact h.P0 j b x a
    · exact T
  · rcases sD a with a|⟨_,rfl⟩
    · exact h.T1 j b x a l I
    · omega
  · obtain⟨x,a,o⟩:=h.T2 e R K;exact⟨x,BU a,o⟩
  · rcases sD a with a|⟨_,rfl⟩
    · obtain⟨e,z,s,w,q,u,t⟩:=h.O1 j b x a l B;refine⟨e,z,s,w,q,u,fun g=>?_⟩;have y:j≠k:=by rw[<-q,g];exact f V
      rw[v j y];exact t g
    · omega
  · by_cases e:j=k
    · subst e;rw[hn]at p;cases p
    · rw[v j e]at p;obtain⟨e,z,s,w,q,u,t⟩:=h.H1 j b d p;exact⟨e,z,s,w,q,u,fun ho=>(t ho).imp fun r o=>⟨BU o.1,o.2⟩⟩
  · rw[v _ (f n)];exact h.H2 n
theorem Ap.begin{k:Int}{r:Rec}(h:Ap F L i E pl)(C:On k)(I:(jC [] (F k)).2=0)(t:(iI (jC [] (F k)).1 r).2=0)(v:r.co=i)(f:i=k)(G:r.kind=1)(hno:∀x∈F k,x.kind≠1):E=0/\Ap (lQ F k r) L i 1 (fun _=>k):=by
  obtain⟨-,z,-,y,K⟩:=Fp I t;rw[v]at y;obtain⟨o,ho,hn⟩:r.aJ=1/\Hd F i k=aw/\Hd (lQ F k r) i k=aj ⟨r.co,r.aJ,r.image,-1⟩:=by
    rcases y with⟨x,ho,hn⟩|⟨x,_,_⟩|⟨c,x,_,_,_,_⟩|⟨c,x,_,_,_,_,_⟩|⟨c,x,_,_,_,_⟩
    · exact⟨x.2,ho,hn⟩
    · omega
    · omega
    · omega
    · omega
  have l:E=0:=by
    by_cases l:E=0
    · exact l
    · exfalso;obtain⟨x,a,N,R,B,O⟩:=h.T2 1 (bq _) V;rw[h.first V,f]at a;exact hno x a<|B Z
  subst l;refine⟨Z,fun _ _ _=>C,fun _=>f.symm,fun j b x a=>?_,fun j b x a g q=>?_,fun e P G=>?_,fun j b x a g u=>?_,fun j b d n=>?_,fun l=>⟨_,hn,by simp only;rw[o];rfl⟩,fun m A g=>?_⟩
  · rcases sD a with a|⟨_,rfl⟩
    · exact h.P0 j b x a
    · exact K
  · rcases sD a with a|⟨e,rfl⟩
    · obtain⟨e,s,p,w,Q⟩:=h.T1 j b x a g q;omega
    · exact⟨1,by rw[o];rfl,by omega,by omega,e.symm⟩
  · obtain rfl:e=1:=by omega
    exact⟨r,by unfold lQ;rw[if_pos rfl];simp,v,by rw[o];rfl,fun _=> ‹r.kind=1›,fun h=>absurd Z h⟩
  · rcases sD a with a|⟨_,rfl⟩
    · obtain⟨e,s,p,w,-⟩:=h.O1 j b x a g u;omega
    · omega
  · by_cases e:j=k
    · subst e;rw[hn]at n;cases n;exact⟨1,by simp only;rw[o];rfl,by omega,by omega,rfl,fun _=>rfl,fun x=>absurd Z x⟩
    · rw[z j e]at n;obtain⟨e,s,p,w,-⟩:=h.H1 j b d n;omega
  · obtain⟨e,s,p,-⟩:=(h.M m A g).ok;omega
theorem Ap.take{k:Int}{r:Rec}{m:fI}(h:Ap F L i E pl)(hk:On k)(hR:(jC [] (F k)).2=0)(R:(iI (jC [] (F k)).1 r).2=0)(hi:r.co=i)(X:r.kind=4)(hm:m∈L)(p:m.co=i)(w:m.taken=ao)(G:m.jD=k)(l:r.aJ=m.aJ)(hno:∀x∈F k,x.kind=4->x.co=i->¬m.aJ<=x.aJ):
    m.aJ=(E:Int)+1/\1<=E/\m.from_=pl E/\Ap (lQ F k r) L i (E+1) (fun e=>if e=E+1 then k else pl e):=by
  obtain⟨-,u1,-,u3,u4⟩:=Fp hR R;rw[hi]at u3;obtain⟨he,ho,hn⟩:r.aJ≠1/\Hd F i k=aw/\Hd (lQ F k r) i k=aj ⟨r.co,r.aJ,r.image,-1⟩:=by
    rcases u3 with⟨x,_,_⟩|⟨x,ho,hn⟩|⟨c,x,_,_,_,_⟩|⟨c,x,_,_,_,_,_⟩|⟨c,x,_,_,_,_⟩
    · omega
    · exact⟨x.2,ho,hn⟩
    · omega
    · omega
    · omega
  obtain⟨e,m1,m2,u,m4,-⟩:=(h.M m hm p).ok;obtain⟨m5,r0,T,r2,r3,r4,r5⟩:=m4 w;have C:=h.rng e m1 m2;obtain⟨f,o1,o2,o3,o4,o5,o6⟩:=h.O1 _ C r0 T r3 r2;obtain rfl:f=e:=by omega
  have N:f=E:=by
    by_cases I:f<E
    · exfalso;have B:=o5 I;rw[r5,G]at B;obtain⟨x,S,x2,x3,x4,x5⟩:=h.T2 (f+1) V V;rw[<-B]at S;exact hno x S (x5 V) x2 (by rw[x3,u];push_cast;omega)
    · omega
  subst N;obtain⟨c0,c1,c2,c3⟩:=o6 Z;have a:∀x,x<=f->(if x=f+1 then k else pl x)=pl x:=fun x b=>if_neg V;refine⟨u,m1,m5,?_,?_,fun j o x b=>?_,fun j o x b p K=>?_,fun x O X=>?_,fun j o x b p P=>?_,fun j o d v=>?_,fun hE=>?_,fun y hy p=>?_⟩
  · intro x O X;by_cases b:x=f+1
    · simp only[if_pos b];exact hk
    · simp only[if_neg b];exact h.rng x O V
  · intro _;rw[a 1 m1];exact h.first m1
  · rcases sD b with b|⟨_,rfl⟩
    · exact h.P0 j o x b
    · exact u4
  · rcases sD b with b|⟨e,rfl⟩
    · obtain⟨z,q,n,t,g⟩:=h.T1 j o x b p K;exact⟨z,q,n,by omega,by rw[a z t];exact g⟩
    · exact⟨f+1,by rw[l,u];push_cast;rfl,by omega,by omega,by simp only[eq_self,if_true];exact e.symm⟩
  · by_cases b:x=f+1
    · subst b;rw[if_pos rfl];exact⟨r,by unfold lQ;rw[if_pos rfl];simp,hi,by rw[l,u];push_cast;rfl,fun h=>by omega,fun _=> ‹r.kind=4›⟩
    · rw[a x V];obtain⟨z,hz,s⟩:=h.T2 x O V;exact⟨z,BU hz,s⟩
  · rcases sD b with b|⟨_,rfl⟩
    · obtain⟨z,q,n,t,g,A,Q⟩:=h.O1 j o x b p P;refine⟨z,q,n,by omega,by rw[a z t];exact g,fun I=>?_,fun h=>by omega⟩;by_cases hz:z=f
      · subst hz;obtain⟨d,d1,d2,d3⟩:=Q Z;rw[<-g,c1]at d1;cases d1;simp only[eq_self,if_true];rw[<-d3,c3,r5,G]
      · rw[a (z+1) V];exact A V
    · omega
  · by_cases e:j=k
    · subst e;rw[hn]at v;cases v;exact⟨f+1,by simp only;rw[l,u];push_cast;rfl,by omega,by omega,by simp only[eq_self,if_true],fun _=>rfl,fun x=>absurd Z x⟩
    · rw[u1 j e]at v;obtain⟨z,q,n,t,g,A,Q⟩:=h.H1 j o d v;refine⟨z,q,n,by omega,by rw[a z t];exact g,fun hf=>?_,fun ho=>(Q ho).imp fun r s=>⟨BU s.1,s.2⟩⟩;exfalso;have hz:=A hf;subst hz;rw[<-g,c1]at v;cases v;have a0:=h.P0 _ C r0 T;omega
  · simp only[eq_self,if_true];exact⟨_,hn,by simp only;rw[l,u];push_cast;rfl⟩
  · obtain⟨z,q,n,t,g,A⟩:=(h.M y hy p).ok;refine⟨z,q,by omega,t,fun w=>?_,fun w=>?_⟩
    · rw[a z n];exact⟨(g w).1,(g w).2.imp fun r s=>⟨BU s.1,s.2⟩⟩
    · obtain⟨b1,b2,b3⟩:=A w;rw[a z n,a (z+1) b1];exact⟨by omega,b2,b3⟩
end
end Pw
open Go Go.Proofs Go.LX
namespace Pw
open Dk
theorem aaX{s t:LX.State}(h:dM s=dM t):s.status=t.status:=by
 show(dM s).status=(dM t).status;rw[h]
theorem wake_sim{s t:LX.State}(h:dM s=dM t):dM (wake s)=dM (wake t):=by
  have b:=aaX h;unfold wake;by_cases a:s.status=3
  · rw[if_pos a,if_pos V];exact wake_sweep h 0 0
  · rw[if_neg a,if_neg V];exact h
theorem XT{a:List bA}(d:mH a):∀(n:Nat) (s:LX.State),wB a s->wB a (uQ a n s).1
  |0,s,h=>h
  |n+1,s,h=>by
    cases e:stepW a s with
    |none=>rw[NF e];exact h
    |some q=>
      obtain⟨t,o⟩:=q;rw[uz e];refine XT d n t ?_;unfold stepW at e;by_cases b:(wake s).status=0
      · rw[if_neg V]at e;have c:=UQ h;cases e1:Ak a (wake s)with
        |none=>rw[e1]at e;cases e;exact fail_ok c b
        |some q=>obtain⟨f,o2,p⟩:=q;rw[e1]at e;cases e;exact(Al d c b e1).1
      · rw[if_pos b]at e;cases e
theorem iterW_sim{a:List bA}(e:mH a):∀(n:Nat) (s t:LX.State),wB a s->wB a t->dM s=dM t->(uQ a n s).2=(uQ a n t).2/\dM (uQ a n s).1=dM (uQ a n t).1
  |0,s,t,_,_,h=>⟨rfl,h⟩
  |n+1,s,t,hs,ht,h=>by
    have g:=wake_sim h;have l:=aaX g;have d:=UQ hs;have c:=UQ ht;by_cases f:(wake s).status=0
    · obtain⟨b,r⟩:=stepP_sim e d c f g;cases e1:Ak a (wake s)with
      |none=>
        rw[e1]at b;cases e2:Ak a (wake t)with
        |none=>
          have k1:stepW a s=aj ({wake s with status:=2},[]):=by unfold stepW;rw[if_neg V,e1]
          have k2:stepW a t=aj ({wake t with status:=2},[]):=by unfold stepW;rw[if_neg V,e2]
          rw[uz k1,uz k2,JN (by unfold wake;simp),JN (by unfold wake;simp)];exact⟨Z,fail_sweep g 2⟩
        |some q=>rw[e2]at b;exact b.elim
      |some q=>
        rw[e1]at b;cases e2:Ak a (wake t)with
        |none=>rw[e2]at b;exact b.elim
        |some q2=>
          rw[e2]at b;obtain⟨u,o,p⟩:=q;obtain⟨i,o2,v⟩:=q2;obtain⟨rfl,rfl,j⟩:=b;have k1:stepW a s=aj (u,o.toList):=by unfold stepW;rw[if_neg V,e1]
          have k2:stepW a t=aj (i,o.toList):=by unfold stepW;rw[if_neg V,e2]
          rw[uz k1,uz k2];obtain⟨k,m⟩:=iterW_sim e n u i (Al e d f e1).1 (Al e c V e2).1 j;exact⟨by simp only[k],m⟩
    · rw[JN f,JN V];exact⟨Z,h⟩
theorem slice_iter{a:List bA}(g:mH a){fuel:Nat}(c:1<=fuel){s:LX.State}(b:(wake s).status=0):∃k,xJ a fuel [] 0 (wake s)=((uQ a k s).1,(uQ a k s).2,k):=by
 obtain⟨k,k1,k2,d,e⟩:=run_iter (a:=a) fuel [] 0<|wake s;have f:=e c b Z;refine⟨k,?_⟩;rw[k2,iter_W k _ d,iterW_wake f b];simp
def says(i:Int)(e:Nat)(l:List Rec):List Int:=(l.filter fun r=>ab (r.kind=2)&&ab (r.co=i)&&ab (r.aJ=(e:Int))).flatMap (·.says)
theorem says_app(i:Int)(e:Nat)(a b:List Rec):says i e (a++b)=says i e a++says i e b:=by unfold says;rw[List.filter_append,List.flatMap_append]
theorem says_one{i:Int}{e:Nat}{r:Rec}:says i e [r]=if r.kind=2/\r.co=i/\r.aJ=(e:Int)then r.says else []:=by
  unfold says;by_cases h:r.kind=2/\r.co=i/\r.aJ=(e:Int)
  · rw[if_pos h];simp[h.1,h.2.1,h.2.2]
  · rw[if_neg h,gR,if_neg (by simp only[cS,decide_eq_true_eq];intro a;exact h ⟨a.1.1,a.1.2,a.2⟩)];rfl
theorem says_no{i:Int}{e:Nat}{l:List Rec}(h:∀r∈l,r.kind=2->r.co=i->r.aJ≠(e:Int)):says i e l=[]:=by
 unfold says;rw[List.filter_eq_nil_iff.2 (fun r b=>by simp only[cS,decide_eq_true_eq];exact fun a=>h r b a.1.1 a.1.2 a.2)];rfl
def tot(F:Int->List Rec)(i:Int)(pl:Nat->Int):Nat->List Int
 |0=>[]
 |e+1=>tot F i pl e++says i (e+1) (F (pl (e+1)))
theorem Iu{F b:Int->List Rec}{i:Int}{pl a:Nat->Int}:∀(E:Nat),(∀e,1<=e->e<=E->says i e (F (pl e))=says i e (b (a e)))->tot F i pl E=tot b i a E
 |0,_=>rfl
 |E+1,h=>by
  unfold tot;rw[Iu E (fun e c d=>h e c V),h (E+1) V (bq _)]
structure Bh(p:List bA)(F G:Int->List Rec)(L:List fI)(i:Int)(E:Nat)(pl:Nat->Int):Prop where
 ch:Ap F L i E pl
 S1:∀k,On k->∀r∈F k,r.co=i->r.kind=2->∃e:Nat,r.aJ=(e:Int)/\1<=e/\e<=E/\pl e=k
 pre:∀k,On k->G k<+:F k
 Q:∀k,On k->(∀e:Nat,says i e (G k)=says i e (F k))\/∃c,Hd F i k=aj c/\c.offered= -1
 D:∀e:Nat,1<=e->e<E->says i e (G (pl e))=says i e (F (pl e))
 run:1<=E->∃n c,Hd F i (pl E)=aj c/\tot F i pl E=(uQ p n (vY p)).2/\c.image=xC (dM (uQ p n (vY p)).1)
 im:∀m∈L,m.co=i->m.taken=ao->m.aJ=(E:Int)+1->∃c,Hd F i (pl E)=aj c/\m.image=c.image
section
variable{p:List bA}{F G:Int->List Rec}{L:List fI}{i:Int}{E:Nat}{pl:Nat->Int}
theorem xG{k:Int}{r:Rec}{j:Int}(h:j≠k):lQ F k r j=F j:=if_neg h
theorem upd_same{k:Int}{r:Rec}:lQ F k r k=F k++[r]:=if_pos Z
theorem oU{k:Int}{r:Rec}{j:Int}{e:Nat}(h:¬(r.kind=2/\r.co=i/\r.aJ=(e:Int))):says i e (lQ F k r j)=says i e (F j):=by
  by_cases a:j=k
  · subst a;rw[upd_same,says_app,says_one,if_neg h,eI]
  · rw[xG a]
theorem Bh.bO{L':List fI}(h:Bh p F G L i E pl)(d:∀m∈L',m∈L\/(m.co=i->MOk F i E pl m/\(m.taken=ao->m.aJ=(E:Int)+1->∃c,Hd F i (pl E)=aj c/\m.image=c.image))):Bh p F G L' i E pl:=
 {h with
  ch:=h.ch.bO fun m b=>(d m b).imp id fun x a=>(x a).1
  im:=fun m b a=>(d m b).elim (fun x=>h.im m x a) (fun x=>(x a).2)}
theorem Bh.other{l:Int->List Rec}{k:Int}{r:Rec}(h:Bh p F G L i E pl)(u:(jC [] (F k)).2=0)(f:(iI (jC [] (F k)).1 r).2=0)(d:i≠r.co)(t:l=G\/l=lQ G k r)(I:G k=F k):Bh p (lQ F k r) l L i E pl:=by
  obtain⟨-,y,w,-,R⟩:=Fp u f;have s:∀j,Hd (lQ F k r) i j=Hd F i j:=fun j=>by
    by_cases e:j=k
    · subst e;exact w i d
    · exact y j e i
  have o:∀(e:Nat) j,says i e (lQ F k r j)=says i e (F j):=fun e j=>oU fun x=>d x.2.1.symm;have b:∀(e:Nat) j,says i e (l j)=says i e (G j):=fun e j=>by
    rcases t with rfl|rfl
    · rfl
    · exact oU fun x=>d x.2.1.symm
  refine⟨h.ch.other u f d,fun j a x q g A=>?_,fun j a=>?_,fun j a=>?_,fun e B K=>?_,fun P=>?_,fun m C g z N=>by rw[s];exact h.im m C g z N⟩
  · rcases sD q with q|⟨_,rfl⟩
    · exact h.S1 j a x q g A
    · exact absurd g.symm d
  · have hp:=h.pre j a;rcases t with rfl|rfl
    · by_cases e:j=k
      · subst e;rw[upd_same];exact hp.trans (ff _ _)
      · rw[xG e];exact hp
    · by_cases e:j=k
      · subst e;rw[upd_same,upd_same,I];exact cv _
      · rw[xG e,xG e];exact hp
  · rw[s];exact(h.Q j a).imp (fun x e=>by rw[o,b];exact x e) id
  · rw[o,b];exact h.D e B K
  · obtain⟨n,c,M,v,O⟩:=h.run P;refine⟨n,c,by rw[s];exact M,?_,O⟩;rw[<-v];exact Iu E fun e _ _=>o e _
theorem Bh.slice{A:Int->List Rec}{k:Int}{r:Rec}{c:Co}{fuel:Nat}(g:mH p)(h:Bh p F G L i E pl)(B:On k)(hR:(jC [] (F k)).2=0)(y:(iI (jC [] (F k)).1 r).2=0)(C:r.co=i)(v:r.kind=2)(S:A=G\/A=lQ G k r)(U6:G k=F k)
    (q:Hd F i k=aj c) (O:1<=fuel) (T:Img p c.image (dO p c.image).1) (h0:(wake (dO p c.image).1).status=0) (hs:r.says=(xJ p fuel [] 0 (wake (dO p c.image).1)).2.1) (a4:r.image=xC (dM (xJ p fuel [] 0 (wake (dO p c.image).1)).1)):Bh p (lQ F k r) A L i E pl:=by
  have N:=h.ch.slice B hR y C v;obtain⟨-,u1,-,u3,u4⟩:=Fp hR y;rw[C]at u3;obtain⟨he,a0,hn⟩:c.aJ=r.aJ/\c.offered= -1/\Hd (lQ F k r) i k=aj ⟨c.kz,c.aJ,r.image,-1⟩:=by
    rcases u3 with⟨x,_,_⟩|⟨x,_,_⟩|⟨d,_,ho,he,O,hn⟩|⟨d,x,_,_,_,_,_⟩|⟨d,x,_,_,_,_⟩
    · omega
    · omega
    · rw[q]at ho;cases ho;exact⟨he,O,hn⟩
    · omega
    · omega
  obtain⟨o,b1,b2,b3,w,b5,b6⟩:=h.ch.H1 k B c q;obtain rfl:=b5 a0;have t:r.aJ=(o:Int):=by omega
  have u:∀(e:Nat) j,e≠o->says i e (lQ F k r j)=says i e (F j):=fun e j l=>oU fun x=>l V;have R:∀(e:Nat) j,e≠o->says i e (A j)=says i e (G j):=fun e j l=>by
    rcases S with rfl|rfl
    · rfl
    · exact oU fun x=>l V
  refine⟨N,fun j b x X q B=>?_,fun j b=>?_,fun j b=>?_,fun e h1 v=>?_,fun I=>?_,fun m hm z s K=>?_⟩
  · rcases sD X with X|⟨e,rfl⟩
    · exact h.S1 j b x X q B
    · exact⟨o,t,b2,b3,w.trans e.symm⟩
  · have hp:=h.pre j b;rcases S with rfl|rfl
    · by_cases e:j=k
      · subst e;rw[upd_same];exact hp.trans (ff _ _)
      · rw[xG e];exact hp
    · by_cases e:j=k
      · subst e;rw[upd_same,upd_same,U6];exact cv _
      · rw[xG e,xG e];exact hp
  · by_cases e:j=k
    · subst e;exact .inr ⟨_,hn,Z⟩
    · rw[u1 j e];refine(h.Q j b).imp (fun x P=>?_) id;rw[xG e];rcases S with rfl|rfl
      · exact x P
      · rw[xG e];exact x P
  · rw[u e _ V,R e _ V];exact h.D e h1 v
  · obtain⟨n,d,a1,a2,a3⟩:=h.run I;rw[w,q]at a1;cases a1
    --the image is that of the state
    have s:=XT g n _<|aax g;have hu:(dO p c.image).1=dM (uQ p n<|vY p).1:=pack_inj (T.st.small g) (PS g s) (by rw[<-T.eq,a3]);obtain⟨j,b⟩:=slice_iter g O h0;have I:dM (dO p c.image).1=dM (uQ p n<|vY p).1:=by rw[hu];exact NC (s.sw g)
    obtain⟨q1,q2⟩:=iterW_sim g j _ _ T.st s I;have f:=iterW_add (a:=p) n j<|vY p;refine⟨n+j,_,by rw[w];exact hn,?_,?_⟩
    · rw[f];simp only;rw[<-q1,<-a2];cases o with
      |zero=>omega
      |succ e1=>
        unfold tot;rw[Iu e1 (fun e h1 v=>u e _ V),w,upd_same,says_app,says_one,if_pos ⟨v,C,t⟩,hs,b,ck]
    · simp only;rw[a4,b];simp only;rw[q2,f]
  · obtain⟨d,d1,d2⟩:=h.im m hm z s K;exfalso
    --such bO tells of an offer
    obtain⟨e,m1,m2,m3,m4,-⟩:=(h.ch.M m hm z).ok;obtain⟨-,r0,r1,r2,r3,r4,r5⟩:=m4 s;obtain rfl:e=o:=by omega
    obtain⟨P,o1,o2,o3,o4,o5,o6⟩:=h.ch.O1 _ (h.ch.rng e m1 m2) r0 r1 r3 r2;obtain⟨x,x1,x2,x3⟩:=o6 V;rw[w,q]at x1;cases x1;have:=h.ch.P0 _ (h.ch.rng e m1 m2) r0 r1;omega
theorem Bh.offer{o:Int->List Rec}{k:Int}{r:Rec}{c:Co}(h:Bh p F G L i E pl)(y:On k)(N:(jC [] (F k)).2=0)(l:(iI (jC [] (F k)).1 r).2=0)(B:r.co=i)(z:r.kind=3)(C:o=G\/o=lQ G k r)(M:G k=F k)(f:Hd F i k=aj c):
    Bh p (lQ F k r) o L i E pl/\Hd (lQ F k r) i (pl E)=aj ⟨c.kz,c.aJ,c.image,r.place⟩/\c.aJ=(E:Int)/\r.aJ=(E:Int)/\1<=E/\pl E=k:=by
  obtain⟨t,c0,ho,he,a0,v,u,a⟩:=h.ch.offer y N l B z;rw[f]at ho;cases ho;obtain⟨-,R,-,I,u4⟩:=Fp N l;rw[B]at I;have hn:Hd (lQ F k r) i k=aj ⟨c.kz,c.aJ,c.image,r.place⟩:=by
    rcases I with⟨x,_,_⟩|⟨x,_,_⟩|⟨d,x,_,_,_,_⟩|⟨d,x,ho,he,hf,_,hn⟩|⟨d,x,_,_,_,_⟩
    · omega
    · omega
    · omega
    · rw[f]at ho;cases ho;exact hn
    · omega
  have q:∀(e:Nat) j,says i e (lQ F k r j)=says i e (F j):=fun e j=>oU (fun x=>by omega);have b:∀(e:Nat) j,says i e (o j)=says i e (G j):=fun e j=>by
    rcases C with rfl|rfl
    · rfl
    · exact oU (fun x=>by omega)
  refine⟨⟨t,fun j g x w f y=>?_,fun j g=>?_,fun j g=>?_,fun e h1 z=>?_,fun X=>?_,fun m S A ht s=>?_⟩,by rw[a];exact hn,by omega,v,u,a⟩
  · rcases sD w with w|⟨e,rfl⟩
    · exact h.S1 j g x w f y
    · omega
  · have hp:=h.pre j g;rcases C with rfl|rfl
    · by_cases e:j=k
      · subst e;rw[upd_same];exact hp.trans (ff _ _)
      · rw[xG e];exact hp
    · by_cases e:j=k
      · subst e;rw[upd_same,upd_same,M];exact cv _
      · rw[xG e,xG e];exact hp
  · by_cases e:j=k
    · subst e;exact .inl (fun O=>by rw[q,b,M])
    · rw[R j e];exact(h.Q j g).imp (fun x O=>by rw[q,b];exact x O) id
  · rw[q,b];exact h.D e h1 z
  · obtain⟨n,d,K,P,T⟩:=h.run X;rw[a,f]at K;cases K;exact⟨n,⟨c.kz,c.aJ,c.image,r.place⟩,by rw[a];exact hn,by rw[<-P];exact Iu E (fun e _ _=>q e _),T⟩
  · obtain⟨d,d1,d2⟩:=h.im m S A ht s;rw[a,f]at d1;cases d1;exact⟨⟨c.kz,c.aJ,c.image,r.place⟩,by rw[a];exact hn,d2⟩
theorem Bh.gone{k:Int}{r:Rec}(h:Bh p F G L i E pl)(w:On k)(M:(jC [] (F k)).2=0)(g:(iI (jC [] (F k)).1 r).2=0)(A:r.co=i)(y:r.kind=5)(q:r.aJ<(E:Int))(t:1<=E)(I:G k=F k):Bh p (lQ F k r) (lQ G k r) L i E pl:=by
  have u:=h.ch.gone w M g A y q;obtain⟨-,o,-,C,u4⟩:=Fp M g;rw[A]at C;obtain⟨c,ho,K,B,hn⟩:∃c,Hd F i k=aj c/\c.aJ=r.aJ/\c.offered≠ -1/\Hd (lQ F k r) i k=none:=by
    rcases C with⟨x,_,_⟩|⟨x,_,_⟩|⟨c,x,_,_,_,_⟩|⟨c,x,_,_,_,_,_⟩|⟨c,x,ho,K,B,hn⟩
    · omega
    · omega
    · omega
    · omega
    · exact⟨c,ho,K,B,hn⟩
  have f:pl E≠k:=by
    intro e;obtain⟨d,d1,d2⟩:=h.ch.H2 t;rw[e,ho]at d1;cases d1;omega
  have l:∀(e:Nat) j,says i e (lQ F k r j)=says i e (F j):=fun e j=>oU (fun x=>by omega);have a:∀(e:Nat) j,says i e (lQ G k r j)=says i e (G j):=fun e j=>oU (fun x=>by omega);refine⟨u,fun j b x v T w=>?_,fun j b=>?_,fun j b=>?_,fun e h1 y=>?_,fun S=>?_,fun m P z ht s=>by rw[o _ f];exact h.im m P z ht s⟩
  · rcases sD v with v|⟨e,rfl⟩
    · exact h.S1 j b x v T w
    · omega
  · have hp:=h.pre j b;by_cases e:j=k
    · subst e;rw[upd_same,upd_same,I];exact cv _
    · rw[xG e,xG e];exact hp
  · by_cases e:j=k
    · subst e;exact .inl (fun N=>by rw[l,a,I])
    · rw[o j e];exact(h.Q j b).imp (fun x N=>by rw[l,a];exact x N) id
  · rw[l,a];exact h.D e h1 y
  · obtain⟨n,d,X,O,R⟩:=h.run S;exact⟨n,d,by rw[o _ f];exact X,by rw[<-O];exact Iu E (fun e _ _=>l e _),R⟩
theorem Bh.begin{k:Int}{r:Rec}(h:Bh p F G L i E pl)(y:On k)(B:(jC [] (F k)).2=0)(g:(iI (jC [] (F k)).1 r).2=0)(u:r.co=i)(n:i=k)(A:r.kind=1)(hno:∀x∈F k,x.kind≠1)(z:G k=F k)(l:r.image=xC (dM (vY p))):
    E=0/\Bh p (lQ F k r) (lQ G k r) L i 1 (fun _=>k):=by
  obtain⟨v,o⟩:=h.ch.begin y B g u n A hno;subst v;obtain⟨-,K,-,w,u4⟩:=Fp B g;rw[u]at w;have hn:Hd (lQ F k r) i k=aj ⟨r.co,r.aJ,r.image,-1⟩:=by
    rcases w with⟨x,ho,hn⟩|⟨x,_,_⟩|⟨c,x,_,_,_,_⟩|⟨c,x,_,_,_,_,_⟩|⟨c,x,_,_,_,_⟩
    · exact hn
    · omega
    · omega
    · omega
    · omega
  have s:∀(e:Nat) j,says i e (lQ F k r j)=says i e (F j):=fun e j=>oU (fun x=>by omega);have d:∀(e:Nat) j,says i e (lQ G k r j)=says i e (G j):=fun e j=>oU (fun x=>by omega);refine⟨Z,o,fun j b x f q a=>?_,fun j b=>?_,fun j b=>?_,fun e T A=>by omega,fun v=>?_,fun m N t S P=>?_⟩
  · rcases sD f with f|⟨e,rfl⟩
    · obtain⟨e,R,I,O,-⟩:=h.S1 j b x f q a;omega
    · omega
  · have hp:=h.pre j b;by_cases e:j=k
    · subst e;rw[upd_same,upd_same,z];exact cv _
    · rw[xG e,xG e];exact hp
  · by_cases e:j=k
    · subst e;exact .inl (fun C=>by rw[s,d,z])
    · rw[K j e];exact(h.Q j b).imp (fun x C=>by rw[s,d];exact x C) id
  · refine⟨0,_,hn,?_,l⟩;show []++says i 1 (lQ F k r k)=[];rw[cD,s];refine says_no fun x f a q X=>?_;obtain⟨e,R,I,O,-⟩:=h.S1 k y x f q a;omega
  · obtain⟨e,m1,m2,-⟩:=(h.ch.M m N t).ok;omega
theorem Bh.take{k:Int}{r:Rec}{m:fI}(h:Bh p F G L i E pl)(hk:On k)(hR:(jC [] (F k)).2=0)(hok:(iI (jC [] (F k)).1 r).2=0)(hi:r.co=i)(h2:r.kind=4)(hm:m∈L)(hc:m.co=i)(ht:m.taken=ao)(hto:m.jD=k)(hep:r.aJ=m.aJ)(hri:r.image=m.image)(hno:∀x∈F k,x.kind=4->x.co=i->¬m.aJ<=x.aJ)(U6:G k=F k):
    m.aJ=(E:Int)+1/\1<=E/\m.from_=pl E/\Bh p (lQ F k r) (lQ G k r) L i (E+1) (fun e=>if e=E+1 then k else pl e):=by
  obtain⟨t1,t2,t3,hch⟩:=h.ch.take hk hR hok hi h2 hm hc ht hto hep hno;obtain⟨-,u1,-,u3,u4⟩:=Fp hR hok;rw[hi]at u3;obtain⟨ho,hn⟩:Hd F i k=aw/\Hd (lQ F k r) i k=aj ⟨r.co,r.aJ,r.image,-1⟩:=by
    rcases u3 with⟨x,_,_⟩|⟨x,ho,hn⟩|⟨c,x,_,_,_,_⟩|⟨c,x,_,_,_,_,_⟩|⟨c,x,_,_,_,_⟩
    · omega
    · exact⟨ho,hn⟩
    · omega
    · omega
    · omega
  have hs:∀(e:Nat) j,says i e (lQ F k r j)=says i e (F j):=fun e j=>oU (fun x=>by omega);have hs2:∀(e:Nat) j,says i e (lQ G k r j)=says i e (G j):=fun e j=>oU (fun x=>by omega);have hpl:∀x,x<=E->(if x=E+1 then k else pl x)=pl x:=fun x hx=>if_neg V
  --it is offered where it was
  obtain⟨e,m1,m2,m3,m4,-⟩:=(h.ch.M m hm hc).ok;obtain⟨-,r0,r1,r2,r3,r4,r5⟩:=m4 ht;obtain rfl:e=E:=by omega
  have hpe:=h.ch.rng e m1 m2;obtain⟨e',o1,o2,o3,o4,o5,o6⟩:=h.ch.O1 _ hpe r0 r1 r3 r2;obtain⟨x,x1,x2,x3⟩:=o6 V;have hx0:=h.ch.P0 _ hpe r0 r1;refine⟨t1,t2,t3,hch,fun j hj y hy hc hk2=>?_,fun j hj=>?_,fun j hj=>?_,fun z h1 h2=>?_,fun hE=>?_,fun y hy hc' ht' hme=>?_⟩
  · rcases sD hy with hy|⟨_,rfl⟩
    · obtain⟨z,a1,a2,a3,a4⟩:=h.S1 j hj y hy hc hk2;exact⟨z,a1,a2,by omega,by rw[hpl z a3];exact a4⟩
    · omega
  · have hp:=h.pre j hj;by_cases e:j=k
    · subst e;rw[upd_same,upd_same,U6];exact cv _
    · rw[xG e,xG e];exact hp
  · by_cases e:j=k
    · subst e;exact .inl (fun e'=>by rw[hs,hs2,U6])
    · rw[u1 j e];exact(h.Q j hj).imp (fun x e'=>by rw[hs,hs2];exact x e') id
  · rw[hs,hs2,hpl z V];by_cases hz:z=e
    · subst hz;rcases h.Q _ hpe with hq|⟨c,c1,c2⟩
      · exact hq z
      · rw[x1]at c1;cases c1;omega
    · exact h.D z h1 V
  · obtain⟨n,d,a1,a2,a3⟩:=h.run t2;obtain⟨d',d1,d2⟩:=h.im m hm hc ht t1;rw[a1]at d1;cases d1;refine⟨n,_,by simp only[eq_self,if_true];exact hn,?_,?_⟩
    · unfold tot;simp only[eq_self,if_true];rw[hs,says_no (fun y hy hk2 hc he=>by
        obtain⟨z,b1,b2,b3,-⟩:=h.S1 k hk y hy hc hk2;have:=he.symm.trans b1
        push_cast at this
        omega),eI,<-a2]
      exact Iu e (fun z h1 h2=>by rw[hpl z h2,hs])
    · simp only;rw[hri,d2,a3]
  · obtain⟨z,b1,b2,b3,-⟩:=(h.ch.M y hy hc').ok
    push_cast at hme
    omega
theorem Bh.boot{b:Int->List Rec}{k:Int}(h:Bh p F G L i E pl)(f:∀j,b j=if j=k then F k else G j):Bh p F b L i E pl:=by
  have c:∀j,j≠k->b j=G j:=fun j a=>by rw[f,if_neg a]
  have d:b k=F k:=by rw[f,if_pos Z]
  refine⟨h.ch,h.S1,fun j a=>?_,fun j a=>?_,fun e g m=>?_,h.run,h.im⟩
  · by_cases e:j=k
    · subst e;rw[d];exact cv _
    · rw[c j e];exact h.pre j a
  · by_cases e:j=k
    · subst e;exact .inl (fun _=>by rw[d])
    · exact(h.Q j a).imp (fun x l=>by rw[c j e];exact x l) id
  · by_cases a:pl e=k
    · rw[a,d]
    · rw[c _ a];exact h.D e g m
end
end Pw
open Go Go.Proofs Go.LX
namespace Pw
open Dk
def Fw(w:pG)(k:Int):List Rec:=ma (iE w k).d
def Gw(w:pG)(k:Int):List Rec:=Gn (iE w k).d
structure SI(w:pG):Prop where
 wr:WR w
 rep:∀k,On k->(jC [] (Fw w k)).2=0
 tale:∀i,∃E pl,Bh w.prog (Fw w) (Gw w) w.bO i E pl
theorem NH{w w':pG}{k:Int}{x:Oj}(b:On k)(c:w.places.length=3)(h:w'.places=w.places.set k.toNat x):∀j,iE w' j=if j=k then x else iE w j:=by
  intro j;obtain⟨n,rfl⟩:=bs b.1;have hn:n<w.places.length:=by have:=b.2;omega
  unfold iE;rw[h,bh];by_cases a:0<=j
  · obtain⟨m,rfl⟩:=bs a;rw[jP,jP,eW];by_cases e:n=m
    · subst e;rw[if_pos rfl,if_pos hn,if_pos rfl];rfl
    · rw[if_neg e,if_neg V]
  · unfold idx;rw[if_neg a,if_neg a,if_neg V]
theorem pAt_same{w w':pG}(h:w'.places=w.places):∀j,iE w' j=iE w j:=fun j=>by unfold iE;rw[h]
theorem SI.upG{w:pG}(h:SI w){k:Int}(a:On k)(up:(iE w k).up=ba):Gw w k=Fw w k/\(iE w k).cos=(jC [] (Fw w k)).1:=by
 have hat:=h.wr.at a;exact⟨((dOk hat.disk).still (hat.wait up)).symm,by unfold Fw;rw[hat.cos up]⟩
theorem Yt{w w':pG}{k:Int}{x':Oj}{r:Rec}{p:List bA}(h:SI w)(b:On k)(up:(iE w k).up=ba)(N:Noted p (iE w k) x' r)(hp:w'.places=w.places.set k.toNat x'):
    Fw w'=lQ (Fw w) k r/\Gw w'=lQ (Gw w) k r/\(iI (jC [] (Fw w k)).1 r).2=0:=by
  have e:=NH b h.wr.many hp;refine⟨funext fun j=>?_,funext fun j=>?_,?_⟩
  · unfold Fw lQ;rw[e];by_cases a:j=k
    · subst a;rw[if_pos rfl,if_pos rfl];exact N.flog
    · rw[if_neg a,if_neg a]
  · unfold Gw lQ;rw[e];by_cases a:j=k
    · subst a;rw[if_pos rfl,if_pos rfl];exact N.slog
    · rw[if_neg a,if_neg a]
  · rw[<-(h.upG b up).2];exact N.ok
theorem Yu{w w':pG}(h:w'.places=w.places):Fw w'=Fw w/\Gw w'=Gw w:=
 ⟨funext fun j=>by unfold Fw;rw[pAt_same h],funext fun j=>by unfold Gw;rw[pAt_same h]⟩
def Goes(w w':pG)(i:Int):Prop:=∀E pl,Bh w.prog (Fw w) (Gw w) w.bO i E pl->∃b a,Bh w'.prog (Fw w') (Gw w') w'.bO i b a/\E<=b/\(∀e,1<=e->e<=E->a e=pl e)/\∀(e:Nat) j,On j->e≠E->says i e (Fw w' j)=says i e (Fw w j)
theorem UW{w w':pG}{k:Int}{r:Rec}(h:SI w)(d:On k)(c:Fw w'=lQ (Fw w) k r)(a:(iI (jC [] (Fw w k)).1 r).2=0):∀j,On j->(jC [] (Fw w' j)).2=0:=by
  intro j b;rw[c];by_cases e:j=k
  · subst e;exact(Fp (h.rep j b) a).1
  · rw[xG e];exact h.rep j b
theorem G_upd{w w':pG}{k:Int}{r:Rec}(a:Gw w'=lQ (Gw w) k r):∀j,On j->Gw w j<+:Gw w' j:=by
  intro j b;rw[a];by_cases e:j=k
  · subst e;rw[upd_same];exact ff _ _
  · rw[xG e];exact cv _
theorem SI.of{w w':pG}(h:SI w)(c:WR w')(d:∀j,On j->(jC [] (Fw w' j)).2=0)(e:∀k,On k->Gw w k<+:Gw w' k)(b:∀i,Goes w w' i):SI w'/\(∀k,On k->Gw w k<+:Gw w' k)/\∀i,Goes w w' i:=
 ⟨⟨c,d,fun i=>by obtain⟨E,pl,t⟩:=h.tale i;obtain⟨g,a,f,-⟩:=b i E pl t;exact⟨g,a,f⟩⟩,e,b⟩
theorem hd_of{w:pG}(h:SI w){k:Int}(a:On k)(up:(iE w k).up=ba){i:Int}:nY i (iE w k).cos=Hd (Fw w) i k:=by
 unfold Hd;rw[(h.upG a up).2]
theorem Xr{w w':pG}(hp:w'.prog=w.prog)(a:w'.places=w.places){i:Int}(c:∀E pl,Bh w.prog (Fw w) (Gw w) w.bO i E pl->Bh w.prog (Fw w) (Gw w) w'.bO i E pl):Goes w w' i:=by
 intro E pl t;obtain⟨b,d⟩:=Yu a;exact⟨E,pl,by rw[hp,b,d];exact c E pl t,bq _,fun _ _ _=>rfl,fun e j _ _=>by rw[b]⟩
theorem XU{w:pG}(h:SI w){k:Int}{c:Co}{fuel:Int}{r:Rec}(f:On k)(up:(iE w k).up=ba)(d:nY c.kz (iE w k).cos=aj c)(B:1<=fuel)(S:Sliced w.prog k c fuel r)(b:(iI (jC [] (Fw w k)).1 r).2=0){n:Int->List Rec}(m:n=Gw w\/n=lQ (Gw w) k r)(i:Int)(E:Nat)(pl:Nat->Int)(t:Bh w.prog (Fw w) (Gw w) w.bO i E pl):
    Bh w.prog (lQ (Fw w) k r) n w.bO i E pl/\(∀(e:Nat) j,e≠E->says i e (lQ (Fw w) k r j)=says i e (Fw w j))/\(r.kind=3->c.kz=i->Hd (lQ (Fw w) k r) i (pl E)=aj ⟨c.kz,c.aJ,c.image,r.place⟩/\c.aJ=(E:Int)/\r.aJ=(E:Int)/\1<=E/\pl E=k):=by
  have q:=pU h.wr.code;have l:=h.rep k f;have o:=(h.upG f up).1;by_cases g:i=r.co
  · subst g;rw[S.co]at t⊢;rw[hd_of h f up]at d;obtain⟨z,s,A,F,C,v,y⟩:=t.ch.H1 k f c d;have u:=v S.runs;have p:r.aJ=(E:Int):=by rw[S.aJ,s,u]
    rcases S.how with⟨s1,s2,s3,s4,s5,s6⟩|⟨s1,s2,s3,s4,s5⟩
    · refine⟨t.slice (fuel:=fuel.toNat) q f l b S.co s1 m o d V S.img s3 s4 s5,fun e j a=>oU fun x=>a V,fun G=>by omega⟩
    · obtain⟨o1,o2⟩:=t.offer f l b S.co s1 m o d;exact⟨o1,fun e j a=>oU (fun x=>by omega),fun _ _=>o2⟩
  · exact⟨t.other l b g m o,fun e j a=>oU fun x=>g x.2.1.symm,fun _ d=>absurd (d.symm.trans S.co.symm) g⟩
theorem SI_step{w w':pG}(h:SI w)(u:WR w')(hp:w'.prog=w.prog)(ev:Ev w w'):SI w'/\(∀k,On k->Gw w k<+:Gw w' k)/\∀i,Goes w w' i:=by
  cases ev with
  |begin k x' b up hno N hpl hm=>
    obtain⟨f,g,d⟩:=Yt h b up N hpl;have K:=(h.upG b up).1;refine h.of u (UW h b f d) (G_upd g) fun i E pl t=>?_;by_cases q:i=k
    · subst q;obtain⟨I,L⟩:=t.begin b (h.rep i b) d Z Z Z hno K Z;subst I;exact⟨1,_,by rw[hp,f,g,hm];exact L,by omega,fun e h1 h2=>by omega,fun e j _ p=>by rw[f];exact oU (fun x=>by have:=x.1;simp[Xq]at this)⟩
    · refine⟨E,pl,by rw[hp,f,g,hm];exact t.other (h.rep k b) d q (.inr Z) K,bq _,fun _ _ _=>rfl,fun e j _ p=>by rw[f];exact oU (fun x=>by have:=x.1;simp[Xq]at this)⟩
  |run k c fuel r x' b up hc hf S N hpl hm=>
    obtain⟨f,g,d⟩:=Yt h b up N hpl;refine h.of u (UW h b f d) (G_upd g) fun i E pl t=>?_;obtain⟨L,O,ho⟩:=XU h b up hc hf.1 S d (.inr Z) i E pl t;refine⟨E,pl,?_,bq _,fun _ _ _=>rfl,fun e j _ p=>by rw[f];exact O e j p⟩;rw[hp,f,g];by_cases h3:r.kind=3
    · rw[if_pos h3]at hm;refine L.bO fun m s=>?_;rw[hm]at s;refine(UU h.wr s).imp id fun e l=>?_;subst e;have n:c.kz=i:=l;obtain⟨o1,o2,o3,o4,o5⟩:=ho h3 n;refine⟨⟨E,o4,bq _,by show c.aJ+1=_;omega,fun _=>⟨o5.symm,r,?_,h3,by rw[S.co];exact n,o3,Z⟩,fun C=>(by cases C)⟩,fun _ _=>⟨_,o1,Z⟩⟩;rw[o5,upd_same];simp
    · rw[if_neg h3]at hm;rw[hm];exact L
  |tear k c r x' b up hc S T hpl hm=>
    have e:=NH b h.wr.many hpl;have g:Gw w'=Gw w:=funext fun j=>by
      unfold Gw;rw[e];by_cases a:j=k
      · subst a;rw[if_pos rfl];exact T.slog
      · rw[if_neg a]
    have d:(iI (jC []<|Fw w k).1 r).2=0:=by rw[<-(h.upG b up).2];exact T.ok
    rcases T.flog with hf|hf
    · have f:Fw w'=Fw w:=funext fun j=>by
        unfold Fw;rw[e];by_cases a:j=k
        · subst a;rw[if_pos rfl];exact hf
        · rw[if_neg a]
      refine h.of u (fun j a=>by rw[f];exact h.rep j a) (fun j a=>by rw[g];exact cv _) (fun i E pl t=>?_);exact⟨E,pl,by rw[hp,f,g,hm];exact t,bq _,fun _ _ _=>rfl,fun e j _ _=>by rw[f]⟩
    · have f:Fw w'=lQ (Fw w) k r:=funext fun j=>by
        unfold Fw lQ;rw[e];by_cases a:j=k
        · subst a;rw[if_pos rfl,if_pos rfl];exact hf
        · rw[if_neg a,if_neg a]
      refine h.of u (UW h b f d) (fun j a=>by rw[g];exact cv _) (fun i E pl t=>?_);obtain⟨L,O,-⟩:=XU h b up hc V S d (.inl Z) i E pl t;exact⟨E,pl,by rw[hp,f,g,hm];exact L,bq _,fun _ _ _=>rfl,fun e j _ p=>by rw[f];exact O e j p⟩
  |send k c b up hc ho hpl hm=>
    obtain⟨R,e2⟩:=Yu hpl;refine h.of u (fun j a=>by rw[R];exact h.rep j a) (fun j a=>by rw[e2];exact cv _) (fun i=>Xr hp hpl (fun E pl t=>t.bO (fun m s=>?_)));rw[hm]at s;refine(UU h.wr s).imp id fun e l=>?_;subst e;have n:c.kz=i:=l;rw[hd_of h b up,n]at hc;obtain⟨I,b1,b2,b3,b4,b5,b6⟩:=t.ch.H1 k b c hc;refine⟨⟨I,b2,b3,by show c.aJ+1=_;omega,fun _=>⟨b4.symm,?_⟩,fun C=>(by cases C)⟩,fun _ he=>?_⟩
    · rw[b4];exact b6 V
    · have a6:c.aJ+1=(E:Int)+1:=he;obtain rfl:I=E:=by omega
      exact⟨c,by rw[b4];exact hc,Z⟩
  |gone m c x' q C up hc he ho N hpl hm=>
    have v:=h.wr.mok m q;have b:On m.jD:=v.2.1;obtain⟨f,g,d⟩:=Yt h b up N hpl;have K:=(h.upG b up).1;refine h.of u (UW h b f d) (G_upd g) fun i E pl t=>?_;have X:∀{F G:Int->List Rec},Bh w.prog F G w.bO i E pl->Bh w.prog F G w'.bO i E pl:=fun t=>t.bO fun y B=>.inl<|hm y B;refine⟨E,pl,?_,bq _,fun _ _ _=>rfl,fun e j _ p=>by rw[f];exact oU (fun x=>by have:=x.1;simp at this)⟩;rw[hp,f,g];refine X ?_;by_cases o:i=m.co
    · subst o;obtain⟨I,m1,m2,m3,-,m5⟩:=(t.ch.M m q Z).ok;have:=(m5 C).1;exact t.gone b (h.rep _ b) d Z Z (by show m.aJ-1<_;omega) V K
    · exact t.other (h.rep _ b) d o (.inr Z) K
  |take m x' q C up hno N hpl hm=>
    have v:=h.wr.mok m q;have b:On m.jD:=v.2.1;obtain⟨f,g,d⟩:=Yt h b up N hpl;have K:=(h.upG b up).1;refine h.of u (UW h b f d) (G_upd g) fun i E pl t=>?_;have O:∀(e:Nat) j,says i e (Fw w' j)=says i e (Fw w j):=fun e j=>by rw[f];exact oU (fun x=>by have:=x.1;simp at this)
    by_cases o:i=m.co
    · subst o;have Q:∀x∈Fw w m.jD,x.kind=4->x.co=m.co->¬m.aJ<=x.aJ:=by
        intro x hx h4 l a5;have:hadP (iE w m.jD) m.co m.aJ=true:=ng.2 ⟨x,hx,by simp[h4,l,a5]⟩;rw[hno]at this;cases this
      obtain⟨t1,t2,t3,L⟩:=t.take b (h.rep _ b) d Z Z q Z C Z Z Z Q K;refine⟨E+1,fun e=>if e=E+1 then m.jD else pl e,?_,by omega,fun e h1 h2=>if_neg V,fun e j _ _=>O e j⟩;rw[hp,f,g];refine L.bO fun y B=>(hm y B).imp id fun e l=>?_;subst e;refine⟨⟨E,t2,by omega,t1,fun x=>(by cases x),fun _=>⟨bq _,?_,?_⟩⟩,fun x=>(by cases x)⟩
      · show m.jD=_;simp only[eq_self,if_true]
      · show m.from_=_;rw[t3,if_neg V]
    · refine⟨E,pl,?_,bq _,fun _ _ _=>rfl,fun e j _ _=>O e j⟩;rw[hp,f,g];refine(t.other (h.rep _ b) d o (.inr Z) K).bO fun y B=>(hm y B).imp id fun e l=>?_;subst e;exact absurd l.symm o
  |again m q C up had hpl hm=>
    obtain⟨R,e2⟩:=Yu hpl;have b:On m.jD:=(h.wr.mok m q).2.1;refine h.of u (fun j a=>by rw[R];exact h.rep j a) (fun j a=>by rw[e2];exact cv _) (fun i=>Xr hp hpl (fun E pl t=>t.bO (fun y B=>(hm y B).imp id (fun e l=>?_))));subst e;have n:m.co=i:=l;subst n;obtain⟨I,m1,m2,m3,m4,-⟩:=(t.ch.M m q Z).ok;obtain⟨m5,r0,r1,r2,r3,r4,r5⟩:=m4 C;obtain⟨x,hx,A⟩:=ng.1 had;simp only[cS,decide_eq_true_eq]at A;obtain⟨z,a1,a2,a3,a4⟩:=t.ch.T1 m.jD b x hx A.1.2<|.inr A.1.1;obtain⟨e',o1,o2,o3,o4,o5,o6⟩:=t.ch.O1 _ (t.ch.rng I m1 m2) r0 r1 r3 r2;obtain rfl:e'=I:=by omega
    have a0:e'<E:=by have:=A.2;omega
    refine⟨⟨e',m1,m2,m3,fun x=>(by cases x),fun _=>⟨by omega,?_,m5⟩⟩,fun x=>(by cases x)⟩;show m.jD=_;rw[<-r5];exact o5 a0
  |still hpl hm=>
    obtain⟨R,e2⟩:=Yu hpl;exact h.of u (fun j a=>by rw[R];exact h.rep j a) (fun j a=>by rw[e2];exact cv _) (fun i=>Xr hp hpl (fun E pl t=>t.bO (fun y B=>.inl (hm y B))))
  |crash k b up hpl hm=>
    have e:=NH b h.wr.many hpl;have g:Gw w'=Gw w:=funext fun j=>by
      unfold Gw;rw[e];by_cases a:j=k
      · subst a;rw[if_pos rfl]
      · rw[if_neg a]
    have f:Fw w'=Fw w:=funext fun j=>by
      unfold Fw;rw[e];by_cases a:j=k
      · subst a;rw[if_pos rfl]
      · rw[if_neg a]
    exact h.of u (fun j a=>by rw[f];exact h.rep j a) (fun j a=>by rw[g];exact cv _) (fun i E pl t=>⟨E,pl,by rw[hp,f,g,hm];exact t,bq _,fun _ _ _=>rfl,fun e j _ _=>by rw[f]⟩)
  |boot k b down ok hpl hm=>
    have e:=NH b h.wr.many hpl;have hat:=h.wr.at b;obtain⟨b1,b2,b3,b4⟩:=boot_disk hat.disk;have g:∀j,Gw w' j=if j=k then Fw w k else Gw w j:=fun j=>by
      unfold Gw Fw;rw[e];by_cases a:j=k
      · subst a;rw[if_pos rfl,if_pos rfl];exact b2
      · rw[if_neg a,if_neg a]
    have f:Fw w'=Fw w:=funext fun j=>by
      unfold Fw;rw[e];by_cases a:j=k
      · subst a;rw[if_pos rfl];exact b3
      · rw[if_neg a]
    refine h.of u (fun j a=>by rw[f];exact h.rep j a) (fun j a=>?_) (fun i E pl t=>⟨E,pl,by rw[hp,f,hm];exact t.boot g,bq _,fun _ _ _=>rfl,fun e j _ _=>by rw[f]⟩);rw[g];by_cases P:j=k
    · subst P;rw[if_pos rfl];exact(dOk hat.disk).pre
    · rw[if_neg P];exact cv _
end Pw
open Go Go.Proofs Go.LX
namespace Pw
open Dk
def NI(p:List bA):pG:=⟨p,[⟨[],zD,ba⟩,⟨[],zD,ba⟩,⟨[],zD,ba⟩],[]⟩
theorem zD_ok:jh zD=0/\Gn zD=[]/\ma zD=[]:=by
 obtain⟨k1,k2⟩:=dOk_mk (a:=[]) (w:=[]) JO zq3 (by simp[txt]);have e:(⟨txt [],[]⟩:iV)=zD:=rfl;rw[e]at k1 k2;exact⟨k1,k2,by rw[(dOk k1).still Z,k2]⟩
theorem pAt_new(p:List bA)(k:Int):(iE (NI p) k).d=zD/\(iE (NI p) k).cos=[]:=by
  unfold iE NI idx;by_cases a:0<=k
  · rw[if_pos a];simp only
    match h:k.toNat with
    |0=>exact⟨Z,Z⟩
    |1=>exact⟨Z,Z⟩
    |2=>exact⟨Z,Z⟩
    |n+3=>exact⟨rfl,rfl⟩
  · rw[if_neg a];exact⟨Z,Z⟩
theorem si_new{p:List bA}(hp:KW p=0):SI (NI p):=by
  obtain⟨w,v,o⟩:=zD_ok;have b:∀k,Fw (NI p) k=[]:=fun k=>by unfold Fw;rw[(pAt_new p k).1,o]
  have n:∀k,Gw (NI p) k=[]:=fun k=>by unfold Gw;rw[(pAt_new p k).1,v]
  have t:∀i k,Hd (Fw<|NI p) i k=none:=fun i k=>by unfold Hd;rw[b];rfl
  have l:PlR p ⟨[],zD,ba⟩:=⟨w,fun h=>(by cases h),fun _=>rfl,fun _=>(by simp only[o];rfl),fun c g=>(by cases g)⟩;have f:∀m,m∈(NI p).bO->False:=fun m f=>by simp[NI]at f
  have j:∀i,Ap (Fw<|NI p) (NI p).bO i 0 (fun _=>0):=fun i=>
    { rng:=fun e q s=>by omega
      first:=fun h=>by omega
      P0:=fun k d r a=>by rw[b]at a;cases a
      T1:=fun k d r a=>by rw[b]at a;cases a
      T2:=fun e q s=>by omega
      O1:=fun k d r a=>by rw[b]at a;cases a
      H1:=fun k d c g=>by rw[t]at g;cases g
      H2:=fun h=>by omega
      M:=fun m h=>(f m h).elim}
  refine⟨⟨hp,Z,by simp[NI],fun m h=>(f m h).elim,fun x u=>?_,fun m h=>(f m h).elim⟩,fun k d=>(by rw[b];rfl),fun i=>⟨0,fun _=>0,?_⟩⟩
  · have:x=⟨[],zD,ba⟩:=by simpa[NI]using u
    rw[this];exact l
  · exact
      { ch:=j i
        S1:=fun k d r a=>by rw[b]at a;cases a
        pre:=fun k d=>by rw[b,n];exact cv _
        Q:=fun k d=>.inl fun e=>by rw[b,n]
        D:=fun e q s=>by omega
        run:=fun h=>by omega
        im:=fun m h=>(f m h).elim}
def XV(w:pG):List Hap->pG
 |[]=>w
 |x::l=>if(fO w x).2≠0 then XV w l else XV (fO w x).1 l
theorem si_play:∀(l:List Hap) (w:pG),SI w->SI (XV w l)/\(XV w l).prog=w.prog
  |[],w,h=>⟨h,rfl⟩
  |x::l,w,h=>by
    unfold XV;by_cases a:(fO w x).2=0
    · rw[if_neg V];obtain⟨c,b,d⟩:=step_ev h.wr (w':=(fO w x).1)<|jn Z a;obtain⟨k1,k2⟩:=si_play l _ (SI_step h c b d).1;exact⟨k1,k2.trans b⟩
    · rw[if_pos a];exact si_play l w h
theorem three{w:pG}(h:w.places.length=3):w.places=[iE w 0,iE w 1,iE w 2]:=by
 match hp:w.places,h with
 |[a,b,c],_=>
  have d:iE w 0=a:=by unfold iE idx;rw[hp];rfl
  have e:iE w 1=b:=by unfold iE idx;rw[hp];rfl
  have f:iE w 2=c:=by unfold iE idx;rw[hp];rfl
  rw[d,e,f]
theorem on_three{k:Int}(h:On k):k=0\/k=1\/k=2:=by have:=h.1;have:=h.2;omega
def pE(w:pG)(i:Int):List (Int×Int×Int):=
 (match Hd (Fw w) i 0 with|some c=>[((0:Int),c.aJ,c.offered)]|none=>[])++
 (match Hd (Fw w) i 1 with|some c=>[((1:Int),c.aJ,c.offered)]|none=>[])++
 (match Hd (Fw w) i 2 with|some c=>[((2:Int),c.aJ,c.offered)]|none=>[])
theorem held_mem{w:pG}{i:Int}{x:Int×Int×Int}(a:x∈pE w i):On x.1/\∃c,Hd (Fw w) i x.1=aj c/\x.2.1=c.aJ/\x.2.2=c.offered:=by
  unfold pE at a;rcases cE.1 a with a|a
  · rcases cE.1 a with a|a
    · cases h:Hd (Fw w) i 0 with
      |none=>rw[h]at a;cases a
      |some c=>rw[h]at a;simp at a;subst a;exact⟨⟨by omega,by omega⟩,c,h,Z,Z⟩
    · cases h:Hd (Fw w) i 1 with
      |none=>rw[h]at a;cases a
      |some c=>rw[h]at a;simp at a;subst a;exact⟨⟨by omega,by omega⟩,c,h,Z,Z⟩
  · cases h:Hd (Fw w) i 2 with
    |none=>rw[h]at a;cases a
    |some c=>rw[h]at a;simp at a;subst a;exact⟨⟨by omega,by omega⟩,c,h,Z,Z⟩
theorem held_of{w:pG}{i k:Int}(a:On k){c:Co}(h:Hd (Fw w) i k=aj c):(k,c.aJ,c.offered)∈pE w i:=by
 unfold pE;rcases on_three a with rfl|rfl|rfl<;>rw[h]<;>simp
theorem held_up(w:pG)(i:Int):(pE w i).Pairwise (fun x y=>x.1<y.1):=by
 unfold pE;cases Hd (Fw w) i 0<;>cases Hd (Fw w) i 1<;>cases Hd (Fw w) i 2<;>simp
theorem held_one{w:pG}(h:SI w)(i:Int):∃E:Nat,(∀x∈pE w i,1<=x.2.1/\x.2.1<=(E:Int))/\(∀x∈pE w i,x.2.2<0->x.2.1=(E:Int))/\(pE w i).Pairwise (fun x y=>x.2.1≠y.2.1)/\(1<=E->∃x∈pE w i,x.2.1=(E:Int))/\(E=0->pE w i=[]):=by
  obtain⟨E,pl,t⟩:=h.tale i;have a:∀x∈pE w i,∃e:Nat,x.2.1=(e:Int)/\1<=e/\e<=E/\pl e=x.1/\(x.2.2= -1->e=E)/\(x.2.2≠ -1->0<=x.2.2):=by
    intro x b;obtain⟨n,c,c1,c2,K⟩:=held_mem b;obtain⟨e,g,f,d,m,k,j⟩:=t.ch.H1 _ n c c1;refine⟨e,by omega,f,d,m,fun ho=>k V,fun ho=>?_⟩;obtain⟨r,p,A,L,G,F⟩:=j V;have:=t.ch.P0 _ n r p;omega
  refine⟨E,fun x b=>?_,fun x b ho=>?_,?_,fun l=>?_,fun l=>?_⟩
  · obtain⟨e,g,f,d,-⟩:=a x b;omega
  · obtain⟨e,g,f,d,m,k,j⟩:=a x b;by_cases o:x.2.2= -1
    · have:=k o;omega
    · have:=j o;omega
  · refine(held_up w i).imp_of_mem fun{x y}b q s I=>?_;obtain⟨e,g,f,d,m,-⟩:=a x b;obtain⟨u,C,B,z,v,-⟩:=a y q;obtain rfl:e=u:=by omega
    omega
  · obtain⟨c,c1,c2⟩:=t.ch.H2 l;exact⟨_,held_of (t.ch.rng E l<|bq _) c1,c2⟩
  · rw[List.eq_nil_iff_forall_not_mem];intro x b;obtain⟨e,g,f,d,-⟩:=a x b;omega
theorem Tc{w:pG}(h:SI w){x:Hap}(b:(fO w x).2=0)(i:Int)(f:pE w i≠[]):pE (fO w x).1 i≠[]:=by
 obtain⟨j,k,q⟩:=step_ev h.wr (w':=(fO w x).1)<|jn Z b;obtain⟨B,s,m⟩:=SI_step h j k q;obtain⟨E,pl,t⟩:=h.tale i;obtain⟨p,d,a,A,-,-⟩:=m i E pl t;have z:1<=E:=by
  obtain⟨y,l,o⟩:=List.exists_cons_of_ne_nil f;obtain⟨g,c,c1,-,-⟩:=held_mem (x:=y) (by rw[o];simp);obtain⟨e,u,r,v,-⟩:=t.ch.H1 _ g c c1;omega
 obtain⟨c,c1,-⟩:=a.ch.H2 V;have:=held_of (a.ch.rng p V<|bq _) c1;intro n;rw[n]at this;cases this
end Pw
open Go Go.Proofs Go.LX
namespace Pw
open Dk
theorem setP_self{w:pG}{k:Int}(h:0<=k/\k<w.places.length):Fj w k (iE w k)=w:=by
  have:=(pAt_eq h).2.2;unfold Fj;have e:w.places.set k.toNat (iE w k)=w.places:=by
    apply List.ext_getElem?;intro i;rw[eW];by_cases a:k.toNat=i
    · subst a;rw[if_pos rfl,if_pos (kq.1 this).1,this]
    · rw[if_neg a]
  rw[e]
def UX(w:pG):List Hap->pG×List Int
 |[]=>(w,[])
 |x::l=>let v:=if(fO w x).2=0 then(fO w x).1 else w;((UX v l).1,(fO w x).2::(UX v l).2)
theorem runL_cons(w:pG)(x:Hap)(l:List Hap):UX w (x::l)=((UX (if(fO w x).2=0 then(fO w x).1 else w) l).1,(fO w x).2::(UX (if(fO w x).2=0 then(fO w x).1 else w) l).2):=rfl
end Pw
open Go Go.Proofs Go.LX
namespace Pw
open Dk
def AY(x:iW):Hap:=⟨x.kind,x.place,x.co,x.n⟩
def QE(x:Oj):eG:=⟨x.cos,x.d.safe,x.d.wait,x.up⟩
def sH(w:pG):aX:=⟨w.prog,w.places.map QE,w.bO⟩
theorem idx_map{α β:Type}(f:α->β)(l:List α)(k:Int):idx (l.map f) k=(idx l k).map f:=by
 unfold idx;split<;>simp
theorem g_at{w:pG}{k:Int}(h:0<=k/\k<w.places.length):idx (sH w).places k=aj (QE (iE w k)):=by
 show idx (w.places.map QE) k=_;rw[idx_map,(pAt_eq h).1];rfl
theorem g_set(w:pG)(k:Int)(x:Oj):(⟨w.prog,(sH w).places.set k.toNat (QE x),w.bO⟩:aX)=sH (Fj w k x):=by
 unfold sH Fj;simp only[List.map_set]
theorem UY{w:pG}(h:WR w){k:Int}(a:On k):0<=k/\k<w.places.length:=by
 have:=h.many;have:=a.1;have:=a.2;omega
theorem UZ{d:iV}(h:jh d=0):d.wait.length<=60000:=by
 have:=(Dk.xz h).1;omega
theorem put_wait(d:iV)(r:Rec):(xD d r).1.wait.length<=60000:=by
 unfold xD putT;repeat' split
 all_goals first|(show([]:Str).length<=60000;simp)|(simp only[bk,bw,eE];omega)
theorem note_g{w:pG}(h:WR w){k:Int}(g:On k){r:Rec}(i:QT r){N:Nat}(hN:60002<=N):
    vX N (sH w) k r=aj ((pV (iE w k) r).2,sH (Fj w k (pV (iE w k) r).1)):=by
  have a:=UY h g;have hp:=h.at g;have l:=UZ hp.disk;have j:=put_wait (iE w k).d r;have f:sH w=sH (Fj w k<|iE w k):=by rw[setP_self a]
  unfold vX pV;rw[g_at a];simp only[bnd];rw[next_eq N V];simp only[bnd];by_cases b:(iI (iE w k).cos r).2=0
  · rw[dF (show¬(iI (QE (iE w k)).cos r).2≠0 from fun h=>h b),cond_false,if_neg (show¬(iI (iE w k).cos r).2≠0 from fun h=>h b)];show(Ji N (iE w k).d r).bind _=_;rw[put_eq N hN _ r V i];simp only[bnd];unfold KM;by_cases c:(xD (iE w k).d r).2=0
    · rw[dF (show¬(xD (iE w k).d r).2≠0 from fun h=>h c),cond_false,if_neg (show¬(xD (iE w k).d r).2≠0 from fun h=>h c)];show(Mc N (xD (iE w k).d r).1).bind _=_;rw[sync_eq N hN _ V];simp only[bnd];by_cases e:(GV (xD (iE w k).d r).1).2=0
      · rw[dF (show¬(GV (xD (iE w k).d r).1).2≠0 from fun h=>h e),cond_false,if_neg (show¬(GV (xD (iE w k).d r).1).2≠0 from fun h=>h e)];rw[<-g_set,List.set_set];rfl
      · rw[dT (show(GV (xD (iE w k).d r).1).2≠0 from e),cond_true,if_pos e,<-f]
    · rw[dT (show(xD (iE w k).d r).2≠0 from c),cond_true,if_pos c,<-f]
  · rw[dT (show(iI (QE (iE w k)).cos r).2≠0 from b),cond_true,if_pos b,<-f];rfl
theorem tear_g{w:pG}(h:WR w){k:Int}(f:On k){r:Rec}(g:QT r)(n:Int){N:Nat}(hN:60002<=N):
    JA N (sH w) k r n=aj ((Rc (iE w k) r n).2,sH (Fj w k (Rc (iE w k) r n).1)):=by
  have a:=UY h f;have hp:=h.at f;have j:=UZ hp.disk;have i:=put_wait (iE w k).d r;have e:sH w=sH (Fj w k<|iE w k):=by rw[setP_self a]
  unfold JA Rc;rw[g_at a];simp only[bnd];rw[next_eq N V];simp only[bnd];by_cases b:(iI (iE w k).cos r).2=0
  · rw[dF (show¬(iI (QE (iE w k)).cos r).2≠0 from fun h=>h b),cond_false,if_neg (show¬(iI (iE w k).cos r).2≠0 from fun h=>h b)];show(Ji N (iE w k).d r).bind _=_;rw[put_eq N hN _ r V g];simp only[bnd];unfold KQ;by_cases c:(xD (iE w k).d r).2=0
    · rw[dF (show¬(xD (iE w k).d r).2≠0 from fun h=>h c),cond_false,if_neg (show¬(xD (iE w k).d r).2≠0 from fun h=>h c)];show(Jz N (xD (iE w k).d r).1 _).bind _=_;rw[crash_eq N hN _ _ V];simp only[bnd];rw[<-g_set];rfl
    · rw[dT (show(xD (iE w k).d r).2≠0 from c),cond_true,if_pos c,<-e]
  · rw[dT (show(iI (QE (iE w k)).cos r).2≠0 from b),cond_true,if_pos b,<-e];rfl
theorem send_g(w:pG)(m:fI):Cj (sH w) m=aj (sH ⟨w.prog,w.places,GX w.bO m⟩):=by
  unfold Cj;show(Pf w.bO m).bind _=_;rw[wSend];simp only[bnd];unfold GX;by_cases a:dN w.bO=0
  · rw[if_neg (show¬dN w.bO≠0 from fun h=>h a)];by_cases b:dN [m]=0
    · rw[if_neg (show¬dN [m]≠0 from fun h=>h b),if_neg (show¬(dN w.bO≠0\/dN [m]≠0) by simp[a,b])];rw[dT rfl,cond_true];rfl
    · rw[if_pos (show dN [m]≠0 from b),if_pos (show(dN w.bO≠0\/dN [m]≠0)from .inr b)];rw[dF b,cond_false]
  · rw[if_pos (show dN w.bO≠0 from a),if_pos (show(dN w.bO≠0\/dN [m]≠0)from .inl a)];rw[dF a,cond_false]
theorem offer_g(w:pG)(k:Int)(c:Co)(a:kv (c.aJ+1)):Ga (sH w) k c=aj (sH ⟨w.prog,w.places,GX w.bO (Ta k c)⟩):=by
 unfold Ga;rw[ky a,send_g];rfl
theorem MC{x:Oj}(h:jh x.d=0){N:Nat}(hN:60002<=N):oJ N (⟨(QE x).safe,(QE x).wait⟩:iV)=aj ((SY x.d).1,ma x.d,0):=by
 show oJ N x.d=_;have:=UZ h;rw[recover_eq N hN _ V];unfold aaP;rw[if_neg (show¬jh x.d≠0 from fun e=>e h)];rfl
theorem any_find{α:Type}{p:α->Bool}{l:List α}:(l.findIdx? p).isSome=l.any p:=by
  induction l with
  |nil=>rfl
  |cons x l ih=>
    rw[List.findIdx?_cons,List.any_cons];cases p x
    · simp[ih]
    · simp
theorem had_g{x:Oj}(h:jh x.d=0)(i e:Int){N:Nat}(hN:60002<=N):Qs N (QE x) i e=aj (hadP x i e):=by
 unfold Qs hadP;rw[MC h hN];simp only[bnd,bh];rw[P7 (fun r:Rec=>(ab ((r.kind:Int)=4)&&ab ((r.co:Int)=i))&&ab ((e:Int)<=r.aJ)) (fun n=>aj (ab ((0:Int)<=n))) (ma x.d) (fun n r b a=>by
  unfold KO;rw[show idx (ma x.d) (n:Int)=aj r by unfold idx;rw[if_pos V,bh];exact a];rfl)]
 rw[<-any_find];cases hf:(ma x.d).findIdx? (fun r:Rec=>(ab ((r.kind:Int)=4)&&ab ((r.co:Int)=i))&&ab ((e:Int)<=r.aJ))with
 |none=>rfl
 |some n=>simp only[pD];rw[dT V]
end Pw
open Go Go.Proofs Go.LX
namespace Pw
open Dk
theorem nn{x:Int}(h:x=0):¬x≠0:=fun e=>e h
theorem find_g(a:List Co)(i:Int):(qZ a i=aj (-1)/\nY i a=aw)\/∃(n:Int) (c:Co),qZ a i=aj n/\nY i a=aj c/\idx a n=aj c/\0<=n:=by
  rw[findEq];unfold nY;cases h:a.findIdx? (fun x=>ab (x.kz=i))with
  |none=>
    refine .inl ⟨Z,?_⟩;rw[kj]at h;rw[qC];intro x e;rw[h x e];simp
  |some n=>
    obtain⟨b,f,g⟩:=mX.1 h;refine .inr ⟨n,a[n],Z,?_,?_,by omega⟩
    · rw[nh];exact⟨f,n,b,Z,fun j d=>by simpa using g j d⟩
    · unfold idx;rw[if_pos V,bh];exact bc b
theorem slice_g{w:pG}(h:WR w){k:Int}{c:Co}{fuel:Int}(x:1<=fuel/\fuel<=2000){N:Nat}(hN:60002<=N):
    ∃r,Ko N (sH w) k c fuel=aj (r,(uA w.prog k c fuel).2,sH w)/\((uA w.prog k c fuel).2=0->r=(uA w.prog k c fuel).1):=by
  have hp:=h.code;have u:=pU hp;unfold Ko uA;by_cases i:0<=c.offered
  · rw[dT i,cond_true,if_pos i];exact⟨_,Z,fun _=>rfl⟩
  · rw[dF i,cond_false,if_neg i];show∃r,(sF N w.prog c.image).bind _=_/\_;rw[Ep _ _ V];simp only[bnd];unfold Jy;by_cases g:(dO w.prog c.image).2=0
    · rw[dF (nn g),cond_false,if_neg (nn g)];have j:=img_of hp g;have st:=UQ j.st;generalize (dO w.prog c.image).1=s at j st⊢;have go:∀t:LX.State,t=wake s->t.status=0->(wake s).status=0->∃r,xu N (sH w) fuel c t.frames t.cells t.status t.bS=aj (r,0,sH w)/\r=(⟨2,c.kz,c.aJ,0,(xJ w.prog fuel.toNat [] 0<|wake s).2.1,xC<|dM (xJ w.prog fuel.toNat [] 0<|wake s).1⟩:Rec):=by
        intro t q y l;unfold xu;show∃r,(WQ N w.prog t fuel).bind _=_/\_;rw[vm_Run_eq _ _ _ V,q];rw[if_neg (nn hp),if_neg (nn (JJ.2 st)),if_neg V,if_neg (nn l)];simp only[bnd];rw[dF V,cond_false];show∃r,(Fa N w.prog _).bind _=_/\_;rw[UN _ _ V,if_neg (nn hp),if_neg (nn (JJ.2 (Xj u fuel.toNat [] 0 _ st zq3).1))];exact⟨_,Z,Z⟩
      by_cases b:s.status=3
      · have a:wake s=⟨s.frames,s.cells,0,0⟩:=by unfold wake;rw[if_pos b]
        by_cases d:0<=s.bS/\s.bS<3/\s.bS≠k
        · rw[dT b,cond_true,show((ab ((0:Int)<=s.bS)&&ab ((s.bS:Int)<3))&&ab ((s.bS:Int)≠k))=ba by
            rw[dT d.1,dT d.2.1,dT d.2.2];rfl,cond_true,if_pos ⟨b,d⟩]
          exact⟨_,Z,fun _=>rfl⟩
        · rw[dT b,cond_true,show((ab ((0:Int)<=s.bS)&&ab ((s.bS:Int)<3))&&ab ((s.bS:Int)≠k))=ao by
            simp only[Bool.and_eq_false_iff,decide_eq_false_iff_not];by_cases o:0<=s.bS
            · by_cases p:s.bS<3
              · exact .inr fun v=>d ⟨o,p,v⟩
              · exact .inl<|.inr p
            · exact .inl (.inl o),cond_false,if_neg (fun e=>d e.2)]
          show∃r,(Um w.prog s).bind _=_/\_;rw[vm_Wake_eq,if_neg (nn hp),if_neg (nn (JJ.2 j.st)),if_neg (show¬s.status≠3 from fun e=>e b)];simp only[bnd];rw[dF V,cond_false,if_neg (nn (by rw[a]))];obtain⟨r,m,n⟩:=go ⟨s.frames,s.cells,0,0⟩ a.symm Z (by rw[a]);exact⟨r,m,fun _=>n⟩
      · have a:wake s=s:=by unfold wake;rw[if_neg b]
        rw[dF b,cond_false,if_neg (fun e=>b e.1)];by_cases f:s.status=0
        · rw[if_neg (nn (by rw[a];exact f))];obtain⟨r,m,n⟩:=go s a.symm f (by rw[a];exact f);exact⟨r,m,fun _=>n⟩
        · rw[if_pos (show(wake s).status≠0 by rw[a];exact f)];unfold xu;show∃r,(WQ N w.prog s fuel).bind _=_/\_;rw[vm_Run_eq _ _ _ V];rw[if_neg (nn hp),if_neg (nn (JJ.2 j.st)),if_neg V,if_pos f];exact⟨_,Z,fun e=>absurd e zq3⟩
    · rw[dT (show(dO w.prog c.image).2≠0 from g),cond_true,if_pos g];exact⟨_,Z,fun _=>rfl⟩
theorem co_of{w:pG}(h:WR w){k:Int}(b:On k){c:Co}(a:c∈(iE w k).cos):coOk c:=(h.at b).good.1.ok c a
theorem img_I64{p:List bA}(hp:KW p=0){l:List Int}(h:(dO p l).2=0):∀x∈l,kv x:=(img_b (pU hp) (img_of hp h)).1
def Is(o:Option (Int×aX))(q:pG×Int):Prop:=∃v,o=aj (q.2,sH v)/\(q.2=0->v=q.1)
theorem Is.mk(v:pG)(e:Int):Is (aj (e,sH v)) (v,e):=⟨v,rfl,fun _=>rfl⟩
theorem Is.err{v u:pG}{e:Int}(h:e≠0):Is (aj (e,sH v)) (u,e):=⟨v,rfl,fun a=>absurd a h⟩
theorem Is.pair{o:Option (Int×aX)}{q:pG×Int}(h:Is o q):Is (o.bind fun y=>aj (y.1,y.2)) q:=by
 obtain⟨v,rfl,a⟩:=h;exact⟨v,Z,a⟩
def runK(w:pG)(b a m:Int)(c:Co)(fuel:Int):pG×Int:=
 if fuel<1\/2000<fuel then(w,3)else
 if(uA w.prog a c fuel).2≠0 then(w,(uA w.prog a c fuel).2)else
 if b=9 then(Fj w a (Rc (iE w a) (uA w.prog a c fuel).1 m).1,(Rc (iE w a) (uA w.prog a c fuel).1 m).2)else
 if(pV (iE w a) (uA w.prog a c fuel).1).2≠0 then(w,(pV (iE w a) (uA w.prog a c fuel).1).2)else
 if(uA w.prog a c fuel).1.kind=3 then(⟨w.prog,(Fj w a (pV (iE w a) (uA w.prog a c fuel).1).1).places,GX w.bO (Ta a ⟨c.kz,c.aJ,c.image,(uA w.prog a c fuel).1.place⟩)⟩,0)else(Fj w a (pV (iE w a) (uA w.prog a c fuel).1).1,0)
theorem runW_eq(w:pG)(x:Hap):runW w x=match nY x.co (iE w x.place).cos with
 |none=>(w,5)
 |some c=>runK w x.kind x.place x.n c (if x.kind=9 then 2000 else x.n):=rfl
theorem note_log{x:Oj}{r:Rec}(h:(pV x r).2=0):(iI x.cos r).2=0/\(pV x r).1.cos=(iI x.cos r).1:=by
  unfold pV at h⊢;by_cases a:(iI x.cos r).2=0
  · rw[if_neg (nn a)]at h⊢;by_cases b:(xD x.d r).2=0
    · rw[if_neg (nn b)]at h⊢;by_cases c:(GV (xD x.d r).1).2=0
      · rw[if_neg (nn c)];exact⟨a,Z⟩
      · rw[if_pos c]at h;exact absurd h c
    · rw[if_pos b]at h;exact absurd h b
  · rw[if_pos a]at h;exact absurd h a
theorem next3_idx{a:List Co}{r:Rec}{c:Co}{n:Int}(h:(iI a r).2=0)(u:r.kind=3)(o:Dk.Good a)(hn:idx a n=aj c)(s:c.kz=r.co):idx (iI a r).1 n=aj ⟨c.kz,c.aJ,c.image,r.place⟩:=by
  have b:0<=n/\a[n.toNat]? =aj c:=by
    unfold idx at hn;split at hn
    · exact⟨by assumption,hn⟩
    · cases hn
  unfold iI at h⊢;by_cases j:ig a=0
  · rw[if_neg (nn j)]at h⊢;by_cases l:ic r=0
    · rw[if_neg (nn l)]at h⊢;rcases UT r a with⟨e1,e2,-⟩|⟨k,c',e1,e2,e3,e4⟩
      · exfalso;rw[kj]at e2;have:=e2 c<|fl b.2;simp[s]at this
      · have m:k=n.toNat:=by
          have p:=o.up;unfold Up at p;rw[ks]at p;have g:=MO e3;have f:=MO b.2;have e:=bc g;have d:=bc f;rw[e3]at e;rw[b.2]at d;have e:=osi e;have d:=osi d;rcases Nat.lt_trichotomy k n.toNat with hlt|heq|hgt
          · have:=p k n.toNat g f hlt;rw[<-e,<-d]at this;omega
          · exact heq
          · have:=p n.toNat k f g hgt;rw[<-e,<-d]at this;omega
        subst m;have i:c'=c:=by rw[b.2]at e3;exact(osi e3).symm
        subst i;rw[e1]at h⊢;simp only at h⊢;rw[if_neg (show¬(r.kind=1\/r.kind=4) by omega)]at h⊢;split at h
        · simp at h
        · rename_i t;rw[if_neg t];rw[if_neg (show¬r.kind=5 by omega),if_neg (show¬r.kind=2 by omega)]at h⊢;split at h
          · simp at h
          · rename_i q;rw[if_neg q];simp only;rw[<-Yp r a n.toNat c' ⟨c'.kz,c'.aJ,c'.image,r.place⟩ o.up e3 e4 e4];unfold idx;rw[if_pos b.1];exact oh b.2
    · rw[if_pos l]at h;exact absurd h l
  · rw[if_pos j]at h;exact absurd h j
theorem runK_g{w:pG}(h:WR w){x:iW}(g:On x.place){n:Int}{c:Co}(q:c∈(iE w x.place).cos)(hn:idx (iE w x.place).cos n=aj c)(fuel:Int){N:Nat}(hN:60002<=N):
    Is (El N (sH w) (QE (iE w x.place)) n x fuel) (runK w x.kind x.place x.n c fuel):=by
  have a:=UY h g;have i:=co_of h g q;unfold El runK;by_cases j:fuel<1\/2000<fuel
  · rw[show(ab ((fuel:Int)<1)||ab ((2000:Int)<fuel))=ba by simpa using j,cond_true,if_pos j];exact .mk _ _
  · rw[show(ab ((fuel:Int)<1)||ab ((2000:Int)<fuel))=ao by simpa using j,cond_false,if_neg j];show Is ((idx (iE w x.place).cos n).bind _) _;rw[hn];simp only[bnd];obtain⟨r,p,o⟩:=slice_g h (k:=x.place) (c:=c) (fuel:=fuel) V hN;rw[p];simp only[bnd];show Is (HV N x n r.kind r.co r.aJ r.place r.says r.image (uA w.prog x.place c fuel).2 w.prog (sH w).places w.bO) _;unfold HV;by_cases d:(uA w.prog x.place c fuel).2=0
    · rw[dF (nn d),cond_false,if_neg (nn d)];have m:=slice_ok h.code i (r:=r) (fuel:=fuel) (k:=x.place) (by rw[o d,<-d]);rw[<-o d];show Is (bif ab ((x.kind:Int)=9)then(JA N (sH w) x.place r x.n).bind _ else(vX N (sH w) x.place r).bind _) _;by_cases l:x.kind=9
      · rw[dT l,cond_true,if_pos l,tear_g h g m.w x.n hN];simp only[bnd];exact .mk _ _
      · rw[dF l,cond_false,if_neg l,note_g h g m.w hN];simp only[bnd];by_cases b:(pV (iE w x.place) r).2=0
        · rw[dF (nn b),cond_false,if_neg (nn b)];by_cases e:r.kind=3
          · rw[dT e,cond_true,if_pos e];have f:0<=x.place/\x.place<(Fj w x.place (pV (iE w x.place) r).1).places.length:=by unfold Fj;simp only[cm];exact a
            rw[g_at f];simp only[bnd];rw[pAt_set _ a a,if_pos rfl];show Is ((idx (pV (iE w x.place) r).1.cos n).bind _) _;rw[(note_log b).2,next3_idx (note_log b).1 e (h.at g).good.1 hn m.co.symm];simp only[bnd];rw[offer_g _ _ _ (K3 (by have:=i.2.2;simp only;omega))];simp only[bnd];exact .mk _ _
          · rw[dF e,cond_false,if_neg e];show Is (aj ((0:Int),sH<|Fj w x.place (pV (iE w x.place) r).1)) _;exact .mk _ _
        · rw[dT (show(pV (iE w x.place) r).2≠0 from b),cond_true,if_pos b];exact .err b
    · rw[dT (show(uA w.prog x.place c fuel).2≠0 from d),cond_true,if_pos d];exact .mk _ _
theorem run_g{w:pG}(h:WR w){x:iW}(b:On x.place){N:Nat}(hN:60002<=N):Is (QA N (sH w) x) (runW w (AY x)):=by
  have d:=UY h b;rw[runW_eq];unfold QA;rw[g_at d];simp only[bnd];show Is ((qZ (iE w x.place).cos x.co).bind _) _;rcases find_g (iE w x.place).cos x.co with⟨e1,e2⟩|⟨n,c,e1,e2,e3,e4⟩
  · rw[e1];simp only[bnd];rw[dT V,cond_true];show Is _ (match nY x.co (iE w x.place).cos with|none=>_|some c=>_);rw[e2];exact .mk _ _
  · rw[e1];simp only[bnd];rw[dF (show¬n<0 by omega),cond_false];show Is _ (match nY x.co (iE w x.place).cos with|none=>_|some c=>runK w x.kind x.place x.n c (if x.kind=9 then 2000 else x.n));rw[e2];have e:=(Gp e2).2;by_cases a:x.kind=9
    · rw[dT a,cond_true,if_pos a];exact runK_g h b e e3 _ hN
    · rw[dF a,cond_false,if_neg a];exact runK_g h b e e3 _ hN
end Pw
open Go Go.Proofs Go.LX
namespace Pw
open Dk
theorem resend_g{w:pG}(h:WR w){x:iW}(e:On x.place):Is (Hz (sH w) x) (Yq w (AY x)):=by
  have b:=UY h e;unfold Hz;rw[g_at b];simp only[bnd];show Is ((qZ (iE w x.place).cos x.co).bind _) (match nY x.co (iE w x.place).cos with|none=>_|some c=>if c.offered<0 then(w,7)else(⟨w.prog,w.places,GX w.bO<|Ta x.place c⟩,0));rcases find_g (iE w x.place).cos x.co with⟨e1,e2⟩|⟨n,c,e1,e2,e3,e4⟩
  · rw[e1,e2];simp only[bnd];rw[dT V,cond_true];exact .mk _ _
  · rw[e1,e2];simp only[bnd];rw[dF (show¬n<0 by omega),cond_false];show Is ((idx (iE w x.place).cos n).bind _) _;rw[e3];simp only[bnd];by_cases a:c.offered<0
    · rw[dT a,cond_true,if_pos a];exact .mk _ _
    · have d:=co_of h e (Gp e2).2;rw[dF a,cond_false,if_neg a,offer_g _ _ _ (K3 (by have:=d.2.2;omega))];exact .mk _ _
theorem up_g(x:Oj):(QE x).up=x.up:=rfl
theorem Xt{w:pG}{N:Nat}(hN:60002<=N){l:List fI}{m:fI}{e:Int}(h:WR ⟨w.prog,w.places,l⟩)(b:aaT m):
  Is (yP N (sH w) (l,m,e) ba) (⟨w.prog,w.places,l⟩,0)/\
  Is (yP N (sH w) (l,m,e) ao) (Fj ⟨w.prog,w.places,l⟩ m.jD (pV (iE ⟨w.prog,w.places,l⟩ m.jD) ⟨5,m.co,m.aJ-1,0,[],[]⟩).1,(pV (iE ⟨w.prog,w.places,l⟩ m.jD) ⟨5,m.co,m.aJ-1,0,[],[]⟩).2):=by
 obtain⟨m1,m2,c,d,-⟩:=b;refine⟨.mk ⟨w.prog,w.places,l⟩ 0,?_⟩;unfold yP;rw[cond_false,ky (K3 (by simp only;omega))];show Is ((vX N (sH ⟨w.prog,w.places,l⟩) m.jD _).bind _) _;rw[note_g h m2 (Kv V c (by simp only;omega) V (fun x a=>by cases a) (fun x a=>by cases a)) hN];exact .mk _ _
theorem hear_g{w:pG}(h:WR w)(i:Int)(t:Bool){N:Nat}(hN:60002<=N):Is (Ns N (sH w) i t) (hearW w i t):=by
  unfold Ns hearW;show Is ((Jh w.bO i t).bind _) _;rw[wTake,if_neg (nn ((JQ _).2 ⟨h.mlen,h.mok⟩))];by_cases f:i<0\/(w.bO.length:Int)<=i
  · rw[if_pos f,if_pos f];exact .mk _ _
  · rw[if_neg f,if_neg f];simp only[bnd];have o:i.toNat<w.bO.length:=by omega
    have p:w.bO[i.toNat]? =aj w.bO[i.toNat]:=bc o;have a:w.bO[i.toNat]∈w.bO:=cx o;generalize w.bO[i.toNat]=m at p a;rw[p];simp only[Option.getD_some];have b:=h.mok m a;have k:=UY h b.2.1;rw[dF V,cond_false,g_at k];simp only[bnd];rw[up_g];by_cases j:(iE w m.jD).up=ao
    · rw[j,if_pos rfl];exact .mk _ _
    · rw[if_neg j];have r:(iE w m.jD).up=true:=by simpa using j
      rw[r];simp only[ej,cond_false];have d:WR ⟨w.prog,w.places,if t=ba then w.bO else w.bO.take i.toNat++w.bO.drop (i.toNat+1)⟩:=by
        cases t
        · exact h.drop i.toNat
        · exact h
      generalize (if t=ba then w.bO else w.bO.take i.toNat++w.bO.drop (i.toNat+1))=l at d⊢;have hp:iE ⟨w.prog,w.places,l⟩ m.jD=iE w m.jD:=rfl;cases ht:m.taken with
      |true=>
        simp only[cond_true,if_true];show Is ((qZ (iE w m.jD).cos m.co).bind _) (match nY m.co (iE ⟨w.prog,w.places,l⟩ m.jD).cos with|none=>_|some c=>_);rw[hp];rcases find_g (iE w m.jD).cos m.co with⟨e1,e2⟩|⟨n,c,e1,e2,e3,e4⟩
        · rw[e1,e2];simp only[bnd];rw[dT V,cond_true];exact(Xt hN d b).1
        · rw[e1,e2];simp only[bnd];rw[dF (show¬n<0 by omega),cond_false];show Is ((idx (iE w m.jD).cos n).bind _) _;rw[e3];simp only[bnd];rw[ky (K3 (by have:=b.2.2.2.1;omega))];by_cases g:c.aJ≠m.aJ-1\/c.offered≠m.from_
          · rw[show(ab ((c.aJ:Int)≠(m.aJ-1))||ab ((c.offered:Int)≠m.from_))=ba by simpa using g,if_pos g];exact(Xt hN d b).1
          · rw[show(ab ((c.aJ:Int)≠(m.aJ-1))||ab ((c.offered:Int)≠m.from_))=ao by simpa using g,if_neg g];exact(Xt hN d b).2
      |false=>
        simp only[cond_false,cM,if_false];rw[had_g (h.at b.2.1).disk _ _ hN];simp only[bnd];rw[hp];cases hh:hadP (iE w m.jD) m.co m.aJ with
        |true=>
          simp only[ej,cond_false,if_true];unfold Bw;show Is ((Cj (sH ⟨w.prog,w.places,l⟩) _).bind _) _;rw[send_g];exact .mk _ _
        |false=>
          simp only[Bool.not_false,cond_true,cM,if_false];show Is ((vX N (sH ⟨w.prog,w.places,l⟩) m.jD _).bind _) _;rw[note_g d b.2.1 (Kv V b.2.2.1 (by have:=b.2.2.2.1;omega) V (fun x q=>by cases q) (img_I64 h.code (h.mimg m a ht))) hN];simp only[bnd];rw[hp];by_cases e:(pV (iE w m.jD) ⟨4,m.co,m.aJ,0,[],m.image⟩).2=0
          · rw[dF (nn e),cond_false,if_neg (nn e)];unfold Bw;show Is ((Cj (sH<|Fj ⟨w.prog,w.places,l⟩ m.jD _) _).bind _) _;rw[send_g];exact .mk _ _
          · rw[dT (show(pV (iE w m.jD) ⟨4,m.co,m.aJ,0,[],m.image⟩).2≠0 from e),cond_true,if_pos e];exact .err e
theorem imgs_loop{N:Nat}(hN:60002<=N)(a:aX)(k:Unit->Option (Int×aX)):∀(l:List Co) (i:Int),
    gU (fun j(x:Co)s c=>(sF N a.prog x.image).bind fun q=>xn a c q.2) k i l ()=if K4 a.prog l≠0 then aj (K4 a.prog l,a)else k ()
  |[],i=>by rw[U9];simp[K4]
  |x::l,i=>by
    rw[qU,Ep _ _ V];simp only[bnd];unfold xn;by_cases h:(dO a.prog x.image).2=0
    · rw[dF (nn h),cond_false];have b:=imgs_loop hN a k l<|i+1;unfold xn at b;rw[b,show K4 a.prog (x::l)=K4 a.prog l by rw[K4,if_neg (nn h)]]
    · rw[dT (show(dO a.prog x.image).2≠0 from h),cond_true,show K4 a.prog (x::l)=(dO a.prog x.image).2 by rw[K4,if_pos h],if_pos h]
theorem boot_g{w:pG}(h:WR w){k:Int}(f:On k){N:Nat}(hN:60002<=N):Is (Nt N (sH w) k) (bootW w k):=by
  have e:=UY h f;have m:=(h.at f).disk;unfold Nt bootW;rw[g_at e];simp only[bnd];rw[up_g];by_cases c:(iE w k).up=ba
  · rw[c,if_pos rfl];exact .mk _ _
  · have o:(iE w k).up=false:=by simpa using c
    rw[if_neg c,o,cond_false,MC m hN];simp only[bnd];rw[dF V,cond_false,Xm N V,if_neg (show¬120<(ma (iE w k).d).length by have:=(dOk m).len;omega)];simp only[bnd];by_cases a:(jC [] (ma (iE w k).d)).2=0
    · rw[dF (nn a),cond_false,if_neg (nn a),bh];rw[YA (g:=fun j(x:Co)s l=>(sF N (sH w).prog x.image).bind fun q=>xn (sH w) l q.2) (jC [] (ma (iE w k).d)).1 (fun i x s l n=>by
        unfold Jj;rw[jP,n];rfl)]
      rw[imgs_loop hN (sH w)];show Is (if K4 w.prog (jC []<|ma (iE w k).d).1≠0 then _ else _) _;by_cases b:K4 w.prog (jC [] (ma (iE w k).d)).1=0
      · rw[if_neg (nn b),if_neg (nn b)];unfold Jk;have:=g_set w k ⟨(jC []<|ma (iE w k).d).1,(SY (iE w k).d).1,ba⟩;show Is (aj ((0:Int),(⟨w.prog,(sH w).places.set k.toNat<|QE ⟨(jC []<|ma (iE w k).d).1,(SY (iE w k).d).1,ba⟩,w.bO⟩:aX))) _;rw[this];exact .mk _ _
      · rw[if_pos b,if_pos b];exact .mk _ _
    · rw[dT (show(jC [] (ma (iE w k).d)).2≠0 from a),cond_true,if_pos a];exact .mk _ _
theorem begin_g{w:pG}(h:WR w){k i:Int}(a:On k){N:Nat}(hN:60002<=N):Is (Kn N (sH w) k i) (aaW w k i):=by
  have c:=UY h a;have j:=(h.at a).disk;unfold Kn aaW;by_cases b:i=k
  · subst b;rw[dF zq3,cond_false,if_neg zq3,g_at c];simp only[bnd];rw[MC j hN];simp only[bnd,bh];rw[P7 (fun r:Rec=>ab ((r.kind:Int)=1)) (fun n=>yE N (sH w) i i (ab ((0:Int)<=n))) (ma (iE w i).d) (fun n r l g=>by
      unfold Gu;rw[jP,g];rfl)]
    rw[<-any_find];cases hf:(ma (iE w i).d).findIdx? (fun r:Rec=>ab ((r.kind:Int)=1))with
    |some n=>
      simp only[pD,if_true];rw[dT V];exact .mk _ _
    |none=>
      simp only[Option.isSome_none,cM,if_false];unfold Gv yE;rw[cond_false];show Is ((ZF w.prog).bind _) _;rw[vm_New_eq,if_neg (nn h.code)];simp only[bnd];rw[dF V,cond_false];show Is ((Fa N w.prog<|vY w.prog).bind _) _;have f:=aax<|pU h.code;rw[UN _ _ V,if_neg (nn h.code),if_neg (nn (JJ.2 f))];simp only[bnd];rw[dF V,cond_false,note_g h a (Kv V a V V (fun x e=>by cases e) (img_b (pU h.code) (begin_img h.code)).1) hN];exact .mk _ _
  · rw[dT (show i≠k from b),cond_true,if_pos b];exact .mk _ _
end Pw
open Go Go.Proofs Go.LX
namespace Pw
open Dk
theorem step6_g{w:pG}(h:WR w){x:iW}(i:1<=x.kind/\x.kind<=9/\x.kind≠4/\x.kind≠5/\x.kind≠6){N:Nat}(hN:60002<=N):Is (ql N x (sH w) ba) (fO w (AY x)):=by
  have f:fO w (AY x)=if x.place<0\/(w.places.length:Int)<=x.place then(w,5)else
      if x.kind=8 then bootW w x.place else
      if(iE w x.place).up=ao then(w,7)else
      if x.kind=1 then aaW w x.place x.co else
      if x.kind=3 then Yq w (AY x)else
      if x.kind=7 then(Fj w x.place ⟨[],(iE w x.place).d,ao⟩,0)else runW w (AY x):=by
    unfold fO;rw[if_neg (show¬((AY x).kind=4\/(AY x).kind=5) by simp only[AY];omega),if_neg (show¬(AY x).kind=6 by simp only[AY];omega),if_neg (show¬((AY x).kind<1\/9<(AY x).kind) by simp only[AY];omega)];rfl
  rw[f];unfold ql;rw[cond_true];have g:((sH w).places.length:Int)=w.places.length:=by unfold sH;simp
  rw[g];by_cases c:x.place<0\/(w.places.length:Int)<=x.place
  · rw[show(ab ((x.place:Int)<0)||ab (((w.places.length:Int):Int)<=x.place))=ba by simpa using c,if_pos c];exact .mk _ _
  · rw[show(ab ((x.place:Int)<0)||ab (((w.places.length:Int):Int)<=x.place))=ao by simpa using c,if_neg c,cond_false];have j:=h.many;have hp:On x.place:=⟨by omega,by omega⟩;by_cases b:x.kind=8
    · rw[dT b,if_pos b];exact(boot_g h hp hN).pair
    · rw[dF b,if_neg b,cond_false,g_at (UY h hp)];simp only[bnd];rw[up_g];cases hu:(iE w x.place).up with
      |false=>exact .mk _ _
      |true=>
        simp only[ej,cond_false,mN,if_false];by_cases k1:x.kind=1
        · rw[dT k1,if_pos k1];exact(begin_g h hp hN).pair
        · rw[dF k1,if_neg k1,cond_false];by_cases a:x.kind=3
          · rw[dT a,if_pos a];exact(resend_g h hp).pair
          · rw[dF a,if_neg a,cond_false];by_cases e:x.kind=7
            · rw[dT e,if_pos e];have:=g_set w x.place ⟨[],(iE w x.place).d,ao⟩;show Is (aj ((0:Int),(⟨w.prog,(sH w).places.set x.place.toNat<|QE ⟨[],(iE w x.place).d,ao⟩,w.bO⟩:aX))) _;rw[this];exact .mk _ _
            · rw[dF e,if_neg e];exact(run_g h hp hN).pair
theorem step45_g{w:pG}(h:WR w)(x:iW)(a:x.kind=4\/x.kind=5){N:Nat}(hN:60002<=N):Is (rq N (sH w) x) (fO w (AY x)):=by
  have b:fO w (AY x)=hearW w x.n (decide<|x.kind=5):=by unfold fO;rw[if_pos (show((AY x).kind=4\/(AY x).kind=5)from a)];rfl
  have c:rq N (sH w) x=nZ N x (sH w) true:=by
    unfold rq;rcases a with h4|h5
    · rw[dT h4,cond_true]
    · rw[dF (show¬x.kind=4 by omega),dT h5,cond_false,cond_true]
  rw[b,c];unfold nZ;rw[cond_true,dT (show x.kind≠6 by omega),cond_true];exact(hear_g h _ _ hN).pair
theorem step_g{w:pG}(h:WR w)(x:iW){N:Nat}(hN:60002<=N):Is (rq N (sH w) x) (fO w (AY x)):=by
  by_cases a:x.kind=4\/x.kind=5
  · exact step45_g h x a hN
  · by_cases c:x.kind=6
    · have f:fO w (AY x)=if x.n<0\/(w.bO.length:Int)<=x.n then(w,5)else(⟨w.prog,w.places,w.bO.take x.n.toNat++w.bO.drop (x.n.toNat+1)⟩,0):=by
        unfold fO;rw[if_neg (show¬((AY x).kind=4\/(AY x).kind=5)from a),if_pos (show(AY x).kind=6 from c)];rfl
      have g:rq N (sH w) x=nZ N x (sH w) true:=by
        unfold rq;rw[dF (show¬x.kind=4 by omega),dF (show¬x.kind=5 by omega),dT c,cond_false,cond_false]
      rw[f,g];unfold nZ;rw[cond_true,dF (show¬x.kind≠6 by omega),cond_false];show Is ((Jh w.bO x.n ao).bind _) _;rw[wTake,if_neg (nn ((JQ _).2 ⟨h.mlen,h.mok⟩))];unfold KR;by_cases b:x.n<0\/(w.bO.length:Int)<=x.n
      · rw[if_pos b,if_pos b];exact .mk _ _
      · rw[if_neg b,if_neg b];exact .mk ⟨w.prog,w.places,w.bO.take x.n.toNat++w.bO.drop (x.n.toNat+1)⟩ 0
    · have g:rq N (sH w) x=nZ N x (sH w) false:=by
        unfold rq;rw[dF (show¬x.kind=4 by omega),dF (show¬x.kind=5 by omega),dF c,cond_false,cond_false]
      rw[g];unfold nZ;rw[cond_false];by_cases kk:1<=x.kind/\x.kind<=9
      · have d:=step6_g h (x:=x) V hN;have:x.kind=1\/x.kind=2\/x.kind=3\/x.kind=7\/x.kind=8\/x.kind=9:=by omega
        rcases this with e|e|e|e|e|e<;>(rw[e];simp only[show ab ((1:Int)=1)=ba from rfl,show ab ((2:Int)=1)=ao from rfl,show ab ((2:Int)=2)=ba from rfl,show ab ((3:Int)=1)=ao from rfl,show ab ((3:Int)=2)=ao from rfl,show ab ((3:Int)=3)=ba from rfl,show ab ((7:Int)=1)=ao from rfl,show ab ((7:Int)=2)=ao from rfl,show ab ((7:Int)=3)=ao from rfl,show ab ((7:Int)=7)=ba from rfl,show ab ((8:Int)=1)=ao from rfl,show ab ((8:Int)=2)=ao from rfl,show ab ((8:Int)=3)=ao from rfl,show ab ((8:Int)=7)=ao from rfl,show ab ((8:Int)=8)=ba from rfl,show ab ((9:Int)=1)=ao from rfl,show ab ((9:Int)=2)=ao from rfl,show ab ((9:Int)=3)=ao from rfl,show ab ((9:Int)=7)=ao from rfl,show ab ((9:Int)=8)=ao from rfl,show ab ((9:Int)=9)=ba from rfl,cond_true,cond_false];exact d)
      · have f:fO w (AY x)=(w,4):=by
          unfold fO;rw[if_neg (show¬((AY x).kind=4\/(AY x).kind=5)from a),if_neg (show¬(AY x).kind=6 from c),if_pos (show(AY x).kind<1\/9<(AY x).kind by simp only[AY];omega)]
        rw[f,dF (show¬x.kind=1 by omega),dF (show¬x.kind=2 by omega),dF (show¬x.kind=3 by omega),dF (show¬x.kind=7 by omega),dF (show¬x.kind=8 by omega),dF (show¬x.kind=9 by omega)];exact .mk _ _
theorem imgs_each{p:List bA}{N:Nat}(hN:60002<=N):∀l:List Co,each (Ea N p) Jg l ()=aj (K4 p l)
  |[]=>rfl
  |x::l=>by
    rw[gW];have a:=imgs_each (p:=p) hN l;unfold Ea at a⊢;rw[Ep _ _ V];simp only[bnd];by_cases h:(dO p x.image).2=0
    · rw[dF (nn h),cond_false,a,K4,if_neg (nn h)]
    · rw[dT (show(dO p x.image).2≠0 from h),cond_true,K4,if_pos h]
theorem plc_g(p:List bA)(x:Oj)(g:x.d.wait.length<=9223372036854775807){N:Nat}(hN:60002<=N):Kk N p (QE x)=aj (BD p x):=by
  unfold Kk BD;show(vT N x.d).bind _=_;rw[Dk.MB N hN _ g];simp only[bnd];by_cases b:jh x.d=0
  · rw[dF (nn b),cond_false,if_neg (nn b),up_g];cases hu:x.up with
    |false=>
      show(bif ab ((0:Int)<(x.cos.length:Int))then _ else _)=aj (if x.cos=[]then 0 else 4);by_cases a:x.cos=[]
      · rw[a,if_pos rfl];rfl
      · rw[if_neg a,dT (by have:=qh.2 a;omega)];rfl
    |true=>
      simp only[ej,cond_false,mN,if_false];show(bif ab ((0:Int)<(x.d.wait.length:Int))then _ else _)=_;by_cases a:x.d.wait=[]
      · rw[a,if_neg zq3];rw[dF zq3,cond_false,MC b hN];simp only[bnd];rw[Xm N V,if_neg (show¬120<(ma x.d).length by have:=(dOk b).len;omega)];simp only[bnd];by_cases f:(jC [] (ma x.d)).2=0
        · rw[dF (nn f),cond_false,if_neg (nn f),coSame];simp only[bnd];show(bif !decide ((jC []<|ma x.d).1=x.cos)then _ else _)=_;by_cases c:(jC [] (ma x.d)).1=x.cos
          · rw[dT c,if_neg (fun e=>e c)];exact imgs_each hN x.cos
          · rw[dF c,if_pos c];rfl
        · rw[dT (show(jC [] (ma x.d)).2≠0 from f),cond_true,if_pos f]
      · rw[if_pos a,dT (by have:=qh.2 a;omega),cond_true]
  · rw[dT (show jh x.d≠0 from b),cond_true,if_pos b]
theorem aaY{w:aX}{N:Nat}(hN:60002<=N):∀l:List fI,each (xk N w) BR l ()=aj (NT w.prog l)
  |[]=>rfl
  |m::l=>by
    rw[gW];have a:=aaY (w:=w) hN l;generalize each (xk N w) BR l=F at a⊢;unfold xk Eb NT;cases ht:m.taken with
    |true=>exact a
    |false=>
      rw[cond_false,Ep _ _ V,if_neg zq3];simp only[bnd];by_cases h:(dO w.prog m.image).2=0
      · rw[dF (nn h),cond_false,a,if_neg (nn h)]
      · rw[dT (show(dO w.prog m.image).2≠0 from h),cond_true,if_pos h]
theorem plcs_each{w:aX}{N:Nat}(hN:60002<=N)(k:Unit->Option Int):∀l:List Oj,(∀x∈l,x.d.wait.length<=9223372036854775807)->each (vk N w) k (l.map QE) ()=if PV w.prog l≠0 then aj (PV w.prog l)else k ()
  |[],_=>by simp[PV,rz]
  |x::l,hw=>by
    rw[cj,gW];have a:=plcs_each (w:=w) hN k l fun y b=>hw y<|bj _ b;generalize each (vk N w) k (l.map QE)=F at a⊢;unfold vk;rw[plc_g _ _ (hw x zq3) hN];simp only[bnd];by_cases h:BD w.prog x=0
    · rw[dF (nn h),cond_false,a,show PV w.prog (x::l)=PV w.prog l by rw[PV,if_neg (nn h)]]
    · rw[dT (show BD w.prog x≠0 from h),cond_true,show PV w.prog (x::l)=BD w.prog x by rw[PV,if_pos h],if_pos h]
def Wts(w:pG):Prop:=∀x∈w.places,x.d.wait.length<=9223372036854775807
theorem WR.wts{w:pG}(h:WR w):Wts w:=fun x a=>by have:=UZ (h.pl x a).disk;omega
theorem check_g{w:pG}(d:Wts w){N:Nat}(hN:60002<=N):CL N (sH w)=aj (Er w):=by
  unfold CL Er;show(tX w.prog).bind _=_;rw[Xf];simp only[bnd];by_cases b:KW w.prog=0
  · rw[dF (nn b),cond_false,if_neg (nn b)];have e:((sH w).places.length:Int)=w.places.length:=by unfold sH;simp
    rw[e];by_cases f:w.places.length=3
    · rw[dF V,cond_false,if_neg V];show(bif ab ((dN w.bO:Int)≠0)then aj (dN w.bO)else _)=_;by_cases c:dN w.bO=0
      · rw[dF (nn c),cond_false,if_neg (nn c)];show each (vk N<|sH w) _ (w.places.map QE) ()=_;rw[plcs_each hN _ _ d];unfold Gt;show(if PV w.prog w.places≠0 then _ else each (xk N<|sH w) _ w.bO ())=_;rw[aaY hN];by_cases a:PV w.prog w.places=0
        · rw[if_neg (nn a),if_neg (nn a)];rfl
        · rw[if_pos a,if_pos a];rfl
      · rw[dT (show dN w.bO≠0 from c),cond_true,if_pos c]
    · rw[dT V,cond_true,if_pos V]
  · rw[dT (show KW w.prog≠0 from b),cond_true,if_pos b]
end Pw
open Go Go.Proofs Go.LX
namespace Pw
open Dk
theorem args_each(F:Unit->Option (List bA)):∀l:List Ins,(∀c∈l,c.args.length<=3)->each Bq (Fv F) l ()=F ()
 |[],_=>rfl
 |c::l,h=>by
  rw[gW];have a:=args_each F l fun x b=>h x<|bj _ b;generalize each Bq (Fv F) l=G at a⊢;unfold Bq;have:=h c zq3;rw[rJ V V];exact a
theorem code_copy{p:List bA}(h:p.length<=4/\∀x∈p,uG x/\∀c∈x.code,c.args.length<=3):Ig p=aj p:=by
 unfold Ig;rw[rJ V V];simp only[bnd,bh];have b:∀(m i:Nat),i+m=p.length->upto (vS p) (Br p) (i:Int) m ()=aj p:=by
  intro m;induction m with
  |zero=>intro i _;rfl
  |succ m ih=>
   intro i g;have e:i<p.length:=by omega
   show vS p (i:Int) () (upto (vS p) (Br p) ((i:Int)+1) m)=_;have a:=ih (i+1) V;rw[show((i+1:Nat):Int)=(i:Int)+1 from rfl]at a;generalize upto (vS p) (Br p) ((i:Int)+1) m=nx at a⊢;unfold vS;have d:=h.2 p[i]<|cx e;have f:=d.1;unfold uG at f;rw[xM e];simp only[bnd];rw[rJ V V];simp only[bnd];rw[args_each _ _ d.2];exact a
 simpa using b p.length 0 V
theorem chk_good{p:List bA}(h:KW p=0):p.length<=4/\∀x∈p,uG x/\∀c∈x.code,c.args.length<=3:=by
 obtain⟨y,a,b⟩:=check_tot p;rw[Xf]at a;exact b (by rw[<-osi a];exact h)
theorem copy_g{w:pG}(h:WR w):Ci (sH w)=aj (sH w):=by
 have g:=chk_good h.code;unfold Ci;show(Ig w.prog).bind _=_;rw[code_copy g];simp only[bnd];have f:=h.many;show(clone 80<|w.places.map QE).bind _=_;rw[rJ (by simp;omega) (by simp;omega)];simp only[bnd];show(Ec w.bO).bind _=_;rw[wCopy h.mlen (fun m f=>(h.mok m f).2.2.2.2.2)];simp only[bnd];unfold KL;rw[bh];have b:∀(m i:Nat),i+m=(w.places.map QE).length->upto vV (Bv w.prog w.bO) (i:Int) m (w.places.map QE)=aj (sH w):=by
  intro m;induction m with
  |zero=>intro i _;rfl
  |succ m ih=>
   intro i l;have c:i<(w.places.map QE).length:=by omega
   show vV (i:Int) (w.places.map QE) (upto vV (Bv w.prog w.bO) ((i:Int)+1) m)=_;have a:=ih (i+1) V;rw[show((i+1:Nat):Int)=(i:Int)+1 from rfl]at a;generalize upto vV (Bv w.prog w.bO) ((i:Int)+1) m=nx at a⊢;unfold vV;rw[xM c];have k:i<w.places.length:=by simpa using c
   have e:(w.places.map QE)[i]=QE w.places[i]:=by simp
   have hp:=h.pl w.places[i]<|cx k;have n:=(Dk.xz hp.disk).1;simp only[bnd];rw[show(w.places.map QE)[i].cos=w.places[i].cos by rw[e];rfl,show(w.places.map QE)[i].safe=w.places[i].d.safe by rw[e];rfl,show(w.places.map QE)[i].wait=w.places[i].d.wait by rw[e];rfl];rw[coCopy hp.good.1.len (fun x j=>(hp.good.1.ok x j).2.2.2.2.2.2.2),rJ V V];simp only[bnd];rw[rJ V V];simp only[bnd,bh];rw[List.set_set,show(⟨w.places[i].cos,w.places[i].d.safe,w.places[i].d.wait,(w.places.map QE)[i].up⟩:eG)=(w.places.map QE)[i] by rw[e];rfl,List.set_getElem_self];exact a
 simpa using b (w.places.map QE).length 0 V
def zW:aX:=⟨[],[],[]⟩
theorem do_of{w:pG}(f:Wts w)(x:iW){N:Nat}(hN:60002<=N){q:pG×Int}(c:WR w->Is (rq N (sH w) x) q):Em N (sH w) x=aj (if Er w≠0 then(zW,Er w)else if q.2≠0 then(zW,q.2)else(sH q.1,0)):=by
  unfold Em;rw[check_g f hN];simp only[bnd];by_cases a:Er w=0
  · rw[dF (nn a),cond_false,if_neg (nn a)];have h:=(w_iff w).1 a;rw[copy_g h];simp only[bnd];obtain⟨v,d,e⟩:=c h;rw[d];simp only[bnd];by_cases b:q.2=0
    · rw[dF (nn b),cond_false,if_neg (nn b),e b]
    · rw[dT (show q.2≠0 from b),cond_true,if_pos b];rfl
  · rw[dT (show Er w≠0 from a),cond_true,if_pos a];rfl
theorem do_g{w:pG}(a:Wts w)(x:iW){N:Nat}(hN:60002<=N):Em N (sH w) x=aj (if Er w≠0 then(zW,Er w)else if(fO w (AY x)).2≠0 then(zW,(fO w (AY x)).2)else(sH (fO w (AY x)).1,0)):=do_of a x hN fun h=>step_g h x hN
theorem runs_loop{N:Nat}(hN:60002<=N):∀(l:List iW) (a:List Int) (w:pG),WR w->a.length+l.length<=120->
    each (Bz N) BA l (a,w.prog,(sH w).places,w.bO)=aj (sH (UX w (l.map AY)).1,a++(UX w (l.map AY)).2,0)
  |[],a,w,_,_=>by simp[rz,BA,UX,sH]
  |x::l,a,w,h,hl=>by
    rw[gW];simp only[bw]at hl;have c:=fun s w h e=>runs_loop hN l s w h e;generalize each (Bz N) BA l=F at c⊢;unfold Bz;show(Ci<|sH w).bind _=_;rw[copy_g h];simp only[bnd];obtain⟨v,g,i⟩:=step_g h x hN;rw[g];simp only[bnd];unfold Fy;rw[cj,runL_cons];have d:Room 8 a [(fO w (AY x)).2]:=Room.mk (by simp;omega) (by simp;omega);by_cases b:(fO w (AY x)).2=0
    · rw[dT b,cond_true,if_pos b,ky d,i b];have f:=(step_ev h (jn Z b:fO w (AY x)=((fO w<|AY x).1,0))).1;have:=c (a++[(fO w (AY x)).2]) _ f (by simp;omega);rw[show(sH (fO w (AY x)).1).prog=(fO w (AY x)).1.prog from rfl,show(sH (fO w (AY x)).1).bO=(fO w (AY x)).1.bO from rfl,this,ck];rfl
    · rw[dF b,cond_false,if_neg b,ky d];rw[c (a++[(fO w (AY x)).2]) w h (by simp;omega),ck];rfl
theorem runs_g{w:pG}(c:Wts w)(l:List iW){N:Nat}(hN:60002<=N):QB N (sH w) l=aj (if Er w≠0 then(zW,[],Er w)else if 120<l.length then(zW,[],2)else(sH (UX w (l.map AY)).1,(UX w (l.map AY)).2,0)):=by
  unfold QB;rw[check_g c hN];simp only[bnd];by_cases a:Er w=0
  · rw[dF (nn a),cond_false,if_neg (nn a)];by_cases b:120<l.length
    · rw[dT V,cond_true,if_pos b];rfl
    · have h:=(w_iff w).1 a;rw[dF V,cond_false,if_neg b,copy_g h];simp only[bnd];exact(runs_loop hN l [] w h (by simp;omega)).trans (by rw[cD])
  · rw[dT (show Er w≠0 from a),cond_true,if_pos a];rfl
end Pw
open Go Go.Proofs Go.LX
namespace Pw
open Dk
theorem Io{ρ:Type}{body:Int->Unit->(Unit->ρ)->ρ}{k:Unit->ρ}:∀(m:Nat) (i:Nat),(∀(j:Nat) (a:Unit->ρ),i<=j->j<i+m->body (j:Int) () a=a ())->upto body k (i:Int) m ()=k ()
 |0,i,_=>rfl
 |m+1,i,h=>by
  show body (i:Int) () (upto body k ((i:Int)+1) m)=_;rw[h i _ (bq _) V];exact Io m (i+1) fun j a b c=>h j a V V
theorem hN:60002<=NN:=by decide
end Pw
open Go Go.Proofs Go.LX
namespace Pw
open Dk
theorem grow1(l:List eG)(h:l.length<=2)(x:eG):Room 80 l [x]:=Room.mk (by simp;omega) (by simp;omega)
theorem new_g(p:List bA){N:Nat}(hN:4<=N):Ih N p=aj (if KW p≠0 then(zW,KW p)else(sH (NI p),0)):=by
  unfold Ih;rw[Xf];simp only[bnd];by_cases h:KW p=0
  · rw[dF (nn h),cond_false,if_neg (nn h),code_copy (chk_good h)];simp only[bnd];obtain⟨k,rfl⟩:∃k,N=k+4:=⟨N-4,by omega⟩;simp only[again,Hl];rw[dT zq1,cond_true,ky (grow1 _ zq3 _),gI,dT zq1,cond_true,ky (grow1 _ zq3 _),gI,dT zq1,cond_true,ky (grow1 _ zq3 _),gI,dF zq1,cond_false];rfl
  · rw[dT (show KW p≠0 from h),cond_true,if_pos h];rfl
def clip(x:iW):iW:=if(x.kind=2\/x.kind=9)/\100<x.n then⟨x.kind,x.place,x.co,100⟩else x
def ME(w:pG)(x:Hap):pG:=if(fO w x).2≠0 then w else(fO w x).1
theorem play_cons(w:pG)(x:Hap)(l:List Hap):XV w (x::l)=XV (ME w x) l:=by
 unfold ME
 conv=>lhs;unfold XV
 split<;>rfl
def tri(w:pG):List bA×List eG×List fI:=(w.prog,(sH w).places,w.bO)
theorem do_r{w:pG}(h:WR w)(x:iW){N:Nat}(hN:60002<=N):Em N (sH w) x=aj (if(fO w (AY x)).2≠0 then(zW,(fO w (AY x)).2)else(sH (fO w (AY x)).1,0)):=by
 rw[do_g h.wts x hN,if_neg (nn ((w_iff w).2 h))]
theorem clip_t{x:iW}(h:(x.kind=2\/x.kind=9)/\100<x.n):((ab (x.kind=2)||ab (x.kind=9))&&ab ((100:Int)<x.n))=ba/\clip x=⟨x.kind,x.place,x.co,100⟩:=by
 refine⟨?_,if_pos h⟩;obtain⟨a,b⟩:=h;rw[dT b,Bool.and_true];rcases a with a|a<;>simp[a]
theorem clip_f{x:iW}(h:¬((x.kind=2\/x.kind=9)/\100<x.n)):((ab (x.kind=2)||ab (x.kind=9))&&ab ((100:Int)<x.n))=ao/\clip x=⟨x.kind,x.place,x.co,x.n⟩:=by
 refine⟨?_,if_neg h⟩;rw[Bool.eq_false_iff];intro a;simp only[cS,dy,decide_eq_true_eq]at a;exact h a
theorem scheck_g{w:pG}(h:WR w){i:Int}(a:0<=i/\i<3){N:Nat}(hN:60002<=N):Gg N (sH w) i=aj 0:=by
 unfold Gg;rw[check_g h.wts hN,(w_iff w).2 h];simp only[bnd];rw[dF zq1,cond_false,dF V,dF V];rfl
end Pw
open Go Go.Proofs Go.LX
namespace Pw
def hz:List iW:=[⟨1,0,0,0⟩,⟨2,0,0,9⟩,⟨2,0,0,90⟩,⟨2,0,0,90⟩,⟨2,0,0,90⟩,⟨2,0,0,90⟩,⟨5,0,0,0⟩,⟨2,0,0,9⟩,⟨4,0,0,1⟩,⟨4,0,0,0⟩,⟨2,2,0,90⟩]
theorem gone_of{q:List jf}{p:List bA}{w:pG}(g:oW NN=aj q)(h:vG NN q=aj p)(b:KW p=0)(c:(UX (NI p) (hz.map AY)).2=[0,0,0,0,0,0,0,7,0,0,0])(f:(UX (NI p) (hz.map AY)).1=w)(d:Ny NN (sH w) 0=aj ([9,4],0))(e:yf NN (sH w) 0=aj ([⟨2,2,-1⟩],0)):sN NN=aj true:=by
 unfold sN;rw[g];simp only[bnd];rw[h];simp only[bnd];rw[new_g p zq1,if_neg (nn b)];simp only[bnd];have a:=runs_g (si_new b).wr.wts hz hN;rw[if_neg (nn ((w_iff _).2 (si_new b).wr)),if_neg zq1,c,f]at a;unfold hz at a;rw[a];simp only[bnd];rw[d,e];rfl
noncomputable def qz:List jf:=(qI NN).getD []
noncomputable def pz:List bA:=(vG NN qz).getD []
noncomputable def wz:pG:=(UX (NI pz) (hz.map AY)).1
theorem of_some{α:Type}{o:Option α}{d:α}(h:o.isSome=ba):o=aj (o.getD d):=by cases o with|none=>cases h|some x=>rfl
theorem qz_ok:(qI NN).isSome=true:=zq2
theorem qz_code:(vG NN qz).isSome=true:=zq2
theorem pz_ok:KW pz=0:=zq2
theorem wz_ran:(UX (NI pz) (hz.map AY)).2=[0,0,0,0,0,0,0,7,0,0,0]:=zq2
theorem wz_said:Ny NN (sH wz) 0=aj ([9,4],0):=zq2
theorem wz_held:yf NN (sH wz) 0=aj ([⟨2,2,-1⟩],0):=zq2
end Pw
theorem gone_ok:sN NN=aj true:=Pw.gone_of (program_p.trans (Pw.of_some Pw.qz_ok)) (Pw.of_some Pw.qz_code) Pw.pz_ok Pw.wz_ran Z Pw.wz_said Pw.wz_held
open Go Go.Proofs Go.LX
namespace Pw
open Dk
def PW(k:Int)(o:Option Co):List T3:=match o with|some c=>[⟨k,c.aJ,c.offered⟩]|none=>[]
theorem held_pl{N:Nat}(hN:60002<=N)(i k:Int){x:Oj}(h:jh x.d=0)(g:(jC [] (ma x.d)).2=0){a:List T3}(o:a.length<=2)(b:List T3->Option (List T3×Int)):
  yG N i k (QE x) a b=b (a++PW k (nY i (jC [] (ma x.d)).1)):=by
 unfold yG;rw[MC h hN];simp only[bnd];have p:=(dOk h).len;rw[Xm N V,if_neg V];simp only[bnd];rw[dF (nn g),cond_false,bh];generalize jC [] (ma x.d)=y;rw[P7 (fun z:Co=>ab (z.kz=i)) (fun n=>pq y a k b n) y.1 (fun j z f c=>by
  unfold Gx;rw[jP,c];rfl)]
 unfold nY;cases h:y.1.findIdx? (fun z=>ab (z.kz=i))with
 |none=>
  rw[kj]at h;rw[show y.1.find? (fun z=>ab (z.kz=i))=aw from by
   rw[qC];intro z hz;rw[h z hz];simp]
  show pq y a k b (-1)=_;unfold pq;rw[dF zq1,cond_false];simp[PW,yF]
 |some n=>
  obtain⟨e,l,m⟩:=mX.1 h;rw[show y.1.find? (fun z=>ab (z.kz=i))=aj y.1[n]from by
   rw[nh];exact⟨l,n,e,Z,fun j c=>by simpa using m j c⟩]
  show pq y a k b (n:Int)=_;unfold pq;rw[dT V,cond_true,jP,bc e];simp only[bnd];rw[ky (Room.mk (by simp;omega) (by simp;omega))];rfl
def tT(x:Int×Int×Int):T3:=⟨x.1,x.2.1,x.2.2⟩
theorem heldT_len(k:Int)(o:Option Co):(PW k o).length<=1:=by cases o<;>simp[PW]
theorem held_g{w:pG}(h:SI w){i:Int}(e:0<=i/\i<3){N:Nat}(hN:60002<=N):yf N (sH w) i=aj ((pE w i).map tT,0):=by
 unfold yf;rw[scheck_g h.wr e hN];simp only[bnd];rw[dF zq1,cond_false];show gU (yG N i) Gy 0 (w.places.map QE) []=_;have c:=fun k(a:On k)=>(h.wr.at a).disk;have b:=fun k(a:On k)=>h.rep k a;have d:On 0:=⟨by omega,by omega⟩;have o1:On 1:=⟨by omega,by omega⟩;have o2:On 2:=⟨by omega,by omega⟩;rw[three h.wr.many];have f:=heldT_len 0<|Hd (Fw w) i 0;have g:=heldT_len 1<|Hd (Fw w) i 1;simp only[cj,List.map_nil];rw[qU,held_pl hN i 0 (c 0 d) (b 0 d) zq3,qU,held_pl hN i (0+1) (c 1 o1) (b 1 o1) (by
  show([]++PW 0 (Hd (Fw w) i 0)).length<=2;rw[cD];omega),qU,held_pl hN i (0+1+1) (c 2 o2) (b 2 o2) (by
  show([]++PW 0 (Hd (Fw w) i 0)++PW 1 (Hd (Fw w) i 1)).length<=2;rw[cD,bk];omega)]
 show aj ([]++PW 0 (Hd (Fw w) i 0)++PW 1 (Hd (Fw w) i 1)++PW 2 (Hd (Fw w) i 2),(0:Int))=_;unfold pE PW;cases Hd (Fw w) i 0<;>cases Hd (Fw w) i 1<;>cases Hd (Fw w) i 2<;>rfl
end Pw
open Go Go.Proofs Go.LX
namespace Pw
open Dk
theorem sixty{α:Type}(b:List α)(c:b.length<=9223372036854775807):∃l,sub? b 0 (min (b.length:Int) 60)=aj l:=by
  rcases Nat.le_total b.length 60 with h|h
  · rw[show min (b.length:Int) 60=((b.length:Nat):Int) by omega];exact⟨_,Tx (a:=0) V V⟩
  · rw[show min (b.length:Int) 60=((60:Nat):Int) by omega];exact⟨_,Tx (a:=0) V V⟩
end Pw
open Go Go.Proofs Go.LX
namespace Pw
open Dk
theorem next_si{w:pG}(h:SI w)(x:Hap):SI (ME w x):=by
 have:=(si_play [x] w h).1;rwa[play_cons]at this
end Pw
open Go Go.Proofs Go.LX
namespace Pw
open Dk
theorem each_skip{α ρ:Type}{body:α->Unit->(Unit->ρ)->ρ}{k:Unit->ρ}:∀(l:List α),(∀y∈l,∀a,body y () a=a ())->each body k l ()=k ()
 |[],_=>rfl
 |y::l,h=>by
  rw[gW,h y zq3];exact each_skip l fun z hz=>h z<|bj _ hz
structure One(l:List T3)(E:Int):Prop where
 rng:∀x∈l,1<=x.b/\x.b<=E
 run:∀x∈l,x.c<0->x.b=E
 two:l.Pairwise fun x y=>x.b≠y.b
theorem aaZ{w:pG}(h:SI w)(i:Int):∃E,One ((pE w i).map tT) E:=by
  obtain⟨E,d,e,f,-,-⟩:=held_one h i;refine⟨E,?_,?_,?_⟩
  · intro x a;obtain⟨y,b,rfl⟩:=List.mem_map.1 a;exact d y b
  · intro x a c;obtain⟨y,b,rfl⟩:=List.mem_map.1 a;exact e y b c
  · rw[List.pairwise_map];exact f
theorem Xu{E:Int}{k:Int×Int×Int->Option Bool}:∀(l:List T3) (r h b:Int) (j:Int),0<=h->h<=E->One l E->(r=0\/(r=1/\b=E/\h=E/\∀x∈l,x.b≠E))->
    ∃e m b',gU (fun(_:Int)(x:T3)(s:Int×Int×Int)i=>bif ab (x.c<0)then iF (kv (s.1+1)) (i (s.1+1,max s.2.1 x.b,x.b))else i (s.1,max s.2.1 x.b,s.2.2)) k j l (r,h,b)=k (e,m,b')/\(e=0\/(e=1/\b'=E/\m=E))
  |[],r,h,b,j,_,_,_,hr=>⟨r,h,b,rfl,hr.imp id fun q=>⟨q.1,q.2.1,q.2.2.1⟩⟩
  |x::l,r,h,b,j,h0,hE,ho,hr=>by
    rw[qU];obtain⟨n,o⟩:=ho.rng x zq3;have ho':One l E:=⟨fun y a=>ho.rng y<|bj _ a,fun y a=>ho.run y<|bj _ a,(du.1 ho.two).2⟩;have f:=(du.1 ho.two).1;by_cases d:x.c<0
    · have g:=ho.run x zq3 d;rcases hr with rfl|⟨-,-,-,hr⟩
      · rw[dT d,cond_true,gI];exact Xu l (0+1) (max h x.b) x.b (j+1) V V ho' (.inr ⟨by omega,g,by omega,fun y a=>by have:=f y a;omega⟩)
      · exact absurd g<|hr x zq3
    · rw[dF d,cond_false];refine Xu l r (max h x.b) b (j+1) V V ho' ?_;rcases hr with hr|⟨h1,h2,h3,h4⟩
      · exact .inl hr
      · exact .inr ⟨h1,h2,by omega,fun y a=>h4 y<|bj _ a⟩
theorem Xv{body:Int->Int×Int×Int->(Int×Int×Int->Option Bool)->Option Bool}{k:Int×Int×Int->Option Bool}(l:List T3)(d:∀(i:Nat) x s a,l[i]? =aj x->body (i:Int) s a=bif ab (x.c<0)then iF (kv (s.1+1)) (a (s.1+1,max s.2.1 x.b,x.b))else a (s.1,max s.2.1 x.b,s.2.2)){E:Int}(ho:One l E):
    ∃r h b,upto body k 0 ((l.length:Int)).toNat (0,0,0)=k (r,h,b)/\((ab ((1:Int)<r)||(ab (r=1)&&ab (b≠h)))=ao):=by
  rw[bh,YA (g:=fun(_:Int)(x:T3)(s:Int×Int×Int)a=>bif ab (x.c<0)then iF (kv (s.1+1)) (a (s.1+1,max s.2.1 x.b,x.b))else a (s.1,max s.2.1 x.b,s.2.2)) l d];cases l with
  |nil=>exact⟨0,0,0,rfl,rfl⟩
  |cons x l=>
    have:=ho.rng x zq3;obtain⟨r,h,b,e,f⟩:=Xu (k:=k) (x::l) 0 0 0 0 V V ho<|.inl Z;refine⟨r,h,b,e,?_⟩;rcases f with rfl|⟨rfl,rfl,rfl⟩
    · rfl
    · simp
theorem Td{body:Int->Unit->(Unit->Option Bool)->Option Bool}{k:Unit->Option Bool}(l:List T3){g:T3->T3->Unit->(Unit->Option Bool)->Option Bool}{kk:(Unit->Option Bool)->Unit->Option Bool}(n:∀c,kk c ()=c ())(f:∀x y c,x.b≠y.b->g x y () c=c ())
  (h:∀(i:Int) c,body i () c=(idx l i).bind fun x=>(sub? l 0 i).bind fun s=>each (g x) (kk c) s ()) {E:Int} (ho:One l E):upto body k 0 ((l.length:Int)).toNat ()=k ():=by
 rw[bh];refine Io l.length 0 fun j c _ p=>?_;have d:j<l.length:=by omega
 rw[h,jP,bc d];simp only[bnd];have:=Tx (l:=l) (a:=0) (b:=j) V V;rw[List.drop_zero,show((0:Nat):Int)=0 from rfl]at this;rw[this];simp only[bnd];rw[each_skip _ (fun y o c=>f _ y c ?_),n];obtain⟨i,m,rfl⟩:=List.getElem_of_mem o;rw[ca]at m;rw[List.getElem_take];exact fun e=>(ks.1 ho.two i j V d V) e.symm
theorem len_map(w:pG)(i:Int):(((pE w i).map tT).length=0)↔pE w i=[]:=by simp
theorem one_step{N:Nat}(hN:60002<=N)(c:List iW)(x:iW){w:pG}(h:SI w){A B C:Bool}(M:A=ba->pE w 0≠[])(hB:B=ba->pE w 1≠[])(L:C=ba->pE w 2≠[])(f:(Bool×Bool×Bool×List bA×List eG×List fI)->Option Bool):
    ∃A' t C',(A'=ba->pE (ME w (AY (clip x))) 0≠[])/\(t=ba->pE (ME w (AY (clip x))) 1≠[])/\(C'=ba->pE (ME w (AY (clip x))) 2≠[])/\jJ N c x (A,B,C,tri w) f=f (A',t,C',tri (ME w (AY (clip x)))):=by
  have u:∀y:iW,∃A' t C',(A'=ba->pE (ME w<|AY y) 0≠[])/\(t=ba->pE (ME w<|AY y) 1≠[])/\(C'=ba->pE (ME w<|AY y) 2≠[])/\jI N w.prog (sH w).places w.bO ⟨y.kind,y.place,y.co,0⟩ f A B C c y.n=f (A',t,C',tri<|ME w<|AY y):=by
    intro y;have m:=next_si h<|AY y;by_cases o:(fO w (AY y)).2=0
    · have e:ME w (AY y)=(fO w<|AY y).1:=if_neg<|nn o;rw[e]at m⊢;have K:=fun q=>Tc h o 0<|M q;have gB:=fun q=>Tc h o 1<|hB q;have gC:=fun q=>Tc h o 2<|L q;have R:Em N (sH w) y=aj (sH (fO w<|AY y).1,0):=by rw[do_r h.wr y hN,if_neg<|nn o]
      generalize (fO w (AY y)).1=v at m K gB gC R⊢;have I:∀(Q:Bool) (i:Int),(Q=ba->pE v i≠[])->(Q&&ab ((((pE v i).map tT).length:Int)=0))=ao/\((Q||ab ((0:Int)<(((pE v i).map tT).length:Int)))=ba->pE v i≠[]):=by
        intro Q i S;constructor
        · cases Q with
          |false=>rfl
          |true=>
            rw[Bool.true_and];exact dF fun q=>S Z ((len_map v i).1 V)
        · intro q P;rw[(len_map v i).2 P]at q;cases Q with
          |false=>exact absurd q zq1
          |true=>exact S Z P
      obtain⟨E0,E⟩:=aaZ m 0;obtain⟨E1,o1⟩:=aaZ m 1;obtain⟨E2,o2⟩:=aaZ m 2;have G:=I A 0 K;have z:=I B 1 gB;have F:=I C 2 gC;have O:=held_g m (i:=0) zq1 hN;have k1:=held_g m (i:=1) zq1 hN;have k2:=held_g m (i:=2) zq1 hN;generalize (pE v 0).map tT=l0 at E G O;generalize (pE v 1).map tT=l1 at o1 z k1;generalize (pE v 2).map tT=l2 at o2 F k2;refine⟨_,_,_,G.2,z.2,F.2,?_⟩;unfold jI;show(Em N (sH w) y).bind _=_;rw[R];simp only[bnd];rw[dT trivial,cond_true,O];simp only[bnd];rw[dF zq1,cond_false];obtain⟨r,X,b,j,l⟩:=Xv (k:=nO N A (l0,0) f (sH v,0) B C c) (body:=nM (l0,0) c) l0 (fun i x s a p=>by
        unfold nM;simp only[];rw[jP,p];rfl) E
      rw[j];unfold nO;simp only[];rw[l,G.1,kt,cond_false];rw[Td l0 (g:=fun x=>nz x c f (sH v,0) A B C) (kk:=rR) (fun _=>rfl) (fun x y a d=>by
        unfold nz;rw[dF d,cond_false]) (fun i a=>rfl) E]
      unfold rY;simp only[];rw[k1];simp only[bnd];rw[dF zq1,cond_false];obtain⟨r,X,b,j,l⟩:=Xv (k:=nL N B (l1,0) f (sH v,0) A (l0,0) C c) (body:=nI (l1,0) c) l1 (fun i x s a p=>by
        unfold nI;simp only[];rw[jP,p];rfl) o1
      rw[j];unfold nL;simp only[];rw[l,z.1,kt,cond_false];rw[Td l1 (g:=fun x=>nA x c f (sH v,0) A (l0,0) B C) (kk:=rU) (fun _=>rfl) (fun x y a d=>by
        unfold nA;rw[dF d,cond_false]) (fun i a=>rfl) o1]
      unfold rX;simp only[];rw[k2];simp only[bnd];rw[dF zq1,cond_false];obtain⟨r,X,b,j,l⟩:=Xv (k:=nH C (l2,0) f (sH v,0) A (l0,0) B (l1,0) c) (body:=nD (l2,0) c) l2 (fun i x s a p=>by
        unfold nD;simp only[];rw[jP,p];rfl) o2
      rw[j];unfold nH;simp only[];rw[l,F.1,kt,cond_false];rw[Td l2 (g:=fun x=>nC x c f (sH v,0) A (l0,0) B (l1,0) C) (kk:=rW) (fun _=>rfl) (fun x y a d=>by
        unfold nC;rw[dF d,cond_false]) (fun i a=>rfl) o2]
      rfl
    · have e:ME w (AY y)=w:=if_pos o;rw[e];refine⟨A,B,C,M,hB,L,?_⟩;unfold jI;show(Em N (sH w) y).bind _=_;rw[do_r h.wr y hN,if_pos o];simp only[bnd];rw[dF o,cond_false];rfl
  unfold jJ tri;simp only[];by_cases T:(x.kind=2\/x.kind=9)/\100<x.n
  · obtain⟨j,l⟩:=clip_t T;rw[j,cond_true,l];exact u ⟨x.kind,x.place,x.co,100⟩
  · obtain⟨j,l⟩:=clip_f T;rw[j,cond_false,l];exact u ⟨x.kind,x.place,x.co,x.n⟩
theorem one_each{N:Nat}(hN:60002<=N)(c:List iW):∀(l:List iW) (w:pG) (A B C:Bool),SI w->(A=ba->pE w 0≠[])->(B=ba->pE w 1≠[])->(C=ba->pE w 2≠[])->each (jJ N c) nP l (A,B,C,tri w)=aj ba
 |[],w,A,B,C,_,_,_,_=>rfl
 |x::l,w,A,B,C,h,hA,hB,hC=>by
  rw[gW];obtain⟨A',b,C',a,f,d,e⟩:=one_step hN c x h hA hB hC<|each (jJ N c) nP l;rw[e];exact one_each hN c l _ A' b C' (next_si h _) a f d
theorem storyOne(a:List bA)(b:List iW)(d:b.length<=9223372036854775807):Aj NN a b=aj true:=by
  unfold Aj;rw[new_g a zq1,gone_ok];simp only[bnd];by_cases c:KW a=0
  · rw[if_neg (nn c)];simp only[bnd];rw[show((!true)||ab ((0:Int)≠0))=ao from rfl,cond_false,dF zq1,cond_false];obtain⟨l,e⟩:=sixty b d;rw[e];simp only[bnd];exact one_each hN b l (NI a) ao ao ao (si_new c) (fun h=>by cases h) (fun h=>by cases h) (fun h=>by cases h)
  · rw[if_pos c];simp only[bnd];rw[dT (show KW a≠0 from c),Bool.or_true,cond_true]
end Pw
end Go.Proofs.YtodkbibbgakkdaaGreatDoor