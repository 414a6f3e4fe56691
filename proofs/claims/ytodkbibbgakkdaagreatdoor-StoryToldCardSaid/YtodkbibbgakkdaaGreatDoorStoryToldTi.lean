/-
  What the law StoryTold needs of our own library and of the walks, no more.
-/
import Derived.Test.YtodkbibbgakkdaaGreatDoorStoryToldTh
set_option linter.unusedSimpArgs false
set_option linter.unusedVariables false
set_option maxRecDepth 10000
open Bool renaming and_eq_true->cN,eq_false_iff->ie,false_eq_true->cM,not_false->ir,not_true->dI,or_eq_true->dt,or_false->th,true_eq_false->mD,false->aq,true->ba
open Decidable renaming decide->ab
open Int renaming eq_ofNat_of_zero_le->bs,toNat_natCast->bj
open List renaming any_eq_true->na,append_assoc->cf,append_nil->du,eq_nil_of_length_eq_zero->cl,filter_cons->gR,find?_cons->fk,findIdx?_eq_none_iff->oy,flatMap_append->jv,flatMap_cons->eL,flatMap_nil->rS,flatMap_singleton->lr,foldl_cons->sy,getElem?_eq_getElem->bh,getElem?_eq_some_iff->kn,getElem?_set->fg,getElem_mem->cx,length_append->bc,length_cons->bq,length_nil->eA,length_pos_iff->pZ,length_set->cp,length_singleton->dk,length_take->cd,map_cons->ck,mem_append->cV,mem_cons->bn,mem_cons_of_mem->bk,mem_flatMap->lp,mem_of_getElem?->fp,mem_of_mem_drop->mc,mem_of_mem_take->mb,mem_singleton->eV,nil_append->cF,prefix_append->eE,prefix_refl->cr,range->qq,range_succ->nr,take_append_of_le_length->cH
open Nat renaming le_refl->bt
open Option renaming bind_some->cJ,isSome_some->pB,some->aj
open Prod renaming ext->jo,fst->jn,snd->dv
namespace Go.Proofs.YtodkbibbgakkdaaGreatDoor
open Go Go.Proofs Go.LX
namespace Pw
open Dk
theorem lnP_inv(most:Int):∀(p:List Str) (l:List Rec) (n:Int),∃rs,(Sc most p l n).1=l++rs/\Eh rs/\(Sc most p l n).2.1=n+((txt rs).length:Int)/\∃t,vS 10 p=txt rs++t/\((Sc most p l n).2.2=0->t=[])
  |[],l,n=>⟨[],by simp[Sc],Jg,by simp[Sc,txt],[],by simp[vS,Lib.join_nil,txt],fun _=>rfl⟩
  |[x],l,n=>by
    unfold Sc;by_cases h:x=[]
    · rw[if_pos h];subst h;exact⟨[],by simp,Jg,by simp[txt],[],by rw[BK];rfl,fun _=>rfl⟩
    · rw[if_neg h];exact⟨[],by simp,Jg,by simp[txt],x,by rw[BK];rfl,fun h=>by simp at h⟩
  |x::y::r,l,n=>by
    unfold Sc;by_cases a:(nC x).2=0
    · rw[if_neg V];by_cases c:most<=(l.length:Int)
      · rw[if_pos c];exact⟨[],by simp,Jg,by simp[txt],_,Z,fun h=>by simp at h⟩
      · rw[if_neg c];obtain⟨rs,f,d,g,t,e,i⟩:=lnP_inv most (y::r) (l++[(nC x).1])<|n+(x.length:Int)+1;obtain⟨k1,k2,b⟩:=read_ok (s:=x) (r:=(nC x).1) (by rw[<-a]);refine⟨(nC x).1::rs,by rw[f];simp,?_,?_,t,?_,i⟩
        · intro z hz;rcases bn.1 hz with rfl|hz
          · exact⟨k1,k2⟩
          · exact d z hz
        · rw[g];have:(zN (nC x).1)=x:=b.symm;simp only[txt,bc,bq,this];omega
        · rw[yM,e];have:(zN (nC x).1)=x:=b.symm;simp[txt,this]
    · rw[if_pos a];exact⟨[],by simp,Jg,by simp[txt],_,Z,fun h=>absurd h a⟩
theorem ln_inv(most:Int)(s:Str):Eh (ln most s).1/\(ln most s).2.1=((txt (ln most s).1).length:Int)/\∃t,s=txt (ln most s).1++t/\((ln most s).2.2=0->t=[]):=by
 obtain⟨rs,a,d,c,t,b,e⟩:=lnP_inv most (jH 10 s) [] 0;rw[cF]at a;rw[BL]at b;unfold ln;rw[a];exact⟨d,by rw[c];omega,t,b,e⟩
def wR(d:iB):List Rec:=(ln 120 d.safe).1
def mo(d:iB):List Rec:=(Qn d).2
structure DOk(d:iB):Prop where
 safe:d.safe=txt (wR d)
 good:Eh (mo d)
 len:(mo d).length<=120
 room:d.safe.length+d.wait.length<=60000
 pre:wR d<+:mo d
 whole:(Qn d).1=⟨txt (mo d),[]⟩
 rroom:(txt (mo d)).length<=60000
 still:d.wait=[]->mo d=wR d
theorem dOk{d:iB}(h:iP d=0):DOk d:=by
  obtain⟨k,i⟩:=Dk.wM h;obtain⟨g1,g2,t,c,j⟩:=ln_inv 120 d.safe;have g:=j i;subst g;rw[du]at c;have p:((ln 120 d.safe).1.length:Int)<=120:=(aaj 120 d.safe).2.2.2 V;obtain⟨k1,k2,u,f,q⟩:=ln_inv (120-((ln 120 d.safe).1.length:Int)) d.wait;have m:=(aaj (120-((ln 120 d.safe).1.length:Int)) d.wait).2.2.2 V;have a:mo d=(ln 120 d.safe).1++(ln (120-((ln 120 d.safe).1.length:Int)) d.wait).1:=rfl;have b:d.wait.take (ln (120-((ln 120 d.safe).1.length:Int)) d.wait).2.1.toNat=txt (ln (120-((ln 120 d.safe).1.length:Int)) d.wait).1:=by
    generalize o:txt (ln (120-((ln 120 d.safe).1.length:Int)) d.wait).1=T at k2 f;rw[k2,bj,f,List.take_left]
  have n:(txt (ln (120-((ln 120 d.safe).1.length:Int)) d.wait).1).length<=d.wait.length:=by
    rw[<-b,cd];omega
  refine⟨c,?_,?_,k,?_,?_,?_,?_⟩
  · rw[a];exact fun r l=>(cV.1 l).elim (g1 r)<|k1 r
  · rw[a,bc];omega
  · rw[a];exact eE _ _
  · show(⟨d.safe++d.wait.take (ln (120-((ln 120 d.safe).1.length:Int)) d.wait).2.1.toNat,[]⟩:iB)=_;rw[b,a,M9,<-c]
  · rw[a,M9,bc,<-c];omega
  · intro e;rw[a,e];show _++(Sc _ (jH 10 []) [] 0).1=_;simp[jH,Sc,wR]
theorem aal{a:List Rec}{w:Str}(h:Eh a)(b:a.length<=120)(c:(txt a).length+w.length<=60000):iP ⟨txt a,w⟩=0/\wR ⟨txt a,w⟩=a:=by
 refine⟨Hu h b c,?_⟩;unfold wR;rw[ln_all h V]
theorem note_disk{d:iB}(h:iP d=0)(q:d.wait=[]){r:Rec}(w:Qm r){d1 d2:iB}(u:wQ d r=(d1,0))(g:Gv d1=(d2,0)):
    dV r=0/\d2=⟨txt (wR d++[r]),[]⟩/\iP d2=0/\wR d2=wR d++[r]/\mo d2=wR d++[r]/\(wR d).length+1<=120:=by
  have i:=dOk h;obtain⟨t,z⟩:=d;simp only at q;subst q;have s:=i.safe;simp only at s;have f:=i.room;simp only[eA]at f;have o:=i.len;rw[i.still rfl]at o;have j:=i.good;rw[i.still rfl]at j;generalize y:wR ⟨t,[]⟩=a at*;subst s;have e:=put_txt (a:=a) (b:=[]) (r:=r) j o (by simpa[txt]using f) w;rw[show txt ([]:List Rec)=[]from rfl,u]at e;rcases e with e|⟨e,er,el⟩
  · exact absurd Z e
  · rw[cF]at e el;obtain rfl:=congrArg jn e;simp only at g;have k:Eh [r]:=fun x l=>by rw[eV]at l;subst l;exact⟨er,w⟩
    have n:Eh (a++[r]):=fun x l=>(cV.1 l).elim (j x)<|k x;by_cases c:a.length+1<=120
    · rw[sync_txt j k (by simpa using c) el]at g;obtain rfl:=congrArg jn g;obtain⟨k1,k2⟩:=aal (a:=a++[r]) (w:=[]) n (by simpa using c) (by rw[M9];simp;omega);exact⟨er,Z,k1,k2,by rw[(dOk k1).still Z,k2],c⟩
    · exfalso;unfold Gv syncT at g;rw[if_neg (by rw[Hu j o el];simp)]at g;simp only at g;have m:a.length=120:=by omega
      have:iP ⟨txt a++txt [r],[]⟩=2:=by
        unfold iP;simp only[eA,bc];rw[if_neg V];rw[ln_txt (txt [r]) j V];have p:jH 10 (txt [r])=[zN r,[]]:=by
          have:=WA [r] [];rw[du]at this;rw[this];simp[jH]
        rw[p];unfold Sc;have v:nC (zN r)=(r,0):=aah er w;rw[v,if_neg zq3,if_pos V]
      rw[this]at g;simp at g
theorem tear_disk{d:iB}(h:iP d=0)(p:d.wait=[]){r:Rec}(w:Qm r){d1:iB}(A:wQ d r=(d1,0)){n:Int}(hn:0<=n/\n<=d1.wait.length):
    dV r=0/\(Ko d1 n).2=0/\iP (Ko d1 n).1=0/\wR (Ko d1 n).1=wR d/\(mo (Ko d1 n).1=wR d\/mo (Ko d1 n).1=wR d++[r]):=by
  have f:=dOk h;obtain⟨y,E⟩:=d;simp only at p;subst p;have s:=f.safe;simp only at s;have c:=f.room;simp only[eA]at c;have i:=f.len;rw[f.still rfl]at i;have g:=f.good;rw[f.still rfl]at g;generalize C:wR ⟨y,[]⟩=a at*;subst s;have e:=put_txt (a:=a) (b:=[]) (r:=r) g i (by simpa[txt]using c) w;rw[show txt ([]:List Rec)=[]from rfl,A]at e;rcases e with e|⟨e,er,el⟩
  · exact absurd Z e
  · rw[cF]at e el;obtain rfl:=congrArg jn e;have v:iP ⟨txt a,txt [r]⟩=0:=Hu g i el;simp only at hn;have u:Ko ⟨txt a,txt [r]⟩ n=(⟨txt a,(txt [r]).take n.toNat⟩,0):=by
      unfold Ko;simp only;rw[if_neg (by rw[v];simp),if_neg V]
    rw[u];obtain⟨k1,k2⟩:=aal (a:=a) (w:=(txt [r]).take n.toNat) g i (by rw[cd];omega);refine⟨er,Z,k1,k2,?_⟩;have B:mo ⟨txt a,(txt [r]).take n.toNat⟩=a++(ln (120-(a.length:Int)) ((txt [r]).take n.toNat)).1:=by
      show(ln 120<|txt a).1++_=_;rw[ln_all g V]
    simp only;rw[B];obtain⟨j,t,z,o⟩:=take_txt [r] n.toNat;have l:Eh [r]:=fun x q=>by rw[eV]at q;subst q;exact⟨er,w⟩
    rw[z];cases j with
    |zero=>
      left;have:=(ln_torn (most:=120-(a.length:Int)) (rs:=[]) (t:=t) Jg (by simp;omega) o).1;simp only[List.take_zero];rw[this,du]
    |succ j=>
      simp only[List.take_succ_cons,List.take_nil];by_cases m:a.length+1<=120
      · right;rw[(ln_torn (most:=120-(a.length:Int)) l (by simp;omega) o).1]
      · left;have k:(120-(a.length:Int))=0:=by omega
        rw[k];have:=(aaj 0<|txt [r]++t).2.2.2 V;have:(ln 0<|txt [r]++t).1=[]:=cl V;rw[this,du]
end Pw
open Go Go.Proofs Go.LX
namespace Pw
open Dk
theorem P9{α:Type}{R:Rdr α}{g:α->List Int}(h:∀l x r,R l=aj (x,r)->l=g x++r):∀(n:Nat) (l:List Int) (xs:List α) (r:List Int),j6 R n l=aj (xs,r)->l=xs.flatMap g++r/\xs.length=n
 |0,l,xs,r,e=>by
  have a:aj (([]:List α),l)=aj (xs,r):=e;cases a;exact⟨Z,Z⟩
 |n+1,l,xs,r,e=>by
  have a:(R l).bind (fun q=>(j6 R n q.2).bind fun b=>aj (q.1::b.1,b.2))=aj (xs,r):=e;cases h1:R l with
  |none=>rw[h1]at a;cases a
  |some q=>
   rw[h1,cJ]at a;cases h2:j6 R n q.2 with
   |none=>rw[h2]at a;cases a
   |some b=>
    rw[h2,cJ]at a;cases a;obtain⟨k1,k2⟩:=P9 h n q.2 b.1 b.2 h2;refine⟨?_,by simp[k2]⟩;rw[h l q.1 q.2 h1,eL,cf,<-k1]
theorem num_inv{l:List Int}{x:Int}{r:List Int}(h:G6 l=aj (x,r)):l=x::r:=by
 cases l with
 |nil=>cases h
 |cons a l=>cases h;rfl
theorem aam{m:Int}{l:List Int}{x:Nat}{r:List Int}(h:sZ m l=aj (x,r)):l=(x:Int)::r/\(x:Int)<=m:=by
  cases l with
  |nil=>cases h
  |cons a l=>
    unfold sZ at h;simp only at h;by_cases b:0<=a/\a<=m
    · rw[if_pos b]at h;cases h;rw[Int.toNat_of_nonneg b.1];exact⟨Z,b.2⟩
    · rw[if_neg b]at h;cases h
theorem wS{α β:Type}{R:Rdr α}{f:α->Rdr β}{l:List Int}{y:β}{r:List Int}(h:iM R f l=aj (y,r)):∃x a,R l=aj (x,a)/\f x a=aj (y,r):=by
 unfold iM at h;cases e:R l with
 |none=>rw[e]at h;cases h
 |some q=>rw[e,cJ]at h;exact⟨q.1,q.2,Z,h⟩
theorem aan{α:Type}{x y:α}{l r:List Int}(h:xW x l=aj (y,r)):x=y/\l=r:=by cases h;exact⟨Z,Z⟩
theorem val_inv{l:List Int}{x:Val}{r:List Int}(h:XM l=aj (x,r)):l=[x.kind,x.n]++r:=by
 obtain⟨k,c,a,h⟩:=wS h;obtain⟨n,d,b,h⟩:=wS h;obtain⟨rfl,rfl⟩:=aan h;rw[num_inv a,num_inv b];rfl
theorem row_inv{m:Int}{l:List Int}{x:List Val}{r:List Int}(h:DX m l=aj (x,r)):l=rowP x++r:=by
 obtain⟨k,a,c,h⟩:=wS h;obtain⟨d,b⟩:=P9 (fun l x r=>val_inv) k a x r h;rw[(aam c).1,d,<-b];rfl
theorem fr_inv{l:List Int}{x:LX.Frame}{r:List Int}(h:R6 l=aj (x,r)):l=frP x++r:=by
 obtain⟨a,m,f,h⟩:=wS h;obtain⟨b,n,g,h⟩:=wS h;obtain⟨c,j,i,h⟩:=wS h;obtain⟨d,k,e,h⟩:=wS h;obtain⟨rfl,rfl⟩:=aan h;rw[num_inv f,num_inv g,num_inv i,row_inv e];rfl
theorem st_inv{l:List Int}{s:LX.State}{r:List Int}(h:R7 l=aj (s,r)):l=wP s++r:=by
 obtain⟨a,z,q,h⟩:=wS h;obtain⟨b,A,g,h⟩:=wS h;obtain⟨n,e,v,h⟩:=wS h;obtain⟨f,o,d,h⟩:=wS h;obtain⟨k,j,y,h⟩:=wS h;obtain⟨c,u,m,h⟩:=wS h;obtain⟨rfl,rfl⟩:=aan h;obtain⟨t,i⟩:=P9 (fun l x r=>fr_inv) n e f o d;obtain⟨w,p⟩:=P9 (fun l x r=>row_inv) k j c u m;rw[num_inv q,num_inv g,(aam v).1,t,(aam y).1,w,<-i,<-p];unfold wP;simp
structure Img(p:List bu)(l:List Int)(s:LX.State):Prop where
 un:dO p l=(s,0)
 st:vz p s
 idem:dM s=s
 eq:l=wP s
theorem img_of{p:List bu}(hp:Jc p=0){l:List Int}(h:(dO p l).2=0):Img p l (dO p l).1:=by
  have g:dO p l=((dO p l).1,0):=by rw[<-h]
  have a:=g;unfold dO at h;by_cases c:1200<l.length
  · rw[if_pos c]at h;simp at h
  · rw[if_neg c]at h;cases e:R7 l with
    |none=>rw[e]at h;simp at h
    |some q=>
      obtain⟨s,r⟩:=q;rw[e]at h;cases r with
      |cons x r=>simp at h
      |nil=>
        simp only at h;have f:dO p l=endP p s:=by unfold dO;rw[if_neg c,e]
        rw[f]at a⊢;unfold endP at h a⊢;rw[if_neg V]at h a⊢;by_cases d:ckS p s=0
        · rw[if_neg V]at h a⊢;by_cases b:dM s=s
          · rw[if_pos b]at h a⊢;refine⟨?_,EP.1 d,b,?_⟩
            · rw[f];unfold endP;rw[if_neg V,if_neg V,if_pos b]
            · have:=st_inv e;rw[du]at this;exact this
          · rw[if_neg b]at h;simp at h
        · rw[if_pos d]at h;exact absurd h d
theorem img_pack{p:List bu}(hp:Jc p=0){s:LX.State}(h:vz p s):Img p (wP (dM s)) (dM s):=
 ⟨unpack_pack hp h,TY (ng hp) h,M6 (h.sw (ng hp)),rfl⟩
theorem valsP_mem{l:List Val}{x:Int}(h:x∈Z6 l):∃v∈l,x=v.kind\/x=v.n:=by
 obtain⟨v,b,a⟩:=lp.1 h;simp at a;exact⟨v,b,a⟩
theorem Kq{x:Int}(h: -2000000000<=x/\x<=2000000000):kr x:=⟨by omega,by omega⟩
theorem val_b{n:Nat}{v:Val}(h:j3 n v)(hn:n<=24):(-2000000000<=v.kind/\v.kind<=2000000000)/\ -2000000000<=v.n/\v.n<=2000000000:=by unfold j3 at h;omega
theorem row_b{n:Nat}{l:List Val}(h:∀v∈l,j3 n v)(hn:n<=24)(c:l.length<=40):∀x∈rowP l,-2000000000<=x/\x<=2000000000:=by
  intro x a;rcases bn.1 a with rfl|a
  · omega
  · obtain⟨v,b,e⟩:=valsP_mem a;have:=val_b (h v b) hn;rcases e with rfl|rfl
    · exact this.1
    · exact this.2
theorem pack_b{p:List bu}(hp:mF p){s:LX.State}(h:vz p s):∀x∈wP s,kr x:=by
  have d:=h.small hp;have A:=d.frames;have k:=d.cells;have u:=h.status;have r:=h.bM;intro x a;refine Kq ?_;unfold wP at a;rcases bn.1 a with rfl|a
  · omega
  rcases bn.1 a with rfl|a
  · omega
  rcases bn.1 a with rfl|a
  · omega
  rcases cV.1 a with a|a
  · obtain⟨f,b,a⟩:=lp.1 a;obtain⟨q,g⟩:=Ah h.frames f b;have y:=(hp.mem g.proc).2.2.2;have w:=(aF g.proc).1;have o:f.proc.toNat<p.length:=by
      have:=(aF g.proc).2;exact(kn.1 this).1
    have v:=hp.many;have hat:=g.at_;unfold tN at y;have j: -2000000000<=f.jy/\f.jy<=2000000000:=by
      have i:∀(l:List LX.Frame) (t:Int),t<=40->(∀f∈l,f.regs.length<=40)->ni p s.cells.length t l->∀f∈l,0<=f.jy/\f.jy<40:=by
        intro l;induction l with
        |nil=>intro t _ _ _ f b;cases b
        |cons g l ih=>
          intro t B n e f b;rcases bn.1 b with rfl|b
          · have:=e.2.1;omega
          · exact ih _ (by have:=n g zq3;omega) (fun z hz=>n z (bk _ hz)) e.2.2 f b
      have:=i s.frames 1 V d.regs h.frames f b;omega
    unfold frP at a;rcases bn.1 a with rfl|a
    · omega
    rcases bn.1 a with rfl|a
    · omega
    rcases bn.1 a with rfl|a
    · exact j
    · exact row_b g.vals k (d.regs f b) x a
  · rcases bn.1 a with rfl|a
    · omega
    · obtain⟨c,m,a⟩:=lp.1 a;exact row_b (h.cells.2 c m).2 k (by have:=d.fields c m;omega) x a
theorem img_b{p:List bu}(hp:mF p){l:List Int}{s:LX.State}(h:Img p l s):(∀x∈l,kr x)/\1<=l.length/\l.length<=1200:=by
 rw[h.eq];have:=Z8<|h.st.small hp;refine⟨pack_b hp h.st,?_,by omega⟩;unfold wP;simp
def oI(i:Int)(l:List Co):Option Co:=l.find? fun x=>ab (x.kv=i)
theorem F8{i:Int}{l:List Co}{c:Co}(h:oI i l=aj c):c.kv=i/\c∈l:=by
 have a:=List.find?_some h;exact⟨by simpa using a,List.mem_of_find?_eq_some h⟩
theorem ER{c:Co}{i:Int}:∀{l:List Co},(∀x∈l,x.kv≠c.kv)->oI i (G7 c l)=if i=c.kv then aj c else oI i l
  |[],_=>by
    unfold G7 oI;rw[fk];by_cases h:i=c.kv
    · rw[if_pos h,dT h.symm]
    · rw[if_neg h,dF (fun e=>h e.symm)]
  |x::r,hx=>by
    unfold G7;by_cases a:x.kv<c.kv
    · rw[if_pos a];have b:=ER (c:=c) (i:=i) (l:=r) fun y d=>hx y<|bk _ d;unfold oI at b⊢;rw[fk,fk,b];by_cases h:x.kv=i
      · rw[dT h];show aj x=_;rw[if_neg (by have:=hx x zq3;omega)]
      · rw[dF h]
    · rw[if_neg a];unfold oI;rw[fk];by_cases h:i=c.kv
      · rw[if_pos h,dT h.symm]
      · rw[if_neg h,dF (fun e=>h e.symm)]
theorem Hw{b:Rec}{i:Int}:∀{l:List Co},oI i (NK b l)=if i=b.co then none else oI i l
  |[]=>by simp[oI,NK]
  |x::r=>by
    have c:=Hw (b:=b) (i:=i) (l:=r);unfold oI NK at c⊢;rw[gR];by_cases h:x.kv=b.co
    · rw[dF V];simp only[cM,if_false];rw[c,fk];by_cases a:i=b.co
      · rw[if_pos a,if_pos a]
      · rw[if_neg a,if_neg a,dF V]
    · rw[dT h];simp only[if_true];rw[fk,fk,c];by_cases a:x.kv=i
      · rw[dT a];show aj x=_;rw[if_neg V]
      · rw[dF a]
inductive Did (r:Rec) (o n:Option Co):Prop
 |begin (h:r.kind=1/\r.aJ=1) (ho:o=none) (hn:n=aj ⟨r.co,r.aJ,r.image,-1⟩)
 |take (h:r.kind=4/\r.aJ≠1) (ho:o=none) (hn:n=aj ⟨r.co,r.aJ,r.image,-1⟩)
 |slice (c:Co) (h:r.kind=2) (ho:o=aj c) (he:c.aJ=r.aJ) (hf:c.offered= -1) (hn:n=aj ⟨c.kv,c.aJ,r.image,-1⟩)
 |offer (c:Co) (h:r.kind=3) (ho:o=aj c) (he:c.aJ=r.aJ) (hf:c.offered= -1) (hx:c.aJ≠100) (hn:n=aj ⟨c.kv,c.aJ,c.image,r.place⟩)
 |gone (c:Co) (h:r.kind=5) (ho:o=aj c) (he:c.aJ=r.aJ) (hf:c.offered≠ -1) (hn:n=none)
theorem WE{a:List Co}{r:Rec}(h:(iD a r).2=0):(∀i,i≠r.co->oI i (iD a r).1=oI i a)/\Did r (oI r.co a) (oI r.co (iD a r).1)/\gU r=0:=by
  have w:=(next_ok a r h).1;unfold iD at h⊢;by_cases q:gV a=0
  · by_cases n:gU r=0
    · have gr:=Ue r n;rw[if_neg (by simpa using q),if_neg (by simpa using n)]at h⊢;have l:∀x∈NK r a,x.kv≠r.co:=fun x m=>(XN m).2;have u:R8 r a=oI r.co a:=rfl;cases e:R8 r a with
      |none=>
        rw[e]at h;rw[u]at e;simp only at h⊢;by_cases f:r.kind=1\/r.kind=4
        · rw[if_pos f]at h⊢;by_cases j:(ab (r.aJ=1) !=ab (r.kind=1))=ba
          · rw[if_pos j]at h;simp at h
          · rw[if_neg j];simp only;refine⟨fun i k=>?_,?_,n⟩
            · rw[ER l,if_neg k,Hw,if_neg k]
            · rw[ER l,if_pos rfl,e];rcases f with f|f
              · refine .begin ⟨f,?_⟩ Z Z;by_cases g:r.aJ=1
                · exact g
                · exact absurd (by simp[f,g]) j
              · refine .take ⟨f,?_⟩ Z Z;intro g;exact absurd (by simp[f,g]) j
        · rw[if_neg f]at h;simp at h
      |some c=>
        rw[e]at h;rw[u]at e;obtain⟨d,v⟩:=F8 e;simp only at h⊢;by_cases f:r.kind=1\/r.kind=4
        · rw[if_pos f]at h;simp at h
        · rw[if_neg f]at h⊢;by_cases j:(ab (r.aJ≠c.aJ)||(ab (c.offered≠ -1) !=ab (r.kind=5)))=ba
          · rw[if_pos j]at h;simp at h
          · rw[if_neg j]at h⊢;have g:c.aJ=r.aJ:=by
              by_cases g:r.aJ=c.aJ
              · exact g.symm
              · exact absurd (by simp[g]) j
            by_cases p:r.kind=5
            · rw[if_pos p];simp only;refine⟨fun i k=>by rw[Hw,if_neg k],?_,n⟩;rw[Hw,if_pos rfl,e];refine .gone c p Z g ?_ Z;intro o;exact absurd (by simp[p,o]) j
            · have o:c.offered= -1:=by
                by_cases o:c.offered= -1
                · exact o
                · exact absurd (by simp[p,o]) j
              rw[if_neg p]at h⊢;by_cases s:r.kind=2
              · rw[if_pos s];simp only;have b:∀x∈NK r a,x.kv≠(⟨c.kv,c.aJ,r.image,c.offered⟩:Co).kv:=fun x m=>by simp only[d];exact l x m
                refine⟨fun i k=>?_,?_,n⟩
                · rw[ER b,if_neg (by simp only[d];exact k),Hw,if_neg k]
                · rw[ER b,if_pos (by simp only[d]),e];exact .slice c s Z g o (by rw[o])
              · rw[if_neg s]at h⊢;by_cases m:c.aJ=100
                · rw[if_pos m]at h;simp at h
                · rw[if_neg m];simp only;have t:r.kind=3:=by have:=gr.kind;omega
                  have b:∀x∈NK r a,x.kv≠(⟨c.kv,c.aJ,c.image,r.place⟩:Co).kv:=fun x m=>by simp only[d];exact l x m
                  refine⟨fun i k=>?_,?_,n⟩
                  · rw[ER b,if_neg (by simp only[d];exact k),Hw,if_neg k]
                  · rw[ER b,if_pos (by simp only[d]),e];exact .offer c t Z g o m Z
    · rw[if_neg (by simpa using q),if_pos n]at h;exact absurd h n
  · rw[if_pos q]at h;exact absurd h q
end Pw
open Go Go.Proofs Go.LX
namespace Pw
open Dk
structure Nr where
 cos:List Co
 d:iB
 up:Bool
deriving DecidableEq
structure oZ where
 prog:List bu
 places:List Nr
 bR:List fJ
structure Hap where
 kind:Int
 place:Int
 co:Int
 n:Int
theorem regAt_ok{n:Nat}{r:List Val}(h:∀v∈r,j3 n v)(i:Int):j3 n (jJ r i):=by
  unfold jJ idx;by_cases a:0<=i
  · rw[if_pos a];cases e:r[i.toNat]? with
    |none=>exact .inl ⟨rfl,rfl⟩
    |some v=>exact h v (fp e)
  · rw[if_neg a];exact .inl ⟨Z,Z⟩
theorem said_b{a:List bu}(i:mF a){s:LX.State}(h:vz a s)(g:s.status=0){t:LX.State}{z:Int}{p:Bool}(b:zK a s=aj (t,aj z,p)):kr z:=by
  have e:=((zL i h g b).2.2 Z).2;obtain⟨pre,f,x,c,m,k,l,j⟩:=Ht i h g;rw[l]at b;rw[j]at e;unfold sW at b;simp only[e]at b;rw[if_neg V,if_neg V,if_neg V,if_neg V,if_neg V,if_neg V,if_neg V,if_neg V,if_pos trivial]at b;by_cases d:(jJ f.regs c.a).kind=1
  · rw[if_pos d]at b;have:=regAt_ok k.fr.vals c.a;have:=this.int d;cases b;exact Kq V
  · rw[if_neg d]at b;cases b
theorem run_said{a:List bu}(g:mF a):∀(m:Nat) (b:List Int) (n:Nat) (s:LX.State),vz a s->(∀x∈b,kr x)->∀x∈(tZ a m b n s).2.1,kr x
  |0,b,n,s,_,h=>h
  |m+1,b,n,s,hs,h=>by
    unfold tZ;by_cases f:s.status=0
    · rw[if_neg V];by_cases d:b.length=40/\LU a s=9
      · rw[if_pos d];exact h
      · rw[if_neg d];cases e:zK a s with
        |none=>exact h
        |some q=>
          obtain⟨t,o,p⟩:=q;have i:∀x∈b++o.toList,kr x:=by
            intro x c;rcases cV.1 c with c|c
            · exact h x c
            · cases o with
              |none=>cases c
              |some z=>simp at c;subst c;exact said_b g hs f e
          simp only;cases p with
          |true=>exact i
          |false=>exact run_said g m _ _ t (zL g hs f e).1 i
    · rw[if_pos f];exact h
def aao(m:fJ):Prop:=(0<=m.from_/\m.from_<=2)/\(0<=m.jy/\m.jy<=2)/\(0<=m.co/\m.co<=2)/\(2<=m.aJ/\m.aJ<=100)/\(m.taken=ba↔m.image=[])/\m.image.length<=1200
theorem mail_each:∀l:List fJ,each zX Dl l ()=0↔∀m∈l,aao m
  |[]=>by simp[qN,Dl]
  |m::l=>by
    have g:=mail_each l;rw[gD];generalize each zX Dl l=K at g⊢;unfold zX;by_cases c:(0<=m.from_/\m.from_<=2)/\(0<=m.jy/\m.jy<=2)/\(0<=m.co/\m.co<=2)/\(2<=m.aJ/\m.aJ<=100)
    · rw[show(((((((ab ((m.from_:Int)<0)||ab ((3:Int)<=m.from_))||ab ((m.jy:Int)<0))||ab ((3:Int)<=m.jy))||ab ((m.co:Int)<0))||ab ((3:Int)<=m.co))||ab ((m.aJ:Int)<2))||ab ((100:Int)<m.aJ))=aq by
        simp only[Bool.or_eq_false_iff,decide_eq_false_iff_not];omega,cond_false]
      by_cases b:(m.taken=ba↔m.image=[])/\m.image.length<=1200
      · rw[show((m.taken !=ab (((m.image.length:Int):Int)=0))||ab ((1200:Int)<(m.image.length:Int)))=aq by
          rw[dF (show¬(1200:Int)<(m.image.length:Int) by have:=b.2;omega),th];by_cases a:m.image=[]
          · rw[b.1.2 a,a];simp
          · have:m.taken=false:=by
              cases e:m.taken with
              |false=>rfl
              |true=>exact absurd (b.1.1 e) a
            rw[this,dF (fun h=>a (cl V))];rfl,cond_false,g]
        constructor
        · intro h x d;rcases bn.1 d with rfl|d
          · exact⟨c.1,c.2.1,c.2.2.1,c.2.2.2,b⟩
          · exact h x d
        · exact fun h x d=>h x<|bk _ d
      · rw[show((m.taken !=ab (((m.image.length:Int):Int)=0))||ab ((1200:Int)<(m.image.length:Int)))=ba by
          by_cases f:m.image.length<=1200
          · rw[dF (show¬(1200:Int)<(m.image.length:Int) by omega),th];by_cases a:m.image=[]
            · cases e:m.taken with
              |true=>exact absurd ⟨⟨fun _=>a,fun _=>e⟩,f⟩ b
              |false=>rw[a];simp
            · cases e:m.taken with
              |true=>rw[dF (fun h=>a (cl V))];rfl
              |false=>exact absurd ⟨⟨fun h=>(Bool.false_ne_true (e.symm.trans h)).elim,fun h=>absurd h a⟩,f⟩ b
          · rw[dT (show(1200:Int)<(m.image.length:Int) by omega),Bool.or_true],cond_true]
        constructor
        · intro h;simp at h
        · intro h;exact absurd (h m zq3).2.2.2.2 b
    · rw[show(((((((ab ((m.from_:Int)<0)||ab ((3:Int)<=m.from_))||ab ((m.jy:Int)<0))||ab ((3:Int)<=m.jy))||ab ((m.co:Int)<0))||ab ((3:Int)<=m.co))||ab ((m.aJ:Int)<2))||ab ((100:Int)<m.aJ))=ba by
        simp only[dt,decide_eq_true_eq];omega,cond_true]
      constructor
      · intro h;simp at h
      · intro h;have:=h m zq3;exact absurd ⟨this.1,this.2.1,this.2.2.1,this.2.2.2.1⟩ c
theorem Jh(l:List fJ):dN l=0↔l.length<=40/\∀m∈l,aao m:=by
  unfold dN;by_cases h:l.length<=40
  · rw[dF V,cond_false,mail_each];exact⟨fun x=>⟨h,x⟩,fun x=>x.2⟩
  · rw[dT V,cond_true];exact⟨fun x=>by simp at x,fun x=>absurd x.1 h⟩
def Kr(p:List bu):List Co->Int
 |[]=>0
 |c::l=>if(dO p c.image).2≠0 then(dO p c.image).2 else Kr p l
theorem aap(p:List bu):∀l,Kr p l=0↔∀c∈l,(dO p c.image).2=0
  |[]=>by simp[Kr]
  |c::l=>by
    unfold Kr;by_cases h:(dO p c.image).2=0
    · rw[if_neg V,aap p l];simp[h]
    · rw[if_pos h];simp[h]
def A8(p:List bu)(x:Nr):Int:=
 if iP x.d≠0 then iP x.d else if x.up=aq then(if x.cos=[]then 0 else 4)else if x.d.wait≠[]then 4 else
 if(jG [] (mo x.d)).2≠0 then(jG [] (mo x.d)).2 else if(jG [] (mo x.d)).1≠x.cos then 4 else Kr p x.cos
structure PlR(p:List bu)(x:Nr):Prop where
 disk:iP x.d=0
 down:x.up=aq->x.cos=[]
 wait:x.up=ba->x.d.wait=[]
 cos:x.up=ba->jG [] (mo x.d)=(x.cos,0)
 img:∀c∈x.cos,(dO p c.image).2=0
theorem plc_iff(p:List bu)(x:Nr):A8 p x=0↔PlR p x:=by
  unfold A8;by_cases b:iP x.d=0
  · rw[if_neg V];cases hu:x.up with
    |false=>
      simp only[if_true];by_cases a:x.cos=[]
      · rw[if_pos a];exact⟨fun _=>⟨b,fun _=>a,fun h=>(by rw[hu]at h;cases h),fun h=>(by rw[hu]at h;cases h),by rw[a];simp⟩,fun _=>rfl⟩
      · rw[if_neg a];exact⟨fun h=>by simp at h,fun h=>absurd (h.down hu) a⟩
    |true=>
      simp only[mD,if_false];by_cases a:x.d.wait=[]
      · rw[if_neg (by simpa using a)];by_cases e:(jG [] (mo x.d)).2=0
        · rw[if_neg V];by_cases c:(jG [] (mo x.d)).1=x.cos
          · rw[if_neg (by simpa using c),aap];exact⟨fun h=>⟨b,fun h=>(by rw[hu]at h;cases h),fun _=>a,fun _=>by rw[<-c,<-e],h⟩,fun h=>h.img⟩
          · rw[if_pos c];exact⟨fun h=>by simp at h,fun h=>absurd (by rw[h.cos hu]) c⟩
        · rw[if_pos e];exact⟨fun h=>absurd h e,fun h=>absurd (by rw[h.cos hu]) e⟩
      · rw[if_pos a];exact⟨fun h=>by simp at h,fun h=>absurd (h.wait hu) a⟩
  · rw[if_pos b];exact⟨fun h=>absurd h b,fun h=>absurd h.disk b⟩
def O9(p:List bu):List Nr->Int
 |[]=>0
 |x::l=>if A8 p x≠0 then A8 p x else O9 p l
theorem aaq(p:List bu):∀l,O9 p l=0↔∀x∈l,PlR p x
  |[]=>by simp[O9]
  |x::l=>by
    unfold O9;by_cases h:A8 p x=0
    · rw[if_neg V,aaq p l];have:=(plc_iff p x).1 h;simp[this]
    · rw[if_pos h];exact⟨fun a=>absurd a h,fun a=>absurd ((plc_iff p x).2<|a x zq3) h⟩
def Ns(p:List bu):List fJ->Int
 |[]=>0
 |m::l=>if m.taken=ba then Ns p l else if(dO p m.image).2≠0 then(dO p m.image).2 else Ns p l
theorem WG(p:List bu):∀l,Ns p l=0↔∀m∈l,m.taken=aq->(dO p m.image).2=0
  |[]=>by simp[Ns]
  |m::l=>by
    unfold Ns;by_cases a:m.taken=ba
    · rw[if_pos a,WG p l];simp[a]
    · rw[if_neg a];have b:m.taken=false:=by simpa using a
      by_cases h:(dO p m.image).2=0
      · rw[if_neg V,WG p l];simp[h]
      · rw[if_pos h];simp[h,b]
def DZ(w:oZ):Int:=
 if Jc w.prog≠0 then Jc w.prog else if w.places.length≠3 then 4 else if dN w.bR≠0 then dN w.bR else
 if O9 w.prog w.places≠0 then O9 w.prog w.places else Ns w.prog w.bR
structure WR(w:oZ):Prop where
 code:Jc w.prog=0
 many:w.places.length=3
 mlen:w.bR.length<=40
 mok:∀m∈w.bR,aao m
 pl:∀x∈w.places,PlR w.prog x
 mimg:∀m∈w.bR,m.taken=aq->(dO w.prog m.image).2=0
theorem w_iff(w:oZ):DZ w=0↔WR w:=by
  unfold DZ;by_cases d:Jc w.prog=0
  · rw[if_neg V];by_cases e:w.places.length=3
    · rw[if_neg V];by_cases c:dN w.bR=0
      · rw[if_neg V];by_cases b:O9 w.prog w.places=0
        · rw[if_neg V,WG];have a:=(Jh _).1 c;exact⟨fun h=>⟨d,e,a.1,a.2,(aaq _ _).1 b,h⟩,fun h=>h.mimg⟩
        · rw[if_pos b];exact⟨fun h=>absurd h b,fun h=>absurd ((aaq _ _).2 h.pl) b⟩
      · rw[if_pos c];exact⟨fun h=>absurd h c,fun h=>absurd ((Jh _).2 ⟨h.mlen,h.mok⟩) c⟩
    · rw[if_pos e];exact⟨fun h=>by simp at h,fun h=>absurd h.many e⟩
  · rw[if_pos d];exact⟨fun h=>absurd h d,fun h=>absurd h.code d⟩
def zP:Nr:=⟨[],zD,aq⟩
def iq(w:oZ)(k:Int):Nr:=(idx w.places k).getD zP
def ES(w:oZ)(k:Int)(x:Nr):oZ:=⟨w.prog,w.places.set k.toNat x,w.bR⟩
def o7(x:Nr)(r:Rec):Nr×Int:=
 if(iD x.cos r).2≠0 then(x,(iD x.cos r).2)else if(wQ x.d r).2≠0 then(x,(wQ x.d r).2)else
 if(Gv (wQ x.d r).1).2≠0 then(x,(Gv (wQ x.d r).1).2)else(⟨(iD x.cos r).1,(Gv (wQ x.d r).1).1,x.up⟩,0)
def QF(x:Nr)(r:Rec)(keep:Int):Nr×Int:=
 if(iD x.cos r).2≠0 then(x,(iD x.cos r).2)else if(wQ x.d r).2≠0 then(x,(wQ x.d r).2)else
 (⟨[],(Ko (wQ x.d r).1 (max 0 (min keep ((wQ x.d r).1.wait.length:Int)))).1,aq⟩,0)
def Gx(l:List fJ)(m:fJ):List fJ:=if dN l≠0\/dN [m]≠0 then l else if l.length<40 then l++[m]else l
def tu(p:List bu)(k:Int)(c:Co)(fuel:Int):Rec×Int:=
 if 0<=c.offered then(⟨2,c.kv,c.aJ,0,[],[]⟩,7)else
 if(dO p c.image).2≠0 then(⟨2,c.kv,c.aJ,0,[],[]⟩,(dO p c.image).2)else
 if(dO p c.image).1.status=3/\0<=(dO p c.image).1.bM/\(dO p c.image).1.bM<3/\(dO p c.image).1.bM≠k then(⟨3,c.kv,c.aJ,(dO p c.image).1.bM,[],[]⟩,0)else
 if(wake (dO p c.image).1).status≠0 then(⟨2,c.kv,c.aJ,0,[],[]⟩,7)else
 (⟨2,c.kv,c.aJ,0,(tZ p fuel.toNat [] 0 (wake (dO p c.image).1)).2.1,wP (dM (tZ p fuel.toNat [] 0 (wake (dO p c.image).1)).1)⟩,0)
def R9(k:Int)(c:Co):fJ:=⟨k,c.offered,c.kv,c.aJ+1,aq,c.image⟩
def runW(w:oZ)(x:Hap):oZ×Int:=
 match oI x.co (iq w x.place).cos with
 |none=>(w,5)
 |some c=>
  let fuel:=if x.kind=9 then 2000 else x.n
  if fuel<1\/2000<fuel then(w,3)else
  let q:=tu w.prog x.place c fuel
  if q.2≠0 then(w,q.2)else
  if x.kind=9 then(ES w x.place (QF (iq w x.place) q.1 x.n).1,(QF (iq w x.place) q.1 x.n).2)else
  if(o7 (iq w x.place) q.1).2≠0 then(w,(o7 (iq w x.place) q.1).2)else
  let v:=ES w x.place (o7 (iq w x.place) q.1).1
  if q.1.kind=3 then(⟨v.prog,v.places,Gx v.bR (R9 x.place ⟨c.kv,c.aJ,c.image,q.1.place⟩)⟩,0)else(v,0)
def XP(w:oZ)(x:Hap):oZ×Int:=
 match oI x.co (iq w x.place).cos with
 |none=>(w,5)
 |some c=>if c.offered<0 then(w,7)else(⟨w.prog,w.places,Gx w.bR (R9 x.place c)⟩,0)
def aar(w:oZ)(k i:Int):oZ×Int:=
 if i≠k then(w,5)else if(mo (iq w k).d).any (fun r=>ab (r.kind=1))then(w,6)else
 let r:Rec:=⟨1,i,1,0,[],wP (dM (kP w.prog))⟩
 (ES w k (o7 (iq w k) r).1,(o7 (iq w k) r).2)
def hadP(x:Nr)(i e:Int):Bool:=(mo x.d).any fun r=>ab (r.kind=4)&&ab (r.co=i)&&ab (e<=r.aJ)
def hearW(w:oZ)(i:Int)(a:Bool):oZ×Int:=
 if i<0\/(w.bR.length:Int)<=i then(w,5)else
 let m:=(w.bR[i.toNat]?).getD zMail
 if(iq w m.jy).up=aq then(w,7)else
 let v:oZ:=⟨w.prog,w.places,if a then w.bR else w.bR.take i.toNat++w.bR.drop (i.toNat+1)⟩
 if m.taken then
  match oI m.co (iq v m.jy).cos with
  |none=>(v,0)
  |some c=>if c.aJ≠m.aJ-1\/c.offered≠m.from_ then(v,0)else
   (ES v m.jy (o7 (iq v m.jy) ⟨5,m.co,m.aJ-1,0,[],[]⟩).1,(o7 (iq v m.jy) ⟨5,m.co,m.aJ-1,0,[],[]⟩).2)
 else
  let b:fJ:=⟨m.jy,m.from_,m.co,m.aJ,ba,[]⟩
  if hadP (iq v m.jy) m.co m.aJ then(⟨v.prog,v.places,Gx v.bR b⟩,0)else
  let r:Rec:=⟨4,m.co,m.aJ,0,[],m.image⟩
  if(o7 (iq v m.jy) r).2≠0 then(v,(o7 (iq v m.jy) r).2)else
  let u:=ES v m.jy (o7 (iq v m.jy) r).1
  (⟨u.prog,u.places,Gx u.bR b⟩,0)
def bootW(w:oZ)(k:Int):oZ×Int:=
 if(iq w k).up=ba then(w,7)else
 if(jG [] (mo (iq w k).d)).2≠0 then(w,(jG [] (mo (iq w k).d)).2)else
 if Kr w.prog (jG [] (mo (iq w k).d)).1≠0 then(w,Kr w.prog (jG [] (mo (iq w k).d)).1)else
 (ES w k ⟨(jG [] (mo (iq w k).d)).1,(Qn (iq w k).d).1,ba⟩,0)
def fU(w:oZ)(x:Hap):oZ×Int:=
 if x.kind=4\/x.kind=5 then hearW w x.n (ab (x.kind=5))else
 if x.kind=6 then(if x.n<0\/(w.bR.length:Int)<=x.n then(w,5)else(⟨w.prog,w.places,w.bR.take x.n.toNat++w.bR.drop (x.n.toNat+1)⟩,0))else
 if x.kind<1\/9<x.kind then(w,4)else
 if x.place<0\/(w.places.length:Int)<=x.place then(w,5)else
 if x.kind=8 then bootW w x.place else
 if(iq w x.place).up=aq then(w,7)else
 if x.kind=1 then aar w x.place x.co else
 if x.kind=3 then XP w x else
 if x.kind=7 then(ES w x.place ⟨[],(iq w x.place).d,aq⟩,0)else runW w x
end Pw
open Go Go.Proofs Go.LX
namespace Pw
open Dk
theorem findC_mem{l:List Co}(a:Up l){c:Co}(h:c∈l):oI c.kv l=aj c:=by
  induction l with
  |nil=>cases h
  |cons x r ih=>
    rw[Up,List.pairwise_cons]at a;unfold oI;rw[fk];rcases bn.1 h with rfl|h
    · rw[dT rfl]
    · have:=a.1 c h;rw[dF V];exact ih a.2 h
theorem good0:Dk.Good []:=⟨by simp,fun x h=>(by cases h),List.Pairwise.nil⟩
def Off(l:List Co):Prop:=∀c∈l,c.offered≠ -1->c.aJ≠100
theorem rep_good:∀(l:List Rec) (s:List Co),Dk.Good s->Off s->(jG s l).2=0->Dk.Good (jG s l).1/\Off (jG s l).1
  |[],s,h,ho,_=>⟨h,ho⟩
  |r::l,s,h,ho,e=>by
    unfold jG at e⊢;by_cases a:(iD s r).2=0
    · rw[if_neg V]at e⊢;have d:=(next_ok s r a).2.1;obtain⟨k1,k2,-⟩:=WE a;refine rep_good l _ d ?_ e;intro c g;have b:=findC_mem d.up g;by_cases f:c.kv=r.co
      · rw[f]at b;rw[b]at k2;rcases k2 with⟨_,_,hn⟩|⟨_,_,hn⟩|⟨c0,_,_,_,_,hn⟩|⟨c0,_,_,_,_,hx,hn⟩|⟨_,_,_,_,_,hn⟩
        · cases hn;exact fun h=>absurd Z h
        · cases hn;exact fun h=>absurd Z h
        · cases hn;exact fun h=>absurd Z h
        · cases hn;exact fun _=>hx
        · cases hn
      · rw[k1 _ f]at b;exact ho c (F8 b).2
    · rw[if_pos a]at e;exact absurd e a
theorem PlR.good{p:List bu}{x:Nr}(h:PlR p x):Dk.Good x.cos/\Off x.cos:=by
 cases hu:x.up with
 |true=>
  have e:=h.cos hu;have:=rep_good (mo x.d) [] good0 (fun c a=>by cases a) (by rw[e]);rw[e]at this;exact this
 |false=>rw[h.down hu];exact⟨good0,fun c a=>by cases a⟩
structure Noted(p:List bu)(x x':Nr)(r:Rec):Prop where
 pl:PlR p x'
 up:x'.up=ba
 slog:wR x'.d=wR x.d++[r]
 flog:mo x'.d=mo x.d++[r]
 fs:mo x.d=wR x.d
 cos:x'.cos=(iD x.cos r).1
 ok:(iD x.cos r).2=0
theorem rep_snoc{l:List Rec}{r:Rec}{s a:List Co}(h:jG s l=(a,0)):jG s (l++[r])=if(iD a r).2≠0 then([],(iD a r).2)else((iD a r).1,0):=by
  rw[pRep_app,h];simp only;rw[if_neg zq3];unfold jG;by_cases h:(iD a r).2=0
  · rw[if_neg V,if_neg V];rfl
  · rw[if_pos h,if_pos h]
theorem next_img{p:List bu}{a:List Co}{r:Rec}(b:(iD a r).2=0)(f:∀c∈a,(dO p c.image).2=0)(e:(r.kind=1\/r.kind=2\/r.kind=4)->(dO p r.image).2=0):∀c∈(iD a r).1,(dO p c.image).2=0:=by
  intro c i;have h:=(next_ok a r b).2.1;obtain⟨k1,k2,-⟩:=WE b;have d:=findC_mem h.up i;by_cases g:c.kv=r.co
  · rw[g]at d;rw[d]at k2;rcases k2 with⟨hk,_,hn⟩|⟨hk,_,hn⟩|⟨c0,hk,_,_,_,hn⟩|⟨c0,_,ho,_,_,hx,hn⟩|⟨_,_,_,_,_,hn⟩
    · cases hn;exact e (.inl hk.1)
    · cases hn;exact e (.inr<|.inr hk.1)
    · cases hn;exact e (.inr<|.inl hk)
    · cases hn;exact f c0 (F8 ho).2
    · cases hn
  · rw[k1 _ g]at d;exact f c (F8 d).2
theorem XQ{p:List bu}{x x':Nr}{r:Rec}(h:PlR p x)(c:x.up=ba)(w:Qm r)(q:(r.kind=1\/r.kind=2\/r.kind=4)->(dO p r.image).2=0)(e:o7 x r=(x',0)):Noted p x x' r:=by
  unfold o7 at e;by_cases f:(iD x.cos r).2=0
  · rw[if_neg V]at e;by_cases g:(wQ x.d r).2=0
    · rw[if_neg V]at e;by_cases i:(Gv (wQ x.d r).1).2=0
      · rw[if_neg V]at e;obtain rfl:=congrArg jn e;have b:=h.disk;have l:=dOk b;have j:=h.wait c;obtain⟨t,n,m,o,k,s⟩:=note_disk b j w (d1:=(wQ x.d r).1) (d2:=(Gv (wQ x.d r).1).1) (by rw[<-g]) (by rw[<-i]);have a:=l.still j;refine⟨⟨m,fun b=>(by simp only[c]at b;cases b),fun _=>(by rw[n]),fun _=>?_,next_img f h.img q⟩,c,o,by rw[k,a],a,Z,f⟩;simp only;rw[k,<-a,rep_snoc (h.cos c),if_neg V]
      · rw[if_pos i]at e;exact absurd (congrArg dv e) i
    · rw[if_pos g]at e;exact absurd (congrArg dv e) g
  · rw[if_pos f]at e;exact absurd (congrArg dv e) f
structure Torn(p:List bu)(x x':Nr)(r:Rec):Prop where
 pl:PlR p x'
 down:x'.up=aq
 slog:wR x'.d=wR x.d
 flog:mo x'.d=mo x.d\/mo x'.d=mo x.d++[r]
 fs:mo x.d=wR x.d
 ok:(iD x.cos r).2=0
theorem tear_ok{p:List bu}{x x':Nr}{r:Rec}{n:Int}(h:PlR p x)(k:x.up=ba)(w:Qm r)(e:QF x r n=(x',0)):Torn p x x' r:=by
  unfold QF at e;by_cases g:(iD x.cos r).2=0
  · rw[if_neg V]at e;by_cases f:(wQ x.d r).2=0
    · rw[if_neg V]at e;obtain rfl:=congrArg jn e;have i:=h.wait k;have a:=(dOk h.disk).still i;obtain⟨s,q,j,o,m⟩:=tear_disk h.disk i w (d1:=(wQ x.d r).1) (by rw[<-f]) (n:=max 0<|min n ((wQ x.d r).1.wait.length:Int)) V;refine⟨⟨j,fun _=>rfl,fun b=>(by cases b),fun b=>(by cases b),fun c l=>(by cases l)⟩,Z,o,by rw[a];exact m,a,g⟩
    · rw[if_pos f]at e;exact absurd (congrArg dv e) f
  · rw[if_pos g]at e;exact absurd (congrArg dv e) g
theorem pAt_eq{w:oZ}{k:Int}(h:0<=k/\k<w.places.length):idx w.places k=aj (iq w k)/\iq w k∈w.places/\w.places[k.toNat]? =aj (iq w k):=by
 obtain⟨n,rfl⟩:=bs h.1;have hn:n<w.places.length:=by omega
 have e:idx w.places (n:Int)=aj w.places[n]:=xg hn;unfold iq;rw[e];exact⟨Z,cx hn,by simp[hn]⟩
theorem pAt_set{w:oZ}{k j:Int}(x:Nr)(a:0<=k/\k<w.places.length)(b:0<=j/\j<w.places.length):iq (ES w k x) j=if j=k then x else iq w j:=by
  obtain⟨n,rfl⟩:=bs a.1;obtain⟨m,rfl⟩:=bs b.1;unfold iq ES;rw[kL,kL,bj,fg];by_cases h:n=m
  · subst h;rw[if_pos rfl,if_pos V,if_pos rfl];rfl
  · rw[if_neg h,if_neg V]
theorem WR.at{w:oZ}(h:WR w){k:Int}(a:0<=k/\k<=2):PlR w.prog (iq w k):=h.pl _ (pAt_eq ⟨a.1,by have:=h.many;omega⟩).2.1
theorem WR.set{w:oZ}(h:WR w){k:Int}{x:Nr}(hx:PlR w.prog x):WR (ES w k x) where
  code:=h.code
  many:=by show(w.places.set k.toNat x).length=3;rw[cp];exact h.many
  mlen:=h.mlen
  mok:=h.mok
  pl:=fun y hy=>by
    rcases List.mem_or_eq_of_mem_set hy with hy|rfl
    · exact h.pl y hy
    · exact hx
  mimg:=h.mimg
theorem WR.Ns{w:oZ}(h:WR w){l:List fJ}(c:l.length<=40)(b:∀m∈l,aao m/\(m.taken=aq->(dO w.prog m.image).2=0)):WR ⟨w.prog,w.places,l⟩:=
 ⟨h.code,h.many,c,fun m a=>(b m a).1,h.pl,fun m a=>(b m a).2⟩
instance:DecidablePred aao:=fun m=>by unfold aao;infer_instance
theorem sendP_eq{w:oZ}(h:WR w)(m:fJ):Gx w.bR m=if aao m/\w.bR.length<40 then w.bR++[m]else w.bR:=by
  unfold Gx;have e:dN w.bR=0:=(Jh _).2 ⟨h.mlen,h.mok⟩;by_cases b:aao m
  · have c:dN [m]=0:=(Jh _).2 ⟨by simp,fun x d=>by rw[eV]at d;rw[d];exact b⟩;rw[if_neg V];by_cases a:w.bR.length<40
    · rw[if_pos a,if_pos ⟨b,a⟩]
    · rw[if_neg a,if_neg (fun h=>a h.2)]
  · have c:dN [m]≠0:=fun h=>b (((Jh _).1 h).2 m zq3);rw[if_pos (.inr c),if_neg (fun h=>b h.1)]
theorem WR.send{w:oZ}(h:WR w){m:fJ}(c:m.taken=aq->(dO w.prog m.image).2=0):WR ⟨w.prog,w.places,Gx w.bR m⟩:=by
  rw[sendP_eq h];by_cases b:aao m/\w.bR.length<40
  · rw[if_pos b];refine h.Ns (by simp;omega) (fun x a=>?_);rcases cV.1 a with a|a
    · exact⟨h.mok x a,h.mimg x a⟩
    · rw[eV]at a;subst a;exact⟨b.1,c⟩
  · rw[if_neg b];exact h.Ns h.mlen (fun x a=>⟨h.mok x a,h.mimg x a⟩)
theorem WR.drop{w:oZ}(h:WR w)(n:Nat):WR ⟨w.prog,w.places,w.bR.take n++w.bR.drop (n+1)⟩:=by
 refine h.Ns (by have:=h.mlen;simp;omega) (fun x a=>?_);have:x∈w.bR:=(cV.1 a).elim mb mc;exact⟨h.mok x this,h.mimg x this⟩
theorem JW{k c e pl:Int}{s i:List Int}(h:1<=k/\k<=5)(g:0<=c/\c<=2)(f:0<=e/\e<=100)(d:0<=pl/\pl<=2)(b:∀x∈s,kr x)(a:∀x∈i,kr x):Qm ⟨k,c,e,pl,s,i⟩:=
 ⟨Kq (by simp only;omega),Kq (by simp only;omega),Kq (by simp only;omega),Kq (by simp only;omega),b,a⟩
structure Sliced(p:List bu)(k:Int)(c:Co)(fuel:Int)(r:Rec):Prop where
 w:Qm r
 co:r.co=c.kv
 aJ:r.aJ=c.aJ
 runs:c.offered= -1
 how:(r.kind=2/\r.place=0/\(wake (dO p c.image).1).status=0/\r.says=(tZ p fuel.toNat [] 0 (wake (dO p c.image).1)).2.1/\r.image=wP (dM (tZ p fuel.toNat [] 0 (wake (dO p c.image).1)).1)/\(dO p r.image).2=0)\/(r.kind=3/\(0<=r.place/\r.place<=2)/\r.place≠k/\r.says=[]/\r.image=[])
 img:Img p c.image (dO p c.image).1
theorem slice_ok{p:List bu}(hp:Jc p=0){k:Int}{c:Co}{fuel:Int}{r:Rec}(n:coOk c)(e:tu p k c fuel=(r,0)):Sliced p k c fuel r:=by
  have h:=ng hp;obtain⟨c1,c2,s,l,t,q,-⟩:=n;unfold tu at e;by_cases m:0<=c.offered
  · rw[if_pos m]at e;simp at e
  · rw[if_neg m]at e;by_cases f:(dO p c.image).2=0
    · rw[if_neg V]at e;have g:=img_of hp f;by_cases i:(dO p c.image).1.status=3/\0<=(dO p c.image).1.bM/\(dO p c.image).1.bM<3/\(dO p c.image).1.bM≠k
      · rw[if_pos i]at e;obtain rfl:=congrArg jn e;exact⟨JW V ⟨c1,c2⟩ ⟨by omega,l⟩ V (fun x b=>(by cases b)) (fun x b=>(by cases b)),Z,Z,by omega,.inr ⟨Z,by simp only;omega,i.2.2.2,rfl,rfl⟩,g⟩
      · rw[if_neg i]at e;by_cases j:(wake (dO p c.image).1).status=0
        · rw[if_neg V]at e;obtain rfl:=congrArg jn e;have a:=P8 g.st;have o:=(P6 h fuel.toNat [] 0 _ a zq3).1;have d:=img_pack hp o;refine⟨JW V ⟨c1,c2⟩ ⟨by omega,l⟩ V (run_said h _ _ _ _ a (fun x b=>by cases b)) (img_b h d).1,Z,Z,by omega,.inl ⟨Z,Z,j,Z,Z,by simp only;rw[d.un]⟩,g⟩
        · rw[if_pos j]at e;simp at e
    · rw[if_pos f]at e;exact absurd (congrArg dv e) f
theorem begin_img{p:List bu}(hp:Jc p=0):Img p (wP (dM (kP p))) (dM (kP p)):=img_pack hp (TZ (ng hp))
end Pw
open Go Go.Proofs Go.LX
namespace Pw
open Dk
def ansM(m:fJ):fJ:=⟨m.jy,m.from_,m.co,m.aJ,ba,[]⟩
def WI(p:List bu)(k:Int):Rec:=⟨1,k,1,0,[],wP (dM (kP p))⟩
inductive Ev (w w':oZ):Prop
 |begin (k:Int) (x':Nr) (hk:0<=k/\k<=2) (up:(iq w k).up=ba) (hno:∀r∈mo (iq w k).d,r.kind≠1) (N:Noted w.prog (iq w k) x' (WI w.prog k)) (hp:w'.places=w.places.set k.toNat x') (hm:w'.bR=w.bR)
 |run (k:Int) (c:Co) (fuel:Int) (r:Rec) (x':Nr) (hk:0<=k/\k<=2) (up:(iq w k).up=ba) (hc:oI c.kv (iq w k).cos=aj c) (hf:1<=fuel/\fuel<=2000) (S:Sliced w.prog k c fuel r) (N:Noted w.prog (iq w k) x' r) (hp:w'.places=w.places.set k.toNat x') (hm:w'.bR=if r.kind=3 then Gx w.bR (R9 k ⟨c.kv,c.aJ,c.image,r.place⟩)else w.bR)
 |tear (k:Int) (c:Co) (r:Rec) (x':Nr) (hk:0<=k/\k<=2) (up:(iq w k).up=ba) (hc:oI c.kv (iq w k).cos=aj c) (S:Sliced w.prog k c 2000 r) (T:Torn w.prog (iq w k) x' r) (hp:w'.places=w.places.set k.toNat x') (hm:w'.bR=w.bR)
 |send (k:Int) (c:Co) (hk:0<=k/\k<=2) (up:(iq w k).up=ba) (hc:oI c.kv (iq w k).cos=aj c) (ho:0<=c.offered) (hp:w'.places=w.places) (hm:w'.bR=Gx w.bR (R9 k c))
 |gone (m:fJ) (c:Co) (x':Nr) (hi:m∈w.bR) (ht:m.taken=ba) (up:(iq w m.jy).up=ba) (hc:oI m.co (iq w m.jy).cos=aj c) (he:c.aJ=m.aJ-1) (ho:c.offered=m.from_) (N:Noted w.prog (iq w m.jy) x' ⟨5,m.co,m.aJ-1,0,[],[]⟩) (hp:w'.places=w.places.set m.jy.toNat x') (hm:∀y∈w'.bR,y∈w.bR)
 |take (m:fJ) (x':Nr) (hi:m∈w.bR) (ht:m.taken=aq) (up:(iq w m.jy).up=ba) (hno:hadP (iq w m.jy) m.co m.aJ=aq) (N:Noted w.prog (iq w m.jy) x' ⟨4,m.co,m.aJ,0,[],m.image⟩) (hp:w'.places=w.places.set m.jy.toNat x') (hm:∀y∈w'.bR,y∈w.bR\/y=ansM m)
 |again (m:fJ) (hi:m∈w.bR) (ht:m.taken=aq) (up:(iq w m.jy).up=ba) (had:hadP (iq w m.jy) m.co m.aJ=ba) (hp:w'.places=w.places) (hm:∀y∈w'.bR,y∈w.bR\/y=ansM m)
 |still (hp:w'.places=w.places) (hm:∀y∈w'.bR,y∈w.bR)
 |crash (k:Int) (hk:0<=k/\k<=2) (up:(iq w k).up=ba) (hp:w'.places=w.places.set k.toNat ⟨[],(iq w k).d,aq⟩) (hm:w'.bR=w.bR)
 |boot (k:Int) (hk:0<=k/\k<=2) (down:(iq w k).up=aq) (ok:(jG [] (mo (iq w k).d)).2=0) (hp:w'.places=w.places.set k.toNat ⟨(jG [] (mo (iq w k).d)).1,(Qn (iq w k).d).1,ba⟩) (hm:w'.bR=w.bR)
theorem boot_disk{d:iB}(h:iP d=0):iP (Qn d).1=0/\wR (Qn d).1=mo d/\mo (Qn d).1=mo d/\(Qn d).1.wait=[]:=by
 have b:=dOk h;rw[b.whole];obtain⟨k1,k2⟩:=aal (a:=mo d) (w:=[]) b.good b.len (by have:=b.rroom;simp;omega);exact⟨k1,k2,by rw[(dOk k1).still Z,k2],Z⟩
theorem Ui{w:oZ}(h:WR w){m y:fJ}(a:y∈Gx w.bR m):y∈w.bR\/y=m:=by
  rw[sendP_eq h]at a;by_cases b:aao m/\w.bR.length<40
  · rw[if_pos b]at a;simpa using a
  · rw[if_neg b]at a;exact .inl a
theorem hear_ev{w w':oZ}(h:WR w){i:Int}{t:Bool}(e:hearW w i t=(w',0)):WR w'/\w'.prog=w.prog/\Ev w w':=by
  unfold hearW at e;by_cases C:i<0\/(w.bR.length:Int)<=i
  · rw[if_pos C]at e;simp at e
  · rw[if_neg C]at e;obtain⟨n,rfl⟩:=bs (by omega:0<=i);have hn:n<w.bR.length:=by omega
    have G:(w.bR[n]?).getD zMail=w.bR[n]:=by rw[bh hn];rfl
    simp only[bj]at e;simp only[G]at e;have a:w.bR[n]∈w.bR:=cx hn;generalize w.bR[n]=m at*;have d:=h.mok m a;by_cases A:(iq w m.jy).up=aq
    · rw[if_pos A]at e;simp at e
    · rw[if_neg A]at e;have f:(iq w m.jy).up=true:=by simpa using A
      have p:WR ⟨w.prog,w.places,if t=ba then w.bR else w.bR.take n++w.bR.drop (n+1)⟩:=by
        cases t with
        |true=>exact h
        |false=>exact h.drop n
      have b:∀y∈(if t=ba then w.bR else w.bR.take n++w.bR.drop (n+1)),y∈w.bR:=by
        intro y o;cases t with
        |true=>exact o
        |false=>exact(cV.1 o).elim mb mc
      generalize M:(if t=ba then w.bR else w.bR.take n++w.bR.drop (n+1))=L at*;have v:∀k,iq (⟨w.prog,w.places,L⟩:oZ) k=iq w k:=fun k=>rfl;simp only[v]at e;have hat:=h.at ⟨d.2.1.1,d.2.1.2⟩;cases ht:m.taken with
      |true=>
        rw[ht]at e;simp only[if_true]at e;cases hf:oI m.co (iq w m.jy).cos with
        |none=>
          rw[hf]at e;cases e;exact⟨p,Z,.still Z b⟩
        |some c=>
          rw[hf]at e;simp only at e;by_cases l:c.aJ≠m.aJ-1\/c.offered≠m.from_
          · rw[if_pos l]at e;cases e;exact⟨p,Z,.still Z b⟩
          · rw[if_neg l]at e;have B:=congrArg dv e;have F:=congrArg jn e;simp only at F B;have N:=XQ (x':=(o7 (iq w m.jy) ⟨5,m.co,m.aJ-1,0,[],[]⟩).1) (r:=⟨5,m.co,m.aJ-1,0,[],[]⟩) hat f (JW V d.2.2.1 (by have:=d.2.2.2.1;omega) V (fun x q=>(by cases q)) (fun x q=>(by cases q))) (fun h=>by simp only at h;omega) (jo Z B);subst F;exact⟨p.set N.pl,Z,.gone m c _ a ht f hf V V N Z b⟩
      |false=>
        rw[ht]at e;simp only[cM,if_false]at e;have g:∀{u:oZ},WR u->WR ⟨u.prog,u.places,Gx u.bR<|ansM m⟩:=fun K=>K.send (fun h=>by cases h);by_cases l:hadP (iq w m.jy) m.co m.aJ=ba
        · rw[if_pos l]at e;cases e;refine⟨g p,Z,.again m a ht f l Z fun y o=>?_⟩;exact(Ui p o).imp (b y) id
        · rw[if_neg l]at e;have z:hadP (iq w m.jy) m.co m.aJ=false:=by simpa using l
          by_cases s:(o7 (iq w m.jy) ⟨4,m.co,m.aJ,0,[],m.image⟩).2=0
          · rw[if_neg V]at e;have j:=h.mimg m a ht;have I:=img_of h.code j;have N:=XQ (x':=(o7 (iq w m.jy) ⟨4,m.co,m.aJ,0,[],m.image⟩).1) (r:=⟨4,m.co,m.aJ,0,[],m.image⟩) hat f (JW V d.2.2.1 (by have:=d.2.2.2.1;omega) V (fun x q=>(by cases q)) (img_b (ng h.code) I).1) (fun _=>j) (jo Z s);cases e;have E:=p.set (k:=m.jy) N.pl;refine⟨g E,Z,.take m _ a ht f z N Z fun y o=>?_⟩;exact(Ui E o).imp (b y) id
          · rw[if_pos s]at e;exact absurd (congrArg dv e) s
theorem run_ev{w w':oZ}(h:WR w){x:Hap}(f:0<=x.place/\x.place<=2)(a:(iq w x.place).up=ba)(e:runW w x=(w',0)):WR w'/\w'.prog=w.prog/\Ev w w':=by
  unfold runW at e;have hat:=h.at f;cases hf:oI x.co (iq w x.place).cos with
  |none=>rw[hf]at e;simp at e
  |some c=>
    rw[hf]at e;simp only at e;obtain⟨g,t⟩:=F8 hf;rw[<-g]at hf;have i:=hat.good.1.ok c t;generalize d:(if x.kind=9 then(2000:Int)else x.n)=fuel at e;by_cases p:fuel<1\/2000<fuel
    · rw[if_pos p]at e;simp at e
    · rw[if_neg p]at e;by_cases j:(tu w.prog x.place c fuel).2=0
      · rw[if_neg V]at e;have S:=slice_ok h.code (r:=(tu w.prog x.place c fuel).1) i<|jo Z j;generalize (tu w.prog x.place c fuel).1=r at*;have u:(r.kind=1\/r.kind=2\/r.kind=4)->(dO w.prog r.image).2=0:=by
          rcases S.how with hh|hh
          · exact fun _=>hh.2.2.2.2.2
          · intro h;omega
        by_cases l:x.kind=9
        · rw[if_pos l]at e;rw[if_pos l]at d;subst d;have o:=congrArg dv e;have s:=congrArg jn e;simp only at s o;have T:=tear_ok (x':=(QF (iq w x.place) r x.n).1) hat a S.w<|jo Z o;subst s;exact⟨h.set T.pl,Z,.tear x.place c r _ f a hf S T Z Z⟩
        · rw[if_neg l]at e;by_cases m:(o7 (iq w x.place) r).2=0
          · rw[if_neg V]at e;have N:=XQ (x':=(o7 (iq w x.place) r).1) hat a S.w u<|jo Z m;have q:=h.set (k:=x.place) N.pl;by_cases b:r.kind=3
            · rw[if_pos b]at e;cases e;refine⟨q.send (fun _=>?_),Z,.run x.place c fuel r _ f a hf V S N Z (by rw[if_pos b];rfl)⟩;exact hat.img c t
            · rw[if_neg b]at e;cases e;exact⟨q,Z,.run x.place c fuel r _ f a hf V S N Z (by rw[if_neg b];rfl)⟩
          · rw[if_pos m]at e;exact absurd (congrArg dv e) m
      · rw[if_pos j]at e;exact absurd (congrArg dv e) j
theorem step_ev{w w':oZ}(h:WR w){x:Hap}(e:fU w x=(w',0)):WR w'/\w'.prog=w.prog/\Ev w w':=by
  unfold fU at e;by_cases A:x.kind=4\/x.kind=5
  · rw[if_pos A]at e;exact hear_ev h e
  · rw[if_neg A]at e;by_cases t:x.kind=6
    · rw[if_pos t]at e;by_cases k:x.n<0\/(w.bR.length:Int)<=x.n
      · rw[if_pos k]at e;simp at e
      · rw[if_neg k]at e;cases e;exact⟨h.drop _,Z,.still Z fun y G=>(cV.1 G).elim mb mc⟩
    · rw[if_neg t]at e;by_cases k:x.kind<1\/9<x.kind
      · rw[if_pos k]at e;simp at e
      · rw[if_neg k]at e;have m:=h.many;by_cases z:x.place<0\/(w.places.length:Int)<=x.place
        · rw[if_pos z]at e;simp at e
        · rw[if_neg z]at e;have j:0<=x.place/\x.place<=2:=by omega
          have hat:=h.at j;by_cases B:x.kind=8
          · rw[if_pos B]at e;unfold bootW at e;by_cases g:(iq w x.place).up=ba
            · rw[if_pos g]at e;simp at e
            · rw[if_neg g]at e;by_cases i:(jG [] (mo (iq w x.place).d)).2=0
              · rw[if_neg V]at e;by_cases b:Kr w.prog (jG [] (mo (iq w x.place).d)).1=0
                · rw[if_neg V]at e;cases e;obtain⟨M,O,L,F⟩:=boot_disk hat.disk;have p:PlR w.prog ⟨(jG []<|mo (iq w x.place).d).1,(Qn (iq w x.place).d).1,ba⟩:=
                    ⟨M,fun h=>(by cases h),fun _=>F,fun _=>(by simp only[L];rw[<-i]),(aap _ _).1 b⟩
                  exact⟨h.set p,Z,.boot x.place j (by simpa using g) i Z Z⟩
                · rw[if_pos b]at e;exact absurd (congrArg dv e) b
              · rw[if_pos i]at e;exact absurd (congrArg dv e) i
          · rw[if_neg B]at e;by_cases g:(iq w x.place).up=aq
            · rw[if_pos g]at e;simp at e
            · rw[if_neg g]at e;have a:(iq w x.place).up=true:=by simpa using g
              by_cases i:x.kind=1
              · rw[if_pos i]at e;unfold aar at e;by_cases b:x.co≠x.place
                · rw[if_pos b]at e;simp at e
                · rw[if_neg b]at e;have q:x.co=x.place:=Decidable.not_not.1 b;by_cases f:(mo (iq w x.place).d).any (fun r=>ab (r.kind=1))=ba
                  · rw[if_pos f]at e;simp at e
                  · rw[if_neg f,q]at e;have s:=congrArg dv e;have v:=congrArg jn e;simp only at v s;have u:=begin_img h.code;have N:=XQ (x':=(o7 (iq w x.place) (WI w.prog x.place)).1) (r:=WI w.prog x.place) hat a (JW V j V V (fun x C=>(by cases C)) (img_b (ng h.code) u).1) (fun _=>by unfold WI;simp only;rw[u.un]) (jo rfl s);subst v;refine⟨h.set N.pl,Z,.begin x.place _ j a (fun r E o=>f ?_) N Z Z⟩;exact na.2 ⟨r,E,by simpa using o⟩
              · rw[if_neg i]at e;by_cases b:x.kind=3
                · rw[if_pos b]at e;unfold XP at e;cases hf:oI x.co (iq w x.place).cos with
                  |none=>rw[hf]at e;simp at e
                  |some c=>
                    rw[hf]at e;simp only at e;obtain⟨l,I⟩:=F8 hf;rw[<-l]at hf;by_cases f:c.offered<0
                    · rw[if_pos f]at e;simp at e
                    · rw[if_neg f]at e;cases e;exact⟨h.send fun _=>hat.img c I,Z,.send x.place c j a hf V Z Z⟩
                · rw[if_neg b]at e;by_cases f:x.kind=7
                  · rw[if_pos f]at e;cases e;exact⟨h.set ⟨hat.disk,fun _=>rfl,fun h=>(by cases h),fun h=>(by cases h),fun c K=>(by cases K)⟩,Z,.crash x.place j a Z Z⟩
                  · rw[if_neg f]at e;exact run_ev h j a e
end Pw
open Go Go.Proofs Go.LX
namespace Pw
open Dk
def Hd(F:Int->List Rec)(i k:Int):Option Co:=oI i (jG [] (F k)).1
def lK(F:Int->List Rec)(k:Int)(r:Rec):Int->List Rec:=fun j=>if j=k then F k++[r]else F j
def On(k:Int):Prop:=0<=k/\k<=2
structure MOk(F:Int->List Rec)(i:Int)(E:Nat)(pl:Nat->Int)(m:fJ):Prop where
 ok:∃e:Nat,1<=e/\e<=E/\m.aJ=(e:Int)+1/\(m.taken=aq->m.from_=pl e/\∃r∈F (pl e),r.kind=3/\r.co=i/\r.aJ=(e:Int)/\r.place=m.jy)/\
  (m.taken=ba->e+1<=E/\m.from_=pl (e+1)/\m.jy=pl e)
structure zO(F:Int->List Rec)(L:List fJ)(i:Int)(E:Nat)(pl:Nat->Int):Prop where
 rng:∀e,1<=e->e<=E->On (pl e)
 first:1<=E->pl 1=i
 P0:∀k,On k->∀r∈F k,0<=r.place
 T1:∀k,On k->∀r∈F k,r.co=i->(r.kind=1\/r.kind=4)->∃e:Nat,r.aJ=(e:Int)/\1<=e/\e<=E/\pl e=k
 T2:∀e:Nat,1<=e->e<=E->∃r∈F (pl e),r.co=i/\r.aJ=(e:Int)/\(e=1->r.kind=1)/\(e≠1->r.kind=4)
 O1:∀k,On k->∀r∈F k,r.co=i->r.kind=3->∃e:Nat,r.aJ=(e:Int)/\1<=e/\e<=E/\pl e=k/\(e<E->r.place=pl (e+1))/\(e=E->∃c,Hd F i k=aj c/\c.aJ=(e:Int)/\c.offered=r.place)
 H1:∀k,On k->∀c,Hd F i k=aj c->∃e:Nat,c.aJ=(e:Int)/\1<=e/\e<=E/\pl e=k/\(c.offered= -1->e=E)/\(c.offered≠ -1->∃r∈F k,r.kind=3/\r.co=i/\r.aJ=(e:Int)/\r.place=c.offered)
 H2:1<=E->∃c,Hd F i (pl E)=aj c/\c.aJ=(E:Int)
 M:∀m∈L,m.co=i->MOk F i E pl m
section
variable{F:Int->List Rec}{L:List fJ}{i:Int}{E:Nat}{pl:Nat->Int}
theorem Bp{k:Int}{r x:Rec}{j:Int}(h:x∈F j):x∈lK F k r j:=by
  unfold lK;by_cases e:j=k
  · rw[if_pos e];subst e;exact List.mem_append_left _ h
  · rw[if_neg e];exact h
theorem rz{k:Int}{r x:Rec}{j:Int}(h:x∈lK F k r j):x∈F j\/(j=k/\x=r):=by
  unfold lK at h;by_cases e:j=k
  · rw[if_pos e]at h;subst e;rcases cV.1 h with h|h
    · exact .inl h
    · exact .inr ⟨Z,by simpa using h⟩
  · rw[if_neg e]at h;exact .inl h
theorem ET{k:Int}{r:Rec}(g:(jG [] (F k)).2=0)(b:(iD (jG [] (F k)).1 r).2=0):(jG [] (lK F k r k)).2=0/\(∀j,j≠k->∀i,Hd (lK F k r) i j=Hd F i j)/\(∀i,i≠r.co->Hd (lK F k r) i k=Hd F i k)/\Did r (Hd F r.co k) (Hd (lK F k r) r.co k)/\0<=r.place:=by
  have e:jG [] (lK F k r k)=((iD (jG []<|F k).1 r).1,0):=by
    unfold lK;rw[if_pos rfl,rep_snoc (a:=(jG [] (F k)).1) (jo rfl g),if_neg V]
  obtain⟨d,f,l⟩:=WE b;refine⟨by rw[e],fun j c i=>?_,fun i h=>?_,?_,?_⟩
  · unfold Hd lK;rw[if_neg c]
  · unfold Hd;rw[e];exact d i h
  · unfold Hd;rw[e];exact f
  · have:=(Ue r l).place;omega
theorem MOk.up{k:Int}{r:Rec}{m:fJ}(h:MOk F i E pl m):MOk (lK F k r) i E pl m:=by
 obtain⟨e,g,f,d,a,j⟩:=h.ok;exact⟨e,g,f,d,fun c=>⟨(a c).1,(a c).2.imp fun r b=>⟨Bp b.1,b.2⟩⟩,j⟩
theorem zO.bR{L':List fJ}(h:zO F L i E pl)(c:∀m∈L',m∈L\/(m.co=i->MOk F i E pl m)):zO F L' i E pl:=
 {h with M:=fun m a b=>(c m a).elim (fun x=>h.M m x b) (fun x=>x b)}
theorem zO.other{k:Int}{r:Rec}(h:zO F L i E pl)(I:(jG [] (F k)).2=0)(q:(iD (jG [] (F k)).1 r).2=0)(v:i≠r.co):zO (lK F k r) L i E pl:=by
  obtain⟨-,A,K,-,G⟩:=ET I q;have l:∀j,Hd (lK F k r) i j=Hd F i j:=fun j=>by
    by_cases e:j=k
    · subst e;exact K i v
    · exact A j e i
  refine⟨h.rng,h.first,fun j d x a=>?_,fun j d x a b n=>?_,fun e y w=>?_,fun j d x a b n=>?_,fun j d c b=>?_,fun z=>?_,fun m B b=>(h.M m B b).up⟩
  · rcases rz a with a|⟨_,rfl⟩
    · exact h.P0 j d x a
    · exact G
  · rcases rz a with a|⟨_,rfl⟩
    · exact h.T1 j d x a b n
    · exact absurd b.symm v
  · obtain⟨x,a,f⟩:=h.T2 e y w;exact⟨x,Bp a,f⟩
  · rcases rz a with a|⟨_,rfl⟩
    · obtain⟨e,t,o,g,s,u,p⟩:=h.O1 j d x a b n;exact⟨e,t,o,g,s,u,fun C=>by rw[l];exact p C⟩
    · exact absurd b.symm v
  · rw[l]at b;obtain⟨e,t,o,g,s,u,p⟩:=h.H1 j d c b;exact⟨e,t,o,g,s,u,fun ho=>(p ho).imp fun r f=>⟨Bp f.1,f.2⟩⟩
  · rw[l];exact h.H2 z
theorem zO.slice{k:Int}{r:Rec}(h:zO F L i E pl)(G:On k)(R:(jG [] (F k)).2=0)(z:(iD (jG [] (F k)).1 r).2=0)(Q:r.co=i)(B:r.kind=2):zO (lK F k r) L i E pl:=by
  obtain⟨-,y,-,C,K⟩:=ET R z;rw[Q]at C;obtain⟨c,ho,I,s,hn⟩:∃c,Hd F i k=aj c/\c.aJ=r.aJ/\c.offered= -1/\Hd (lK F k r) i k=aj ⟨c.kv,c.aJ,r.image,-1⟩:=by
    rcases C with⟨x,_,_⟩|⟨x,_,_⟩|⟨c,_,ho,I,s,hn⟩|⟨c,x,_,_,_,_,_⟩|⟨c,x,_,_,_,_⟩
    · omega
    · omega
    · exact⟨c,ho,I,s,hn⟩
    · omega
    · omega
  refine⟨h.rng,h.first,fun j b x a=>?_,fun j b x a p G=>?_,fun e O B=>?_,fun j b x a p w=>?_,fun j b d q=>?_,fun P=>?_,fun m N p=>(h.M m N p).up⟩
  · rcases rz a with a|⟨_,rfl⟩
    · exact h.P0 j b x a
    · exact K
  · rcases rz a with a|⟨_,rfl⟩
    · exact h.T1 j b x a p G
    · omega
  · obtain⟨x,a,t⟩:=h.T2 e O B;exact⟨x,Bp a,t⟩
  · rcases rz a with a|⟨_,rfl⟩
    · obtain⟨e,g,n,f,o,l,u⟩:=h.O1 j b x a p w;refine⟨e,g,n,f,o,l,fun v=>?_⟩;obtain⟨d,d1,d2,A⟩:=u v;by_cases e:j=k
      · subst e;rw[ho]at d1;cases d1;exact⟨_,hn,d2,by rw[<-A,s]⟩
      · exact⟨d,by rw[y j e];exact d1,d2,A⟩
    · omega
  · by_cases e:j=k
    · subst e;rw[hn]at q;cases q;obtain⟨e,g,n,f,o,l,u⟩:=h.H1 j b c ho;exact⟨e,g,n,f,o,fun _=>l s,fun x=>absurd Z x⟩
    · rw[y j e]at q;obtain⟨e,g,n,f,o,l,u⟩:=h.H1 j b d q;exact⟨e,g,n,f,o,l,fun ho=>(u ho).imp fun r t=>⟨Bp t.1,t.2⟩⟩
  · obtain⟨d,d1,d2⟩:=h.H2 P;by_cases e:pl E=k
    · rw[e]at d1⊢;rw[ho]at d1;cases d1;exact⟨_,hn,d2⟩
    · exact⟨d,by rw[y _ e];exact d1,d2⟩
theorem zO.offer{k:Int}{r:Rec}(h:zO F L i E pl)(A:On k)(hR:(jG [] (F k)).2=0)(K:(iD (jG [] (F k)).1 r).2=0)(Q:r.co=i)(s:r.kind=3):zO (lK F k r) L i E pl/\∃c,Hd F i k=aj c/\c.aJ=r.aJ/\c.offered= -1/\r.aJ=(E:Int)/\1<=E/\pl E=k:=by
  obtain⟨-,P,-,O,T⟩:=ET hR K;rw[Q]at O;obtain⟨c,ho,f,o,hn⟩:∃c,Hd F i k=aj c/\c.aJ=r.aJ/\c.offered= -1/\Hd (lK F k r) i k=aj ⟨c.kv,c.aJ,c.image,r.place⟩:=by
    rcases O with⟨x,_,_⟩|⟨x,_,_⟩|⟨c,x,_,_,_,_⟩|⟨c,x,ho,f,o,_,hn⟩|⟨c,x,_,_,_,_⟩
    · omega
    · omega
    · omega
    · exact⟨c,ho,f,o,hn⟩
    · omega
  obtain⟨N,g,C,R,q,b5,b6⟩:=h.H1 k A c ho;have X:=b5 o;subst X;refine⟨⟨h.rng,h.first,fun j b x a=>?_,fun j b x a l A=>?_,fun e h1 s=>?_,fun j b x a l I=>?_,fun j b d n=>?_,fun hE=>?_,fun m hm l=>(h.M m hm l).up⟩,c,ho,f,o,by rw[<-f];exact g,C,q⟩
  · rcases rz a with a|⟨_,rfl⟩
    · exact h.P0 j b x a
    · exact T
  · rcases rz a with a|⟨_,rfl⟩
    · exact h.T1 j b x a l A
    · omega
  · obtain⟨x,a,p⟩:=h.T2 e h1 s;exact⟨x,Bp a,p⟩
  · rcases rz a with a|⟨rfl,rfl⟩
    · obtain⟨e,v,y,u,B,w,z⟩:=h.O1 j b x a l I;have a0:=h.P0 j b x a;refine⟨e,v,y,u,B,w,fun G=>?_⟩;obtain⟨d,d1,d2,S⟩:=z G;by_cases e:j=k
      · subst e;rw[ho]at d1;cases d1;omega
      · exact⟨d,by rw[P j e];exact d1,d2,S⟩
    · exact⟨N,by rw[<-f];exact g,C,R,q,fun t=>absurd t (Nat.lt_irrefl _),fun _=>⟨_,hn,g,Z⟩⟩
  · by_cases e:j=k
    · subst e;rw[hn]at n;cases n;exact⟨N,g,C,R,q,fun _=>rfl,fun _=>⟨r,by unfold lK;rw[if_pos rfl];simp,s,Q,by rw[<-f];exact g,Z⟩⟩
    · rw[P j e]at n;obtain⟨e,v,y,u,B,w,z⟩:=h.H1 j b d n;exact⟨e,v,y,u,B,w,fun ho=>(z ho).imp fun r p=>⟨Bp p.1,p.2⟩⟩
  · rw[q];exact⟨_,hn,g⟩
theorem zO.gone{k:Int}{r:Rec}(h:zO F L i E pl)(G:On k)(T:(jG [] (F k)).2=0)(z:(iD (jG [] (F k)).1 r).2=0)(S:r.co=i)(C:r.kind=5)(O:r.aJ<(E:Int)):zO (lK F k r) L i E pl:=by
  obtain⟨-,y,-,N,P⟩:=ET T z;rw[S]at N;obtain⟨c,ho,I,K,hn⟩:∃c,Hd F i k=aj c/\c.aJ=r.aJ/\c.offered≠ -1/\Hd (lK F k r) i k=none:=by
    rcases N with⟨x,_,_⟩|⟨x,_,_⟩|⟨c,x,_,_,_,_⟩|⟨c,x,_,_,_,_,_⟩|⟨c,x,ho,I,K,hn⟩
    · omega
    · omega
    · omega
    · omega
    · exact⟨c,ho,I,K,hn⟩
  have f:1<=E->pl E≠k:=by
    intro p e;obtain⟨d,d1,d2⟩:=h.H2 p;rw[e,ho]at d1;cases d1;omega
  refine⟨h.rng,h.first,fun j b x a=>?_,fun j b x a l G=>?_,fun e Q C=>?_,fun j b x a l w=>?_,fun j b d n=>?_,fun p=>?_,fun m R l=>(h.M m R l).up⟩
  · rcases rz a with a|⟨_,rfl⟩
    · exact h.P0 j b x a
    · exact P
  · rcases rz a with a|⟨_,rfl⟩
    · exact h.T1 j b x a l G
    · omega
  · obtain⟨x,a,q⟩:=h.T2 e Q C;exact⟨x,Bp a,q⟩
  · rcases rz a with a|⟨_,rfl⟩
    · obtain⟨e,A,s,v,o,B,t⟩:=h.O1 j b x a l w;refine⟨e,A,s,v,o,B,fun g=>?_⟩;have u:j≠k:=by rw[<-o,g];exact f V
      rw[y j u];exact t g
    · omega
  · by_cases e:j=k
    · subst e;rw[hn]at n;cases n
    · rw[y j e]at n;obtain⟨e,A,s,v,o,B,t⟩:=h.H1 j b d n;exact⟨e,A,s,v,o,B,fun ho=>(t ho).imp fun r q=>⟨Bp q.1,q.2⟩⟩
  · rw[y _ (f p)];exact h.H2 p
theorem zO.begin{k:Int}{r:Rec}(h:zO F L i E pl)(A:On k)(K:(jG [] (F k)).2=0)(t:(iD (jG [] (F k)).1 r).2=0)(y:r.co=i)(g:i=k)(z:r.kind=1)(hno:∀x∈F k,x.kind≠1):E=0/\zO (lK F k r) L i 1 (fun _=>k):=by
  obtain⟨-,G,-,w,B⟩:=ET K t;rw[y]at w;obtain⟨n,ho,hn⟩:r.aJ=1/\Hd F i k=none/\Hd (lK F k r) i k=aj ⟨r.co,r.aJ,r.image,-1⟩:=by
    rcases w with⟨x,ho,hn⟩|⟨x,_,_⟩|⟨c,x,_,_,_,_⟩|⟨c,x,_,_,_,_,_⟩|⟨c,x,_,_,_,_⟩
    · exact⟨x.2,ho,hn⟩
    · omega
    · omega
    · omega
    · omega
  have o:E=0:=by
    by_cases o:E=0
    · exact o
    · exfalso;obtain⟨x,a,P,Q,C,O⟩:=h.T2 1 (bt _) V;rw[h.first V,g]at a;exact hno x a<|C Z
  subst o;refine⟨Z,fun _ _ _=>A,fun _=>g.symm,fun j b x a=>?_,fun j b x a f q=>?_,fun e R z=>?_,fun j b x a f s=>?_,fun j b d l=>?_,fun o=>⟨_,hn,by simp only;rw[n];rfl⟩,fun m I f=>?_⟩
  · rcases rz a with a|⟨_,rfl⟩
    · exact h.P0 j b x a
    · exact B
  · rcases rz a with a|⟨e,rfl⟩
    · obtain⟨e,u,p,v,N⟩:=h.T1 j b x a f q;omega
    · exact⟨1,by rw[n];rfl,by omega,by omega,e.symm⟩
  · obtain rfl:e=1:=by omega
    exact⟨r,by unfold lK;rw[if_pos rfl];simp,y,by rw[n];rfl,fun _=> ‹r.kind=1›,fun h=>absurd Z h⟩
  · rcases rz a with a|⟨_,rfl⟩
    · obtain⟨e,u,p,v,-⟩:=h.O1 j b x a f s;omega
    · omega
  · by_cases e:j=k
    · subst e;rw[hn]at l;cases l;exact⟨1,by simp only;rw[n];rfl,by omega,by omega,rfl,fun _=>rfl,fun x=>absurd Z x⟩
    · rw[G j e]at l;obtain⟨e,u,p,v,-⟩:=h.H1 j b d l;omega
  · obtain⟨e,u,p,-⟩:=(h.M m I f).ok;omega
theorem zO.take{k:Int}{r:Rec}{m:fJ}(h:zO F L i E pl)(hk:On k)(hR:(jG [] (F k)).2=0)(R:(iD (jG [] (F k)).1 r).2=0)(hi:r.co=i)(h2:r.kind=4)(hm:m∈L)(t:m.co=i)(u:m.taken=aq)(A:m.jy=k)(l:r.aJ=m.aJ)(hno:∀x∈F k,x.kind=4->x.co=i->¬m.aJ<=x.aJ):
    m.aJ=(E:Int)+1/\1<=E/\m.from_=pl E/\zO (lK F k r) L i (E+1) (fun e=>if e=E+1 then k else pl e):=by
  obtain⟨-,u1,-,T,u4⟩:=ET hR R;rw[hi]at T;obtain⟨he,ho,hn⟩:r.aJ≠1/\Hd F i k=none/\Hd (lK F k r) i k=aj ⟨r.co,r.aJ,r.image,-1⟩:=by
    rcases T with⟨x,_,_⟩|⟨x,ho,hn⟩|⟨c,x,_,_,_,_⟩|⟨c,x,_,_,_,_,_⟩|⟨c,x,_,_,_,_⟩
    · omega
    · exact⟨x.2,ho,hn⟩
    · omega
    · omega
    · omega
  obtain⟨e,m1,m2,v,m4,-⟩:=(h.M m hm t).ok;obtain⟨m5,r0,S,r2,r3,r4,X⟩:=m4 u;have C:=h.rng e m1 m2;obtain⟨f,o1,o2,o3,o4,o5,o6⟩:=h.O1 _ C r0 S r3 r2;obtain rfl:f=e:=by omega
  have K:f=E:=by
    by_cases I:f<E
    · exfalso;have G:=o5 I;rw[X,A]at G;obtain⟨x,x1,x2,x3,x4,x5⟩:=h.T2 (f+1) V V;rw[<-G]at x1;exact hno x x1 (x5 V) x2 (by rw[x3,v];push_cast;omega)
    · omega
  subst K;obtain⟨c0,c1,c2,c3⟩:=o6 Z;have a:∀x,x<=f->(if x=f+1 then k else pl x)=pl x:=fun x b=>if_neg V;refine⟨v,m1,m5,?_,?_,fun j p x b=>?_,fun j p x b t N=>?_,fun x Q h2=>?_,fun j p x b t O=>?_,fun j p d w=>?_,fun hE=>?_,fun y hy t=>?_⟩
  · intro x Q h2;by_cases b:x=f+1
    · simp only[if_pos b];exact hk
    · simp only[if_neg b];exact h.rng x Q V
  · intro _;rw[a 1 m1];exact h.first m1
  · rcases rz b with b|⟨_,rfl⟩
    · exact h.P0 j p x b
    · exact u4
  · rcases rz b with b|⟨e,rfl⟩
    · obtain⟨z,s,n,q,g⟩:=h.T1 j p x b t N;exact⟨z,s,n,by omega,by rw[a z q];exact g⟩
    · exact⟨f+1,by rw[l,v];push_cast;rfl,by omega,by omega,by simp only[eq_self,if_true];exact e.symm⟩
  · by_cases b:x=f+1
    · subst b;rw[if_pos rfl];exact⟨r,by unfold lK;rw[if_pos rfl];simp,hi,by rw[l,v];push_cast;rfl,fun h=>by omega,fun _=> ‹r.kind=4›⟩
    · rw[a x V];obtain⟨z,hz,o⟩:=h.T2 x Q V;exact⟨z,Bp hz,o⟩
  · rcases rz b with b|⟨_,rfl⟩
    · obtain⟨z,s,n,q,g,B,P⟩:=h.O1 j p x b t O;refine⟨z,s,n,by omega,by rw[a z q];exact g,fun I=>?_,fun h=>by omega⟩;by_cases hz:z=f
      · subst hz;obtain⟨d,d1,d2,d3⟩:=P Z;rw[<-g,c1]at d1;cases d1;simp only[eq_self,if_true];rw[<-d3,c3,X,A]
      · rw[a (z+1) V];exact B V
    · omega
  · by_cases e:j=k
    · subst e;rw[hn]at w;cases w;exact⟨f+1,by simp only;rw[l,v];push_cast;rfl,by omega,by omega,by simp only[eq_self,if_true],fun _=>rfl,fun x=>absurd Z x⟩
    · rw[u1 j e]at w;obtain⟨z,s,n,q,g,B,P⟩:=h.H1 j p d w;refine⟨z,s,n,by omega,by rw[a z q];exact g,fun hf=>?_,fun ho=>(P ho).imp fun r o=>⟨Bp o.1,o.2⟩⟩;exfalso;have hz:=B hf;subst hz;rw[<-g,c1]at w;cases w;have a0:=h.P0 _ C r0 S;omega
  · simp only[eq_self,if_true];exact⟨_,hn,by simp only;rw[l,v];push_cast;rfl⟩
  · obtain⟨z,s,n,q,g,B⟩:=(h.M y hy t).ok;refine⟨z,s,by omega,q,fun u=>?_,fun u=>?_⟩
    · rw[a z n];exact⟨(g u).1,(g u).2.imp fun r o=>⟨Bp o.1,o.2⟩⟩
    · obtain⟨b1,b2,b3⟩:=B u;rw[a z n,a (z+1) b1];exact⟨by omega,b2,b3⟩
end
end Pw
open Go Go.Proofs Go.LX
namespace Pw
open Dk
theorem aas{s t:LX.State}(h:dM s=dM t):s.status=t.status:=by
 show(dM s).status=(dM t).status;rw[h]
theorem wake_sim{s t:LX.State}(h:dM s=dM t):dM (wake s)=dM (wake t):=by
  have b:=aas h;unfold wake;by_cases a:s.status=3
  · rw[if_pos a,if_pos V];exact wake_sweep h 0 0
  · rw[if_neg a,if_neg V];exact h
theorem Xl{a:List bu}(c:mF a):∀(n:Nat) (s:LX.State),vz a s->vz a (nH a n s).1
  |0,s,h=>h
  |n+1,s,h=>by
    cases e:stepW a s with
    |none=>rw[M8 e];exact h
    |some q=>
      obtain⟨t,o⟩:=q;rw[tq e];refine Xl c n t ?_;unfold stepW at e;by_cases b:(wake s).status=0
      · rw[if_neg V]at e;have d:=P8 h;cases e1:zK a (wake s)with
        |none=>rw[e1]at e;cases e;exact fail_ok d b
        |some q=>obtain⟨f,o2,p⟩:=q;rw[e1]at e;cases e;exact(zL c d b e1).1
      · rw[if_pos b]at e;cases e
theorem iterW_sim{a:List bu}(e:mF a):∀(n:Nat) (s t:LX.State),vz a s->vz a t->dM s=dM t->(nH a n s).2=(nH a n t).2/\dM (nH a n s).1=dM (nH a n t).1
  |0,s,t,_,_,h=>⟨rfl,h⟩
  |n+1,s,t,hs,ht,h=>by
    have g:=wake_sim h;have j:=aas g;have c:=P8 hs;have d:=P8 ht;by_cases f:(wake s).status=0
    · obtain⟨b,v⟩:=stepP_sim e c d f g;cases e1:zK a (wake s)with
      |none=>
        rw[e1]at b;cases e2:zK a (wake t)with
        |none=>
          have k1:stepW a s=aj ({wake s with status:=2},[]):=by unfold stepW;rw[if_neg V,e1]
          have k2:stepW a t=aj ({wake t with status:=2},[]):=by unfold stepW;rw[if_neg V,e2]
          rw[tq k1,tq k2,Jf (by unfold wake;simp),Jf (by unfold wake;simp)];exact⟨Z,fail_sweep g 2⟩
        |some q=>rw[e2]at b;exact b.elim
      |some q=>
        rw[e1]at b;cases e2:zK a (wake t)with
        |none=>rw[e2]at b;exact b.elim
        |some q2=>
          rw[e2]at b;obtain⟨u,o,p⟩:=q;obtain⟨i,o2,r⟩:=q2;obtain⟨rfl,rfl,m⟩:=b;have k1:stepW a s=aj (u,o.toList):=by unfold stepW;rw[if_neg V,e1]
          have k2:stepW a t=aj (i,o.toList):=by unfold stepW;rw[if_neg V,e2]
          rw[tq k1,tq k2];obtain⟨k,l⟩:=iterW_sim e n u i (zL e c f e1).1 (zL e d V e2).1 m;exact⟨by simp only[k],l⟩
    · rw[Jf f,Jf V];exact⟨Z,h⟩
theorem slice_iter{a:List bu}(g:mF a){fuel:Nat}(e:1<=fuel){s:LX.State}(b:(wake s).status=0):∃k,tZ a fuel [] 0 (wake s)=((nH a k s).1,(nH a k s).2,k):=by
 obtain⟨k,k1,k2,d,f⟩:=Z5 (a:=a) fuel [] 0<|wake s;have c:=f e b Z;refine⟨k,?_⟩;rw[k2,iter_W k _ d,aaa c b];simp
def says(i:Int)(e:Nat)(l:List Rec):List Int:=(l.filter fun r=>ab (r.kind=2)&&ab (r.co=i)&&ab (r.aJ=(e:Int))).flatMap (·.says)
theorem Pb(i:Int)(e:Nat)(a b:List Rec):says i e (a++b)=says i e a++says i e b:=by unfold says;rw[List.filter_append,jv]
theorem Uj{i:Int}{e:Nat}{r:Rec}:says i e [r]=if r.kind=2/\r.co=i/\r.aJ=(e:Int)then r.says else []:=by
  unfold says;by_cases h:r.kind=2/\r.co=i/\r.aJ=(e:Int)
  · rw[if_pos h];simp[h.1,h.2.1,h.2.2]
  · rw[if_neg h,gR,if_neg (by simp only[cN,decide_eq_true_eq];intro a;exact h ⟨a.1.1,a.1.2,a.2⟩)];rfl
theorem says_no{i:Int}{e:Nat}{l:List Rec}(h:∀r∈l,r.kind=2->r.co=i->r.aJ≠(e:Int)):says i e l=[]:=by
 unfold says;rw[List.filter_eq_nil_iff.2 (fun r b=>by simp only[cN,decide_eq_true_eq];exact fun a=>h r b a.1.1 a.1.2 a.2)];rfl
def tot(F:Int->List Rec)(i:Int)(pl:Nat->Int):Nat->List Int
 |0=>[]
 |e+1=>tot F i pl e++says i (e+1) (F (pl (e+1)))
theorem EU{F F':Int->List Rec}{i:Int}{pl pl':Nat->Int}:∀(E:Nat),(∀e,1<=e->e<=E->says i e (F (pl e))=says i e (F' (pl' e)))->tot F i pl E=tot F' i pl' E
 |0,_=>rfl
 |E+1,h=>by
  unfold tot;rw[EU E (fun e a b=>h e a V),h (E+1) V (bt _)]
structure yx(p:List bu)(F G:Int->List Rec)(L:List fJ)(i:Int)(E:Nat)(pl:Nat->Int):Prop where
 ch:zO F L i E pl
 S1:∀k,On k->∀r∈F k,r.co=i->r.kind=2->∃e:Nat,r.aJ=(e:Int)/\1<=e/\e<=E/\pl e=k
 pre:∀k,On k->G k<+:F k
 Q:∀k,On k->(∀e:Nat,says i e (G k)=says i e (F k))\/∃c,Hd F i k=aj c/\c.offered= -1
 D:∀e:Nat,1<=e->e<E->says i e (G (pl e))=says i e (F (pl e))
 run:1<=E->∃n c,Hd F i (pl E)=aj c/\tot F i pl E=(nH p n (kP p)).2/\c.image=wP (dM (nH p n (kP p)).1)
 im:∀m∈L,m.co=i->m.taken=aq->m.aJ=(E:Int)+1->∃c,Hd F i (pl E)=aj c/\m.image=c.image
section
variable{p:List bu}{F G:Int->List Rec}{L:List fJ}{i:Int}{E:Nat}{pl:Nat->Int}
theorem wT{k:Int}{r:Rec}{j:Int}(h:j≠k):lK F k r j=F j:=if_neg h
theorem upd_same{k:Int}{r:Rec}:lK F k r k=F k++[r]:=if_pos Z
theorem ou{k:Int}{r:Rec}{j:Int}{e:Nat}(h:¬(r.kind=2/\r.co=i/\r.aJ=(e:Int))):says i e (lK F k r j)=says i e (F j):=by
  by_cases a:j=k
  · subst a;rw[upd_same,Pb,Uj,if_neg h,du]
  · rw[wT a]
theorem yx.bR{L':List fJ}(h:yx p F G L i E pl)(d:∀m∈L',m∈L\/(m.co=i->MOk F i E pl m/\(m.taken=aq->m.aJ=(E:Int)+1->∃c,Hd F i (pl E)=aj c/\m.image=c.image))):yx p F G L' i E pl:=
 {h with
  ch:=h.ch.bR fun m b=>(d m b).imp id fun x a=>(x a).1
  im:=fun m b a=>(d m b).elim (fun x=>h.im m x a) (fun x=>(x a).2)}
theorem yx.other{l:Int->List Rec}{k:Int}{r:Rec}(h:yx p F G L i E pl)(u:(jG [] (F k)).2=0)(a:(iD (jG [] (F k)).1 r).2=0)(d:i≠r.co)(t:l=G\/l=lK G k r)(v:G k=F k):yx p (lK F k r) l L i E pl:=by
  obtain⟨-,I,P,-,R⟩:=ET u a;have o:∀j,Hd (lK F k r) i j=Hd F i j:=fun j=>by
    by_cases e:j=k
    · subst e;exact P i d
    · exact I j e i
  have s:∀(e:Nat) j,says i e (lK F k r j)=says i e (F j):=fun e j=>ou fun x=>d x.2.1.symm;have f:∀(e:Nat) j,says i e (l j)=says i e (G j):=fun e j=>by
    rcases t with rfl|rfl
    · rfl
    · exact ou fun x=>d x.2.1.symm
  refine⟨h.ch.other u a d,fun j b x q g B=>?_,fun j b=>?_,fun j b=>?_,fun e z y=>?_,fun A=>?_,fun m K g M N=>by rw[o];exact h.im m K g M N⟩
  · rcases rz q with q|⟨_,rfl⟩
    · exact h.S1 j b x q g B
    · exact absurd g.symm d
  · have hp:=h.pre j b;rcases t with rfl|rfl
    · by_cases e:j=k
      · subst e;rw[upd_same];exact hp.trans (eE _ _)
      · rw[wT e];exact hp
    · by_cases e:j=k
      · subst e;rw[upd_same,upd_same,v];exact cr _
      · rw[wT e,wT e];exact hp
  · rw[o];exact(h.Q j b).imp (fun x e=>by rw[s,f];exact x e) id
  · rw[s,f];exact h.D e z y
  · obtain⟨n,c,O,C,w⟩:=h.run A;refine⟨n,c,by rw[o];exact O,?_,w⟩;rw[<-C];exact EU E fun e _ _=>s e _
theorem yx.slice{B:Int->List Rec}{k:Int}{r:Rec}{c:Co}{fuel:Nat}(l:mF p)(h:yx p F G L i E pl)(A:On k)(hR:(jG [] (F k)).2=0)(z:(iD (jG [] (F k)).1 r).2=0)(hi:r.co=i)(u:r.kind=2)(T:B=G\/B=lK G k r)(Us:G k=F k)
    (s:Hd F i k=aj c) (O:1<=fuel) (K:Img p c.image (dO p c.image).1) (h0:(wake (dO p c.image).1).status=0) (hs:r.says=(tZ p fuel [] 0 (wake (dO p c.image).1)).2.1) (a0:r.image=wP (dM (tZ p fuel [] 0 (wake (dO p c.image).1)).1)):yx p (lK F k r) B L i E pl:=by
  have P:=h.ch.slice A hR z hi u;obtain⟨-,u1,-,u3,u4⟩:=ET hR z;rw[hi]at u3;obtain⟨he,I,hn⟩:c.aJ=r.aJ/\c.offered= -1/\Hd (lK F k r) i k=aj ⟨c.kv,c.aJ,r.image,-1⟩:=by
    rcases u3 with⟨x,_,_⟩|⟨x,_,_⟩|⟨d,_,ho,he,O,hn⟩|⟨d,x,_,_,_,_,_⟩|⟨d,x,_,_,_,_⟩
    · omega
    · omega
    · rw[s]at ho;cases ho;exact⟨he,O,hn⟩
    · omega
    · omega
  obtain⟨o,b1,b2,b3,w,b5,b6⟩:=h.ch.H1 k A c s;obtain rfl:=b5 I;have y:r.aJ=(o:Int):=by omega
  have v:∀(e:Nat) j,e≠o->says i e (lK F k r j)=says i e (F j):=fun e j g=>ou fun x=>g V;have S:∀(e:Nat) j,e≠o->says i e (B j)=says i e (G j):=fun e j g=>by
    rcases T with rfl|rfl
    · rfl
    · exact ou fun x=>g V
  refine⟨P,fun j b x N s A=>?_,fun j b=>?_,fun j b=>?_,fun e h1 u=>?_,fun X=>?_,fun m hm t q R=>?_⟩
  · rcases rz N with N|⟨e,rfl⟩
    · exact h.S1 j b x N s A
    · exact⟨o,y,b2,b3,w.trans e.symm⟩
  · have hp:=h.pre j b;rcases T with rfl|rfl
    · by_cases e:j=k
      · subst e;rw[upd_same];exact hp.trans (eE _ _)
      · rw[wT e];exact hp
    · by_cases e:j=k
      · subst e;rw[upd_same,upd_same,Us];exact cr _
      · rw[wT e,wT e];exact hp
  · by_cases e:j=k
    · subst e;exact .inr ⟨_,hn,Z⟩
    · rw[u1 j e];refine(h.Q j b).imp (fun x C=>?_) id;rw[wT e];rcases T with rfl|rfl
      · exact x C
      · rw[wT e];exact x C
  · rw[v e _ V,S e _ V];exact h.D e h1 u
  · obtain⟨n,d,a1,a2,a3⟩:=h.run X;rw[w,s]at a1;cases a1
    --the image is that of the state
    have q:=Xl l n _<|TZ l;have hu:(dO p c.image).1=dM (nH p n<|kP p).1:=pack_inj (K.st.small l) (O6 l q) (by rw[<-K.eq,a3]);obtain⟨j,b⟩:=slice_iter l O h0;have X:dM (dO p c.image).1=dM (nH p n<|kP p).1:=by rw[hu];exact M6 (q.sw l)
    obtain⟨q1,q2⟩:=iterW_sim l j _ _ K.st q X;have f:=P7 (a:=p) n j<|kP p;refine⟨n+j,_,by rw[w];exact hn,?_,?_⟩
    · rw[f];simp only;rw[<-q1,<-a2];cases o with
      |zero=>omega
      |succ e1=>
        unfold tot;rw[EU e1 (fun e h1 u=>v e _ V),w,upd_same,Pb,Uj,if_pos ⟨u,hi,y⟩,hs,b,cf]
    · simp only;rw[a0,b];simp only;rw[q2,f]
  · obtain⟨d,d1,d2⟩:=h.im m hm t q R;exfalso
    --such bR tells of an offer
    obtain⟨e,m1,m2,m3,m4,-⟩:=(h.ch.M m hm t).ok;obtain⟨-,r0,r1,r2,r3,r4,r5⟩:=m4 q;obtain rfl:e=o:=by omega
    obtain⟨C,o1,o2,o3,o4,o5,o6⟩:=h.ch.O1 _ (h.ch.rng e m1 m2) r0 r1 r3 r2;obtain⟨x,x1,x2,x3⟩:=o6 V;rw[w,s]at x1;cases x1;have:=h.ch.P0 _ (h.ch.rng e m1 m2) r0 r1;omega
theorem yx.offer{q:Int->List Rec}{k:Int}{r:Rec}{c:Co}(h:yx p F G L i E pl)(v:On k)(O:(jG [] (F k)).2=0)(l:(iD (jG [] (F k)).1 r).2=0)(N:r.co=i)(u:r.kind=3)(I:q=G\/q=lK G k r)(B:G k=F k)(f:Hd F i k=aj c):
    yx p (lK F k r) q L i E pl/\Hd (lK F k r) i (pl E)=aj ⟨c.kv,c.aJ,c.image,r.place⟩/\c.aJ=(E:Int)/\r.aJ=(E:Int)/\1<=E/\pl E=k:=by
  obtain⟨y,c0,ho,R,S,z,t,a⟩:=h.ch.offer v O l N u;rw[f]at ho;cases ho;obtain⟨-,u1,-,K,u4⟩:=ET O l;rw[N]at K;have hn:Hd (lK F k r) i k=aj ⟨c.kv,c.aJ,c.image,r.place⟩:=by
    rcases K with⟨x,_,_⟩|⟨x,_,_⟩|⟨d,x,_,_,_,_⟩|⟨d,x,ho,R,hf,_,hn⟩|⟨d,x,_,_,_,_⟩
    · omega
    · omega
    · omega
    · rw[f]at ho;cases ho;exact hn
    · omega
  have o:∀(e:Nat) j,says i e (lK F k r j)=says i e (F j):=fun e j=>ou (fun x=>by omega);have b:∀(e:Nat) j,says i e (q j)=says i e (G j):=fun e j=>by
    rcases I with rfl|rfl
    · rfl
    · exact ou (fun x=>by omega)
  refine⟨⟨y,fun j g x w f v=>?_,fun j g=>?_,fun j g=>?_,fun e X u=>?_,fun hE=>?_,fun m hm s ht A=>?_⟩,by rw[a];exact hn,by omega,z,t,a⟩
  · rcases rz w with w|⟨e,rfl⟩
    · exact h.S1 j g x w f v
    · omega
  · have hp:=h.pre j g;rcases I with rfl|rfl
    · by_cases e:j=k
      · subst e;rw[upd_same];exact hp.trans (eE _ _)
      · rw[wT e];exact hp
    · by_cases e:j=k
      · subst e;rw[upd_same,upd_same,B];exact cr _
      · rw[wT e,wT e];exact hp
  · by_cases e:j=k
    · subst e;exact .inl (fun C=>by rw[o,b,B])
    · rw[u1 j e];exact(h.Q j g).imp (fun x C=>by rw[o,b];exact x C) id
  · rw[o,b];exact h.D e X u
  · obtain⟨n,d,M,P,T⟩:=h.run hE;rw[a,f]at M;cases M;exact⟨n,⟨c.kv,c.aJ,c.image,r.place⟩,by rw[a];exact hn,by rw[<-P];exact EU E (fun e _ _=>o e _),T⟩
  · obtain⟨d,d1,d2⟩:=h.im m hm s ht A;rw[a,f]at d1;cases d1;exact⟨⟨c.kv,c.aJ,c.image,r.place⟩,by rw[a];exact hn,d2⟩
theorem yx.gone{k:Int}{r:Rec}(h:yx p F G L i E pl)(s:On k)(N:(jG [] (F k)).2=0)(g:(iD (jG [] (F k)).1 r).2=0)(M:r.co=i)(q:r.kind=5)(t:r.aJ<(E:Int))(u:1<=E)(A:G k=F k):yx p (lK F k r) (lK G k r) L i E pl:=by
  have y:=h.ch.gone s N g M q t;obtain⟨-,w,-,K,u4⟩:=ET N g;rw[M]at K;obtain⟨c,ho,B,I,hn⟩:∃c,Hd F i k=aj c/\c.aJ=r.aJ/\c.offered≠ -1/\Hd (lK F k r) i k=none:=by
    rcases K with⟨x,_,_⟩|⟨x,_,_⟩|⟨c,x,_,_,_,_⟩|⟨c,x,_,_,_,_,_⟩|⟨c,x,ho,B,I,hn⟩
    · omega
    · omega
    · omega
    · omega
    · exact⟨c,ho,B,I,hn⟩
  have b:pl E≠k:=by
    intro e;obtain⟨d,d1,d2⟩:=h.ch.H2 u;rw[e,ho]at d1;cases d1;omega
  have l:∀(e:Nat) j,says i e (lK F k r j)=says i e (F j):=fun e j=>ou (fun x=>by omega);have a:∀(e:Nat) j,says i e (lK G k r j)=says i e (G j):=fun e j=>ou (fun x=>by omega);refine⟨y,fun j f x v P s=>?_,fun j f=>?_,fun j f=>?_,fun e S q=>?_,fun T=>?_,fun m X o ht z=>by rw[w _ b];exact h.im m X o ht z⟩
  · rcases rz v with v|⟨e,rfl⟩
    · exact h.S1 j f x v P s
    · omega
  · have hp:=h.pre j f;by_cases e:j=k
    · subst e;rw[upd_same,upd_same,A];exact cr _
    · rw[wT e,wT e];exact hp
  · by_cases e:j=k
    · subst e;exact .inl (fun C=>by rw[l,a,A])
    · rw[w j e];exact(h.Q j f).imp (fun x C=>by rw[l,a];exact x C) id
  · rw[l,a];exact h.D e S q
  · obtain⟨n,d,a1,O,R⟩:=h.run T;exact⟨n,d,by rw[w _ b];exact a1,by rw[<-O];exact EU E (fun e _ _=>l e _),R⟩
theorem yx.begin{k:Int}{r:Rec}(h:yx p F G L i E pl)(w:On k)(C:(jG [] (F k)).2=0)(f:(iD (jG [] (F k)).1 r).2=0)(B:r.co=i)(q:i=k)(v:r.kind=1)(hno:∀x∈F k,x.kind≠1)(u:G k=F k)(n:r.image=wP (dM (kP p))):
    E=0/\yx p (lK F k r) (lK G k r) L i 1 (fun _=>k):=by
  obtain⟨z,s⟩:=h.ch.begin w C f B q v hno;subst z;obtain⟨-,N,-,A,T⟩:=ET C f;rw[B]at A;have hn:Hd (lK F k r) i k=aj ⟨r.co,r.aJ,r.image,-1⟩:=by
    rcases A with⟨x,ho,hn⟩|⟨x,_,_⟩|⟨c,x,_,_,_,_⟩|⟨c,x,_,_,_,_,_⟩|⟨c,x,_,_,_,_⟩
    · exact hn
    · omega
    · omega
    · omega
    · omega
  have t:∀(e:Nat) j,says i e (lK F k r j)=says i e (F j):=fun e j=>ou (fun x=>by omega);have g:∀(e:Nat) j,says i e (lK G k r j)=says i e (G j):=fun e j=>ou (fun x=>by omega);refine⟨Z,s,fun j b x d o a=>?_,fun j b=>?_,fun j b=>?_,fun e X v=>by omega,fun z=>?_,fun m O l ht R=>?_⟩
  · rcases rz d with d|⟨e,rfl⟩
    · obtain⟨e,P,I,K,-⟩:=h.S1 j b x d o a;omega
    · omega
  · have hp:=h.pre j b;by_cases e:j=k
    · subst e;rw[upd_same,upd_same,u];exact cr _
    · rw[wT e,wT e];exact hp
  · by_cases e:j=k
    · subst e;exact .inl (fun y=>by rw[t,g,u])
    · rw[N j e];exact(h.Q j b).imp (fun x y=>by rw[t,g];exact x y) id
  · refine⟨0,_,hn,?_,n⟩;show []++says i 1 (lK F k r k)=[];rw[cF,t];refine says_no fun x d a o S=>?_;obtain⟨e,P,I,K,-⟩:=h.S1 k w x d o a;omega
  · obtain⟨e,m1,m2,-⟩:=(h.ch.M m O l).ok;omega
theorem yx.take{k:Int}{r:Rec}{m:fJ}(h:yx p F G L i E pl)(hk:On k)(hR:(jG [] (F k)).2=0)(hok:(iD (jG [] (F k)).1 r).2=0)(hi:r.co=i)(h2:r.kind=4)(hm:m∈L)(hc:m.co=i)(ht:m.taken=aq)(hto:m.jy=k)(hep:r.aJ=m.aJ)(hri:r.image=m.image)(hno:∀x∈F k,x.kind=4->x.co=i->¬m.aJ<=x.aJ)(Us:G k=F k):
    m.aJ=(E:Int)+1/\1<=E/\m.from_=pl E/\yx p (lK F k r) (lK G k r) L i (E+1) (fun e=>if e=E+1 then k else pl e):=by
  obtain⟨t1,t2,t3,hch⟩:=h.ch.take hk hR hok hi h2 hm hc ht hto hep hno;obtain⟨-,u1,-,u3,u4⟩:=ET hR hok;rw[hi]at u3;obtain⟨ho,hn⟩:Hd F i k=none/\Hd (lK F k r) i k=aj ⟨r.co,r.aJ,r.image,-1⟩:=by
    rcases u3 with⟨x,_,_⟩|⟨x,ho,hn⟩|⟨c,x,_,_,_,_⟩|⟨c,x,_,_,_,_,_⟩|⟨c,x,_,_,_,_⟩
    · omega
    · exact⟨ho,hn⟩
    · omega
    · omega
    · omega
  have hs:∀(e:Nat) j,says i e (lK F k r j)=says i e (F j):=fun e j=>ou (fun x=>by omega);have hs2:∀(e:Nat) j,says i e (lK G k r j)=says i e (G j):=fun e j=>ou (fun x=>by omega);have hpl:∀x,x<=E->(if x=E+1 then k else pl x)=pl x:=fun x hx=>if_neg V
  --it is offered where it was
  obtain⟨e,m1,m2,m3,m4,-⟩:=(h.ch.M m hm hc).ok;obtain⟨-,r0,r1,r2,r3,r4,r5⟩:=m4 ht;obtain rfl:e=E:=by omega
  have hpe:=h.ch.rng e m1 m2;obtain⟨e',o1,o2,o3,o4,o5,o6⟩:=h.ch.O1 _ hpe r0 r1 r3 r2;obtain⟨x,x1,x2,x3⟩:=o6 V;have hx0:=h.ch.P0 _ hpe r0 r1;refine⟨t1,t2,t3,hch,fun j hj y hy hc hk2=>?_,fun j hj=>?_,fun j hj=>?_,fun z h1 h2=>?_,fun hE=>?_,fun y hy hc' ht' hme=>?_⟩
  · rcases rz hy with hy|⟨_,rfl⟩
    · obtain⟨z,a1,a2,a3,a4⟩:=h.S1 j hj y hy hc hk2;exact⟨z,a1,a2,by omega,by rw[hpl z a3];exact a4⟩
    · omega
  · have hp:=h.pre j hj;by_cases e:j=k
    · subst e;rw[upd_same,upd_same,Us];exact cr _
    · rw[wT e,wT e];exact hp
  · by_cases e:j=k
    · subst e;exact .inl (fun e'=>by rw[hs,hs2,Us])
    · rw[u1 j e];exact(h.Q j hj).imp (fun x e'=>by rw[hs,hs2];exact x e') id
  · rw[hs,hs2,hpl z V];by_cases hz:z=e
    · subst hz;rcases h.Q _ hpe with hq|⟨c,c1,c2⟩
      · exact hq z
      · rw[x1]at c1;cases c1;omega
    · exact h.D z h1 V
  · obtain⟨n,d,a1,a2,a3⟩:=h.run t2;obtain⟨d',d1,d2⟩:=h.im m hm hc ht t1;rw[a1]at d1;cases d1;refine⟨n,_,by simp only[eq_self,if_true];exact hn,?_,?_⟩
    · unfold tot;simp only[eq_self,if_true];rw[hs,says_no (fun y hy hk2 hc he=>by
        obtain⟨z,b1,b2,b3,-⟩:=h.S1 k hk y hy hc hk2;have:=he.symm.trans b1
        push_cast at this
        omega),du,<-a2]
      exact EU e (fun z h1 h2=>by rw[hpl z h2,hs])
    · simp only;rw[hri,d2,a3]
  · obtain⟨z,b1,b2,b3,-⟩:=(h.ch.M y hy hc').ok
    push_cast at hme
    omega
theorem yx.boot{b:Int->List Rec}{k:Int}(h:yx p F G L i E pl)(f:∀j,b j=if j=k then F k else G j):yx p F b L i E pl:=by
  have c:∀j,j≠k->b j=G j:=fun j a=>by rw[f,if_neg a]
  have d:b k=F k:=by rw[f,if_pos Z]
  refine⟨h.ch,h.S1,fun j a=>?_,fun j a=>?_,fun e m l=>?_,h.run,h.im⟩
  · by_cases e:j=k
    · subst e;rw[d];exact cr _
    · rw[c j e];exact h.pre j a
  · by_cases e:j=k
    · subst e;exact .inl (fun _=>by rw[d])
    · exact(h.Q j a).imp (fun x g=>by rw[c j e];exact x g) id
  · by_cases a:pl e=k
    · rw[a,d]
    · rw[c _ a];exact h.D e m l
end
end Pw
open Go Go.Proofs Go.LX
namespace Pw
open Dk
def Fw(w:oZ)(k:Int):List Rec:=mo (iq w k).d
def Gw(w:oZ)(k:Int):List Rec:=wR (iq w k).d
structure SI(w:oZ):Prop where
 wr:WR w
 rep:∀k,On k->(jG [] (Fw w k)).2=0
 tale:∀i,∃E pl,yx w.prog (Fw w) (Gw w) w.bR i E pl
theorem Na{w w':oZ}{k:Int}{x:Nr}(b:On k)(c:w.places.length=3)(h:w'.places=w.places.set k.toNat x):∀j,iq w' j=if j=k then x else iq w j:=by
  intro j;obtain⟨n,rfl⟩:=bs b.1;have hn:n<w.places.length:=by have:=b.2;omega
  unfold iq;rw[h,bj];by_cases a:0<=j
  · obtain⟨m,rfl⟩:=bs a;rw[kL,kL,fg];by_cases e:n=m
    · subst e;rw[if_pos rfl,if_pos hn,if_pos rfl];rfl
    · rw[if_neg e,if_neg V]
  · unfold idx;rw[if_neg a,if_neg a,if_neg V]
theorem pAt_same{w w':oZ}(h:w'.places=w.places):∀j,iq w' j=iq w j:=fun j=>by unfold iq;rw[h]
theorem SI.upG{w:oZ}(h:SI w){k:Int}(a:On k)(up:(iq w k).up=ba):Gw w k=Fw w k/\(iq w k).cos=(jG [] (Fw w k)).1:=by
 have hat:=h.wr.at a;exact⟨((dOk hat.disk).still (hat.wait up)).symm,by unfold Fw;rw[hat.cos up]⟩
theorem XR{w w':oZ}{k:Int}{x':Nr}{r:Rec}{p:List bu}(h:SI w)(b:On k)(up:(iq w k).up=ba)(N:Noted p (iq w k) x' r)(hp:w'.places=w.places.set k.toNat x'):
    Fw w'=lK (Fw w) k r/\Gw w'=lK (Gw w) k r/\(iD (jG [] (Fw w k)).1 r).2=0:=by
  have e:=Na b h.wr.many hp;refine⟨funext fun j=>?_,funext fun j=>?_,?_⟩
  · unfold Fw lK;rw[e];by_cases a:j=k
    · subst a;rw[if_pos rfl,if_pos rfl];exact N.flog
    · rw[if_neg a,if_neg a]
  · unfold Gw lK;rw[e];by_cases a:j=k
    · subst a;rw[if_pos rfl,if_pos rfl];exact N.slog
    · rw[if_neg a,if_neg a]
  · rw[<-(h.upG b up).2];exact N.ok
theorem XT{w w':oZ}(h:w'.places=w.places):Fw w'=Fw w/\Gw w'=Gw w:=
 ⟨funext fun j=>by unfold Fw;rw[pAt_same h],funext fun j=>by unfold Gw;rw[pAt_same h]⟩
def Goes(w w':oZ)(i:Int):Prop:=∀E pl,yx w.prog (Fw w) (Gw w) w.bR i E pl->∃a pl',yx w'.prog (Fw w') (Gw w') w'.bR i a pl'/\E<=a/\(∀e,1<=e->e<=E->pl' e=pl e)/\∀(e:Nat) j,On j->e≠E->says i e (Fw w' j)=says i e (Fw w j)
theorem Uk{w w':oZ}{k:Int}{r:Rec}(h:SI w)(d:On k)(c:Fw w'=lK (Fw w) k r)(a:(iD (jG [] (Fw w k)).1 r).2=0):∀j,On j->(jG [] (Fw w' j)).2=0:=by
  intro j b;rw[c];by_cases e:j=k
  · subst e;exact(ET (h.rep j b) a).1
  · rw[wT e];exact h.rep j b
theorem G_upd{w w':oZ}{k:Int}{r:Rec}(a:Gw w'=lK (Gw w) k r):∀j,On j->Gw w j<+:Gw w' j:=by
  intro j b;rw[a];by_cases e:j=k
  · subst e;rw[upd_same];exact eE _ _
  · rw[wT e];exact cr _
theorem SI.of{w w':oZ}(h:SI w)(d:WR w')(c:∀j,On j->(jG [] (Fw w' j)).2=0)(e:∀k,On k->Gw w k<+:Gw w' k)(a:∀i,Goes w w' i):SI w'/\(∀k,On k->Gw w k<+:Gw w' k)/\∀i,Goes w w' i:=
 ⟨⟨d,c,fun i=>by obtain⟨E,pl,t⟩:=h.tale i;obtain⟨f,pl',b,-⟩:=a i E pl t;exact⟨f,pl',b⟩⟩,e,a⟩
theorem hd_of{w:oZ}(h:SI w){k:Int}(a:On k)(up:(iq w k).up=ba){i:Int}:oI i (iq w k).cos=Hd (Fw w) i k:=by
 unfold Hd;rw[(h.upG a up).2]
theorem WJ{w w':oZ}(hp:w'.prog=w.prog)(a:w'.places=w.places){i:Int}(d:∀E pl,yx w.prog (Fw w) (Gw w) w.bR i E pl->yx w.prog (Fw w) (Gw w) w'.bR i E pl):Goes w w' i:=by
 intro E pl t;obtain⟨b,c⟩:=XT a;exact⟨E,pl,by rw[hp,b,c];exact d E pl t,bt _,fun _ _ _=>rfl,fun e j _ _=>by rw[b]⟩
theorem Xm{w:oZ}(h:SI w){k:Int}{c:Co}{fuel:Int}{r:Rec}(d:On k)(up:(iq w k).up=ba)(f:oI c.kv (iq w k).cos=aj c)(z:1<=fuel)(S:Sliced w.prog k c fuel r)(b:(iD (jG [] (Fw w k)).1 r).2=0){o:Int->List Rec}(m:o=Gw w\/o=lK (Gw w) k r)(i:Int)(E:Nat)(pl:Nat->Int)(t:yx w.prog (Fw w) (Gw w) w.bR i E pl):
    yx w.prog (lK (Fw w) k r) o w.bR i E pl/\(∀(e:Nat) j,e≠E->says i e (lK (Fw w) k r j)=says i e (Fw w j))/\(r.kind=3->c.kv=i->Hd (lK (Fw w) k r) i (pl E)=aj ⟨c.kv,c.aJ,c.image,r.place⟩/\c.aJ=(E:Int)/\r.aJ=(E:Int)/\1<=E/\pl E=k):=by
  have u:=ng h.wr.code;have n:=h.rep k d;have l:=(h.upG d up).1;by_cases g:i=r.co
  · subst g;rw[S.co]at t⊢;rw[hd_of h d up]at f;obtain⟨y,v,C,G,A,p,B⟩:=t.ch.H1 k d c f;have s:=p S.runs;have q:r.aJ=(E:Int):=by rw[S.aJ,v,s]
    rcases S.how with⟨s1,s2,s3,s4,s5,s6⟩|⟨s1,s2,s3,s4,s5⟩
    · refine⟨t.slice (fuel:=fuel.toNat) u d n b S.co s1 m l f V S.img s3 s4 s5,fun e j a=>ou fun x=>a V,fun F=>by omega⟩
    · obtain⟨o1,o2⟩:=t.offer d n b S.co s1 m l f;exact⟨o1,fun e j a=>ou (fun x=>by omega),fun _ _=>o2⟩
  · exact⟨t.other n b g m l,fun e j a=>ou fun x=>g x.2.1.symm,fun _ f=>absurd (f.symm.trans S.co.symm) g⟩
theorem SI_step{w w':oZ}(h:SI w)(q:WR w')(hp:w'.prog=w.prog)(ev:Ev w w'):SI w'/\(∀k,On k->Gw w k<+:Gw w' k)/\∀i,Goes w w' i:=by
  cases ev with
  |begin k x' b up hno N hpl hm=>
    obtain⟨f,g,d⟩:=XR h b up N hpl;have K:=(h.upG b up).1;refine h.of q (Uk h b f d) (G_upd g) fun i E pl t=>?_;by_cases v:i=k
    · subst v;obtain⟨I,L⟩:=t.begin b (h.rep i b) d Z Z Z hno K Z;subst I;exact⟨1,_,by rw[hp,f,g,hm];exact L,by omega,fun e h1 h2=>by omega,fun e j _ o=>by rw[f];exact ou (fun x=>by have:=x.1;simp[WI]at this)⟩
    · refine⟨E,pl,by rw[hp,f,g,hm];exact t.other (h.rep k b) d v (.inr Z) K,bt _,fun _ _ _=>rfl,fun e j _ o=>by rw[f];exact ou (fun x=>by have:=x.1;simp[WI]at this)⟩
  |run k c fuel r x' b up hc hf S N hpl hm=>
    obtain⟨f,g,d⟩:=XR h b up N hpl;refine h.of q (Uk h b f d) (G_upd g) fun i E pl t=>?_;obtain⟨L,O,ho⟩:=Xm h b up hc hf.1 S d (.inr Z) i E pl t;refine⟨E,pl,?_,bt _,fun _ _ _=>rfl,fun e j _ o=>by rw[f];exact O e j o⟩;rw[hp,f,g];by_cases h3:r.kind=3
    · rw[if_pos h3]at hm;refine L.bR fun m u=>?_;rw[hm]at u;refine(Ui h.wr u).imp id fun e l=>?_;subst e;have n:c.kv=i:=l;obtain⟨o1,o2,o3,o4,o5⟩:=ho h3 n;refine⟨⟨E,o4,bt _,by show c.aJ+1=_;omega,fun _=>⟨o5.symm,r,?_,h3,by rw[S.co];exact n,o3,Z⟩,fun A=>(by cases A)⟩,fun _ _=>⟨_,o1,Z⟩⟩;rw[o5,upd_same];simp
    · rw[if_neg h3]at hm;rw[hm];exact L
  |tear k c r x' b up hc S T hpl hm=>
    have e:=Na b h.wr.many hpl;have g:Gw w'=Gw w:=funext fun j=>by
      unfold Gw;rw[e];by_cases a:j=k
      · subst a;rw[if_pos rfl];exact T.slog
      · rw[if_neg a]
    have d:(iD (jG []<|Fw w k).1 r).2=0:=by rw[<-(h.upG b up).2];exact T.ok
    rcases T.flog with hf|hf
    · have f:Fw w'=Fw w:=funext fun j=>by
        unfold Fw;rw[e];by_cases a:j=k
        · subst a;rw[if_pos rfl];exact hf
        · rw[if_neg a]
      refine h.of q (fun j a=>by rw[f];exact h.rep j a) (fun j a=>by rw[g];exact cr _) (fun i E pl t=>?_);exact⟨E,pl,by rw[hp,f,g,hm];exact t,bt _,fun _ _ _=>rfl,fun e j _ _=>by rw[f]⟩
    · have f:Fw w'=lK (Fw w) k r:=funext fun j=>by
        unfold Fw lK;rw[e];by_cases a:j=k
        · subst a;rw[if_pos rfl,if_pos rfl];exact hf
        · rw[if_neg a,if_neg a]
      refine h.of q (Uk h b f d) (fun j a=>by rw[g];exact cr _) (fun i E pl t=>?_);obtain⟨L,O,-⟩:=Xm h b up hc V S d (.inl Z) i E pl t;exact⟨E,pl,by rw[hp,f,g,hm];exact L,bt _,fun _ _ _=>rfl,fun e j _ o=>by rw[f];exact O e j o⟩
  |send k c b up hc ho hpl hm=>
    obtain⟨X,P⟩:=XT hpl;refine h.of q (fun j a=>by rw[X];exact h.rep j a) (fun j a=>by rw[P];exact cr _) (fun i=>WJ hp hpl (fun E pl t=>t.bR (fun m u=>?_)));rw[hm]at u;refine(Ui h.wr u).imp id fun e l=>?_;subst e;have n:c.kv=i:=l;rw[hd_of h b up,n]at hc;obtain⟨I,b1,b2,b3,b4,b5,b6⟩:=t.ch.H1 k b c hc;refine⟨⟨I,b2,b3,by show c.aJ+1=_;omega,fun _=>⟨b4.symm,?_⟩,fun A=>(by cases A)⟩,fun _ he=>?_⟩
    · rw[b4];exact b6 V
    · have a7:c.aJ+1=(E:Int)+1:=he;obtain rfl:I=E:=by omega
      exact⟨c,by rw[b4];exact hc,Z⟩
  |gone m c x' v A up hc he ho N hpl hm=>
    have s:=h.wr.mok m v;have b:On m.jy:=s.2.1;obtain⟨f,g,d⟩:=XR h b up N hpl;have K:=(h.upG b up).1;refine h.of q (Uk h b f d) (G_upd g) fun i E pl t=>?_;have Q:∀{F G:Int->List Rec},yx w.prog F G w.bR i E pl->yx w.prog F G w'.bR i E pl:=fun t=>t.bR fun y B=>.inl<|hm y B;refine⟨E,pl,?_,bt _,fun _ _ _=>rfl,fun e j _ o=>by rw[f];exact ou (fun x=>by have:=x.1;simp at this)⟩;rw[hp,f,g];refine Q ?_;by_cases p:i=m.co
    · subst p;obtain⟨I,m1,m2,m3,-,m5⟩:=(t.ch.M m v Z).ok;have:=(m5 A).1;exact t.gone b (h.rep _ b) d Z Z (by show m.aJ-1<_;omega) V K
    · exact t.other (h.rep _ b) d p (.inr Z) K
  |take m x' v A up hno N hpl hm=>
    have s:=h.wr.mok m v;have b:On m.jy:=s.2.1;obtain⟨f,g,d⟩:=XR h b up N hpl;have K:=(h.upG b up).1;refine h.of q (Uk h b f d) (G_upd g) fun i E pl t=>?_;have O:∀(e:Nat) j,says i e (Fw w' j)=says i e (Fw w j):=fun e j=>by rw[f];exact ou (fun x=>by have:=x.1;simp at this)
    by_cases p:i=m.co
    · subst p;have a0:∀x∈Fw w m.jy,x.kind=4->x.co=m.co->¬m.aJ<=x.aJ:=by
        intro x hx h4 l a6;have:hadP (iq w m.jy) m.co m.aJ=true:=na.2 ⟨x,hx,by simp[h4,l,a6]⟩;rw[hno]at this;cases this
      obtain⟨t1,t2,t3,L⟩:=t.take b (h.rep _ b) d Z Z v Z A Z Z Z a0 K;refine⟨E+1,fun e=>if e=E+1 then m.jy else pl e,?_,by omega,fun e h1 h2=>if_neg V,fun e j _ _=>O e j⟩;rw[hp,f,g];refine L.bR fun y B=>(hm y B).imp id fun e l=>?_;subst e;refine⟨⟨E,t2,by omega,t1,fun x=>(by cases x),fun _=>⟨bt _,?_,?_⟩⟩,fun x=>(by cases x)⟩
      · show m.jy=_;simp only[eq_self,if_true]
      · show m.from_=_;rw[t3,if_neg V]
    · refine⟨E,pl,?_,bt _,fun _ _ _=>rfl,fun e j _ _=>O e j⟩;rw[hp,f,g];refine(t.other (h.rep _ b) d p (.inr Z) K).bR fun y B=>(hm y B).imp id fun e l=>?_;subst e;exact absurd l.symm p
  |again m v A up had hpl hm=>
    obtain⟨X,P⟩:=XT hpl;have b:On m.jy:=(h.wr.mok m v).2.1;refine h.of q (fun j a=>by rw[X];exact h.rep j a) (fun j a=>by rw[P];exact cr _) (fun i=>WJ hp hpl (fun E pl t=>t.bR (fun y B=>(hm y B).imp id (fun e l=>?_))));subst e;have n:m.co=i:=l;subst n;obtain⟨I,m1,m2,m3,m4,-⟩:=(t.ch.M m v Z).ok;obtain⟨m5,r0,r1,r2,r3,r4,r5⟩:=m4 A;obtain⟨x,hx,C⟩:=na.1 had;simp only[cN,decide_eq_true_eq]at C;obtain⟨z,a1,a2,a3,a4⟩:=t.ch.T1 m.jy b x hx C.1.2<|.inr C.1.1;obtain⟨e',o1,o2,o3,o4,o5,o6⟩:=t.ch.O1 _ (t.ch.rng I m1 m2) r0 r1 r3 r2;obtain rfl:e'=I:=by omega
    have a5:e'<E:=by have:=C.2;omega
    refine⟨⟨e',m1,m2,m3,fun x=>(by cases x),fun _=>⟨by omega,?_,m5⟩⟩,fun x=>(by cases x)⟩;show m.jy=_;rw[<-r5];exact o5 a5
  |still hpl hm=>
    obtain⟨X,P⟩:=XT hpl;exact h.of q (fun j a=>by rw[X];exact h.rep j a) (fun j a=>by rw[P];exact cr _) (fun i=>WJ hp hpl (fun E pl t=>t.bR (fun y B=>.inl (hm y B))))
  |crash k b up hpl hm=>
    have e:=Na b h.wr.many hpl;have g:Gw w'=Gw w:=funext fun j=>by
      unfold Gw;rw[e];by_cases a:j=k
      · subst a;rw[if_pos rfl]
      · rw[if_neg a]
    have f:Fw w'=Fw w:=funext fun j=>by
      unfold Fw;rw[e];by_cases a:j=k
      · subst a;rw[if_pos rfl]
      · rw[if_neg a]
    exact h.of q (fun j a=>by rw[f];exact h.rep j a) (fun j a=>by rw[g];exact cr _) (fun i E pl t=>⟨E,pl,by rw[hp,f,g,hm];exact t,bt _,fun _ _ _=>rfl,fun e j _ _=>by rw[f]⟩)
  |boot k b down ok hpl hm=>
    have e:=Na b h.wr.many hpl;have hat:=h.wr.at b;obtain⟨b1,b2,b3,b4⟩:=boot_disk hat.disk;have g:∀j,Gw w' j=if j=k then Fw w k else Gw w j:=fun j=>by
      unfold Gw Fw;rw[e];by_cases a:j=k
      · subst a;rw[if_pos rfl,if_pos rfl];exact b2
      · rw[if_neg a,if_neg a]
    have f:Fw w'=Fw w:=funext fun j=>by
      unfold Fw;rw[e];by_cases a:j=k
      · subst a;rw[if_pos rfl];exact b3
      · rw[if_neg a]
    refine h.of q (fun j a=>by rw[f];exact h.rep j a) (fun j a=>?_) (fun i E pl t=>⟨E,pl,by rw[hp,f,hm];exact t.boot g,bt _,fun _ _ _=>rfl,fun e j _ _=>by rw[f]⟩);rw[g];by_cases R:j=k
    · subst R;rw[if_pos rfl];exact(dOk hat.disk).pre
    · rw[if_neg R];exact cr _
theorem says_pre{i:Int}{e:Nat}{a b:List Rec}(h:a<+:b):says i e a<+:says i e b:=by
 obtain⟨t,rfl⟩:=h;rw[Pb];exact eE _ _
theorem tot_safe{p:List bu}{F G:Int->List Rec}{L:List fJ}{i:Int}{E:Nat}{pl:Nat->Int}(t:yx p F G L i E pl):tot G i pl E<+:tot F i pl E:=by
 cases E with
 |zero=>exact cr _
 |succ n=>
  unfold tot;rw[EU (F:=G) (F':=F) (pl':=pl) n (fun e a b=>t.D e a V)];exact(List.prefix_append_right_inj _).2<|says_pre<|t.pre _<|t.ch.rng _ V<|bt _
end Pw
open Go Go.Proofs Go.LX
namespace Pw
open Dk
def LY(p:List bu):oZ:=⟨p,[⟨[],zD,ba⟩,⟨[],zD,ba⟩,⟨[],zD,ba⟩],[]⟩
theorem zD_ok:iP zD=0/\wR zD=[]/\mo zD=[]:=by
 obtain⟨k1,k2⟩:=aal (a:=[]) (w:=[]) Jg zq3 (by simp[txt]);have e:(⟨txt [],[]⟩:iB)=zD:=rfl;rw[e]at k1 k2;exact⟨k1,k2,by rw[(dOk k1).still Z,k2]⟩
theorem pAt_new(p:List bu)(k:Int):(iq (LY p) k).d=zD/\(iq (LY p) k).cos=[]:=by
  unfold iq LY idx;by_cases a:0<=k
  · rw[if_pos a];simp only
    match h:k.toNat with
    |0=>exact⟨Z,Z⟩
    |1=>exact⟨Z,Z⟩
    |2=>exact⟨Z,Z⟩
    |n+3=>exact⟨rfl,rfl⟩
  · rw[if_neg a];exact⟨Z,Z⟩
theorem si_new{p:List bu}(hp:Jc p=0):SI (LY p):=by
  obtain⟨u,t,s⟩:=zD_ok;have b:∀k,Fw (LY p) k=[]:=fun k=>by unfold Fw;rw[(pAt_new p k).1,s]
  have o:∀k,Gw (LY p) k=[]:=fun k=>by unfold Gw;rw[(pAt_new p k).1,t]
  have v:∀i k,Hd (Fw<|LY p) i k=none:=fun i k=>by unfold Hd;rw[b];rfl
  have j:PlR p ⟨[],zD,ba⟩:=⟨u,fun h=>(by cases h),fun _=>rfl,fun _=>(by simp only[s];rfl),fun c g=>(by cases g)⟩;have f:∀m,m∈(LY p).bR->False:=fun m f=>by simp[LY]at f
  have l:∀i,zO (Fw<|LY p) (LY p).bR i 0 (fun _=>0):=fun i=>
    { rng:=fun e q n=>by omega
      first:=fun h=>by omega
      P0:=fun k d r a=>by rw[b]at a;cases a
      T1:=fun k d r a=>by rw[b]at a;cases a
      T2:=fun e q n=>by omega
      O1:=fun k d r a=>by rw[b]at a;cases a
      H1:=fun k d c g=>by rw[v]at g;cases g
      H2:=fun h=>by omega
      M:=fun m h=>(f m h).elim}
  refine⟨⟨hp,Z,by simp[LY],fun m h=>(f m h).elim,fun x w=>?_,fun m h=>(f m h).elim⟩,fun k d=>(by rw[b];rfl),fun i=>⟨0,fun _=>0,?_⟩⟩
  · have:x=⟨[],zD,ba⟩:=by simpa[LY]using w
    rw[this];exact j
  · exact
      { ch:=l i
        S1:=fun k d r a=>by rw[b]at a;cases a
        pre:=fun k d=>by rw[b,o];exact cr _
        Q:=fun k d=>.inl fun e=>by rw[b,o]
        D:=fun e q n=>by omega
        run:=fun h=>by omega
        im:=fun m h=>(f m h).elim}
def QG(w:oZ):List Hap->oZ
 |[]=>w
 |x::l=>if(fU w x).2≠0 then QG w l else QG (fU w x).1 l
theorem si_play:∀(l:List Hap) (w:oZ),SI w->SI (QG w l)/\(QG w l).prog=w.prog
  |[],w,h=>⟨h,rfl⟩
  |x::l,w,h=>by
    unfold QG;by_cases b:(fU w x).2=0
    · rw[if_neg V];obtain⟨d,a,c⟩:=step_ev h.wr (w':=(fU w x).1)<|jo Z b;obtain⟨k1,k2⟩:=si_play l _ (SI_step h d a c).1;exact⟨k1,k2.trans a⟩
    · rw[if_pos b];exact si_play l w h
def Xn(w:oZ)(i:Int):List Int:=(qq 101).flatMap fun e=>w.places.flatMap fun x=>says i e (wR x.d)
theorem three{w:oZ}(h:w.places.length=3):w.places=[iq w 0,iq w 1,iq w 2]:=by
 match hp:w.places,h with
 |[a,b,c],_=>
  have d:iq w 0=a:=by unfold iq idx;rw[hp];rfl
  have f:iq w 1=b:=by unfold iq idx;rw[hp];rfl
  have e:iq w 2=c:=by unfold iq idx;rw[hp];rfl
  rw[d,f,e]
theorem on_three{k:Int}(h:On k):k=0\/k=1\/k=2:=by have:=h.1;have:=h.2;omega
theorem said_at{w:oZ}(h:SI w){i:Int}{E:Nat}{pl:Nat->Int}(t:yx w.prog (Fw w) (Gw w) w.bR i E pl)(e:Nat):(w.places.flatMap fun x=>says i e (wR x.d))=if 1<=e/\e<=E then says i e (Gw w (pl e))else []:=by
  have a:∀k,On k->¬(1<=e/\e<=E/\pl e=k)->says i e (Gw w k)=[]:=by
    intro k b hn;refine says_no fun r m j f c=>hn ?_;obtain⟨z,o,l,g,n⟩:=t.S1 k b r ((t.pre k b).subset m) f j;obtain rfl:z=e:=by omega
    exact⟨l,g,n⟩
  rw[three h.wr.many];simp only[eL,rS,du];show says i e (Gw w 0)++(says i e (Gw w 1)++says i e (Gw w 2))=_;by_cases c:1<=e/\e<=E
  · rw[if_pos c];rcases on_three (t.ch.rng e c.1 c.2)with b|b|b
    · rw[a 1 ⟨by omega,by omega⟩ (by rw[b];omega),a 2 ⟨by omega,by omega⟩ (by rw[b];omega),b];simp
    · rw[a 0 ⟨by omega,by omega⟩ (by rw[b];omega),a 2 ⟨by omega,by omega⟩ (by rw[b];omega),b];simp
    · rw[a 0 ⟨by omega,by omega⟩ (by rw[b];omega),a 1 ⟨by omega,by omega⟩ (by rw[b];omega),b];simp
  · rw[if_neg c,a 0 ⟨by omega,by omega⟩ (fun x=>c ⟨x.1,x.2.1⟩),a 1 ⟨by omega,by omega⟩ (fun x=>c ⟨x.1,x.2.1⟩),a 2 ⟨by omega,by omega⟩ (fun x=>c ⟨x.1,x.2.1⟩)];rfl
theorem epoch_le{w:oZ}(h:SI w){i:Int}{E:Nat}{pl:Nat->Int}(t:yx w.prog (Fw w) (Gw w) w.bR i E pl):E<=100:=by
  by_cases a:1<=E
  · obtain⟨r,d,e,f,-⟩:=t.ch.T2 E a<|bt _;have c:=t.ch.rng E a<|bt _;have b:=(dOk (h.wr.at c).disk).good r d;have:=(Ue r (by rw[<-rec_eq];exact b.1)).aJ;omega
  · omega
theorem said_tot{w:oZ}(h:SI w){i:Int}{E:Nat}{pl:Nat->Int}(t:yx w.prog (Fw w) (Gw w) w.bR i E pl):Xn w i=tot (Gw w) i pl E:=by
  have c:=epoch_le h t;unfold Xn;have a:∀n,n<=101->(qq n).flatMap (fun e=>w.places.flatMap fun x=>says i e<|wR x.d)=tot (Gw w) i pl (min (n-1) E):=by
    intro n;induction n with
    |zero=>intro _;rfl
    |succ n ih=>
      intro hn;rw[nr,jv,ih V,lr,said_at h t];cases n with
      |zero=>rw[if_neg V,du]
      |succ m=>
        by_cases b:m+1<=E
        · rw[if_pos ⟨by omega,b⟩,show min (m+1-1) E=m by omega,show min (m+1+1-1) E=m+1 by omega];rfl
        · rw[if_neg V,du,show min (m+1-1) E=E by omega,show min (m+1+1-1) E=E by omega]
  rw[a 101 (bt _),show min (101-1) E=E by omega]
theorem pre_two{a b c:List Int}(f:a<+:c)(e:b<+:c):a.take (min a.length b.length)=b.take (min a.length b.length):=by
 obtain⟨x,rfl⟩:=f;have g:∀n,n<=a.length->a.take n=(a++x).take n:=fun n hn=>(cH hn).symm;obtain⟨y,h⟩:=e;have d:∀n,n<=b.length->b.take n=(a++x).take n:=fun n hn=>by rw[<-h];exact(cH hn).symm
 rw[g _ V,d _ V]
theorem said_told{w:oZ}(h:SI w)(i:Int){f t:Nat}(m:1<=f):(Xn w i).take (min (Xn w i).length (Ar w.prog f t [] (kP w.prog)).1.length)=(Ar w.prog f t [] (kP w.prog)).1.take (min (Xn w i).length (Ar w.prog f t [] (kP w.prog)).1.length):=by
  obtain⟨E,pl,g⟩:=h.tale i;obtain⟨k,o⟩:=aab (a:=w.prog) m t []<|kP w.prog;have d:=tot_safe g;rw[<-said_tot h g]at d;have j:∃n,tot (Fw w) i pl E=(nH w.prog n<|kP w.prog).2:=by
    by_cases l:1<=E
    · obtain⟨n,c,-,a,-⟩:=g.run l;exact⟨n,a⟩
    · obtain rfl:E=0:=by omega
      exact⟨0,Z⟩
  obtain⟨n,hn⟩:=j;rw[hn]at d;have q:(Ar w.prog f t []<|kP w.prog).1=(nH w.prog k<|kP w.prog).2:=by rw[o];rfl
  have e:∀a b,a<=b->(nH w.prog a<|kP w.prog).2<+:(nH w.prog b<|kP w.prog).2:=by
    intro a b p;have:=P7 (a:=w.prog) a (b-a)<|kP w.prog;rw[show a+(b-a)=b by omega]at this;rw[this];exact eE _ _
  rw[q];rcases Nat.le_total n k with hnk|hnk
  · exact pre_two (d.trans<|e n k hnk)<|cr _
  · exact pre_two d<|e k n hnk
end Pw
open Go Go.Proofs Go.LX
namespace Pw
open Dk
theorem setP_self{w:oZ}{k:Int}(h:0<=k/\k<w.places.length):ES w k (iq w k)=w:=by
  have:=(pAt_eq h).2.2;unfold ES;have e:w.places.set k.toNat (iq w k)=w.places:=by
    apply List.ext_getElem?;intro i;rw[fg];by_cases a:k.toNat=i
    · subst a;rw[if_pos rfl,if_pos (kn.1 this).1,this]
    · rw[if_neg a]
  rw[e]
def Ul(w:oZ):List Hap->oZ×List Int
 |[]=>(w,[])
 |x::l=>let v:=if(fU w x).2=0 then(fU w x).1 else w;((Ul v l).1,(fU w x).2::(Ul v l).2)
theorem runL_cons(w:oZ)(x:Hap)(l:List Hap):Ul w (x::l)=((Ul (if(fU w x).2=0 then(fU w x).1 else w) l).1,(fU w x).2::(Ul (if(fU w x).2=0 then(fU w x).1 else w) l).2):=rfl
end Pw
open Go Go.Proofs Go.LX
namespace Pw
open Dk
def Cv(x:ky):Hap:=⟨x.kind,x.place,x.co,x.n⟩
def NL(x:Nr):fq:=⟨x.cos,x.d.safe,x.d.wait,x.up⟩
def uA(w:oZ):aZ:=⟨w.prog,w.places.map NL,w.bR⟩
theorem idx_map{α β:Type}(f:α->β)(l:List α)(k:Int):idx (l.map f) k=(idx l k).map f:=by
 unfold idx;split<;>simp
theorem g_at{w:oZ}{k:Int}(h:0<=k/\k<w.places.length):idx (uA w).places k=aj (NL (iq w k)):=by
 show idx (w.places.map NL) k=_;rw[idx_map,(pAt_eq h).1];rfl
theorem g_set(w:oZ)(k:Int)(x:Nr):(⟨w.prog,(uA w).places.set k.toNat (NL x),w.bR⟩:aZ)=uA (ES w k x):=by
 unfold uA ES;simp only[List.map_set]
theorem Um{w:oZ}(h:WR w){k:Int}(a:On k):0<=k/\k<w.places.length:=by
 have:=h.many;have:=a.1;have:=a.2;omega
theorem Un{d:iB}(h:iP d=0):d.wait.length<=60000:=by
 have:=(Dk.wM h).1;omega
theorem put_wait(d:iB)(r:Rec):(wQ d r).1.wait.length<=60000:=by
 unfold wQ putT;repeat' split
 all_goals first|(show([]:Str).length<=60000;simp)|(simp only[bc,bq,eA];omega)
theorem note_g{w:oZ}(h:WR w){k:Int}(g:On k){r:Rec}(j:Qm r){N:Nat}(hN:60002<=N):
    vw N (uA w) k r=aj ((o7 (iq w k) r).2,uA (ES w k (o7 (iq w k) r).1)):=by
  have a:=Um h g;have hp:=h.at g;have l:=Un hp.disk;have i:=put_wait (iq w k).d r;have f:uA w=uA (ES w k<|iq w k):=by rw[setP_self a]
  unfold vw o7;rw[g_at a];simp only[bnd];rw[next_eq N V];simp only[bnd];by_cases c:(iD (iq w k).cos r).2=0
  · rw[dF (show¬(iD (NL (iq w k)).cos r).2≠0 from fun h=>h c),cond_false,if_neg (show¬(iD (iq w k).cos r).2≠0 from fun h=>h c)];show(IB N (iq w k).d r).bind _=_;rw[put_eq N hN _ r V j];simp only[bnd];unfold Ka;by_cases b:(wQ (iq w k).d r).2=0
    · rw[dF (show¬(wQ (iq w k).d r).2≠0 from fun h=>h b),cond_false,if_neg (show¬(wQ (iq w k).d r).2≠0 from fun h=>h b)];show(Lr N (wQ (iq w k).d r).1).bind _=_;rw[sync_eq N hN _ V];simp only[bnd];by_cases e:(Gv (wQ (iq w k).d r).1).2=0
      · rw[dF (show¬(Gv (wQ (iq w k).d r).1).2≠0 from fun h=>h e),cond_false,if_neg (show¬(Gv (wQ (iq w k).d r).1).2≠0 from fun h=>h e)];rw[<-g_set,List.set_set];rfl
      · rw[dT (show(Gv (wQ (iq w k).d r).1).2≠0 from e),cond_true,if_pos e,<-f]
    · rw[dT (show(wQ (iq w k).d r).2≠0 from b),cond_true,if_pos b,<-f]
  · rw[dT (show(iD (NL (iq w k)).cos r).2≠0 from c),cond_true,if_pos c,<-f];rfl
theorem tear_g{w:oZ}(h:WR w){k:Int}(f:On k){r:Rec}(g:Qm r)(n:Int){N:Nat}(hN:60002<=N):
    I1 N (uA w) k r n=aj ((QF (iq w k) r n).2,uA (ES w k (QF (iq w k) r n).1)):=by
  have a:=Um h f;have hp:=h.at f;have j:=Un hp.disk;have i:=put_wait (iq w k).d r;have e:uA w=uA (ES w k<|iq w k):=by rw[setP_self a]
  unfold I1 QF;rw[g_at a];simp only[bnd];rw[next_eq N V];simp only[bnd];by_cases c:(iD (iq w k).cos r).2=0
  · rw[dF (show¬(iD (NL (iq w k)).cos r).2≠0 from fun h=>h c),cond_false,if_neg (show¬(iD (iq w k).cos r).2≠0 from fun h=>h c)];show(IB N (iq w k).d r).bind _=_;rw[put_eq N hN _ r V g];simp only[bnd];unfold Kg;by_cases b:(wQ (iq w k).d r).2=0
    · rw[dF (show¬(wQ (iq w k).d r).2≠0 from fun h=>h b),cond_false,if_neg (show¬(wQ (iq w k).d r).2≠0 from fun h=>h b)];show(IZ N (wQ (iq w k).d r).1 _).bind _=_;rw[crash_eq N hN _ _ V];simp only[bnd];rw[<-g_set];rfl
    · rw[dT (show(wQ (iq w k).d r).2≠0 from b),cond_true,if_pos b,<-e]
  · rw[dT (show(iD (NL (iq w k)).cos r).2≠0 from c),cond_true,if_pos c,<-e];rfl
theorem send_g(w:oZ)(m:fJ):BF (uA w) m=aj (uA ⟨w.prog,w.places,Gx w.bR m⟩):=by
  unfold BF;show(OB w.bR m).bind _=_;rw[wSend];simp only[bnd];unfold Gx;by_cases b:dN w.bR=0
  · rw[if_neg (show¬dN w.bR≠0 from fun h=>h b)];by_cases a:dN [m]=0
    · rw[if_neg (show¬dN [m]≠0 from fun h=>h a),if_neg (show¬(dN w.bR≠0\/dN [m]≠0) by simp[b,a])];rw[dT rfl,cond_true];rfl
    · rw[if_pos (show dN [m]≠0 from a),if_pos (show(dN w.bR≠0\/dN [m]≠0)from .inr a)];rw[dF a,cond_false]
  · rw[if_pos (show dN w.bR≠0 from b),if_pos (show(dN w.bR≠0\/dN [m]≠0)from .inl b)];rw[dF b,cond_false]
theorem offer_g(w:oZ)(k:Int)(c:Co)(a:kr (c.aJ+1)):FU (uA w) k c=aj (uA ⟨w.prog,w.places,Gx w.bR (R9 k c)⟩):=by
 unfold FU;rw[jN a,send_g];rfl
theorem Qa{x:Nr}(h:iP x.d=0){N:Nat}(hN:60002<=N):nZ N (⟨(NL x).safe,(NL x).wait⟩:iB)=aj ((Qn x.d).1,mo x.d,0):=by
 show nZ N x.d=_;have:=Un h;rw[aak N hN _ V];unfold Ug;rw[if_neg (show¬iP x.d≠0 from fun e=>e h)];rfl
theorem any_find{α:Type}{p:α->Bool}{l:List α}:(l.findIdx? p).isSome=l.any p:=by
  induction l with
  |nil=>rfl
  |cons x l ih=>
    rw[List.findIdx?_cons,List.any_cons];cases p x
    · simp[ih]
    · simp
theorem had_g{x:Nr}(h:iP x.d=0)(i e:Int){N:Nat}(hN:60002<=N):PM N (NL x) i e=aj (hadP x i e):=by
 unfold PM hadP;rw[Qa h hN];simp only[bnd,bj];rw[UA (fun r:Rec=>(ab ((r.kind:Int)=4)&&ab ((r.co:Int)=i))&&ab ((e:Int)<=r.aJ)) (fun n=>aj (ab ((0:Int)<=n))) (mo x.d) (fun n r b a=>by
  unfold Kc;rw[show idx (mo x.d) (n:Int)=aj r by unfold idx;rw[if_pos V,bj];exact a];rfl)]
 rw[<-any_find];cases hf:(mo x.d).findIdx? (fun r:Rec=>(ab ((r.kind:Int)=4)&&ab ((r.co:Int)=i))&&ab ((e:Int)<=r.aJ))with
 |none=>rfl
 |some n=>simp only[pB];rw[dT V]
end Pw
open Go Go.Proofs Go.LX
namespace Pw
open Dk
theorem nn{x:Int}(h:x=0):¬x≠0:=fun e=>e h
theorem find_g(a:List Co)(i:Int):(qH a i=aj (-1)/\oI i a=none)\/∃(n:Int) (c:Co),qH a i=aj n/\oI i a=aj c/\idx a n=aj c/\0<=n:=by
  rw[findEq];unfold oI;cases h:a.findIdx? (fun x=>ab (x.kv=i))with
  |none=>
    refine .inl ⟨Z,?_⟩;rw[oy]at h;rw[List.find?_eq_none];intro x g;rw[h x g];simp
  |some n=>
    obtain⟨b,f,e⟩:=List.findIdx?_eq_some_iff_getElem.1 h;refine .inr ⟨n,a[n],Z,?_,?_,by omega⟩
    · rw[List.find?_eq_some_iff_getElem];exact⟨f,n,b,Z,fun j d=>by simpa using e j d⟩
    · unfold idx;rw[if_pos V,bj];exact bh b
theorem slice_g{w:oZ}(h:WR w){k:Int}{c:Co}{fuel:Int}(y:1<=fuel/\fuel<=2000){N:Nat}(hN:60002<=N):
    ∃r,JQ N (uA w) k c fuel=aj (r,(tu w.prog k c fuel).2,uA w)/\((tu w.prog k c fuel).2=0->r=(tu w.prog k c fuel).1):=by
  have hp:=h.code;have u:=ng hp;unfold JQ tu;by_cases j:0<=c.offered
  · rw[dT j,cond_true,if_pos j];exact⟨_,Z,fun _=>rfl⟩
  · rw[dF j,cond_false,if_neg j];show∃r,(rA N w.prog c.image).bind _=_/\_;rw[DY _ _ V];simp only[bnd];unfold IY;by_cases f:(dO w.prog c.image).2=0
    · rw[dF (nn f),cond_false,if_neg (nn f)];have i:=img_of hp f;have st:=P8 i.st;generalize (dO w.prog c.image).1=s at i st⊢;have go:∀t:LX.State,t=wake s->t.status=0->(wake s).status=0->∃r,wH N (uA w) fuel c t.frames t.cells t.status t.bM=aj (r,0,uA w)/\r=(⟨2,c.kv,c.aJ,0,(tZ w.prog fuel.toNat [] 0<|wake s).2.1,wP<|dM (tZ w.prog fuel.toNat [] 0<|wake s).1⟩:Rec):=by
        intro t v x n;unfold wH;show∃r,(RH N w.prog t fuel).bind _=_/\_;rw[Wy _ _ _ V,v];rw[if_neg (nn hp),if_neg (nn (EP.2 st)),if_neg V,if_neg (nn n)];simp only[bnd];rw[dF V,cond_false];show∃r,(EK N w.prog _).bind _=_/\_;rw[Uc _ _ V,if_neg (nn hp),if_neg (nn (EP.2 (P6 u fuel.toNat [] 0 _ st zq3).1))];exact⟨_,Z,Z⟩
      by_cases b:s.status=3
      · have a:wake s=⟨s.frames,s.cells,0,0⟩:=by unfold wake;rw[if_pos b]
        by_cases d:0<=s.bM/\s.bM<3/\s.bM≠k
        · rw[dT b,cond_true,show((ab ((0:Int)<=s.bM)&&ab ((s.bM:Int)<3))&&ab ((s.bM:Int)≠k))=ba by
            rw[dT d.1,dT d.2.1,dT d.2.2];rfl,cond_true,if_pos ⟨b,d⟩]
          exact⟨_,Z,fun _=>rfl⟩
        · rw[dT b,cond_true,show((ab ((0:Int)<=s.bM)&&ab ((s.bM:Int)<3))&&ab ((s.bM:Int)≠k))=aq by
            simp only[Bool.and_eq_false_iff,decide_eq_false_iff_not];by_cases p:0<=s.bM
            · by_cases o:s.bM<3
              · exact .inr fun q=>d ⟨p,o,q⟩
              · exact .inl<|.inr o
            · exact .inl (.inl p),cond_false,if_neg (fun e=>d e.2)]
          show∃r,(PQ w.prog s).bind _=_/\_;rw[ZV,if_neg (nn hp),if_neg (nn (EP.2 i.st)),if_neg (show¬s.status≠3 from fun e=>e b)];simp only[bnd];rw[dF V,cond_false,if_neg (nn (by rw[a]))];obtain⟨r,m,l⟩:=go ⟨s.frames,s.cells,0,0⟩ a.symm Z (by rw[a]);exact⟨r,m,fun _=>l⟩
      · have a:wake s=s:=by unfold wake;rw[if_neg b]
        rw[dF b,cond_false,if_neg (fun e=>b e.1)];by_cases g:s.status=0
        · rw[if_neg (nn (by rw[a];exact g))];obtain⟨r,m,l⟩:=go s a.symm g (by rw[a];exact g);exact⟨r,m,fun _=>l⟩
        · rw[if_pos (show(wake s).status≠0 by rw[a];exact g)];unfold wH;show∃r,(RH N w.prog s fuel).bind _=_/\_;rw[Wy _ _ _ V];rw[if_neg (nn hp),if_neg (nn (EP.2 i.st)),if_neg V,if_pos g];exact⟨_,Z,fun e=>absurd e zq3⟩
    · rw[dT (show(dO w.prog c.image).2≠0 from f),cond_true,if_pos f];exact⟨_,Z,fun _=>rfl⟩
theorem co_of{w:oZ}(h:WR w){k:Int}(b:On k){c:Co}(a:c∈(iq w k).cos):coOk c:=(h.at b).good.1.ok c a
theorem img_I64{p:List bu}(hp:Jc p=0){l:List Int}(h:(dO p l).2=0):∀x∈l,kr x:=(img_b (ng hp) (img_of hp h)).1
def Is(o:Option (Int×aZ))(q:oZ×Int):Prop:=∃v,o=aj (q.2,uA v)/\(q.2=0->v=q.1)
theorem Is.mk(v:oZ)(e:Int):Is (aj (e,uA v)) (v,e):=⟨v,rfl,fun _=>rfl⟩
theorem Is.err{v u:oZ}{e:Int}(h:e≠0):Is (aj (e,uA v)) (u,e):=⟨v,rfl,fun a=>absurd a h⟩
theorem Is.pair{o:Option (Int×aZ)}{q:oZ×Int}(h:Is o q):Is (o.bind fun y=>aj (y.1,y.2)) q:=by
 obtain⟨v,rfl,a⟩:=h;exact⟨v,Z,a⟩
def runK(w:oZ)(b a m:Int)(c:Co)(fuel:Int):oZ×Int:=
 if fuel<1\/2000<fuel then(w,3)else
 if(tu w.prog a c fuel).2≠0 then(w,(tu w.prog a c fuel).2)else
 if b=9 then(ES w a (QF (iq w a) (tu w.prog a c fuel).1 m).1,(QF (iq w a) (tu w.prog a c fuel).1 m).2)else
 if(o7 (iq w a) (tu w.prog a c fuel).1).2≠0 then(w,(o7 (iq w a) (tu w.prog a c fuel).1).2)else
 if(tu w.prog a c fuel).1.kind=3 then(⟨w.prog,(ES w a (o7 (iq w a) (tu w.prog a c fuel).1).1).places,Gx w.bR (R9 a ⟨c.kv,c.aJ,c.image,(tu w.prog a c fuel).1.place⟩)⟩,0)else(ES w a (o7 (iq w a) (tu w.prog a c fuel).1).1,0)
theorem runW_eq(w:oZ)(x:Hap):runW w x=match oI x.co (iq w x.place).cos with
 |none=>(w,5)
 |some c=>runK w x.kind x.place x.n c (if x.kind=9 then 2000 else x.n):=rfl
theorem note_log{x:Nr}{r:Rec}(h:(o7 x r).2=0):(iD x.cos r).2=0/\(o7 x r).1.cos=(iD x.cos r).1:=by
  unfold o7 at h⊢;by_cases a:(iD x.cos r).2=0
  · rw[if_neg (nn a)]at h⊢;by_cases c:(wQ x.d r).2=0
    · rw[if_neg (nn c)]at h⊢;by_cases b:(Gv (wQ x.d r).1).2=0
      · rw[if_neg (nn b)];exact⟨a,Z⟩
      · rw[if_pos b]at h;exact absurd h b
    · rw[if_pos c]at h;exact absurd h c
  · rw[if_pos a]at h;exact absurd h a
theorem next3_idx{a:List Co}{r:Rec}{c:Co}{n:Int}(h:(iD a r).2=0)(u:r.kind=3)(o:Dk.Good a)(hn:idx a n=aj c)(s:c.kv=r.co):idx (iD a r).1 n=aj ⟨c.kv,c.aJ,c.image,r.place⟩:=by
  have b:0<=n/\a[n.toNat]? =aj c:=by
    unfold idx at hn;split at hn
    · exact⟨by assumption,hn⟩
    · cases hn
  unfold iD at h⊢;by_cases l:gV a=0
  · rw[if_neg (nn l)]at h⊢;by_cases f:gU r=0
    · rw[if_neg (nn f)]at h⊢;rcases Uh r a with⟨e1,e2,-⟩|⟨k,c',e1,e2,e3,e4⟩
      · exfalso;rw[oy]at e2;have:=e2 c<|fp b.2;simp[s]at this
      · have m:k=n.toNat:=by
          have p:=o.up;unfold Up at p;rw[List.pairwise_iff_getElem]at p;have g:=Mh e3;have i:=Mh b.2;have d:=bh g;have e:=bh i;rw[e3]at d;rw[b.2]at e;have d:=osi d;have e:=osi e;rcases Nat.lt_trichotomy k n.toNat with hlt|heq|hgt
          · have:=p k n.toNat g i hlt;rw[<-d,<-e]at this;omega
          · exact heq
          · have:=p n.toNat k i g hgt;rw[<-d,<-e]at this;omega
        subst m;have j:c'=c:=by rw[b.2]at e3;exact(osi e3).symm
        subst j;rw[e1]at h⊢;simp only at h⊢;rw[if_neg (show¬(r.kind=1\/r.kind=4) by omega)]at h⊢;split at h
        · simp at h
        · rename_i t;rw[if_neg t];rw[if_neg (show¬r.kind=5 by omega),if_neg (show¬r.kind=2 by omega)]at h⊢;split at h
          · simp at h
          · rename_i q;rw[if_neg q];simp only;rw[<-XO r a n.toNat c' ⟨c'.kv,c'.aJ,c'.image,r.place⟩ o.up e3 e4 e4];unfold idx;rw[if_pos b.1];exact nL b.2
    · rw[if_pos f]at h;exact absurd h f
  · rw[if_pos l]at h;exact absurd h l
theorem runK_g{w:oZ}(h:WR w){x:ky}(e:On x.place){n:Int}{c:Co}(p:c∈(iq w x.place).cos)(hn:idx (iq w x.place).cos n=aj c)(fuel:Int){N:Nat}(hN:60002<=N):
    Is (DL N (uA w) (NL (iq w x.place)) n x fuel) (runK w x.kind x.place x.n c fuel):=by
  have d:=Um h e;have f:=co_of h e p;unfold DL runK;by_cases j:fuel<1\/2000<fuel
  · rw[show(ab ((fuel:Int)<1)||ab ((2000:Int)<fuel))=ba by simpa using j,cond_true,if_pos j];exact .mk _ _
  · rw[show(ab ((fuel:Int)<1)||ab ((2000:Int)<fuel))=aq by simpa using j,cond_false,if_neg j];show Is ((idx (iq w x.place).cos n).bind _) _;rw[hn];simp only[bnd];obtain⟨r,q,o⟩:=slice_g h (k:=x.place) (c:=c) (fuel:=fuel) V hN;rw[q];simp only[bnd];show Is (GZ N x n r.kind r.co r.aJ r.place r.says r.image (tu w.prog x.place c fuel).2 w.prog (uA w).places w.bR) _;unfold GZ;by_cases b:(tu w.prog x.place c fuel).2=0
    · rw[dF (nn b),cond_false,if_neg (nn b)];have m:=slice_ok h.code f (r:=r) (fuel:=fuel) (k:=x.place) (by rw[o b,<-b]);rw[<-o b];show Is (bif ab ((x.kind:Int)=9)then(I1 N (uA w) x.place r x.n).bind _ else(vw N (uA w) x.place r).bind _) _;by_cases l:x.kind=9
      · rw[dT l,cond_true,if_pos l,tear_g h e m.w x.n hN];simp only[bnd];exact .mk _ _
      · rw[dF l,cond_false,if_neg l,note_g h e m.w hN];simp only[bnd];by_cases a:(o7 (iq w x.place) r).2=0
        · rw[dF (nn a),cond_false,if_neg (nn a)];by_cases i:r.kind=3
          · rw[dT i,cond_true,if_pos i];have g:0<=x.place/\x.place<(ES w x.place (o7 (iq w x.place) r).1).places.length:=by unfold ES;simp only[cp];exact d
            rw[g_at g];simp only[bnd];rw[pAt_set _ d d,if_pos rfl];show Is ((idx (o7 (iq w x.place) r).1.cos n).bind _) _;rw[(note_log a).2,next3_idx (note_log a).1 i (h.at e).good.1 hn m.co.symm];simp only[bnd];rw[offer_g _ _ _ (Kq (by have:=f.2.2;simp only;omega))];simp only[bnd];exact .mk _ _
          · rw[dF i,cond_false,if_neg i];show Is (aj ((0:Int),uA<|ES w x.place (o7 (iq w x.place) r).1)) _;exact .mk _ _
        · rw[dT (show(o7 (iq w x.place) r).2≠0 from a),cond_true,if_pos a];exact .err a
    · rw[dT (show(tu w.prog x.place c fuel).2≠0 from b),cond_true,if_pos b];exact .mk _ _
theorem run_g{w:oZ}(h:WR w){x:ky}(d:On x.place){N:Nat}(hN:60002<=N):Is (PW N (uA w) x) (runW w (Cv x)):=by
  have b:=Um h d;rw[runW_eq];unfold PW;rw[g_at b];simp only[bnd];show Is ((qH (iq w x.place).cos x.co).bind _) _;rcases find_g (iq w x.place).cos x.co with⟨e1,e2⟩|⟨n,c,e1,e2,e3,e4⟩
  · rw[e1];simp only[bnd];rw[dT V,cond_true];show Is _ (match oI x.co (iq w x.place).cos with|none=>_|some c=>_);rw[e2];exact .mk _ _
  · rw[e1];simp only[bnd];rw[dF (show¬n<0 by omega),cond_false];show Is _ (match oI x.co (iq w x.place).cos with|none=>_|some c=>runK w x.kind x.place x.n c (if x.kind=9 then 2000 else x.n));rw[e2];have e:=(F8 e2).2;by_cases a:x.kind=9
    · rw[dT a,cond_true,if_pos a];exact runK_g h d e e3 _ hN
    · rw[dF a,cond_false,if_neg a];exact runK_g h d e e3 _ hN
end Pw
open Go Go.Proofs Go.LX
namespace Pw
open Dk
theorem resend_g{w:oZ}(h:WR w){x:ky}(e:On x.place):Is (GY (uA w) x) (XP w (Cv x)):=by
  have b:=Um h e;unfold GY;rw[g_at b];simp only[bnd];show Is ((qH (iq w x.place).cos x.co).bind _) (match oI x.co (iq w x.place).cos with|none=>_|some c=>if c.offered<0 then(w,7)else(⟨w.prog,w.places,Gx w.bR<|R9 x.place c⟩,0));rcases find_g (iq w x.place).cos x.co with⟨e1,e2⟩|⟨n,c,e1,e2,e3,e4⟩
  · rw[e1,e2];simp only[bnd];rw[dT V,cond_true];exact .mk _ _
  · rw[e1,e2];simp only[bnd];rw[dF (show¬n<0 by omega),cond_false];show Is ((idx (iq w x.place).cos n).bind _) _;rw[e3];simp only[bnd];by_cases a:c.offered<0
    · rw[dT a,cond_true,if_pos a];exact .mk _ _
    · have d:=co_of h e (F8 e2).2;rw[dF a,cond_false,if_neg a,offer_g _ _ _ (Kq (by have:=d.2.2;omega))];exact .mk _ _
theorem up_g(x:Nr):(NL x).up=x.up:=rfl
theorem WM{w:oZ}{N:Nat}(hN:60002<=N){l:List fJ}{m:fJ}{e:Int}(h:WR ⟨w.prog,w.places,l⟩)(b:aao m):
  Is (yg N (uA w) (l,m,e) ba) (⟨w.prog,w.places,l⟩,0)/\
  Is (yg N (uA w) (l,m,e) aq) (ES ⟨w.prog,w.places,l⟩ m.jy (o7 (iq ⟨w.prog,w.places,l⟩ m.jy) ⟨5,m.co,m.aJ-1,0,[],[]⟩).1,(o7 (iq ⟨w.prog,w.places,l⟩ m.jy) ⟨5,m.co,m.aJ-1,0,[],[]⟩).2):=by
 obtain⟨m1,m2,c,d,-⟩:=b;refine⟨.mk ⟨w.prog,w.places,l⟩ 0,?_⟩;unfold yg;rw[cond_false,jN (Kq (by simp only;omega))];show Is ((vw N (uA ⟨w.prog,w.places,l⟩) m.jy _).bind _) _;rw[note_g h m2 (JW V c (by simp only;omega) V (fun x a=>by cases a) (fun x a=>by cases a)) hN];exact .mk _ _
theorem hear_g{w:oZ}(h:WR w)(i:Int)(t:Bool){N:Nat}(hN:60002<=N):Is (MV N (uA w) i t) (hearW w i t):=by
  unfold MV hearW;show Is ((IA w.bR i t).bind _) _;rw[wTake,if_neg (nn ((Jh _).2 ⟨h.mlen,h.mok⟩))];by_cases f:i<0\/(w.bR.length:Int)<=i
  · rw[if_pos f,if_pos f];exact .mk _ _
  · rw[if_neg f,if_neg f];simp only[bnd];have p:i.toNat<w.bR.length:=by omega
    have o:w.bR[i.toNat]? =aj w.bR[i.toNat]:=bh p;have a:w.bR[i.toNat]∈w.bR:=cx p;generalize w.bR[i.toNat]=m at o a;rw[o];simp only[Option.getD_some];have b:=h.mok m a;have j:=Um h b.2.1;rw[dF V,cond_false,g_at j];simp only[bnd];rw[up_g];by_cases k:(iq w m.jy).up=aq
    · rw[k,if_pos rfl];exact .mk _ _
    · rw[if_neg k];have r:(iq w m.jy).up=true:=by simpa using k
      rw[r];simp only[dI,cond_false];have d:WR ⟨w.prog,w.places,if t=ba then w.bR else w.bR.take i.toNat++w.bR.drop (i.toNat+1)⟩:=by
        cases t
        · exact h.drop i.toNat
        · exact h
      generalize (if t=ba then w.bR else w.bR.take i.toNat++w.bR.drop (i.toNat+1))=l at d⊢;have hp:iq ⟨w.prog,w.places,l⟩ m.jy=iq w m.jy:=rfl;cases ht:m.taken with
      |true=>
        simp only[cond_true,if_true];show Is ((qH (iq w m.jy).cos m.co).bind _) (match oI m.co (iq ⟨w.prog,w.places,l⟩ m.jy).cos with|none=>_|some c=>_);rw[hp];rcases find_g (iq w m.jy).cos m.co with⟨e1,e2⟩|⟨n,c,e1,e2,e3,e4⟩
        · rw[e1,e2];simp only[bnd];rw[dT V,cond_true];exact(WM hN d b).1
        · rw[e1,e2];simp only[bnd];rw[dF (show¬n<0 by omega),cond_false];show Is ((idx (iq w m.jy).cos n).bind _) _;rw[e3];simp only[bnd];rw[jN (Kq (by have:=b.2.2.2.1;omega))];by_cases g:c.aJ≠m.aJ-1\/c.offered≠m.from_
          · rw[show(ab ((c.aJ:Int)≠(m.aJ-1))||ab ((c.offered:Int)≠m.from_))=ba by simpa using g,if_pos g];exact(WM hN d b).1
          · rw[show(ab ((c.aJ:Int)≠(m.aJ-1))||ab ((c.offered:Int)≠m.from_))=aq by simpa using g,if_neg g];exact(WM hN d b).2
      |false=>
        simp only[cond_false,cM,if_false];rw[had_g (h.at b.2.1).disk _ _ hN];simp only[bnd];rw[hp];cases hh:hadP (iq w m.jy) m.co m.aJ with
        |true=>
          simp only[dI,cond_false,if_true];unfold AX;show Is ((BF (uA ⟨w.prog,w.places,l⟩) _).bind _) _;rw[send_g];exact .mk _ _
        |false=>
          simp only[ir,cond_true,cM,if_false];show Is ((vw N (uA ⟨w.prog,w.places,l⟩) m.jy _).bind _) _;rw[note_g d b.2.1 (JW V b.2.2.1 (by have:=b.2.2.2.1;omega) V (fun x q=>by cases q) (img_I64 h.code (h.mimg m a ht))) hN];simp only[bnd];rw[hp];by_cases e:(o7 (iq w m.jy) ⟨4,m.co,m.aJ,0,[],m.image⟩).2=0
          · rw[dF (nn e),cond_false,if_neg (nn e)];unfold AX;show Is ((BF (uA<|ES ⟨w.prog,w.places,l⟩ m.jy _) _).bind _) _;rw[send_g];exact .mk _ _
          · rw[dT (show(o7 (iq w m.jy) ⟨4,m.co,m.aJ,0,[],m.image⟩).2≠0 from e),cond_true,if_pos e];exact .err e
theorem imgs_loop{N:Nat}(hN:60002<=N)(a:aZ)(k:Unit->Option (Int×aZ)):∀(l:List Co) (i:Int),
    gW (fun j(x:Co)s c=>(rA N a.prog x.image).bind fun q=>wF a c q.2) k i l ()=if Kr a.prog l≠0 then aj (Kr a.prog l,a)else k ()
  |[],i=>by rw[Uv];simp[Kr]
  |x::l,i=>by
    rw[yK,DY _ _ V];simp only[bnd];unfold wF;by_cases h:(dO a.prog x.image).2=0
    · rw[dF (nn h),cond_false];have b:=imgs_loop hN a k l<|i+1;unfold wF at b;rw[b,show Kr a.prog (x::l)=Kr a.prog l by rw[Kr,if_neg (nn h)]]
    · rw[dT (show(dO a.prog x.image).2≠0 from h),cond_true,show Kr a.prog (x::l)=(dO a.prog x.image).2 by rw[Kr,if_pos h],if_pos h]
theorem boot_g{w:oZ}(h:WR w){k:Int}(m:On k){N:Nat}(hN:60002<=N):Is (MW N (uA w) k) (bootW w k):=by
  have c:=Um h m;have l:=(h.at m).disk;unfold MW bootW;rw[g_at c];simp only[bnd];rw[up_g];by_cases e:(iq w k).up=ba
  · rw[e,if_pos rfl];exact .mk _ _
  · have o:(iq w k).up=false:=by simpa using e
    rw[if_neg e,o,cond_false,Qa l hN];simp only[bnd];rw[dF V,cond_false,replay_eq N V,if_neg (show¬120<(mo (iq w k).d).length by have:=(dOk l).len;omega)];simp only[bnd];by_cases a:(jG [] (mo (iq w k).d)).2=0
    · rw[dF (nn a),cond_false,if_neg (nn a),bj];rw[upto_eachI (g:=fun j(x:Co)s f=>(rA N (uA w).prog x.image).bind fun q=>wF (uA w) f q.2) (jG [] (mo (iq w k).d)).1 (fun i x s f n=>by
        unfold IC;rw[kL,n];rfl)]
      rw[imgs_loop hN (uA w)];show Is (if Kr w.prog (jG []<|mo (iq w k).d).1≠0 then _ else _) _;by_cases b:Kr w.prog (jG [] (mo (iq w k).d)).1=0
      · rw[if_neg (nn b),if_neg (nn b)];unfold IE;have:=g_set w k ⟨(jG []<|mo (iq w k).d).1,(Qn (iq w k).d).1,ba⟩;show Is (aj ((0:Int),(⟨w.prog,(uA w).places.set k.toNat<|NL ⟨(jG []<|mo (iq w k).d).1,(Qn (iq w k).d).1,ba⟩,w.bR⟩:aZ))) _;rw[this];exact .mk _ _
      · rw[if_pos b,if_pos b];exact .mk _ _
    · rw[dT (show(jG [] (mo (iq w k).d)).2≠0 from a),cond_true,if_pos a];exact .mk _ _
theorem begin_g{w:oZ}(h:WR w){k i:Int}(a:On k){N:Nat}(hN:60002<=N):Is (JO N (uA w) k i) (aar w k i):=by
  have b:=Um h a;have e:=(h.at a).disk;unfold JO aar;by_cases c:i=k
  · subst c;rw[dF zq3,cond_false,if_neg zq3,g_at b];simp only[bnd];rw[Qa e hN];simp only[bnd,bj];rw[UA (fun r:Rec=>ab ((r.kind:Int)=1)) (fun n=>xU N (uA w) i i (ab ((0:Int)<=n))) (mo (iq w i).d) (fun n r l g=>by
      unfold Gc;rw[kL,g];rfl)]
    rw[<-any_find];cases hf:(mo (iq w i).d).findIdx? (fun r:Rec=>ab ((r.kind:Int)=1))with
    |some n=>
      simp only[pB,if_true];rw[dT V];exact .mk _ _
    |none=>
      simp only[Option.isSome_none,cM,if_false];unfold Gd xU;rw[cond_false];show Is ((Vs w.prog).bind _) _;rw[vm_New_eq,if_neg (nn h.code)];simp only[bnd];rw[dF V,cond_false];show Is ((EK N w.prog<|kP w.prog).bind _) _;have j:=TZ<|ng h.code;rw[Uc _ _ V,if_neg (nn h.code),if_neg (nn (EP.2 j))];simp only[bnd];rw[dF V,cond_false,note_g h a (JW V a V V (fun x f=>by cases f) (img_b (ng h.code) (begin_img h.code)).1) hN];exact .mk _ _
  · rw[dT (show i≠k from c),cond_true,if_pos c];exact .mk _ _
end Pw
open Go Go.Proofs Go.LX
namespace Pw
open Dk
theorem step6_g{w:oZ}(h:WR w){x:ky}(i:1<=x.kind/\x.kind<=9/\x.kind≠4/\x.kind≠5/\x.kind≠6){N:Nat}(hN:60002<=N):Is (pV N x (uA w) ba) (fU w (Cv x)):=by
  have f:fU w (Cv x)=if x.place<0\/(w.places.length:Int)<=x.place then(w,5)else
      if x.kind=8 then bootW w x.place else
      if(iq w x.place).up=aq then(w,7)else
      if x.kind=1 then aar w x.place x.co else
      if x.kind=3 then XP w (Cv x)else
      if x.kind=7 then(ES w x.place ⟨[],(iq w x.place).d,aq⟩,0)else runW w (Cv x):=by
    unfold fU;rw[if_neg (show¬((Cv x).kind=4\/(Cv x).kind=5) by simp only[Cv];omega),if_neg (show¬(Cv x).kind=6 by simp only[Cv];omega),if_neg (show¬((Cv x).kind<1\/9<(Cv x).kind) by simp only[Cv];omega)];rfl
  rw[f];unfold pV;rw[cond_true];have g:((uA w).places.length:Int)=w.places.length:=by unfold uA;simp
  rw[g];by_cases c:x.place<0\/(w.places.length:Int)<=x.place
  · rw[show(ab ((x.place:Int)<0)||ab (((w.places.length:Int):Int)<=x.place))=ba by simpa using c,if_pos c];exact .mk _ _
  · rw[show(ab ((x.place:Int)<0)||ab (((w.places.length:Int):Int)<=x.place))=aq by simpa using c,if_neg c,cond_false];have j:=h.many;have hp:On x.place:=⟨by omega,by omega⟩;by_cases e:x.kind=8
    · rw[dT e,if_pos e];exact(boot_g h hp hN).pair
    · rw[dF e,if_neg e,cond_false,g_at (Um h hp)];simp only[bnd];rw[up_g];cases hu:(iq w x.place).up with
      |false=>exact .mk _ _
      |true=>
        simp only[dI,cond_false,mD,if_false];by_cases k1:x.kind=1
        · rw[dT k1,if_pos k1];exact(begin_g h hp hN).pair
        · rw[dF k1,if_neg k1,cond_false];by_cases a:x.kind=3
          · rw[dT a,if_pos a];exact(resend_g h hp).pair
          · rw[dF a,if_neg a,cond_false];by_cases b:x.kind=7
            · rw[dT b,if_pos b];have:=g_set w x.place ⟨[],(iq w x.place).d,aq⟩;show Is (aj ((0:Int),(⟨w.prog,(uA w).places.set x.place.toNat<|NL ⟨[],(iq w x.place).d,aq⟩,w.bR⟩:aZ))) _;rw[this];exact .mk _ _
            · rw[dF b,if_neg b];exact(run_g h hp hN).pair
theorem step45_g{w:oZ}(h:WR w)(x:ky)(a:x.kind=4\/x.kind=5){N:Nat}(hN:60002<=N):Is (qK N (uA w) x) (fU w (Cv x)):=by
  have c:fU w (Cv x)=hearW w x.n (decide<|x.kind=5):=by unfold fU;rw[if_pos (show((Cv x).kind=4\/(Cv x).kind=5)from a)];rfl
  have b:qK N (uA w) x=nI N x (uA w) true:=by
    unfold qK;rcases a with h4|h5
    · rw[dT h4,cond_true]
    · rw[dF (show¬x.kind=4 by omega),dT h5,cond_false,cond_true]
  rw[c,b];unfold nI;rw[cond_true,dT (show x.kind≠6 by omega),cond_true];exact(hear_g h _ _ hN).pair
theorem step_g{w:oZ}(h:WR w)(x:ky){N:Nat}(hN:60002<=N):Is (qK N (uA w) x) (fU w (Cv x)):=by
  by_cases a:x.kind=4\/x.kind=5
  · exact step45_g h x a hN
  · by_cases b:x.kind=6
    · have d:fU w (Cv x)=if x.n<0\/(w.bR.length:Int)<=x.n then(w,5)else(⟨w.prog,w.places,w.bR.take x.n.toNat++w.bR.drop (x.n.toNat+1)⟩,0):=by
        unfold fU;rw[if_neg (show¬((Cv x).kind=4\/(Cv x).kind=5)from a),if_pos (show(Cv x).kind=6 from b)];rfl
      have g:qK N (uA w) x=nI N x (uA w) true:=by
        unfold qK;rw[dF (show¬x.kind=4 by omega),dF (show¬x.kind=5 by omega),dT b,cond_false,cond_false]
      rw[d,g];unfold nI;rw[cond_true,dF (show¬x.kind≠6 by omega),cond_false];show Is ((IA w.bR x.n aq).bind _) _;rw[wTake,if_neg (nn ((Jh _).2 ⟨h.mlen,h.mok⟩))];unfold Kh;by_cases c:x.n<0\/(w.bR.length:Int)<=x.n
      · rw[if_pos c,if_pos c];exact .mk _ _
      · rw[if_neg c,if_neg c];exact .mk ⟨w.prog,w.places,w.bR.take x.n.toNat++w.bR.drop (x.n.toNat+1)⟩ 0
    · have g:qK N (uA w) x=nI N x (uA w) false:=by
        unfold qK;rw[dF (show¬x.kind=4 by omega),dF (show¬x.kind=5 by omega),dF b,cond_false,cond_false]
      rw[g];unfold nI;rw[cond_false];by_cases i:1<=x.kind/\x.kind<=9
      · have f:=step6_g h (x:=x) V hN;have:x.kind=1\/x.kind=2\/x.kind=3\/x.kind=7\/x.kind=8\/x.kind=9:=by omega
        rcases this with e|e|e|e|e|e<;>(rw[e];simp only[show ab ((1:Int)=1)=ba from rfl,show ab ((2:Int)=1)=aq from rfl,show ab ((2:Int)=2)=ba from rfl,show ab ((3:Int)=1)=aq from rfl,show ab ((3:Int)=2)=aq from rfl,show ab ((3:Int)=3)=ba from rfl,show ab ((7:Int)=1)=aq from rfl,show ab ((7:Int)=2)=aq from rfl,show ab ((7:Int)=3)=aq from rfl,show ab ((7:Int)=7)=ba from rfl,show ab ((8:Int)=1)=aq from rfl,show ab ((8:Int)=2)=aq from rfl,show ab ((8:Int)=3)=aq from rfl,show ab ((8:Int)=7)=aq from rfl,show ab ((8:Int)=8)=ba from rfl,show ab ((9:Int)=1)=aq from rfl,show ab ((9:Int)=2)=aq from rfl,show ab ((9:Int)=3)=aq from rfl,show ab ((9:Int)=7)=aq from rfl,show ab ((9:Int)=8)=aq from rfl,show ab ((9:Int)=9)=ba from rfl,cond_true,cond_false];exact f)
      · have d:fU w (Cv x)=(w,4):=by
          unfold fU;rw[if_neg (show¬((Cv x).kind=4\/(Cv x).kind=5)from a),if_neg (show¬(Cv x).kind=6 from b),if_pos (show(Cv x).kind<1\/9<(Cv x).kind by simp only[Cv];omega)]
        rw[d,dF (show¬x.kind=1 by omega),dF (show¬x.kind=2 by omega),dF (show¬x.kind=3 by omega),dF (show¬x.kind=7 by omega),dF (show¬x.kind=8 by omega),dF (show¬x.kind=9 by omega)];exact .mk _ _
theorem imgs_each{p:List bu}{N:Nat}(hN:60002<=N):∀l:List Co,each (Dw N p) Iz l ()=aj (Kr p l)
  |[]=>rfl
  |x::l=>by
    rw[gD];have a:=imgs_each (p:=p) hN l;unfold Dw at a⊢;rw[DY _ _ V];simp only[bnd];by_cases h:(dO p x.image).2=0
    · rw[dF (nn h),cond_false,a,Kr,if_neg (nn h)]
    · rw[dT (show(dO p x.image).2≠0 from h),cond_true,Kr,if_pos h]
theorem plc_g(p:List bu)(x:Nr)(g:x.d.wait.length<=9223372036854775807){N:Nat}(hN:60002<=N):JK N p (NL x)=aj (A8 p x):=by
  unfold JK A8;show(vk N x.d).bind _=_;rw[Dk.LW N hN _ g];simp only[bnd];by_cases b:iP x.d=0
  · rw[dF (nn b),cond_false,if_neg (nn b),up_g];cases hu:x.up with
    |false=>
      show(bif ab ((0:Int)<(x.cos.length:Int))then _ else _)=aj (if x.cos=[]then 0 else 4);by_cases a:x.cos=[]
      · rw[a,if_pos rfl];rfl
      · rw[if_neg a,dT (by have:=pZ.2 a;omega)];rfl
    |true=>
      simp only[dI,cond_false,mD,if_false];show(bif ab ((0:Int)<(x.d.wait.length:Int))then _ else _)=_;by_cases a:x.d.wait=[]
      · rw[a,if_neg zq3];rw[dF zq3,cond_false,Qa b hN];simp only[bnd];rw[replay_eq N V,if_neg (show¬120<(mo x.d).length by have:=(dOk b).len;omega)];simp only[bnd];by_cases f:(jG [] (mo x.d)).2=0
        · rw[dF (nn f),cond_false,if_neg (nn f),coSame];simp only[bnd];show(bif !decide ((jG []<|mo x.d).1=x.cos)then _ else _)=_;by_cases c:(jG [] (mo x.d)).1=x.cos
          · rw[dT c,if_neg (fun e=>e c)];exact imgs_each hN x.cos
          · rw[dF c,if_pos c];rfl
        · rw[dT (show(jG [] (mo x.d)).2≠0 from f),cond_true,if_pos f]
      · rw[if_pos a,dT (by have:=pZ.2 a;omega),cond_true]
  · rw[dT (show iP x.d≠0 from b),cond_true,if_pos b]
theorem aat{w:aZ}{N:Nat}(hN:60002<=N):∀l:List fJ,each (wD N w) Bn l ()=aj (Ns w.prog l)
  |[]=>rfl
  |m::l=>by
    rw[gD];have a:=aat (w:=w) hN l;generalize each (wD N w) Bn l=F at a⊢;unfold wD Dx Ns;cases ht:m.taken with
    |true=>exact a
    |false=>
      rw[cond_false,DY _ _ V,if_neg zq3];simp only[bnd];by_cases h:(dO w.prog m.image).2=0
      · rw[dF (nn h),cond_false,a,if_neg (nn h)]
      · rw[dT (show(dO w.prog m.image).2≠0 from h),cond_true,if_pos h]
theorem plcs_each{w:aZ}{N:Nat}(hN:60002<=N)(k:Unit->Option Int):∀l:List Nr,(∀x∈l,x.d.wait.length<=9223372036854775807)->each (uD N w) k (l.map NL) ()=if O9 w.prog l≠0 then aj (O9 w.prog l)else k ()
  |[],_=>by simp[O9,qN]
  |x::l,hw=>by
    rw[ck,gD];have a:=plcs_each (w:=w) hN k l fun y b=>hw y<|bk _ b;generalize each (uD N w) k (l.map NL)=F at a⊢;unfold uD;rw[plc_g _ _ (hw x zq3) hN];simp only[bnd];by_cases h:A8 w.prog x=0
    · rw[dF (nn h),cond_false,a,show O9 w.prog (x::l)=O9 w.prog l by rw[O9,if_neg (nn h)]]
    · rw[dT (show A8 w.prog x≠0 from h),cond_true,show O9 w.prog (x::l)=A8 w.prog x by rw[O9,if_pos h],if_pos h]
def Wts(w:oZ):Prop:=∀x∈w.places,x.d.wait.length<=9223372036854775807
theorem WR.wts{w:oZ}(h:WR w):Wts w:=fun x a=>by have:=Un (h.pl x a).disk;omega
theorem check_g{w:oZ}(d:Wts w){N:Nat}(hN:60002<=N):Cc N (uA w)=aj (DZ w):=by
  unfold Cc DZ;show(sG w.prog).bind _=_;rw[Wt];simp only[bnd];by_cases c:Jc w.prog=0
  · rw[dF (nn c),cond_false,if_neg (nn c)];have e:((uA w).places.length:Int)=w.places.length:=by unfold uA;simp
    rw[e];by_cases f:w.places.length=3
    · rw[dF V,cond_false,if_neg V];show(bif ab ((dN w.bR:Int)≠0)then aj (dN w.bR)else _)=_;by_cases b:dN w.bR=0
      · rw[dF (nn b),cond_false,if_neg (nn b)];show each (uD N<|uA w) _ (w.places.map NL) ()=_;rw[plcs_each hN _ _ d];unfold Gb;show(if O9 w.prog w.places≠0 then _ else each (wD N<|uA w) _ w.bR ())=_;rw[aat hN];by_cases a:O9 w.prog w.places=0
        · rw[if_neg (nn a),if_neg (nn a)];rfl
        · rw[if_pos a,if_pos a];rfl
      · rw[dT (show dN w.bR≠0 from b),cond_true,if_pos b]
    · rw[dT V,cond_true,if_pos V]
  · rw[dT (show Jc w.prog≠0 from c),cond_true,if_pos c]
end Pw
open Go Go.Proofs Go.LX
namespace Pw
open Dk
theorem args_each(F:Unit->Option (List bu)):∀l:List Ins,(∀c∈l,c.args.length<=3)->each AP (EZ F) l ()=F ()
 |[],_=>rfl
 |c::l,h=>by
  rw[gD];have a:=args_each F l fun x b=>h x<|bk _ b;generalize each AP (EZ F) l=G at a⊢;unfold AP;have:=h c zq3;rw[qY V V];exact a
theorem code_copy{p:List bu}(h:p.length<=4/\∀x∈p,tN x/\∀c∈x.code,c.args.length<=3):Hg p=aj p:=by
 unfold Hg;rw[qY V V];simp only[bnd,bj];have b:∀(m i:Nat),i+m=p.length->upto (vg p) (AQ p) (i:Int) m ()=aj p:=by
  intro m;induction m with
  |zero=>intro i _;rfl
  |succ m ih=>
   intro i g;have d:i<p.length:=by omega
   show vg p (i:Int) () (upto (vg p) (AQ p) ((i:Int)+1) m)=_;have a:=ih (i+1) V;rw[show((i+1:Nat):Int)=(i:Int)+1 from rfl]at a;generalize upto (vg p) (AQ p) ((i:Int)+1) m=nx at a⊢;unfold vg;have e:=h.2 p[i]<|cx d;have f:=e.1;unfold tN at f;rw[xg d];simp only[bnd];rw[qY V V];simp only[bnd];rw[args_each _ _ e.2];exact a
 simpa using b p.length 0 V
theorem chk_good{p:List bu}(h:Jc p=0):p.length<=4/\∀x∈p,tN x/\∀c∈x.code,c.args.length<=3:=by
 obtain⟨y,a,b⟩:=check_tot p;rw[Wt]at a;exact b (by rw[<-osi a];exact h)
theorem copy_g{w:oZ}(h:WR w):BD (uA w)=aj (uA w):=by
 have g:=chk_good h.code;unfold BD;show(Hg w.prog).bind _=_;rw[code_copy g];simp only[bnd];have c:=h.many;show(clone 80<|w.places.map NL).bind _=_;rw[qY (by simp;omega) (by simp;omega)];simp only[bnd];show(Dy w.bR).bind _=_;rw[wCopy h.mlen (fun m c=>(h.mok m c).2.2.2.2.2)];simp only[bnd];unfold J9;rw[bj];have b:∀(m i:Nat),i+m=(w.places.map NL).length->upto vv (AV w.prog w.bR) (i:Int) m (w.places.map NL)=aj (uA w):=by
  intro m;induction m with
  |zero=>intro i _;rfl
  |succ m ih=>
   intro i n;have f:i<(w.places.map NL).length:=by omega
   show vv (i:Int) (w.places.map NL) (upto vv (AV w.prog w.bR) ((i:Int)+1) m)=_;have a:=ih (i+1) V;rw[show((i+1:Nat):Int)=(i:Int)+1 from rfl]at a;generalize upto vv (AV w.prog w.bR) ((i:Int)+1) m=nx at a⊢;unfold vv;rw[xg f];have j:i<w.places.length:=by simpa using f
   have e:(w.places.map NL)[i]=NL w.places[i]:=by simp
   have hp:=h.pl w.places[i]<|cx j;have l:=(Dk.wM hp.disk).1;simp only[bnd];rw[show(w.places.map NL)[i].cos=w.places[i].cos by rw[e];rfl,show(w.places.map NL)[i].safe=w.places[i].d.safe by rw[e];rfl,show(w.places.map NL)[i].wait=w.places[i].d.wait by rw[e];rfl];rw[coCopy hp.good.1.len (fun x k=>(hp.good.1.ok x k).2.2.2.2.2.2.2),qY V V];simp only[bnd];rw[qY V V];simp only[bnd,bj];rw[List.set_set,show(⟨w.places[i].cos,w.places[i].d.safe,w.places[i].d.wait,(w.places.map NL)[i].up⟩:fq)=(w.places.map NL)[i] by rw[e];rfl,List.set_getElem_self];exact a
 simpa using b (w.places.map NL).length 0 V
def zW:aZ:=⟨[],[],[]⟩
theorem do_of{w:oZ}(f:Wts w)(x:ky){N:Nat}(hN:60002<=N){q:oZ×Int}(d:WR w->Is (qK N (uA w) x) q):Ja N (uA w) x=aj (if DZ w≠0 then(zW,DZ w)else if q.2≠0 then(zW,q.2)else(uA q.1,0)):=by
  unfold Ja;rw[check_g f hN];simp only[bnd];by_cases b:DZ w=0
  · rw[dF (nn b),cond_false,if_neg (nn b)];have h:=(w_iff w).1 b;rw[copy_g h];simp only[bnd];obtain⟨v,e,c⟩:=d h;rw[e];simp only[bnd];by_cases a:q.2=0
    · rw[dF (nn a),cond_false,if_neg (nn a),c a]
    · rw[dT (show q.2≠0 from a),cond_true,if_pos a];rfl
  · rw[dT (show DZ w≠0 from b),cond_true,if_pos b];rfl
theorem do_g{w:oZ}(a:Wts w)(x:ky){N:Nat}(hN:60002<=N):Ja N (uA w) x=aj (if DZ w≠0 then(zW,DZ w)else if(fU w (Cv x)).2≠0 then(zW,(fU w (Cv x)).2)else(uA (fU w (Cv x)).1,0)):=do_of a x hN fun h=>step_g h x hN
theorem runs_loop{N:Nat}(hN:60002<=N):∀(l:List ky) (a:List Int) (w:oZ),WR w->a.length+l.length<=120->
    each (AY N) AZ l (a,w.prog,(uA w).places,w.bR)=aj (uA (Ul w (l.map Cv)).1,a++(Ul w (l.map Cv)).2,0)
  |[],a,w,_,_=>by simp[qN,AZ,Ul,uA]
  |x::l,a,w,h,hl=>by
    rw[gD];simp only[bq]at hl;have c:=fun s w h g=>runs_loop hN l s w h g;generalize each (AY N) AZ l=F at c⊢;unfold AY;show(BD<|uA w).bind _=_;rw[copy_g h];simp only[bnd];obtain⟨v,i,f⟩:=step_g h x hN;rw[i];simp only[bnd];unfold E8;rw[ck,runL_cons];have d:Room 8 a [(fU w (Cv x)).2]:=Room.mk (by simp;omega) (by simp;omega);by_cases b:(fU w (Cv x)).2=0
    · rw[dT b,cond_true,if_pos b,jN d,f b];have e:=(step_ev h (jo Z b:fU w (Cv x)=((fU w<|Cv x).1,0))).1;have:=c (a++[(fU w (Cv x)).2]) _ e (by simp;omega);rw[show(uA (fU w (Cv x)).1).prog=(fU w (Cv x)).1.prog from rfl,show(uA (fU w (Cv x)).1).bR=(fU w (Cv x)).1.bR from rfl,this,cf];rfl
    · rw[dF b,cond_false,if_neg b,jN d];rw[c (a++[(fU w (Cv x)).2]) w h (by simp;omega),cf];rfl
theorem runs_g{w:oZ}(c:Wts w)(l:List ky){N:Nat}(hN:60002<=N):PX N (uA w) l=aj (if DZ w≠0 then(zW,[],DZ w)else if 120<l.length then(zW,[],2)else(uA (Ul w (l.map Cv)).1,(Ul w (l.map Cv)).2,0)):=by
  unfold PX;rw[check_g c hN];simp only[bnd];by_cases a:DZ w=0
  · rw[dF (nn a),cond_false,if_neg (nn a)];by_cases b:120<l.length
    · rw[dT V,cond_true,if_pos b];rfl
    · have h:=(w_iff w).1 a;rw[dF V,cond_false,if_neg b,copy_g h];simp only[bnd];exact(runs_loop hN l [] w h (by simp;omega)).trans (by rw[cF])
  · rw[dT (show DZ w≠0 from a),cond_true,if_pos a];rfl
end Pw
open Go Go.Proofs Go.LX
namespace Pw
open Dk
theorem hN:60002<=NN:=by decide
end Pw
open Go Go.Proofs Go.LX
namespace Pw
open Dk
theorem grow1(l:List fq)(h:l.length<=2)(x:fq):Room 80 l [x]:=Room.mk (by simp;omega) (by simp;omega)
theorem new_g(p:List bu){N:Nat}(hN:4<=N):K8 N p=aj (if Jc p≠0 then(zW,Jc p)else(uA (LY p),0)):=by
  unfold K8;rw[Wt];simp only[bnd];by_cases h:Jc p=0
  · rw[dF (nn h),cond_false,if_neg (nn h),code_copy (chk_good h)];simp only[bnd];obtain⟨k,rfl⟩:∃k,N=k+4:=⟨N-4,by omega⟩;simp only[again,GK];rw[dT zq1,cond_true,jN (grow1 _ zq3 _),gI,dT zq1,cond_true,jN (grow1 _ zq3 _),gI,dT zq1,cond_true,jN (grow1 _ zq3 _),gI,dF zq1,cond_false];rfl
  · rw[dT (show Jc p≠0 from h),cond_true,if_pos h];rfl
def clip(x:ky):ky:=if(x.kind=2\/x.kind=9)/\100<x.n then⟨x.kind,x.place,x.co,100⟩else x
def Xo(w:oZ)(x:Hap):oZ:=if(fU w x).2≠0 then w else(fU w x).1
theorem play_cons(w:oZ)(x:Hap)(l:List Hap):QG w (x::l)=QG (Xo w x) l:=by
 unfold Xo
 conv=>lhs;unfold QG
 split<;>rfl
theorem next_wr{w:oZ}(h:WR w)(x:Hap):WR (Xo w x):=by
  unfold Xo;by_cases a:(fU w x).2=0
  · rw[if_neg (nn a)];exact(step_ev h (w':=(fU w x).1)<|jo Z a).1
  · rw[if_pos a];exact h
def tri(w:oZ):List bu×List fq×List fJ:=(w.prog,(uA w).places,w.bR)
theorem do_r{w:oZ}(h:WR w)(x:ky){N:Nat}(hN:60002<=N):Ja N (uA w) x=aj (if(fU w (Cv x)).2≠0 then(zW,(fU w (Cv x)).2)else(uA (fU w (Cv x)).1,0)):=by
 rw[do_g h.wts x hN,if_neg (nn ((w_iff w).2 h))]
theorem play_each{body:ky->(List bu×List fq×List fJ)->((List bu×List fq×List fJ)->Option Bool)->Option Bool}{k:(List bu×List fq×List fJ)->Option Bool}(b:∀x w a,WR w->body x (tri w) a=a (tri (Xo w (Cv (clip x))))):∀(l:List ky) (w:oZ),WR w->each body k l (tri w)=k (tri (QG w (l.map (Cv∘clip))))
 |[],w,h=>rfl
 |x::l,w,h=>by
  rw[gD,b x w _ h,play_each b l _ (next_wr h _),ck,play_cons];rfl
theorem clip_t{x:ky}(h:(x.kind=2\/x.kind=9)/\100<x.n):((ab (x.kind=2)||ab (x.kind=9))&&ab ((100:Int)<x.n))=ba/\clip x=⟨x.kind,x.place,x.co,100⟩:=by
 refine⟨?_,if_pos h⟩;obtain⟨a,b⟩:=h;rw[dT b,Bool.and_true];rcases a with a|a<;>simp[a]
theorem clip_f{x:ky}(h:¬((x.kind=2\/x.kind=9)/\100<x.n)):((ab (x.kind=2)||ab (x.kind=9))&&ab ((100:Int)<x.n))=aq/\clip x=⟨x.kind,x.place,x.co,x.n⟩:=by
 refine⟨?_,if_neg h⟩;rw[ie];intro a;simp only[cN,dt,decide_eq_true_eq]at a;exact h a
theorem safe_ok{d:iB}(h:iP d=0):iP ⟨d.safe,[]⟩=0/\mo ⟨d.safe,[]⟩=wR d:=by
 have k:=dOk h;have a:Eh (wR d):=fun r b=>k.good r<|k.pre.subset b;have c:(wR d).length<=120:=Nat.le_trans k.pre.length_le k.len;have e:=aal (w:=[]) a c (by have:=k.room;rw[<-k.safe];simp;omega);rw[<-k.safe]at e;exact⟨e.1,(dOk e.1).still Z⟩
theorem P5(e k:Int)(v:List Int):∀m:List (Int×List Int),lk e (yG k v m)=if e=k then aj v else lk e m
  |[]=>rfl
  |p::r=>by
    unfold yG;by_cases b:k=p.1
    · rw[if_pos b];show(if e=p.1 then aj v else lk e r)=if e=k then aj v else if e=p.1 then aj p.2 else lk e r
      rw[<-b];by_cases a:e=k
      · rw[if_pos a,if_pos a]
      · rw[if_neg a,if_neg a,if_neg a]
    · rw[if_neg b];show(if e=p.1 then aj p.2 else lk e (yG k v r))=if e=k then aj v else if e=p.1 then aj p.2 else lk e r
      rw[P5 e k v r];by_cases a:e=p.1
      · rw[if_pos a,if_pos a,if_neg V]
      · rw[if_neg a,if_neg a]
def putR(i:Int)(m:List (Int×List Int))(r:Rec):List (Int×List Int):=if r.co=i/\r.kind=2 then yG r.aJ (((lk r.aJ m).getD [])++r.says) m else m
theorem putR_at(i:Int)(m:List (Int×List Int))(r:Rec)(e:Nat):(lk (e:Int) (putR i m r)).getD []=(lk (e:Int) m).getD []++says i e [r]:=by
  rw[Uj];unfold putR;by_cases h:r.co=i/\r.kind=2
  · rw[if_pos h,P5];by_cases a:(e:Int)=r.aJ
    · rw[if_pos a,if_pos ⟨h.2,h.1,a.symm⟩,a];rfl
    · rw[if_neg a,if_neg (fun q=>a q.2.2.symm),du]
  · rw[if_neg h,if_neg (fun q=>h ⟨q.2.1,q.1⟩),du]
theorem putL_at(i:Int)(e:Nat):∀(l:List Rec) (m:List (Int×List Int)),(lk (e:Int) (l.foldl (putR i) m)).getD []=(lk (e:Int) m).getD []++says i e l
 |[],m=>by simp[says]
 |r::l,m=>by
  rw[sy,putL_at i e l,putR_at,cf,<-Pb];rfl
theorem aau(i:Int)(e:Nat){l:List Rec}(h:∀r∈l,r.says.length<=40):(says i e l).length<=40*l.length:=by
 induction l with
 |nil=>simp[says]
 |cons r l ih=>
  have a:r::l=[r]++l:=rfl;have d:=ih fun x b=>h x<|bk _ b;have c:=h r zq3;rw[a,Pb,bc,Uj,bc,dk];split<;>simp<;>omega
theorem recs_each(i:Int)(a:List (Int×List Int)->Option (List Int×Int)):∀(l:List Rec) (m:List (Int×List Int)) (B:Nat),(∀e:Nat,((lk (e:Int) m).getD []).length<=B)->(∀r∈l,r.says.length<=40/\1<=r.aJ)->B+40*l.length<=1000000->
    each (zI i) (DR a) l m=a (l.foldl (putR i) m)
  |[],m,B,_,_,_=>rfl
  |r::l,m,B,hB,hl,hn=>by
    rw[bq]at hn;obtain⟨d,j⟩:=hl r zq3;have f:=recs_each i a l (putR i m r) (B+40) (fun e=>by
      rw[putR_at,bc];have:=aau i e (l:=[r]) (fun x c=>by rw[eV.1 c];exact d);have:=hB e;simp only[dk]at*;omega) (fun x c=>hl x (bk _ c)) V
    rw[gD,sy,<-f];generalize each (zI i) (DR a) l=F;unfold zI DN putR;by_cases h:r.co=i/\r.kind=2
    · obtain⟨n,b⟩:=bs (show 0<=r.aJ by omega);have g:=hB n;rw[<-b]at g;rw[if_pos h,dT h.1,dT h.2,Bool.and_self,cond_true,jN (Room.mk V V)]
    · rw[if_neg h,show(ab (r.co=i)&&ab (r.kind=2))=aq from by rw[ie];intro q;simp only[cN,decide_eq_true_eq]at q;exact h q,cond_false]
def allR(i:Int)(l:List Nr)(m:List (Int×List Int)):List (Int×List Int):=l.foldl (fun m x=>(wR x.d).foldl (putR i) m) m
theorem allR_at(i:Int)(e:Nat):∀(l:List Nr) (m:List (Int×List Int)),(lk (e:Int) (allR i l m)).getD []=(lk (e:Int) m).getD []++l.flatMap fun x=>says i e (wR x.d)
 |[],m=>by simp[allR]
 |x::l,m=>by
  show(lk (e:Int)<|allR i l ((wR x.d).foldl (putR i) m)).getD []=_;rw[allR_at i e l,putL_at,eL,cf]
theorem sLog_good{d:iB}(h:iP d=0):(wR d).length<=120/\∀r∈wR d,r.says.length<=40/\1<=r.aJ:=by
 have k:=dOk h;refine⟨Nat.le_trans k.pre.length_le k.len,fun r a=>?_⟩;have g:=k.good r<|k.pre.subset a;have:=Ue r (by rw[<-rec_eq];exact g.1);exact⟨this.says,this.aJ.1⟩
theorem Xp{N:Nat}(hN:60002<=N)(i:Int)(k:List (Int×List Int)->Option (List Int×Int)):∀(l:List Nr) (m:List (Int×List Int)) (B:Nat),(∀x∈l,iP x.d=0)->(∀e:Nat,((lk (e:Int) m).getD []).length<=B)->B+4800*l.length<=900000->
  each (wI N i) k (l.map NL) m=k (allR i l m)
 |[],m,B,_,_,_=>rfl
 |x::l,m,B,hl,hB,hn=>by
  rw[bq]at hn;have a:=hl x zq3;obtain⟨g1,g2⟩:=sLog_good a;have h:=Xp hN i k l ((wR x.d).foldl (putR i) m) (B+4800) (fun y g=>hl y (bk _ g)) (fun e=>by
   rw[putL_at,bc];have:=aau i e fun r f=>(g2 r f).1;have:=hB e;omega) V
  rw[ck,gD,show allR i (x::l) m=allR i l ((wR x.d).foldl (putR i) m)from rfl,<-h];generalize each (wI N i) k (l.map NL)=F;unfold wI;obtain⟨b,c⟩:=safe_ok a;rw[show(⟨(NL x).safe,[]⟩:iB)=⟨x.d.safe,[]⟩from rfl,aak N hN _ zq3,Ug,if_neg (nn b)];simp only[bnd];rw[show(Qn ⟨x.d.safe,[]⟩).2=wR x.d from c];exact recs_each i F _ m B hB g2 V
def sumR(m:List (Int×List Int))(n:Nat):List Int:=(qq n).flatMap fun(e:Nat)=>(lk (e:Int) m).getD []
theorem sumR_len(m:List (Int×List Int))(a:∀e:Nat,((lk (e:Int) m).getD []).length<=14400):∀n,(sumR m n).length<=14400*n
 |0=>by simp[sumR]
 |n+1=>by
  unfold sumR;rw[nr,jv,lr,bc];have:=sumR_len m a n;unfold sumR at this;have:=a n;omega
theorem sum_loop(m:List (Int×List Int))(a:∀e:Nat,((lk (e:Int) m).getD []).length<=14400):∀(k n N:Nat),n+k=101->k<N->again (kE m) N (sumR m n,(n:Int))=aj (sumR m 101,0)
 |k,n,0,_,h=>by omega
 |0,n,N+1,h,_=>by
  obtain rfl:n=101:=by omega
  show kE m _ (again (kE m) N)=_;unfold kE;simp only[];rw[dF zq1,cond_false]
 |k+1,n,N+1,h,hN=>by
  have b:=sum_loop m a k (n+1) N V V;show kE m _ (again (kE m) N)=_;generalize again (kE m) N=F at b⊢;unfold kE;simp only[];have d:=sumR_len m a n;have c:=a n;rw[dT V,cond_true,jN (Room.mk V V),gI,<-b];unfold sumR;rw[nr,jv,lr];rfl
theorem scheck_g{w:oZ}(h:WR w){i:Int}(a:0<=i/\i<3){N:Nat}(hN:60002<=N):FZ N (uA w) i=aj 0:=by
 unfold FZ;rw[check_g h.wts hN,(w_iff w).2 h];simp only[bnd];rw[dF zq1,cond_false,dF V,dF V];rfl
theorem said_g{w:oZ}(h:WR w){i:Int}(j:0<=i/\i<3){N:Nat}(hN:60002<=N):zJ N (uA w) i=aj (Xn w i,0):=by
 unfold zJ;rw[scheck_g h j hN];simp only[bnd];rw[dF zq1,cond_false];have f:=h.many;show each (wI N i) (DT N) (w.places.map NL) []=_;rw[Xp hN i _ w.places [] 0 (fun x c=>(h.pl x c).disk) (fun e=>by simp[lk]) V];unfold DT;have a:∀e:Nat,(lk (e:Int)<|allR i w.places []).getD []=w.places.flatMap fun x=>says i e (wR x.d):=fun e=>by rw[allR_at];rfl
 have:=sum_loop (allR i w.places []) (fun e=>by
  rw[a,three f];simp only[eL,rS,bc,eA];have q:=fun k(b:On k)=>sLog_good (h.at b).disk;have l:=fun k(b:On k)=>aau i e fun r g=>((q k b).2 r g).1;have:=l 0 ⟨by omega,by omega⟩;have:=l 1 ⟨by omega,by omega⟩;have:=l 2 ⟨by omega,by omega⟩;have:=(q 0 ⟨by omega,by omega⟩).1;have:=(q 1 ⟨by omega,by omega⟩).1;have:=(q 2 ⟨by omega,by omega⟩).1;omega) 101 0 N Z V
 refine(show again (kE<|allR i w.places []) N ([],0)=_ from this).trans ?_;unfold sumR Xn;simp only[a]
end Pw
open Go Go.Proofs Go.LX
namespace Pw
def hz:List ky:=[⟨1,0,0,0⟩,⟨2,0,0,9⟩,⟨2,0,0,90⟩,⟨2,0,0,90⟩,⟨2,0,0,90⟩,⟨2,0,0,90⟩,⟨5,0,0,0⟩,⟨2,0,0,9⟩,⟨4,0,0,1⟩,⟨4,0,0,0⟩,⟨2,2,0,90⟩]
theorem gone_of{q:List jc}{p:List bu}{w:oZ}(h:oC NN=aj q)(g:uN NN q=aj p)(b:Jc p=0)(c:(Ul (LY p) (hz.map Cv)).2=[0,0,0,0,0,0,0,7,0,0,0])(f:(Ul (LY p) (hz.map Cv)).1=w)(d:zJ NN (uA w) 0=aj ([9,4],0))(e:M3 NN (uA w) 0=aj ([⟨2,2,-1⟩],0)):rE NN=aj true:=by
 unfold rE;rw[h];simp only[bnd];rw[g];simp only[bnd];rw[new_g p zq1,if_neg (nn b)];simp only[bnd];have a:=runs_g (si_new b).wr.wts hz hN;rw[if_neg (nn ((w_iff _).2 (si_new b).wr)),if_neg zq1,c,f]at a;unfold hz at a;rw[a];simp only[bnd];rw[d,e];rfl
noncomputable def qz:List jc:=(qm NN).getD []
noncomputable def pz:List bu:=(uN NN qz).getD []
noncomputable def wz:oZ:=(Ul (LY pz) (hz.map Cv)).1
theorem of_some{α:Type}{o:Option α}{d:α}(h:o.isSome=ba):o=aj (o.getD d):=by cases o with|none=>cases h|some x=>rfl
theorem qz_ok:(qm NN).isSome=true:=zq2
theorem qz_code:(uN NN qz).isSome=true:=zq2
theorem pz_ok:Jc pz=0:=zq2
theorem wz_ran:(Ul (LY pz) (hz.map Cv)).2=[0,0,0,0,0,0,0,7,0,0,0]:=zq2
theorem wz_said:zJ NN (uA wz) 0=aj ([9,4],0):=zq2
theorem wz_held:M3 NN (uA wz) 0=aj ([⟨2,2,-1⟩],0):=zq2
end Pw
theorem gone_ok:rE NN=aj true:=Pw.gone_of (program_p.trans (Pw.of_some Pw.qz_ok)) (Pw.of_some Pw.qz_code) Pw.pz_ok Pw.wz_ran Z Pw.wz_said Pw.wz_held
open Go Go.Proofs Go.LX
namespace Pw
open Dk
theorem told_b{N:Nat}(hN:60002<=N)(x:ky)(w:oZ)(c:(List bu×List fq×List fJ)->Option Bool)(h:WR w):lZ N x (tri w) c=c (tri (Xo w (Cv (clip x)))):=by
  have b:∀y:ky,lY N w.prog (uA w).places w.bR ⟨y.kind,y.place,y.co,0⟩ c y.n=c (tri<|Xo w<|Cv y):=by
    intro y;unfold lY oM;show(Ja N (uA w) y).bind _=_;rw[do_r h y hN];unfold Xo;by_cases a:(fU w (Cv y)).2=0
    · rw[if_neg (nn a),if_neg (nn a)];rfl
    · rw[if_pos a,if_pos a];simp only[bnd];rw[dF a,cond_false];rfl
  unfold lZ tri;simp only[];by_cases f:(x.kind=2\/x.kind=9)/\100<x.n
  · obtain⟨e,d⟩:=clip_t f;rw[e,cond_true,d];exact b ⟨x.kind,x.place,x.co,100⟩
  · obtain⟨e,d⟩:=clip_f f;rw[e,cond_false,d];exact b ⟨x.kind,x.place,x.co,x.n⟩
theorem sixty{α:Type}(b:List α)(c:b.length<=9223372036854775807):∃l,sub? b 0 (min (b.length:Int) 60)=aj l:=by
  rcases Nat.le_total b.length 60 with h|h
  · rw[show min (b.length:Int) 60=((b.length:Nat):Int) by omega];exact⟨_,Sv (a:=0) V V⟩
  · rw[show min (b.length:Int) 60=((60:Nat):Int) by omega];exact⟨_,Sv (a:=0) V V⟩
theorem sub_min{l:List Int}{n:Nat}(h:n<=l.length){k:Int}(c:k=(n:Int)):sub? l 0 k=aj (l.take n):=by
 subst c;have:=Sv (l:=l) (a:=0) (b:=n) V h;rw[List.drop_zero]at this;exact this
theorem again3{β:Type}{body:Int->(Int->Option β)->Option β}{N:Nat}(hN:4<=N){z:Option β}(b:∀(i:Int) a,0<=i/\i<3->body i a=a (i+1))(c:∀a,body 3 a=z):again body N 0=z:=by
 obtain⟨k,rfl⟩:∃k,N=k+4:=⟨N-4,by omega⟩;show body 0 (again body<|k+3)=z;rw[b _ _ V];show body 1 (again body<|k+2)=z;rw[b _ _ V];show body 2 (again body<|k+1)=z;rw[b _ _ V];exact c _
theorem told_round{w:oZ}(h:SI w){f t:Nat}(k:1<=f){s:LX.State}{e:Int}{i:Int}(j:0<=i/\i<3){N:Nat}(hN:60002<=N)(a:Int->Option Bool):
  j5 N w.prog (uA w).places w.bR ((Ar w.prog f t [] (kP w.prog)).1,s,e) i a=a (i+1):=by
 unfold j5;rw[dT V,cond_true];show(zJ N (uA w) i).bind _=_;rw[said_g h.wr j hN];simp only[bnd];rw[dF zq1,cond_false];generalize g:Xn w i=A;generalize d:(Ar w.prog f t [] (kP w.prog)).1=B;have b:=said_told h i (t:=t) k;rw[g,d]at b;have c:min (A.length:Int) (B.length:Int)=((min A.length B.length:Nat):Int):=by omega
 rw[sub_min (n:=min A.length B.length) V c,sub_min (n:=min A.length B.length) V c];simp only[bnd];rw[eqInt,b];simp only[bnd];rw[dT trivial];unfold oL;rw[dI,cond_false,gI V V]
theorem storyTold(a:List bu)(b:List ky)(j:b.length<=9223372036854775807):yu NN a b=aj true:=by
  unfold yu;rw[new_g a zq1];simp only[bnd];by_cases c:Jc a=0
  · rw[if_neg (nn c)];simp only[];rw[dF zq1,cond_false];obtain⟨l,g⟩:=sixty b j;rw[g];simp only[bnd];have d:=si_new c;show each (lZ NN) (oO NN a) l (tri<|LY a)=_;rw[play_each (told_b hN) l _ d.wr];obtain⟨k1,k2⟩:=si_play (l.map<|Cv∘clip) _ d;generalize QG (LY a) (l.map (Cv∘clip))=w at k1 k2;have f:w.prog=a:=k2;subst f;unfold oO tri;simp only[];unfold lX;rw[dI,cond_false,solo_Run_eq _ _ _ zq1,if_neg (nn c),if_neg zq1,gone_ok];simp only[bnd];rw[show((!true)||ab ((0:Int)≠0))=aq from rfl,cond_false];refine again3 zq1 (fun i e h=>told_round k1 zq1 h hN e) fun e=>?_;unfold j5;rw[dF zq1,cond_false]
  · rw[if_pos c];simp only[];rw[dT (show Jc a≠0 from c),cond_true];unfold lX;rw[ir,cond_true,gone_ok];rfl
end Pw
end Go.Proofs.YtodkbibbgakkdaaGreatDoor