/-
  What the law WorldDoes needs of our own library and of the walks, no more.
-/
import Derived.Test.YteijalgmijkphaaGreatDoorWorldDoesTi
set_option linter.unusedSimpArgs false
set_option linter.unusedVariables false
set_option maxRecDepth 10000
set_option maxHeartbeats 4000000
open Go.LX renaming State->Yh
open Bool renaming and_self->oX,eq_false_iff->fx,false_and->ju,false_eq_true->cL,false_or->ml,not_false->eb,not_true->cA,or_false->rr,true_and->gk,true_eq_false->nr,false->aw,true->bd
open Decidable renaming decide->G
open Eq renaming mpr->tc
open Go.Sort.insOuter renaming eq_def->fS
open Int renaming eq_ofNat_of_zero_le->cl,toNat_natCast->ba
open List renaming any_cons->uG,append_assoc->cy,append_nil->kd,drop_zero->fg,eq_nil_of_length_eq_zero->cE,filter_cons->hS,find?_cons->eE,find?_eq_none->sd,find?_some->AM,findIdx?_eq_none_iff->tD,getElem?_eq_getElem->bl,getElem?_eq_some_iff->oy,getElem?_set->fy,getElem_mem->cv,length->O,length_append->bn,length_cons->bw,length_nil->iv,length_pos_iff->mA,length_take->cd,map_cons->cF,mem_append->fi,mem_cons->bs,mem_cons_of_mem->bo,mem_flatMap->pj,mem_of_getElem?->hJ,nil_append->ck,pairwise_cons->dK
open Option renaming bind->ao,bind_some->cG,getD_some->fj,isSome_none->jJ,isSome_some->qv,some->U
namespace Go.Proofs.YteijalgmijkphaaGreatDoor
open Go Go.Proofs Go.LX
namespace Pw
open Dk
theorem lnP_inv(a:Int):∀(p:H uH) (l:H vp) (n:Int),∃b,(FH a p l n).1=l++b/\GoodL b/\(FH a p l n).2.1=n+(O (NO b):Int)/\∃t,DZ 10 p=NO b++t/\((FH a p l n).2.2=0->t=[])
  |[],l,n=>⟨[],by simp[FH],Vd,by simp[FH,NO],[],by simp[DZ,Lib.join_nil,NO],λ_=>rfl⟩
  |[x],l,n=>by
    unfold FH;by_cases h:x=[]
    · rw[Z2 h];subst h;exact⟨[],by simp,Vd,by simp[NO],[],by rw[K7];rfl,λ_=>rfl⟩
    · rw[Z3 h];exact⟨[],by simp,Vd,by simp[NO],x,by rw[K7];rfl,λh=>by simp at h⟩
  |x::y::r,l,n=>by
    unfold FH;by_cases c:(qY x).2=0
    · rw[Z3 V];by_cases e:a<=(O l:Int)
      · rw[Z2 e];exact⟨[],by simp,Vd,by simp[NO],_,Z,λh=>by simp at h⟩
      · rw[Z3 e];obtain⟨b,i,k,j,t,m,g⟩:=lnP_inv a (y::r) (l++[(qY x).1])<|n+(O x:Int)+1;obtain⟨k1,k2,f⟩:=read_ok (s:=x) (r:=(qY x).1) (by rw[<-c]);refine⟨(qY x).1::b,by rw[i];simp,?_,?_,t,?_,g⟩
        · intro z d;rcases bs.1 d with rfl|d
          · exact⟨k1,k2⟩
          · exact k z d
        · rw[j];have:(lineOf (qY x).1)=x:=f.symm;simp only[NO,bn,bw,this];omega
        · rw[Ih,m];have:(lineOf (qY x).1)=x:=f.symm;simp[NO,this]
    · rw[Z2 c];exact⟨[],by simp,Vd,by simp[NO],_,Z,λh=>ZD h c⟩
theorem ln_inv(a:Int)(s:uH):GoodL (ln a s).1/\(ln a s).2.1=(O (NO (ln a s).1):Int)/\∃t,s=NO (ln a s).1++t/\((ln a s).2.2=0->t=[]):=by
 obtain⟨g,c,d,f,t,b,e⟩:=lnP_inv a (mH 10 s) [] 0;rw[ck]at c;rw[Cs]at b;unfold Dk.ln;rw[c];exact⟨d,by rw[f];omega,t,b,e⟩
def sLog(d:gD):H vp:=(ln 120 d.B).1
def sM(d:gD):H vp:=(Wp d).2
structure DOk(d:gD):Prop where
 B:d.B=NO (sLog d)
 good:GoodL (sM d)
 len:(sM d).length<=120
 room:d.B.length+d.z.length<=60000
 pre:sLog d<+:sM d
 whole:(Wp d).1=⟨NO (sM d),[]⟩
 rroom:(NO (sM d)).length<=60000
 still:d.z=[]->sM d=sLog d
theorem dOk{d:gD}(h:lG d=0):DOk d:=by
  obtain⟨l,j⟩:=Dk.uO h;obtain⟨g1,g2,t,c,g⟩:=ln_inv 120 d.B;have i:=g j;subst i;rw[kd]at c;have hl:(O (ln 120 d.B).1:Int)<=120:=(FU 120 d.B).2.2.2 V;obtain⟨k1,k2,u,f,n⟩:=ln_inv (120-(O (ln 120 d.B).1:Int)) d.z;have k:=(FU (120-(O (ln 120 d.B).1:Int)) d.z).2.2.2 V;have a:sM d=(ln 120 d.B).1++(ln (120-(O (ln 120 d.B).1:Int)) d.z).1:=rfl;have b:d.z.take (ln (120-(O (ln 120 d.B).1:Int)) d.z).2.1.toNat=NO (ln (120-(O (ln 120 d.B).1:Int)) d.z).1:=by
    generalize p:NO (ln (120-(O (ln 120 d.B).1:Int)) d.z).1=T at k2 f;rw[k2,ba,f,List.take_left]
  have o:(NO (ln (120-(O (ln 120 d.B).1:Int)) d.z).1).length<=O d.z:=by
    rw[<-b,cd];omega
  refine⟨c,?_,?_,l,?_,?_,?_,?_⟩
  · rw[a];exact λr m=>(fi.1 m).elim (g1 r)<|k1 r
  · rw[a,bn];omega
  · rw[a];exact List.prefix_append _ _
  · show(⟨d.B++d.z.take (ln (120-(O (ln 120 d.B).1:Int)) d.z).2.1.toNat,[]⟩:gD)=_;rw[b,a,Wb,<-c]
  · rw[a,Wb,bn,<-c];omega
  · intro e;rw[a,e];show _++(FH _ (mH 10 []) [] 0).1=_;simp[mH,FH,sLog]
end Pw
open Go Go.Proofs Go.LX
namespace Pw
open Dk
section
variable{α:Type}
theorem VW{R:S1 α}{g:α->H Int}(h:∀l x r,R l=U (x,r)->l=g x++r):∀(n:Nat) (l:H Int) (xs:H α) (r:H Int),jW R n l=U (xs,r)->l=xs.flatMap g++r/\O xs=n
 |0,l,xs,r,e=>by
  have a:U (([]:H α),l)=U (xs,r):=e;cases a;exact⟨Z,Z⟩
 |n+1,l,xs,r,e=>by
  have a:(R l).bind (λq=>ao (jW R n q.2) λb=>U (q.1::b.1,b.2))=U (xs,r):=e;cases h1:R l with
  |none=>rw[h1]at a;cases a
  |some q=>
   rw[h1,cG]at a;cases h2:jW R n q.2 with
   |none=>rw[h2]at a;cases a
   |some b=>
    rw[h2,cG]at a;cases a;obtain⟨k1,k2⟩:=VW h n q.2 b.1 b.2 h2;refine⟨?_,by simp[k2]⟩;rw[h l q.1 q.2 h1,List.flatMap_cons,cy,<-k1]
variable{l:H Int}{x:Int}{r:H Int}
theorem DN(h:Jf l=U (x,r)):l=x::r:=by
 cases l with
 |nil=>cases h
 |cons a l=>cases h;rfl
variable{m:Int}
theorem MK{x:Nat}(h:qO m l=U (x,r)):l=(x:Int)::r/\(x:Int)<=m:=by
  cases l with
  |nil=>cases h
  |cons a l=>
    unfold qO at h;simp only at h;by_cases b:0<=a/\a<=m
    · rw[Z2 b]at h;cases h;rw[Int.toNat_of_nonneg b.1];exact⟨Z,b.2⟩
    · rw[Z3 b]at h;cases h
theorem Ay{α β:Type}{R:S1 α}{f:α->S1 β}{y:β}(h:jg R f l=U (y,r)):∃x a,R l=U (x,a)/\f x a=U (y,r):=by
 unfold jg at h;cases e:R l with
 |none=>rw[e]at h;cases h
 |some q=>rw[e,cG]at h;exact⟨q.1,q.2,Z,h⟩
theorem Mr{x y:α}{l r:H Int}(h:yZ x l=U (y,r)):x=y/\l=r:=by cases h;exact⟨Z,Z⟩
theorem val_inv{x:td}(h:Fl l=U (x,r)):l=[x.h,x.n]++r:=by
 obtain⟨k,d,a,h⟩:=Ay h;obtain⟨n,c,b,h⟩:=Ay h;obtain⟨rfl,rfl⟩:=Mr h;rw[DN a,DN b];rfl
theorem row_inv{x:H td}(h:Bf m l=U (x,r)):l=DE x++r:=by
 obtain⟨k,c,b,h⟩:=Ay h;obtain⟨d,a⟩:=VW (λl x r=>val_inv) k c x r h;rw[(MK b).1,d,<-a];rfl
theorem fr_inv{x:LX.Frame}(h:Pg l=U (x,r)):l=frP x++r:=by
 obtain⟨a,n,f,h⟩:=Ay h;obtain⟨b,k,g,h⟩:=Ay h;obtain⟨c,m,i,h⟩:=Ay h;obtain⟨d,j,e,h⟩:=Ay h;obtain⟨rfl,rfl⟩:=Mr h;rw[DN f,DN g,DN i,row_inv e];rfl
variable{s:Yh}
theorem st_inv(h:YW l=U (s,r)):l=AO s++r:=by
 obtain⟨a,z,v,h⟩:=Ay h;obtain⟨b,A,p,h⟩:=Ay h;obtain⟨n,e,o,h⟩:=Ay h;obtain⟨f,i,y,h⟩:=Ay h;obtain⟨k,u,d,h⟩:=Ay h;obtain⟨c,m,w,h⟩:=Ay h;obtain⟨rfl,rfl⟩:=Mr h;obtain⟨g,t⟩:=VW (λl x r=>fr_inv) n e f i y;obtain⟨q,j⟩:=VW (λl x r=>row_inv) k u c m w;rw[DN v,DN p,(MK o).1,g,(MK d).1,q,<-t,<-j];unfold AO;simp
structure Img(p:List bN)(l:List Int)(s:Yh):Prop where
 un:fP p l=(s,0)
 st:AJ p s
 idem:kv s=s
 eq:l=AO s
variable{p:H bN}
theorem img_of(J:FY p=0)(h:(fP p l).2=0):Img p l (fP p l).1:=by
  have f:fP p l=((fP p l).1,0):=by rw[<-h]
  have a:=f;unfold fP at h;by_cases hl:1200<O l
  · rw[Z2 hl]at h;simp at h
  · rw[Z3 hl]at h;cases e:YW l with
    |none=>rw[e]at h;simp at h
    |some q=>
      obtain⟨s,r⟩:=q;rw[e]at h;cases r with
      |cons x r=>simp at h
      |nil=>
        simp only at h;have d:fP p l=E3 p s:=by unfold fP;rw[Z3 hl,e]
        rw[d]at a⊢;unfold E3 at h a⊢;rw[Z3 V]at h a⊢;by_cases c:S4 p s=0
        · rw[Z3 V]at h a⊢;by_cases b:kv s=s
          · rw[Z2 b]at h a⊢;refine⟨?_,Kr.1 c,b,?_⟩
            · rw[d];unfold E3;rw[Z3 V,Z3 V,Z2 b]
            · have:=st_inv e;rw[kd]at this;exact this
          · rw[Z3 b]at h;simp at h
        · rw[Z2 c]at h;exact ZD h c
theorem img_pack(J:FY p=0)(h:AJ p s):Img p (AO (kv s)) (kv s):=
 ⟨unpack_pack J h,Fc (pQ J) h,IB (h.sw (pQ J)),rfl⟩
theorem valsP_mem{l:H td}(h:x∈G4 l):∃v∈l,x=v.h\/x=v.n:=by
 obtain⟨v,b,a⟩:=pj.1 h;simp at a;exact⟨v,b,a⟩
theorem Hl(h: -2000000000<=x/\x<=2000000000):ky x:=⟨by omega,by omega⟩
variable{n:Nat}
theorem val_b{v:td}(h:lS n v)(hn:n<=24):(-2000000000<=v.h/\v.h<=2000000000)/\ -2000000000<=v.n/\v.n<=2000000000:=by unfold lS at h;omega
theorem row_b{l:H td}(h:∀v∈l,lS n v)(hn:n<=24)(hl:O l<=40):∀x∈DE l,-2000000000<=x/\x<=2000000000:=by
  intro x a;rcases bs.1 a with rfl|a
  · omega
  · obtain⟨v,b,e⟩:=valsP_mem a;have:=val_b (h v b) hn;rcases e with rfl|rfl
    · exact this.1
    · exact this.2
theorem pack_b(J:pg p)(h:AJ p s):∀x∈AO s,ky x:=by
  have W:=h.small J;have Ys:=W.i;have j:=W.j;have w:=h.o;have u:=h.bC;intro x a;refine Hl ?_;unfold AO at a;rcases bs.1 a with rfl|a
  · omega
  rcases bs.1 a with rfl|a
  · omega
  rcases bs.1 a with rfl|a
  · omega
  rcases fi.1 a with a|a
  · obtain⟨f,b,a⟩:=pj.1 a;obtain⟨q,g⟩:=DX h.i f b;have o:=(J.mem g.F).2.2.2;have r:=(aN g.F).1;have v:f.F.toNat<O p:=by
      have:=(aN g.F).2;exact(oy.1 this).1
    have n:=J.many;have D0:=g.at_;unfold wJ at o;have i: -2000000000<=f.y/\f.y<=2000000000:=by
      have e:∀(l:H LX.Frame) (t:Int),t<=40->(∀f∈l,O f.regs<=40)->qN p (O s.j) t l->∀f∈l,0<=f.y/\f.y<40:=by
        intro l;induction l with
        |nil=>intro t _ _ _ f b;cases b
        |cons g l ih=>
          intro t A m d f b;rcases bs.1 b with rfl|b
          · have:=d.2.1;omega
          · exact ih _ (by have:=m g C3;omega) (λz y=>m z (bo _ y)) d.2.2 f b
      have:=e s.i 1 V W.regs h.i f b;omega
    unfold frP at a;rcases bs.1 a with rfl|a
    · omega
    rcases bs.1 a with rfl|a
    · omega
    rcases bs.1 a with rfl|a
    · exact i
    · exact row_b g.vals j (W.regs f b) x a
  · rcases bs.1 a with rfl|a
    · omega
    · obtain⟨c,k,a⟩:=pj.1 a;exact row_b (h.j.2 c k).2 j (by have:=W.fields c k;omega) x a
theorem img_b(J:pg p)(h:Img p l s):(∀x∈l,ky x)/\1<=O l/\O l<=1200:=by
 rw[h.eq];have:=L3<|h.st.small J;refine⟨pack_b J h.st,?_,by omega⟩;unfold AO;simp
def uP(i:Int)(l:H Co):B Co:=l.find? λx=>G (x.x=i)
variable{i:Int}{c:Co}
theorem Vf{l:H Co}(h:uP i l=U c):c.x=i/\c∈l:=by
 have a:=AM h;exact⟨by simpa using a,List.mem_of_find?_eq_some h⟩
theorem IX:∀{l:H Co},(∀x∈l,x.x≠c.x)->uP i (Hg c l)=if i=c.x then U c else uP i l
  |[],_=>by
    unfold Hg uP;rw[eE];by_cases h:i=c.x
    · rw[Z2 h,dT h.symm]
    · rw[Z3 h,dF (λe=>h e.symm)]
  |x::r,hx=>by
    unfold Hg;by_cases a:x.x<c.x
    · rw[Z2 a];have b:=IX (l:=r) λy d=>hx y<|bo _ d;unfold uP at b⊢;rw[eE,eE,b];by_cases h:x.x=i
      · rw[dT h];show U x=_;rw[Z3 (by have:=hx x C3;omega)]
      · rw[dF h]
    · rw[Z3 a];unfold uP;rw[eE];by_cases h:i=c.x
      · rw[Z2 h,dT h.symm]
      · rw[Z3 h,dF (λe=>h e.symm)]
theorem Lr{b:vp}:∀{l:H Co},uP i (Lp b l)=if i=b.s then none else uP i l
  |[]=>by simp[uP,Lp]
  |x::r=>by
    have c:=Lr (b:=b) (l:=r);unfold uP Lp at c⊢;rw[hS];by_cases h:x.x=b.s
    · rw[dF V];simp only[cL,if_false];rw[c,eE];by_cases a:i=b.s
      · rw[Z2 a,Z2 a]
      · rw[Z3 a,Z3 a,dF V]
    · rw[dT h];simp only[if_true];rw[eE,eE,c];by_cases a:x.x=i
      · rw[dT a];show U x=_;rw[Z3 V]
      · rw[dF a]
end
inductive Did (r:vp) (o n:Option Co):Prop
 |begin (h:r.h=1/\r.k=1) (ho:o=none) (hn:n=U ⟨r.s,r.k,r.t,-1⟩)
 |take (h:r.h=4/\r.k≠1) (ho:o=none) (hn:n=U ⟨r.s,r.k,r.t,-1⟩)
 |slice (c:Co) (h:r.h=2) (ho:o=U c) (he:c.k=r.k) (hf:c.E= -1) (hn:n=U ⟨c.x,c.k,r.t,-1⟩)
 |offer (c:Co) (h:r.h=3) (ho:o=U c) (he:c.k=r.k) (hf:c.E= -1) (hx:c.k≠100) (hn:n=U ⟨c.x,c.k,c.t,r.q⟩)
 |gone (c:Co) (h:r.h=5) (ho:o=U c) (he:c.k=r.k) (hf:c.E≠ -1) (hn:n=none)
theorem PF{a:H Co}{r:vp}(h:(oL a r).2=0):(∀i,i≠r.s->uP i (oL a r).1=uP i a)/\Did r (uP r.s a) (uP r.s (oL a r).1)/\eH r=0:=by
  have u:=(next_ok a r h).1;unfold oL at h⊢;by_cases p:gM a=0
  · by_cases m:eH r=0
    · have gr:=JY r m;rw[Z3 (by simpa using p),Z3 (by simpa using m)]at h⊢;have l:∀x∈Lp r a,x.x≠r.s:=λx k=>(VV k).2;have t:Dq r a=uP r.s a:=rfl;cases e:Dq r a with
      |none=>
        rw[e]at h;rw[t]at e;simp only at h⊢;by_cases f:r.h=1\/r.h=4
        · rw[Z2 f]at h⊢;by_cases j:(G (r.k=1) !=G (r.h=1))=bd
          · rw[Z2 j]at h;simp at h
          · rw[Z3 j];simp only;refine⟨λi hi=>?_,?_,m⟩
            · rw[IX l,Z3 hi,Lr,Z3 hi]
            · rw[IX l,Z2 rfl,e];rcases f with f|f
              · refine .begin ⟨f,?_⟩ Z Z;by_cases g:r.k=1
                · exact g
                · exact ZD (by simp[f,g]) j
              · refine .take ⟨f,?_⟩ Z Z;intro g;exact ZD (by simp[f,g]) j
        · rw[Z3 f]at h;simp at h
      |some c=>
        rw[e]at h;rw[t]at e;obtain⟨d,v⟩:=Vf e;simp only at h⊢;by_cases f:r.h=1\/r.h=4
        · rw[Z2 f]at h;simp at h
        · rw[Z3 f]at h⊢;by_cases j:(G (r.k≠c.k)||(G (c.E≠ -1) !=G (r.h=5)))=bd
          · rw[Z2 j]at h;simp at h
          · rw[Z3 j]at h⊢;have g:c.k=r.k:=by
              by_cases g:r.k=c.k
              · exact g.symm
              · exact ZD (by simp[g]) j
            by_cases o:r.h=5
            · rw[Z2 o];simp only;refine⟨λi hi=>by rw[Lr,Z3 hi],?_,m⟩;rw[Lr,Z2 rfl,e];refine .gone c o Z g ?_ Z;intro n;exact ZD (by simp[o,n]) j
            · have n:c.E= -1:=by
                by_cases n:c.E= -1
                · exact n
                · exact ZD (by simp[o,n]) j
              rw[Z3 o]at h⊢;by_cases q:r.h=2
              · rw[Z2 q];simp only;have b:∀x∈Lp r a,x.x≠(⟨c.x,c.k,r.t,c.E⟩:Co).x:=λx k=>by simp only[d];exact l x k
                refine⟨λi hi=>?_,?_,m⟩
                · rw[IX b,Z3 (by simp only[d];exact hi),Lr,Z3 hi]
                · rw[IX b,Z2 (by simp only[d]),e];exact .slice c q Z g n (by rw[n])
              · rw[Z3 q]at h⊢;by_cases k:c.k=100
                · rw[Z2 k]at h;simp at h
                · rw[Z3 k];simp only;have s:r.h=3:=by have:=gr.h;omega
                  have b:∀x∈Lp r a,x.x≠(⟨c.x,c.k,c.t,r.q⟩:Co).x:=λx k=>by simp only[d];exact l x k
                  refine⟨λi hi=>?_,?_,m⟩
                  · rw[IX b,Z3 (by simp only[d];exact hi),Lr,Z3 hi]
                  · rw[IX b,Z2 (by simp only[d]),e];exact .offer c s Z g n k Z
    · rw[Z3 (by simpa using p),Z2 m]at h;exact ZD h m
  · rw[Z2 p]at h;exact ZD h p
end Pw
open Go Go.Proofs Go.LX
namespace Pw
open Dk
structure Hc where
 D:List Co
 d:gD
 up:Bool
deriving DecidableEq
structure DY where
 r:List bN
 m:List Hc
 u:List dW
structure Hap where
 h:Int
 q:Int
 s:Int
 n:Int
theorem regAt_ok{n:Nat}{r:H td}(h:∀v∈r,lS n v)(i:Int):lS n (pY r i):=by
  unfold pY vj;by_cases a:0<=i
  · rw[Z2 a];cases e:r[i.toNat]? with
    |none=>exact .inl ⟨rfl,rfl⟩
    |some v=>exact h v (hJ e)
  · rw[Z3 a];exact .inl ⟨Z,Z⟩
theorem said_b{a:H bN}(g:pg a){s:Yh}(h:AJ a s)(W:s.o=0){t:Yh}{z:Int}{p:Yi}(b:J2 a s=U (t,U z,p)):ky z:=by
  have e:=((J3 g h W b).2.2 Z).2;obtain⟨pre,f,x,c,l,j,i,k⟩:=QT g h W;rw[i]at b;rw[k]at e;unfold mX at b;simp only[e]at b;rw[Z3 V,Z3 V,Z3 V,Z3 V,Z3 V,Z3 V,Z3 V,Z3 V,Z2 trivial]at b;by_cases d:(pY f.regs c.a).h=1
  · rw[Z2 d]at b;have:=regAt_ok j.fr.vals c.a;have:=this.int d;cases b;exact Hl V
  · rw[Z3 d]at b;cases b
theorem run_said{a:H bN}(f:pg a):∀(m:Nat) (b:H Int) (n:Nat) (s:Yh),AJ a s->(∀x∈b,ky x)->∀x∈(xP a m b n s).2.1,ky x
  |0,b,n,s,_,h=>h
  |m+1,b,n,s,W,h=>by
    unfold xP;by_cases g:s.o=0
    · rw[Z3 V];by_cases d:O b=40/\QS a s=9
      · rw[Z2 d];exact h
      · rw[Z3 d];cases e:J2 a s with
        |none=>exact h
        |some q=>
          obtain⟨t,o,p⟩:=q;have i:∀x∈b++o.toList,ky x:=by
            intro x c;rcases fi.1 c with c|c
            · exact h x c
            · cases o with
              |none=>cases c
              |some z=>simp at c;subst c;exact said_b f W g e
          simp only;cases p with
          |true=>exact i
          |false=>exact run_said f m _ _ t (J3 f W g e).1 i
    · rw[Z2 g];exact h
def Y0(m:dW):Prop:=(0<=m.from_/\m.from_<=2)/\(0<=m.y/\m.y<=2)/\(0<=m.s/\m.s<=2)/\(2<=m.k/\m.k<=100)/\(m.G=bd↔m.t=[])/\O m.t<=1200
theorem PB:∀l:H dW,vh AR KJ l ()=0↔∀m∈l,Y0 m
  |[]=>by simp[lM,KJ]
  |m::l=>by
    have f:=PB l;rw[gq];generalize vh AR KJ l=K at f⊢;unfold AR;by_cases c:(0<=m.from_/\m.from_<=2)/\(0<=m.y/\m.y<=2)/\(0<=m.s/\m.s<=2)/\(2<=m.k/\m.k<=100)
    · rw[show(((((((G ((m.from_:Int)<0)||G ((3:Int)<=m.from_))||G ((m.y:Int)<0))||G ((3:Int)<=m.y))||G ((m.s:Int)<0))||G ((3:Int)<=m.s))||G ((m.k:Int)<2))||G ((100:Int)<m.k))=aw by
        simp only[Bool.or_eq_false_iff,decide_eq_false_iff_not];omega,Z1]
      by_cases b:(m.G=bd↔m.t=[])/\O m.t<=1200
      · rw[show((m.G !=G (((O m.t:Int):Int)=0))||G ((1200:Int)<(O m.t:Int)))=aw by
          rw[dF (show¬(1200:Int)<(O m.t:Int) by have:=b.2;omega),rr];by_cases a:m.t=[]
          · rw[b.1.2 a,a];simp
          · have:m.G=false:=by
              cases e:m.G with
              |false=>rfl
              |true=>exact ZD (b.1.1 e) a
            rw[this,dF (λh=>a (cE V))];rfl,Z1,f]
        constructor
        · intro h x d;rcases bs.1 d with rfl|d
          · exact⟨c.1,c.2.1,c.2.2.1,c.2.2.2,b⟩
          · exact h x d
        · exact λh x d=>h x<|bo _ d
      · rw[show((m.G !=G (((O m.t:Int):Int)=0))||G ((1200:Int)<(O m.t:Int)))=bd by
          by_cases g:O m.t<=1200
          · rw[dF (show¬(1200:Int)<(O m.t:Int) by omega),rr];by_cases a:m.t=[]
            · cases e:m.G with
              |true=>exact ZD ⟨⟨λ_=>a,λ_=>e⟩,g⟩ b
              |false=>rw[a];simp
            · cases e:m.G with
              |true=>rw[dF (λh=>a (cE V))];rfl
              |false=>exact ZD ⟨⟨λh=>(Bool.false_ne_true (e.symm.trans h)).elim,λh=>ZD h a⟩,g⟩ b
          · rw[dT (show(1200:Int)<(O m.t:Int) by omega),Bool.or_true],ZW]
        constructor
        · intro h;simp at h
        · intro h;exact ZD (h m C3).2.2.2.2 b
    · rw[show(((((((G ((m.from_:Int)<0)||G ((3:Int)<=m.from_))||G ((m.y:Int)<0))||G ((3:Int)<=m.y))||G ((m.s:Int)<0))||G ((3:Int)<=m.s))||G ((m.k:Int)<2))||G ((100:Int)<m.k))=bd by
        simp only[Bool.or_eq_true,decide_eq_true_eq];omega,ZW]
      constructor
      · intro h;simp at h
      · intro h;have:=h m C3;exact ZD ⟨this.1,this.2.1,this.2.2.1,this.2.2.2.1⟩ c
theorem NA(l:H dW):eG l=0↔O l<=40/\∀m∈l,Y0 m:=by
  unfold eG;by_cases h:O l<=40
  · rw[dF V,Z1,PB];exact⟨λx=>⟨h,x⟩,λx=>x.2⟩
  · rw[dT V,ZW];exact⟨λx=>by simp at x,λx=>ZD x.1 h⟩
def HV(p:H bN):H Co->Int
 |[]=>0
 |c::l=>if(fP p c.t).2≠0 then(fP p c.t).2 else HV p l
theorem imgs_iff(p:H bN):∀l,HV p l=0↔∀c∈l,(fP p c.t).2=0
  |[]=>by simp[HV]
  |c::l=>by
    unfold HV;by_cases h:(fP p c.t).2=0
    · rw[Z3 V,imgs_iff p l];simp[h]
    · rw[Z2 h];simp[h]
def zf(p:H bN)(x:Hc):Int:=
 if lG x.d≠0 then lG x.d else if x.up=aw then(if x.D=[]then 0 else 4)else if x.d.z≠[]then 4 else
 if(ze [] (sM x.d)).2≠0 then(ze [] (sM x.d)).2 else if(ze [] (sM x.d)).1≠x.D then 4 else HV p x.D
structure PlR(p:List bN)(x:Hc):Prop where
 disk:lG x.d=0
 down:x.up=aw->x.D=[]
 z:x.up=bd->x.d.z=[]
 D:x.up=bd->ze [] (sM x.d)=(x.D,0)
 img:∀c∈x.D,(fP p c.t).2=0
theorem plc_iff(p:H bN)(x:Hc):zf p x=0↔PlR p x:=by
  unfold zf;by_cases b:lG x.d=0
  · rw[Z3 V];cases hu:x.up with
    |false=>
      simp only[if_true];by_cases a:x.D=[]
      · rw[Z2 a];exact⟨λ_=>⟨b,λ_=>a,λh=>(by rw[hu]at h;cases h),λh=>(by rw[hu]at h;cases h),by rw[a];simp⟩,λ_=>rfl⟩
      · rw[Z3 a];exact⟨λh=>by simp at h,λh=>ZD (h.down hu) a⟩
    |true=>
      simp only[nr,if_false];by_cases a:x.d.z=[]
      · rw[Z3 (by simpa using a)];by_cases e:(ze [] (sM x.d)).2=0
        · rw[Z3 V];by_cases c:(ze [] (sM x.d)).1=x.D
          · rw[Z3 (by simpa using c),imgs_iff];exact⟨λh=>⟨b,λh=>(by rw[hu]at h;cases h),λ_=>a,λ_=>by rw[<-c,<-e],h⟩,λh=>h.img⟩
          · rw[Z2 c];exact⟨λh=>by simp at h,λh=>ZD (by rw[h.D hu]) c⟩
        · rw[Z2 e];exact⟨λh=>ZD h e,λh=>ZD (by rw[h.D hu]) e⟩
      · rw[Z2 a];exact⟨λh=>by simp at h,λh=>ZD (h.z hu) a⟩
  · rw[Z2 b];exact⟨λh=>ZD h b,λh=>ZD h.disk b⟩
def NB(p:H bN):H Hc->Int
 |[]=>0
 |x::l=>if zf p x≠0 then zf p x else NB p l
theorem HW(p:H bN):∀l,NB p l=0↔∀x∈l,PlR p x
  |[]=>by simp[NB]
  |x::l=>by
    unfold NB;by_cases h:zf p x=0
    · rw[Z3 V,HW p l];have:=(plc_iff p x).1 h;simp[this]
    · rw[Z2 h];exact⟨λa=>ZD a h,λa=>ZD ((plc_iff p x).2<|a x C3) h⟩
def Sj(p:H bN):H dW->Int
 |[]=>0
 |m::l=>if m.G=bd then Sj p l else if(fP p m.t).2≠0 then(fP p m.t).2 else Sj p l
theorem GS(p:H bN):∀l,Sj p l=0↔∀m∈l,m.G=aw->(fP p m.t).2=0
  |[]=>by simp[Sj]
  |m::l=>by
    unfold Sj;by_cases a:m.G=bd
    · rw[Z2 a,GS p l];simp[a]
    · rw[Z3 a];have b:m.G=false:=by simpa using a
      by_cases h:(fP p m.t).2=0
      · rw[Z3 V,GS p l];simp[h]
      · rw[Z2 h];simp[h,b]
def yB(w:DY):Int:=
 if FY w.r≠0 then FY w.r else if O w.m≠3 then 4 else if eG w.u≠0 then eG w.u else
 if NB w.r w.m≠0 then NB w.r w.m else Sj w.r w.u
structure WR(w:DY):Prop where
 C:FY w.r=0
 many:w.m.length=3
 mlen:w.u.length<=40
 mok:∀m∈w.u,Y0 m
 pl:∀x∈w.m,PlR w.r x
 mimg:∀m∈w.u,m.G=aw->(fP w.r m.t).2=0
theorem w_iff(w:DY):yB w=0↔WR w:=by
  unfold yB;by_cases c:FY w.r=0
  · rw[Z3 V];by_cases e:O w.m=3
    · rw[Z3 V];by_cases b:eG w.u=0
      · rw[Z3 V];by_cases d:NB w.r w.m=0
        · rw[Z3 V,GS];have a:=(NA _).1 b;exact⟨λh=>⟨c,e,a.1,a.2,(HW _ _).1 d,h⟩,λh=>h.mimg⟩
        · rw[Z2 d];exact⟨λh=>ZD h d,λh=>ZD ((HW _ _).2 h.pl) d⟩
      · rw[Z2 b];exact⟨λh=>ZD h b,λh=>ZD ((NA _).2 ⟨h.mlen,h.mok⟩) b⟩
    · rw[Z2 e];exact⟨λh=>by simp at h,λh=>ZD h.many e⟩
  · rw[Z2 c];exact⟨λh=>ZD h c,λh=>ZD h.C c⟩
def zP:Hc:=⟨[],zD,aw⟩
def jy(w:DY)(k:Int):Hc:=(vj w.m k).getD zP
def Az(w:DY)(k:Int)(x:Hc):DY:=⟨w.r,w.m.set k.toNat x,w.u⟩
def mE(x:Hc)(r:vp):Hc×Int:=
 if(oL x.D r).2≠0 then(x,(oL x.D r).2)else if(E8 x.d r).2≠0 then(x,(E8 x.d r).2)else
 if(Vb (E8 x.d r).1).2≠0 then(x,(Vb (E8 x.d r).1).2)else(⟨(oL x.D r).1,(Vb (E8 x.d r).1).1,x.up⟩,0)
def WT(x:Hc)(r:vp)(keep:Int):Hc×Int:=
 if(oL x.D r).2≠0 then(x,(oL x.D r).2)else if(E8 x.d r).2≠0 then(x,(E8 x.d r).2)else
 (⟨[],(Xz (E8 x.d r).1 (max 0 (min keep (O (E8 x.d r).1.z:Int)))).1,aw⟩,0)
def Hm(l:H dW)(m:dW):H dW:=if eG l≠0\/eG [m]≠0 then l else if O l<40 then l++[m]else l
def uf(p:H bN)(k:Int)(c:Co)(fuel:Int):vp×Int:=
 if 0<=c.E then(⟨2,c.x,c.k,0,[],[]⟩,7)else
 if(fP p c.t).2≠0 then(⟨2,c.x,c.k,0,[],[]⟩,(fP p c.t).2)else
 if(fP p c.t).1.o=3/\0<=(fP p c.t).1.bC/\(fP p c.t).1.bC<3/\(fP p c.t).1.bC≠k then(⟨3,c.x,c.k,(fP p c.t).1.bC,[],[]⟩,0)else
 if(DG (fP p c.t).1).o≠0 then(⟨2,c.x,c.k,0,[],[]⟩,7)else
 (⟨2,c.x,c.k,0,(xP p fuel.toNat [] 0 (DG (fP p c.t).1)).2.1,AO (kv (xP p fuel.toNat [] 0 (DG (fP p c.t).1)).1)⟩,0)
def NC(k:Int)(c:Co):dW:=⟨k,c.E,c.x,c.k+1,aw,c.t⟩
def runW(w:DY)(x:Hap):DY×Int:=
 match uP x.s (jy w x.q).D with
 |none=>(w,5)
 |some c=>
  let fuel:=if x.h=9 then 2000 else x.n
  if fuel<1\/2000<fuel then(w,3)else
  let q:=uf w.r x.q c fuel
  if q.2≠0 then(w,q.2)else
  if x.h=9 then(Az w x.q (WT (jy w x.q) q.1 x.n).1,(WT (jy w x.q) q.1 x.n).2)else
  if(mE (jy w x.q) q.1).2≠0 then(w,(mE (jy w x.q) q.1).2)else
  let v:=Az w x.q (mE (jy w x.q) q.1).1
  if q.1.h=3 then(⟨v.r,v.m,Hm v.u (NC x.q ⟨c.x,c.k,c.t,q.1.q⟩)⟩,0)else(v,0)
def HQ(w:DY)(x:Hap):DY×Int:=
 match uP x.s (jy w x.q).D with
 |none=>(w,5)
 |some c=>if c.E<0 then(w,7)else(⟨w.r,w.m,Hm w.u (NC x.q c)⟩,0)
def My(w:DY)(k i:Int):DY×Int:=
 if i≠k then(w,5)else if(sM (jy w k).d).any (λr=>G (r.h=1))then(w,6)else
 let r:vp:=⟨1,i,1,0,[],AO (kv (BU w.r))⟩
 (Az w k (mE (jy w k) r).1,(mE (jy w k) r).2)
def hadP(x:Hc)(i e:Int):Yi:=(sM x.d).any λr=>G (r.h=4)&&G (r.s=i)&&G (e<=r.k)
def hearW(w:DY)(i:Int)(a:Yi):DY×Int:=
 if i<0\/(O w.u:Int)<=i then(w,5)else
 let m:=(w.u[i.toNat]?).getD zMail
 if(jy w m.y).up=aw then(w,7)else
 let v:DY:=⟨w.r,w.m,if a then w.u else w.u.take i.toNat++w.u.drop (i.toNat+1)⟩
 if m.G then
  match uP m.s (jy v m.y).D with
  |none=>(v,0)
  |some c=>if c.k≠m.k-1\/c.E≠m.from_ then(v,0)else
   (Az v m.y (mE (jy v m.y) ⟨5,m.s,m.k-1,0,[],[]⟩).1,(mE (jy v m.y) ⟨5,m.s,m.k-1,0,[],[]⟩).2)
 else
  let b:dW:=⟨m.y,m.from_,m.s,m.k,bd,[]⟩
  if hadP (jy v m.y) m.s m.k then(⟨v.r,v.m,Hm v.u b⟩,0)else
  let r:vp:=⟨4,m.s,m.k,0,[],m.t⟩
  if(mE (jy v m.y) r).2≠0 then(v,(mE (jy v m.y) r).2)else
  let u:=Az v m.y (mE (jy v m.y) r).1
  (⟨u.r,u.m,Hm u.u b⟩,0)
def bootW(w:DY)(k:Int):DY×Int:=
 if(jy w k).up=bd then(w,7)else
 if(ze [] (sM (jy w k).d)).2≠0 then(w,(ze [] (sM (jy w k).d)).2)else
 if HV w.r (ze [] (sM (jy w k).d)).1≠0 then(w,HV w.r (ze [] (sM (jy w k).d)).1)else
 (Az w k ⟨(ze [] (sM (jy w k).d)).1,(Wp (jy w k).d).1,bd⟩,0)
def p8(w:DY)(x:Hap):DY×Int:=
 if x.h=4\/x.h=5 then hearW w x.n (G (x.h=5))else
 if x.h=6 then(if x.n<0\/(O w.u:Int)<=x.n then(w,5)else(⟨w.r,w.m,w.u.take x.n.toNat++w.u.drop (x.n.toNat+1)⟩,0))else
 if x.h<1\/9<x.h then(w,4)else
 if x.q<0\/(O w.m:Int)<=x.q then(w,5)else
 if x.h=8 then bootW w x.q else
 if(jy w x.q).up=aw then(w,7)else
 if x.h=1 then My w x.q x.s else
 if x.h=3 then HQ w x else
 if x.h=7 then(Az w x.q ⟨[],(jy w x.q).d,aw⟩,0)else runW w x
end Pw
open Go Go.Proofs Go.LX
namespace Pw
open Dk
section
variable{c:Co}
theorem S5{l:H Co}(a:Up l)(h:c∈l):uP c.x l=U c:=by
  induction l with
  |nil=>cases h
  |cons x r ih=>
    rw[Up,dK]at a;unfold uP;rw[eE];rcases bs.1 h with rfl|h
    · rw[dT rfl]
    · have:=a.1 c h;rw[dF V];exact ih a.2 h
theorem good0:Dk.Good []:=⟨by simp,λx h=>(by cases h),List.Pairwise.nil⟩
def Off(l:H Co):Prop:=∀c∈l,c.E≠ -1->c.k≠100
theorem rep_good:∀(l:H vp) (s:H Co),Dk.Good s->Off s->(ze s l).2=0->Dk.Good (ze s l).1/\Off (ze s l).1
  |[],s,h,ho,_=>⟨h,ho⟩
  |r::l,s,h,ho,e=>by
    unfold ze at e⊢;by_cases b:(oL s r).2=0
    · rw[Z3 V]at e⊢;have d:=(next_ok s r b).2.1;obtain⟨k1,k2,-⟩:=PF b;refine rep_good l _ d ?_ e;intro c f;have a:=S5 d.up f;by_cases hi:c.x=r.s
      · rw[hi]at a;rw[a]at k2;rcases k2 with⟨_,_,hn⟩|⟨_,_,hn⟩|⟨c0,_,_,_,_,hn⟩|⟨c0,_,_,_,_,hx,hn⟩|⟨_,_,_,_,_,hn⟩
        · cases hn;exact λh=>ZD Z h
        · cases hn;exact λh=>ZD Z h
        · cases hn;exact λh=>ZD Z h
        · cases hn;exact λ_=>hx
        · cases hn
      · rw[k1 _ hi]at a;exact ho c (Vf a).2
    · rw[Z2 b]at e;exact ZD e b
variable{p:H bN}
theorem PlR.good{x:Hc}(h:PlR p x):Dk.Good x.D/\Off x.D:=by
 cases hu:x.up with
 |true=>
  have e:=h.D hu;have:=rep_good (sM x.d) [] good0 (λc a=>by cases a) (by rw[e]);rw[e]at this;exact this
 |false=>rw[h.down hu];exact⟨good0,λc a=>by cases a⟩
variable{w:DY}{k:Int}
theorem pAt_eq(h:0<=k/\k<O w.m):vj w.m k=U (jy w k)/\jy w k∈w.m/\w.m[k.toNat]? =U (jy w k):=by
 obtain⟨n,rfl⟩:=cl h.1;have hn:n<O w.m:=by omega
 have e:vj w.m (n:Int)=U w.m[n]:=rE hn;unfold jy;rw[e];exact⟨Z,cv hn,by simp[hn]⟩
theorem pAt_set{k j:Int}(x:Hc)(b:0<=k/\k<O w.m)(a:0<=j/\j<O w.m):jy (Az w k x) j=if j=k then x else jy w j:=by
  obtain⟨n,rfl⟩:=cl b.1;obtain⟨m,rfl⟩:=cl a.1;unfold jy Az;rw[kF,kF,ba,fy];by_cases h:n=m
  · subst h;rw[Z2 rfl,Z2 V,Z2 rfl];rfl
  · rw[Z3 h,Z3 V]
theorem WR.at(h:WR w)(a:0<=k/\k<=2):PlR w.r (jy w k):=h.pl _ (pAt_eq ⟨a.1,by have:=h.many;omega⟩).2.1
theorem WR.Sj(h:WR w){l:H dW}(c:O l<=40)(b:∀m∈l,Y0 m/\(m.G=aw->(fP w.r m.t).2=0)):WR ⟨w.r,w.m,l⟩:=
 ⟨h.C,h.many,c,λm a=>(b m a).1,h.pl,λm a=>(b m a).2⟩
instance:DecidablePred Y0:=λm=>by unfold Y0;infer_instance
theorem sendP_eq(h:WR w)(m:dW):Hm w.u m=if Y0 m/\O w.u<40 then w.u++[m]else w.u:=by
  unfold Hm;have e:eG w.u=0:=(NA _).2 ⟨h.mlen,h.mok⟩;by_cases b:Y0 m
  · have d:eG [m]=0:=(NA _).2 ⟨by simp,λx c=>by rw[List.mem_singleton]at c;rw[c];exact b⟩;rw[Z3 V];by_cases a:O w.u<40
    · rw[Z2 a,Z2 ⟨b,a⟩]
    · rw[Z3 a,Z3 (λh=>a h.2)]
  · have d:eG [m]≠0:=λh=>b (((NA _).1 h).2 m C3);rw[Z2 (.inr d),Z3 (λh=>b h.1)]
theorem WR.drop(h:WR w)(n:Nat):WR ⟨w.r,w.m,w.u.take n++w.u.drop (n+1)⟩:=by
 refine h.Sj (by have:=h.mlen;simp;omega) (λx a=>?_);have:x∈w.u:=(fi.1 a).elim List.mem_of_mem_take List.mem_of_mem_drop;exact⟨h.mok x this,h.mimg x this⟩
theorem OA{k c e a:Int}{s i:H Int}(f:1<=k/\k<=5)(j:0<=c/\c<=2)(l:0<=e/\e<=100)(g:0<=a/\a<=2)(b:∀x∈s,ky x)(d:∀x∈i,ky x):Fk ⟨k,c,e,a,s,i⟩:=
 ⟨Hl (by simp only;omega),Hl (by simp only;omega),Hl (by simp only;omega),Hl (by simp only;omega),b,d⟩
structure Sliced(p:List bN)(k0:Int)(c:Co)(fuel:Int)(r:vp):Prop where
 w:Fk r
 s:r.s=c.x
 k:r.k=c.k
 runs:c.E= -1
 how:(r.h=2/\r.q=0/\(DG (fP p c.t).1).o=0/\r.H=(xP p fuel.toNat [] 0 (DG (fP p c.t).1)).2.1/\r.t=AO (kv (xP p fuel.toNat [] 0 (DG (fP p c.t).1)).1)/\(fP p r.t).2=0)\/(r.h=3/\(0<=r.q/\r.q<=2)/\r.q≠k0/\r.H=[]/\r.t=[])
 img:Img p c.t (fP p c.t).1
theorem slice_ok(J:FY p=0){fuel:Int}{r:vp}(q:coOk c)(e:uf p k c fuel=(r,0)):Sliced p k c fuel r:=by
  have g:=pQ J;obtain⟨c1,c2,u,l,t,s,-⟩:=q;unfold uf at e;by_cases n:0<=c.E
  · rw[Z2 n]at e;simp at e
  · rw[Z3 n]at e;by_cases i:(fP p c.t).2=0
    · rw[Z3 V]at e;have f:=img_of J i;by_cases j:(fP p c.t).1.o=3/\0<=(fP p c.t).1.bC/\(fP p c.t).1.bC<3/\(fP p c.t).1.bC≠k
      · rw[Z2 j]at e;obtain rfl:=ZS Prod.fst e;exact⟨OA V ⟨c1,c2⟩ ⟨by omega,l⟩ V (λx b=>(by cases b)) (λx b=>(by cases b)),Z,Z,by omega,.inr ⟨Z,by simp only;omega,j.2.2.2,rfl,rfl⟩,f⟩
      · rw[Z3 j]at e;by_cases m:(DG (fP p c.t).1).o=0
        · rw[Z3 V]at e;obtain rfl:=ZS Prod.fst e;have d:=Uu f.st;have o:=(VU g fuel.toNat [] 0 _ d C3).1;have a:=img_pack J o;refine⟨OA V ⟨c1,c2⟩ ⟨by omega,l⟩ V (run_said g _ _ _ _ d (λx b=>by cases b)) (img_b g a).1,Z,Z,by omega,.inl ⟨Z,Z,m,Z,Z,by simp only;rw[a.un]⟩,f⟩
        · rw[Z2 m]at e;simp at e
    · rw[Z2 i]at e;exact ZD (ZS Prod.snd e) i
theorem SJ(J:FY p=0):Img p (AO (kv (BU p))) (kv (BU p)):=img_pack J (IH (pQ J))
end
end Pw
open Go Go.Proofs Go.LX
namespace Pw
open Dk
def ansM(m:dW):dW:=⟨m.y,m.from_,m.s,m.k,bd,[]⟩
end Pw
open Go Go.Proofs Go.LX
namespace Pw
open Dk
def On(k:Int):Prop:=0<=k/\k<=2
end Pw
open Go Go.Proofs Go.LX
namespace Pw
open Dk
def wNew(p:H bN):DY:=⟨p,[⟨[],zD,bd⟩,⟨[],zD,bd⟩,⟨[],zD,bd⟩],[]⟩
end Pw
open Go Go.Proofs Go.LX
namespace Pw
open Dk
theorem Gx{w:DY}{k:Int}(h:0<=k/\k<O w.m):Az w k (jy w k)=w:=by
  have:=(pAt_eq h).2.2;unfold Az;have e:w.m.set k.toNat (jy w k)=w.m:=by
    apply List.ext_getElem?;intro i;rw[fy];by_cases hi:k.toNat=i
    · subst hi;rw[Z2 rfl,Z2 (oy.1 this).1,this]
    · rw[Z3 hi]
  rw[e]
end Pw
open Go Go.Proofs Go.LX
namespace Pw
open Dk
def toP(x:dx):Hc:=⟨x.D,⟨x.B,x.z⟩,x.up⟩
def toW(w:aJ):DY:=⟨w.r,w.m.map toP,w.u⟩
def NW(x:mR):Hap:=⟨x.h,x.q,x.s,x.n⟩
def Ph(x:Hc):dx:=⟨x.D,x.d.B,x.d.z,x.up⟩
def qP(w:DY):aJ:=⟨w.r,w.m.map Ph,w.u⟩
theorem of_to(w:aJ):qP (toW w)=w:=by
 have:w.m.map (Ph∘toP)=w.m:=List.map_id _;unfold qP toW;simp only[List.map_map,this]
theorem idx_map{α β:Type}(f:α->β)(l:H α)(k:Int):vj (l.map f) k=(vj l k).map f:=by
 unfold vj;split<;>simp
section
variable{w:DY}{k:Int}
theorem HA(h:0<=k/\k<O w.m):vj (qP w).m k=U (Ph (jy w k)):=by
 show vj (w.m.map Ph) k=_;rw[idx_map,(pAt_eq h).1];rfl
theorem Hn(w:DY)(k:Int)(x:Hc):(⟨w.r,(qP w).m.set k.toNat (Ph x),w.u⟩:aJ)=qP (Az w k x):=by
 unfold qP Az;simp only[List.map_set]
theorem Vg(h:WR w)(a:On k):0<=k/\k<O w.m:=by
 have:=h.many;have:=a.1;have:=a.2;omega
theorem I3{d:gD}(h:lG d=0):O d.z<=60000:=by
 have:=(Dk.uO h).1;omega
theorem put_wait(d:gD)(r:vp):O (E8 d r).1.z<=60000:=by
 unfold E8 YZ;repeat' split
 all_goals first|(show O ([]:uH)<=60000;simp)|(simp only[bn,bw,iv];omega)
variable{r:vp}{N:Nat}
theorem W7(h:WR w)(f:On k)(i:Fk r)(hN:60002<=N):
    zk N (qP w) k r=U ((mE (jy w k) r).2,qP (Az w k (mE (jy w k) r).1)):=by
  have a:=Vg h f;have J:=h.at f;have j:=I3 J.disk;have g:=put_wait (jy w k).d r;have W:qP w=qP (Az w k<|jy w k):=by rw[Gx a]
  unfold zk mE;rw[HA a];simp only[vf];rw[V1 N V];simp only[vf];by_cases b:(oL (jy w k).D r).2=0
  · rw[dF (show¬(oL (Ph (jy w k)).D r).2≠0 from λh=>h b),Z1,Z3 (show¬(oL (jy w k).D r).2≠0 from λh=>h b)];show(Mo N (jy w k).d r).bind _=_;rw[put_eq N hN _ r V i];simp only[vf];unfold OO;by_cases c:(E8 (jy w k).d r).2=0
    · rw[dF (show¬(E8 (jy w k).d r).2≠0 from λh=>h c),Z1,Z3 (show¬(E8 (jy w k).d r).2≠0 from λh=>h c)];show(PW N (E8 (jy w k).d r).1).bind _=_;rw[sync_eq N hN _ V];simp only[vf];by_cases e:(Vb (E8 (jy w k).d r).1).2=0
      · rw[dF (show¬(Vb (E8 (jy w k).d r).1).2≠0 from λh=>h e),Z1,Z3 (show¬(Vb (E8 (jy w k).d r).1).2≠0 from λh=>h e)];rw[<-Hn,List.set_set];rfl
      · rw[dT (show(Vb (E8 (jy w k).d r).1).2≠0 from e),ZW,Z2 e,<-W]
    · rw[dT (show(E8 (jy w k).d r).2≠0 from c),ZW,Z2 c,<-W]
  · rw[dT (show(oL (Ph (jy w k)).D r).2≠0 from b),ZW,Z2 b,<-W];rfl
theorem tear_g(h:WR w)(e:On k)(g:Fk r)(n:Int)(hN:60002<=N):
    MH N (qP w) k r n=U ((WT (jy w k) r n).2,qP (Az w k (WT (jy w k) r n).1)):=by
  have a:=Vg h e;have J:=h.at e;have i:=I3 J.disk;have f:=put_wait (jy w k).d r;have W:qP w=qP (Az w k<|jy w k):=by rw[Gx a]
  unfold MH WT;rw[HA a];simp only[vf];rw[V1 N V];simp only[vf];by_cases b:(oL (jy w k).D r).2=0
  · rw[dF (show¬(oL (Ph (jy w k)).D r).2≠0 from λh=>h b),Z1,Z3 (show¬(oL (jy w k).D r).2≠0 from λh=>h b)];show(Mo N (jy w k).d r).bind _=_;rw[put_eq N hN _ r V g];simp only[vf];unfold OQ;by_cases c:(E8 (jy w k).d r).2=0
    · rw[dF (show¬(E8 (jy w k).d r).2≠0 from λh=>h c),Z1,Z3 (show¬(E8 (jy w k).d r).2≠0 from λh=>h c)];show(MG N (E8 (jy w k).d r).1 _).bind _=_;rw[crash_eq N hN _ _ V];simp only[vf];rw[<-Hn];rfl
    · rw[dT (show(E8 (jy w k).d r).2≠0 from c),ZW,Z2 c,<-W]
  · rw[dT (show(oL (Ph (jy w k)).D r).2≠0 from b),ZW,Z2 b,<-W];rfl
theorem send_g(w:DY)(m:dW):ET (qP w) m=U (qP ⟨w.r,w.m,Hm w.u m⟩):=by
  unfold ET;show(TW w.u m).bind _=_;rw[wSend];simp only[vf];unfold Hm;by_cases a:eG w.u=0
  · rw[Z3 (show¬eG w.u≠0 from λh=>h a)];by_cases b:eG [m]=0
    · rw[Z3 (show¬eG [m]≠0 from λh=>h b),Z3 (show¬(eG w.u≠0\/eG [m]≠0) by simp[a,b])];rw[dT rfl,ZW];rfl
    · rw[Z2 (show eG [m]≠0 from b),Z2 (show(eG w.u≠0\/eG [m]≠0)from .inr b)];rw[dF b,Z1]
  · rw[Z2 (show eG w.u≠0 from a),Z2 (show(eG w.u≠0\/eG [m]≠0)from .inl a)];rw[dF a,Z1]
theorem offer_g(w:DY)(k:Int)(c:Co)(a:ky (c.k+1)):Jy (qP w) k c=U (qP ⟨w.r,w.m,Hm w.u (NC k c)⟩):=by
 unfold Jy;rw[gJ a,send_g];rfl
variable{x:Hc}
theorem VX(h:lG x.d=0)(hN:60002<=N):wm N (⟨(Ph x).B,(Ph x).z⟩:gD)=U ((Wp x.d).1,sM x.d,0):=by
 show wm N x.d=_;have:=I3 h;rw[recover_eq N hN _ V];unfold IL;rw[Z3 (show¬lG x.d≠0 from λe=>e h)];rfl
theorem Ly{α:Type}{p:α->Yi}{l:H α}:(l.findIdx? p).isSome=l.any p:=by
  induction l with
  |nil=>rfl
  |cons x l ih=>
    rw[List.findIdx?_cons,uG];cases p x
    · simp[ih]
    · simp
theorem had_g(h:lG x.d=0)(i e:Int)(hN:60002<=N):VA N (Ph x) i e=U (hadP x i e):=by
 unfold VA hadP;rw[VX h hN];simp only[vf,ba];rw[Ps (λr:vp=>(G ((r.h:Int)=4)&&G ((r.s:Int)=i))&&G ((e:Int)<=r.k)) (λn=>U (G ((0:Int)<=n))) (sM x.d) (λn r b a=>by
  unfold WA;rw[show vj (sM x.d) (n:Int)=U r by unfold vj;rw[Z2 V,ba];exact a];rfl)]
 rw[<-Ly];cases hf:(sM x.d).findIdx? (λr:vp=>(G ((r.h:Int)=4)&&G ((r.s:Int)=i))&&G ((e:Int)<=r.k))with
 |none=>rfl
 |some n=>simp only[qv];rw[dT V]
end
end Pw
open Go Go.Proofs Go.LX
namespace Pw
open Dk
theorem nn{x:Int}(h:x=0):¬x≠0:=λe=>e h
theorem Wf(a:H Co)(i:Int):(vJ a i=U (-1)/\uP i a=none)\/∃(n:Int) (c:Co),vJ a i=U n/\uP i a=U c/\vj a n=U c/\0<=n:=by
  rw[findEq];unfold uP;cases h:a.findIdx? (λx=>G (x.x=i))with
  |none=>
    refine .inl ⟨Z,?_⟩;rw[tD]at h;rw[sd];intro x e;rw[h x e];simp
  |some n=>
    obtain⟨b,f,g⟩:=List.findIdx?_eq_some_iff_getElem.1 h;refine .inr ⟨n,a[n],Z,?_,?_,by omega⟩
    · rw[List.find?_eq_some_iff_getElem];exact⟨f,n,b,Z,λj d=>by simpa using g j d⟩
    · unfold vj;rw[Z2 V,ba];exact bl b
section
variable{w:DY}{k:Int}{c:Co}{N:Nat}
theorem slice_g(h:WR w){fuel:Int}(x:1<=fuel/\fuel<=2000)(hN:60002<=N):
    ∃r,Ot N (qP w) k c fuel=U (r,(uf w.r k c fuel).2,qP w)/\((uf w.r k c fuel).2=0->r=(uf w.r k c fuel).1):=by
  have J:=h.C;have q:=pQ J;unfold Ot uf;by_cases j:0<=c.E
  · rw[dT j,ZW,Z2 j];exact⟨_,Z,λ_=>rfl⟩
  · rw[dF j,Z1,Z3 j];show∃r,(wP N w.r c.t).bind _=_/\_;rw[Hf _ _ V];simp only[vf];unfold MF;by_cases g:(fP w.r c.t).2=0
    · rw[dF (nn g),Z1,Z3 (nn g)];have i:=img_of J g;have st:=Uu i.st;generalize (fP w.r c.t).1=s at i st⊢;have go:∀t:Yh,t=DG s->t.o=0->(DG s).o=0->∃r,Af N (qP w) fuel c t.i t.j t.o t.bC=U (r,0,qP w)/\r=(⟨2,c.x,c.k,0,(xP w.r fuel.toNat [] 0<|DG s).2.1,AO<|kv (xP w.r fuel.toNat [] 0<|DG s).1⟩:vp):=by
        intro t u y m;unfold Af;show∃r,(G1 N w.r t fuel).bind _=_/\_;rw[RR _ _ _ V,u];rw[Z3 (nn J),Z3 (nn (Kr.2 st)),Z3 V,Z3 (nn m)];simp only[vf];rw[dF V,Z1];show∃r,(II N w.r _).bind _=_/\_;rw[Ew _ _ V,Z3 (nn J),Z3 (nn (Kr.2 (VU q fuel.toNat [] 0 _ st C3).1))];exact⟨_,Z,Z⟩
      by_cases a:s.o=3
      · have b:DG s=⟨s.i,s.j,0,0⟩:=by unfold DG;rw[Z2 a]
        by_cases d:0<=s.bC/\s.bC<3/\s.bC≠k
        · rw[dT a,ZW,show((G ((0:Int)<=s.bC)&&G ((s.bC:Int)<3))&&G ((s.bC:Int)≠k))=bd by
            rw[dT d.1,dT d.2.1,dT d.2.2];rfl,ZW,Z2 ⟨a,d⟩]
          exact⟨_,Z,λ_=>rfl⟩
        · rw[dT a,ZW,show((G ((0:Int)<=s.bC)&&G ((s.bC:Int)<3))&&G ((s.bC:Int)≠k))=aw by
            simp only[Bool.and_eq_false_iff,decide_eq_false_iff_not];by_cases p:0<=s.bC
            · by_cases o:s.bC<3
              · exact .inr λv=>d ⟨p,o,v⟩
              · exact .inl<|.inr o
            · exact .inl (.inl p),Z1,Z3 (λe=>d e.2)]
          show∃r,(Z5 w.r s).bind _=_/\_;rw[vm_Wake_eq,Z3 (nn J),Z3 (nn (Kr.2 i.st)),Z3 (show¬s.o≠3 from λe=>e a)];simp only[vf];rw[dF V,Z1,Z3 (nn (by rw[b]))];obtain⟨r,l,n⟩:=go ⟨s.i,s.j,0,0⟩ b.symm Z (by rw[b]);exact⟨r,l,λ_=>n⟩
      · have b:DG s=s:=by unfold DG;rw[Z3 a]
        rw[dF a,Z1,Z3 (λe=>a e.1)];by_cases f:s.o=0
        · rw[Z3 (nn (by rw[b];exact f))];obtain⟨r,l,n⟩:=go s b.symm f (by rw[b];exact f);exact⟨r,l,λ_=>n⟩
        · rw[Z2 (show(DG s).o≠0 by rw[b];exact f)];unfold Af;show∃r,(G1 N w.r s fuel).bind _=_/\_;rw[RR _ _ _ V];rw[Z3 (nn J),Z3 (nn (Kr.2 i.st)),Z3 V,Z2 f];exact⟨_,Z,λe=>ZD e C3⟩
    · rw[dT (show(fP w.r c.t).2≠0 from g),ZW,Z2 g];exact⟨_,Z,λ_=>rfl⟩
theorem co_of(h:WR w)(a:On k)(b:c∈(jy w k).D):coOk c:=(h.at a).good.1.ok c b
theorem img_I64{p:H bN}(J:FY p=0){l:H Int}(h:(fP p l).2=0):∀x∈l,ky x:=(img_b (pQ J) (img_of J h)).1
def Is(o:B (Int×aJ))(q:DY×Int):Prop:=∃v,o=U (q.2,qP v)/\(q.2=0->v=q.1)
theorem Is.mk(v:DY)(e:Int):Is (U (e,qP v)) (v,e):=⟨v,rfl,λ_=>rfl⟩
theorem Is.err{v u:DY}{e:Int}(h:e≠0):Is (U (e,qP v)) (u,e):=⟨v,rfl,λa=>ZD a h⟩
theorem Is.pair{o:B (Int×aJ)}{q:DY×Int}(h:Is o q):Is (ao o λy=>U (y.1,y.2)) q:=by
 obtain⟨v,rfl,a⟩:=h;exact⟨v,Z,a⟩
def runK(w:DY)(b a m:Int)(c:Co)(fuel:Int):DY×Int:=
 if fuel<1\/2000<fuel then(w,3)else
 if(uf w.r a c fuel).2≠0 then(w,(uf w.r a c fuel).2)else
 if b=9 then(Az w a (WT (jy w a) (uf w.r a c fuel).1 m).1,(WT (jy w a) (uf w.r a c fuel).1 m).2)else
 if(mE (jy w a) (uf w.r a c fuel).1).2≠0 then(w,(mE (jy w a) (uf w.r a c fuel).1).2)else
 if(uf w.r a c fuel).1.h=3 then(⟨w.r,(Az w a (mE (jy w a) (uf w.r a c fuel).1).1).m,Hm w.u (NC a ⟨c.x,c.k,c.t,(uf w.r a c fuel).1.q⟩)⟩,0)else(Az w a (mE (jy w a) (uf w.r a c fuel).1).1,0)
theorem runW_eq(w:DY)(x:Hap):runW w x=match uP x.s (jy w x.q).D with
 |none=>(w,5)
 |some c=>runK w x.h x.q x.n c (if x.h=9 then 2000 else x.n):=rfl
variable{r:vp}
theorem Ix{x:Hc}(h:(mE x r).2=0):(oL x.D r).2=0/\(mE x r).1.D=(oL x.D r).1:=by
  unfold mE at h⊢;by_cases a:(oL x.D r).2=0
  · rw[Z3 (nn a)]at h⊢;by_cases b:(E8 x.d r).2=0
    · rw[Z3 (nn b)]at h⊢;by_cases c:(Vb (E8 x.d r).1).2=0
      · rw[Z3 (nn c)];exact⟨a,Z⟩
      · rw[Z2 c]at h;exact ZD h c
    · rw[Z2 b]at h;exact ZD h b
  · rw[Z2 a]at h;exact ZD h a
variable{n:Int}
theorem next3_idx{a:H Co}(h:(oL a r).2=0)(u:r.h=3)(o:Dk.Good a)(hn:vj a n=U c)(q:c.x=r.s):vj (oL a r).1 n=U ⟨c.x,c.k,c.t,r.q⟩:=by
  have b:0<=n/\a[n.toNat]? =U c:=by
    unfold vj at hn;split at hn
    · exact⟨by assumption,hn⟩
    · cases hn
  unfold oL at h⊢;by_cases j:gM a=0
  · rw[Z3 (nn j)]at h⊢;by_cases m:eH r=0
    · rw[Z3 (nn m)]at h⊢;rcases E7 r a with⟨e1,e2,-⟩|⟨k,c',e1,e2,e3,e4⟩
      · exfalso;rw[tD]at e2;have:=e2 c<|hJ b.2;simp[q]at this
      · have i:k=n.toNat:=by
          have p:=o.up;unfold Up at p;rw[List.pairwise_iff_getElem]at p;have f:=OE e3;have l:=OE b.2;have d:=bl f;have e:=bl l;rw[e3]at d;rw[b.2]at e;have d:=osi d;have e:=osi e;rcases Nat.lt_trichotomy k n.toNat with hlt|heq|hgt
          · have:=p k n.toNat f l hlt;rw[<-d,<-e]at this;omega
          · exact heq
          · have:=p n.toNat k l f hgt;rw[<-d,<-e]at this;omega
        subst i;have g:c'=c:=by rw[b.2]at e3;exact(osi e3).symm
        subst g;rw[e1]at h⊢;simp only at h⊢;rw[Z3 (show¬(r.h=1\/r.h=4) by omega)]at h⊢;split at h
        · simp at h
        · rename_i t;rw[Z3 t];rw[Z3 (show¬r.h=5 by omega),Z3 (show¬r.h=2 by omega)]at h⊢;split at h
          · simp at h
          · rename_i s;rw[Z3 s];simp only;rw[<-HH r a n.toNat c' ⟨c'.x,c'.k,c'.t,r.q⟩ o.up e3 e4 e4];unfold vj;rw[Z2 b.1];exact qg b.2
    · rw[Z2 m]at h;exact ZD h m
  · rw[Z2 j]at h;exact ZD h j
variable{x:mR}
theorem runK_g(h:WR w)(g:On x.q)(o:c∈(jy w x.q).D)(hn:vj (jy w x.q).D n=U c)(fuel:Int)(hN:60002<=N):
    Is (Gy N (qP w) (Ph (jy w x.q)) n x fuel) (runK w x.h x.q x.n c fuel):=by
  have a:=Vg h g;have e:=co_of h g o;unfold Gy runK;by_cases j:fuel<1\/2000<fuel
  · rw[show(G ((fuel:Int)<1)||G ((2000:Int)<fuel))=bd by simpa using j,ZW,Z2 j];exact .mk _ _
  · rw[show(G ((fuel:Int)<1)||G ((2000:Int)<fuel))=aw by simpa using j,Z1,Z3 j];show Is ((vj (jy w x.q).D n).bind _) _;rw[hn];simp only[vf];obtain⟨r,p,m⟩:=slice_g h (k:=x.q) (c:=c) (fuel:=fuel) V hN;rw[p];simp only[vf];show Is (KV N x n r.h r.s r.k r.q r.H r.t (uf w.r x.q c fuel).2 w.r (qP w).m w.u) _;unfold KV;by_cases d:(uf w.r x.q c fuel).2=0
    · rw[dF (nn d),Z1,Z3 (nn d)];have W:=slice_ok h.C e (r:=r) (fuel:=fuel) (k:=x.q) (by rw[m d,<-d]);rw[<-m d];show Is (bif G ((x.h:Int)=9)then(MH N (qP w) x.q r x.n).bind _ else(zk N (qP w) x.q r).bind _) _;by_cases l:x.h=9
      · rw[dT l,ZW,Z2 l,tear_g h g W.w x.n hN];simp only[vf];exact .mk _ _
      · rw[dF l,Z1,Z3 l,W7 h g W.w hN];simp only[vf];by_cases b:(mE (jy w x.q) r).2=0
        · rw[dF (nn b),Z1,Z3 (nn b)];by_cases i:r.h=3
          · rw[dT i,ZW,Z2 i];have f:0<=x.q/\x.q<O (Az w x.q (mE (jy w x.q) r).1).m:=by unfold Az;simp only[List.length_set];exact a
            rw[HA f];simp only[vf];rw[pAt_set _ a a,Z2 rfl];show Is ((vj (mE (jy w x.q) r).1.D n).bind _) _;rw[(Ix b).2,next3_idx (Ix b).1 i (h.at g).good.1 hn W.s.symm];simp only[vf];rw[offer_g _ _ _ (Hl (by have:=e.2.2;simp only;omega))];simp only[vf];exact .mk _ _
          · rw[dF i,Z1,Z3 i];show Is (U ((0:Int),qP<|Az w x.q (mE (jy w x.q) r).1)) _;exact .mk _ _
        · rw[dT (show(mE (jy w x.q) r).2≠0 from b),ZW,Z2 b];exact .err b
    · rw[dT (show(uf w.r x.q c fuel).2≠0 from d),ZW,Z2 d];exact .mk _ _
theorem run_g(h:WR w)(b:On x.q)(hN:60002<=N):Is (VF N (qP w) x) (runW w (NW x)):=by
  have d:=Vg h b;rw[runW_eq];unfold VF;rw[HA d];simp only[vf];show Is ((vJ (jy w x.q).D x.s).bind _) _;rcases Wf (jy w x.q).D x.s with⟨e1,e2⟩|⟨n,c,e1,e2,e3,e4⟩
  · rw[e1];simp only[vf];rw[dT V,ZW];show Is _ (match uP x.s (jy w x.q).D with|none=>_|some c=>_);rw[e2];exact .mk _ _
  · rw[e1];simp only[vf];rw[dF (show¬n<0 by omega),Z1];show Is _ (match uP x.s (jy w x.q).D with|none=>_|some c=>runK w x.h x.q x.n c (if x.h=9 then 2000 else x.n));rw[e2];have e:=(Vf e2).2;by_cases a:x.h=9
    · rw[dT a,ZW,Z2 a];exact runK_g h b e e3 _ hN
    · rw[dF a,Z1,Z3 a];exact runK_g h b e e3 _ hN
end
end Pw
open Go Go.Proofs Go.LX
namespace Pw
open Dk
theorem resend_g{w:DY}(h:WR w){x:mR}(e:On x.q):Is (KT (qP w) x) (HQ w (NW x)):=by
  have d:=Vg h e;unfold KT;rw[HA d];simp only[vf];show Is ((vJ (jy w x.q).D x.s).bind _) (match uP x.s (jy w x.q).D with|none=>_|some c=>if c.E<0 then(w,7)else(⟨w.r,w.m,Hm w.u<|NC x.q c⟩,0));rcases Wf (jy w x.q).D x.s with⟨e1,e2⟩|⟨n,c,e1,e2,e3,e4⟩
  · rw[e1,e2];simp only[vf];rw[dT V,ZW];exact .mk _ _
  · rw[e1,e2];simp only[vf];rw[dF (show¬n<0 by omega),Z1];show Is ((vj (jy w x.q).D n).bind _) _;rw[e3];simp only[vf];by_cases a:c.E<0
    · rw[dT a,ZW,Z2 a];exact .mk _ _
    · have b:=co_of h e (Vf e2).2;rw[dF a,Z1,Z3 a,offer_g _ _ _ (Hl (by have:=b.2.2;omega))];exact .mk _ _
theorem up_g(x:Hc):(Ph x).up=x.up:=rfl
theorem FW{w:DY}{N:Nat}(hN:60002<=N){l:H dW}{m:dW}{e:Int}(h:WR ⟨w.r,w.m,l⟩)(b:Y0 m):
  Is (BF N (qP w) (l,m,e) bd) (⟨w.r,w.m,l⟩,0)/\
  Is (BF N (qP w) (l,m,e) aw) (Az ⟨w.r,w.m,l⟩ m.y (mE (jy ⟨w.r,w.m,l⟩ m.y) ⟨5,m.s,m.k-1,0,[],[]⟩).1,(mE (jy ⟨w.r,w.m,l⟩ m.y) ⟨5,m.s,m.k-1,0,[],[]⟩).2):=by
 obtain⟨m1,m2,c,d,-⟩:=b;refine⟨.mk ⟨w.r,w.m,l⟩ 0,?_⟩;unfold BF;rw[Z1,gJ (Hl (by simp only;omega))];show Is ((zk N (qP ⟨w.r,w.m,l⟩) m.y _).bind _) _;rw[W7 h m2 (OA V c (by simp only;omega) V (λx a=>by cases a) (λx a=>by cases a)) hN];exact .mk _ _
theorem hear_g{w:DY}(h:WR w)(i:Int)(t:Yi){N:Nat}(hN:60002<=N):Is (Rt N (qP w) i t) (hearW w i t):=by
  unfold Rt hearW;show Is ((Ml w.u i t).bind _) _;rw[wTake,Z3 (nn ((NA _).2 ⟨h.mlen,h.mok⟩))];by_cases e:i<0\/(O w.u:Int)<=i
  · rw[Z2 e,Z2 e];exact .mk _ _
  · rw[Z3 e,Z3 e];simp only[vf];have hi:i.toNat<O w.u:=by omega
    have j:w.u[i.toNat]? =U w.u[i.toNat]:=bl hi;have a:w.u[i.toNat]∈w.u:=cv hi;generalize w.u[i.toNat]=m at j a;rw[j];simp only[fj];have ok:=h.mok m a;have f:=Vg h ok.2.1;rw[dF V,Z1,HA f];simp only[vf];rw[up_g];by_cases g:(jy w m.y).up=aw
    · rw[g,Z2 rfl];exact .mk _ _
    · rw[Z3 g];have o:(jy w m.y).up=true:=by simpa using g
      rw[o];simp only[cA,Z1];have hl:WR ⟨w.r,w.m,if t=bd then w.u else w.u.take i.toNat++w.u.drop (i.toNat+1)⟩:=by
        cases t
        · exact h.drop i.toNat
        · exact h
      generalize (if t=bd then w.u else w.u.take i.toNat++w.u.drop (i.toNat+1))=l at hl⊢;have J:jy ⟨w.r,w.m,l⟩ m.y=jy w m.y:=rfl;cases ht:m.G with
      |true=>
        simp only[ZW,if_true];show Is ((vJ (jy w m.y).D m.s).bind _) (match uP m.s (jy ⟨w.r,w.m,l⟩ m.y).D with|none=>_|some c=>_);rw[J];rcases Wf (jy w m.y).D m.s with⟨e1,e2⟩|⟨n,c,e1,e2,e3,e4⟩
        · rw[e1,e2];simp only[vf];rw[dT V,ZW];exact(FW hN hl ok).1
        · rw[e1,e2];simp only[vf];rw[dF (show¬n<0 by omega),Z1];show Is ((vj (jy w m.y).D n).bind _) _;rw[e3];simp only[vf];rw[gJ (Hl (by have:=ok.2.2.2.1;omega))];by_cases d:c.k≠m.k-1\/c.E≠m.from_
          · rw[show(G ((c.k:Int)≠(m.k-1))||G ((c.E:Int)≠m.from_))=bd by simpa using d,Z2 d];exact(FW hN hl ok).1
          · rw[show(G ((c.k:Int)≠(m.k-1))||G ((c.E:Int)≠m.from_))=aw by simpa using d,Z3 d];exact(FW hN hl ok).2
      |false=>
        simp only[Z1,cL,if_false];rw[had_g (h.at ok.2.1).disk _ _ hN];simp only[vf];rw[J];cases hh:hadP (jy w m.y) m.s m.k with
        |true=>
          simp only[cA,Z1,if_true];unfold Ev;show Is ((ET (qP ⟨w.r,w.m,l⟩) _).bind _) _;rw[send_g];exact .mk _ _
        |false=>
          simp only[eb,ZW,cL,if_false];show Is ((zk N (qP ⟨w.r,w.m,l⟩) m.y _).bind _) _;rw[W7 hl ok.2.1 (OA V ok.2.2.1 (by have:=ok.2.2.2.1;omega) V (λx k=>by cases k) (img_I64 h.C (h.mimg m a ht))) hN];simp only[vf];rw[J];by_cases b:(mE (jy w m.y) ⟨4,m.s,m.k,0,[],m.t⟩).2=0
          · rw[dF (nn b),Z1,Z3 (nn b)];unfold Ev;show Is ((ET (qP<|Az ⟨w.r,w.m,l⟩ m.y _) _).bind _) _;rw[send_g];exact .mk _ _
          · rw[dT (show(mE (jy w m.y) ⟨4,m.s,m.k,0,[],m.t⟩).2≠0 from b),ZW,Z2 b];exact .err b
theorem S2{N:Nat}(hN:60002<=N)(a:aJ)(k:Unit->B (Int×aJ)):∀(l:H Co) (i:Int),
    ib (λj(x:Co)s c=>ao (wP N a.r x.t) λq=>BG a c q.2) k i l ()=if HV a.r l≠0 then U (HV a.r l,a)else k ()
  |[],i=>by rw[Vi];simp[HV]
  |x::l,i=>by
    rw[AP,Hf _ _ V];simp only[vf];unfold BG;by_cases h:(fP a.r x.t).2=0
    · rw[dF (nn h),Z1];have b:=S2 hN a k l<|i+1;unfold BG at b;rw[b,show HV a.r (x::l)=HV a.r l by rw[HV,Z3 (nn h)]]
    · rw[dT (show(fP a.r x.t).2≠0 from h),ZW,show HV a.r (x::l)=(fP a.r x.t).2 by rw[HV,Z2 h],Z2 h]
theorem boot_g{w:DY}(h:WR w){k:Int}(f:On k){N:Nat}(hN:60002<=N):Is (Ru N (qP w) k) (bootW w k):=by
  have c:=Vg h f;have m:=(h.at f).disk;unfold Ru bootW;rw[HA c];simp only[vf];rw[up_g];by_cases e:(jy w k).up=bd
  · rw[e,Z2 rfl];exact .mk _ _
  · have o:(jy w k).up=false:=by simpa using e
    rw[Z3 e,o,Z1,VX m hN];simp only[vf];rw[dF V,Z1,Qy N V,Z3 (show¬120<O (sM (jy w k).d) by have:=(dOk m).len;omega)];simp only[vf];by_cases a:(ze [] (sM (jy w k).d)).2=0
    · rw[dF (nn a),Z1,Z3 (nn a),ba];rw[LR (g:=λj(x:Co)s l=>ao (wP N (qP w).r x.t) λq=>BG (qP w) l q.2) (ze [] (sM (jy w k).d)).1 (λi x s l n=>by
        unfold WE;rw[kF,n];rfl)]
      rw[S2 hN (qP w)];show Is (if HV w.r (ze []<|sM (jy w k).d).1≠0 then _ else _) _;by_cases b:HV w.r (ze [] (sM (jy w k).d)).1=0
      · rw[Z3 (nn b),Z3 (nn b)];unfold TZ;have:=Hn w k ⟨(ze []<|sM (jy w k).d).1,(Wp (jy w k).d).1,bd⟩;show Is (U ((0:Int),(⟨w.r,(qP w).m.set k.toNat<|Ph ⟨(ze []<|sM (jy w k).d).1,(Wp (jy w k).d).1,bd⟩,w.u⟩:aJ))) _;rw[this];exact .mk _ _
      · rw[Z2 b,Z2 b];exact .mk _ _
    · rw[dT (show(ze [] (sM (jy w k).d)).2≠0 from a),ZW,Z2 a];exact .mk _ _
theorem begin_g{w:DY}(h:WR w){k i:Int}(a:On k){N:Nat}(hN:60002<=N):Is (Oq N (qP w) k i) (My w k i):=by
  have c:=Vg h a;have j:=(h.at a).disk;unfold Oq My;by_cases b:i=k
  · subst b;rw[dF C3,Z1,Z3 C3,HA c];simp only[vf];rw[VX j hN];simp only[vf,ba];rw[Ps (λr:vp=>G ((r.h:Int)=1)) (λn=>Bt N (qP w) i i (G ((0:Int)<=n))) (sM (jy w i).d) (λn r l g=>by
      unfold Sc;rw[kF,g];rfl)]
    rw[<-Ly];cases hf:(sM (jy w i).d).findIdx? (λr:vp=>G ((r.h:Int)=1))with
    |some n=>
      simp only[qv,if_true];rw[dT V];exact .mk _ _
    |none=>
      simp only[jJ,cL,if_false];unfold Sd Bt;rw[Z1];show Is ((Ir w.r).bind _) _;rw[vm_New_eq,Z3 (nn h.C)];simp only[vf];rw[dF V,Z1];show Is ((II N w.r<|BU w.r).bind _) _;have f:=IH<|pQ h.C;rw[Ew _ _ V,Z3 (nn h.C),Z3 (nn (Kr.2 f))];simp only[vf];rw[dF V,Z1,W7 h a (OA V a V V (λx e=>by cases e) (img_b (pQ h.C) (SJ h.C)).1) hN];exact .mk _ _
  · rw[dT (show i≠k from b),ZW,Z2 b];exact .mk _ _
end Pw
open Go Go.Proofs Go.LX
namespace Pw
open Dk
section
variable{w:DY}{N:Nat}
theorem step6_g(h:WR w){x:mR}(g:1<=x.h/\x.h<=9/\x.h≠4/\x.h≠5/\x.h≠6)(hN:60002<=N):Is (ui N x (qP w) bd) (p8 w (NW x)):=by
  have f:p8 w (NW x)=if x.q<0\/(O w.m:Int)<=x.q then(w,5)else
      if x.h=8 then bootW w x.q else
      if(jy w x.q).up=aw then(w,7)else
      if x.h=1 then My w x.q x.s else
      if x.h=3 then HQ w (NW x)else
      if x.h=7 then(Az w x.q ⟨[],(jy w x.q).d,aw⟩,0)else runW w (NW x):=by
    unfold p8;rw[Z3 (show¬((NW x).h=4\/(NW x).h=5) by simp only[NW];omega),Z3 (show¬(NW x).h=6 by simp only[NW];omega),Z3 (show¬((NW x).h<1\/9<(NW x).h) by simp only[NW];omega)];rfl
  rw[f];unfold ui;rw[ZW];have hl:(O (qP w).m:Int)=O w.m:=by unfold qP;simp
  rw[hl];by_cases c:x.q<0\/(O w.m:Int)<=x.q
  · rw[show(G ((x.q:Int)<0)||G (((O w.m:Int):Int)<=x.q))=bd by simpa using c,Z2 c];exact .mk _ _
  · rw[show(G ((x.q:Int)<0)||G (((O w.m:Int):Int)<=x.q))=aw by simpa using c,Z3 c,Z1];have i:=h.many;have J:On x.q:=⟨by omega,by omega⟩;by_cases e:x.h=8
    · rw[dT e,Z2 e];exact(boot_g h J hN).pair
    · rw[dF e,Z3 e,Z1,HA (Vg h J)];simp only[vf];rw[up_g];cases hu:(jy w x.q).up with
      |false=>exact .mk _ _
      |true=>
        simp only[cA,Z1,nr,if_false];by_cases k1:x.h=1
        · rw[dT k1,Z2 k1];exact(begin_g h J hN).pair
        · rw[dF k1,Z3 k1,Z1];by_cases b:x.h=3
          · rw[dT b,Z2 b];exact(resend_g h J).pair
          · rw[dF b,Z3 b,Z1];by_cases a:x.h=7
            · rw[dT a,Z2 a];have:=Hn w x.q ⟨[],(jy w x.q).d,aw⟩;show Is (U ((0:Int),(⟨w.r,(qP w).m.set x.q.toNat<|Ph ⟨[],(jy w x.q).d,aw⟩,w.u⟩:aJ))) _;rw[this];exact .mk _ _
            · rw[dF a,Z3 a];exact(run_g h J hN).pair
theorem step45_g(h:WR w)(x:mR)(a:x.h=4\/x.h=5)(hN:60002<=N):Is (vL N (qP w) x) (p8 w (NW x)):=by
  have b:p8 w (NW x)=hearW w x.n (decide<|x.h=5):=by unfold p8;rw[Z2 (show((NW x).h=4\/(NW x).h=5)from a)];rfl
  have c:vL N (qP w) x=rC N x (qP w) true:=by
    unfold vL;rcases a with h4|h5
    · rw[dT h4,ZW]
    · rw[dF (show¬x.h=4 by omega),dT h5,Z1,ZW]
  rw[b,c];unfold rC;rw[ZW,dT (show x.h≠6 by omega),ZW];exact(hear_g h _ _ hN).pair
theorem step_g(h:WR w)(x:mR)(hN:60002<=N):Is (vL N (qP w) x) (p8 w (NW x)):=by
  by_cases a:x.h=4\/x.h=5
  · exact step45_g h x a hN
  · by_cases c:x.h=6
    · have f:p8 w (NW x)=if x.n<0\/(O w.u:Int)<=x.n then(w,5)else(⟨w.r,w.m,w.u.take x.n.toNat++w.u.drop (x.n.toNat+1)⟩,0):=by
        unfold p8;rw[Z3 (show¬((NW x).h=4\/(NW x).h=5)from a),Z2 (show(NW x).h=6 from c)];rfl
      have g:vL N (qP w) x=rC N x (qP w) true:=by
        unfold vL;rw[dF (show¬x.h=4 by omega),dF (show¬x.h=5 by omega),dT c,Z1,Z1]
      rw[f,g];unfold rC;rw[ZW,dF (show¬x.h≠6 by omega),Z1];show Is ((Ml w.u x.n aw).bind _) _;rw[wTake,Z3 (nn ((NA _).2 ⟨h.mlen,h.mok⟩))];unfold OT;by_cases b:x.n<0\/(O w.u:Int)<=x.n
      · rw[Z2 b,Z2 b];exact .mk _ _
      · rw[Z3 b,Z3 b];exact .mk ⟨w.r,w.m,w.u.take x.n.toNat++w.u.drop (x.n.toNat+1)⟩ 0
    · have g:vL N (qP w) x=rC N x (qP w) false:=by
        unfold vL;rw[dF (show¬x.h=4 by omega),dF (show¬x.h=5 by omega),dF c,Z1,Z1]
      rw[g];unfold rC;rw[Z1];by_cases kk:1<=x.h/\x.h<=9
      · have d:=step6_g h (x:=x) V hN;have:x.h=1\/x.h=2\/x.h=3\/x.h=7\/x.h=8\/x.h=9:=by omega
        rcases this with e|e|e|e|e|e<;>(rw[e];simp only[show G ((1:Int)=1)=bd from rfl,show G ((2:Int)=1)=aw from rfl,show G ((2:Int)=2)=bd from rfl,show G ((3:Int)=1)=aw from rfl,show G ((3:Int)=2)=aw from rfl,show G ((3:Int)=3)=bd from rfl,show G ((7:Int)=1)=aw from rfl,show G ((7:Int)=2)=aw from rfl,show G ((7:Int)=3)=aw from rfl,show G ((7:Int)=7)=bd from rfl,show G ((8:Int)=1)=aw from rfl,show G ((8:Int)=2)=aw from rfl,show G ((8:Int)=3)=aw from rfl,show G ((8:Int)=7)=aw from rfl,show G ((8:Int)=8)=bd from rfl,show G ((9:Int)=1)=aw from rfl,show G ((9:Int)=2)=aw from rfl,show G ((9:Int)=3)=aw from rfl,show G ((9:Int)=7)=aw from rfl,show G ((9:Int)=8)=aw from rfl,show G ((9:Int)=9)=bd from rfl,ZW,Z1];exact d)
      · have f:p8 w (NW x)=(w,4):=by
          unfold p8;rw[Z3 (show¬((NW x).h=4\/(NW x).h=5)from a),Z3 (show¬(NW x).h=6 from c),Z2 (show(NW x).h<1\/9<(NW x).h by simp only[NW];omega)]
        rw[f,dF (show¬x.h=1 by omega),dF (show¬x.h=2 by omega),dF (show¬x.h=3 by omega),dF (show¬x.h=7 by omega),dF (show¬x.h=8 by omega),dF (show¬x.h=9 by omega)];exact .mk _ _
theorem PJ{p:H bN}(hN:60002<=N):∀l:H Co,vh (Mj N p) TP l ()=U (HV p l)
  |[]=>rfl
  |x::l=>by
    rw[gq];have a:=PJ (p:=p) hN l;unfold Mj at a⊢;rw[Hf _ _ V];simp only[vf];by_cases h:(fP p x.t).2=0
    · rw[dF (nn h),Z1,a,HV,Z3 (nn h)]
    · rw[dT (show(fP p x.t).2≠0 from h),ZW,HV,Z2 h]
theorem plc_g(p:H bN)(x:Hc)(g:O x.d.z<=9223372036854775807)(hN:60002<=N):Om N p (Ph x)=U (zf p x):=by
  unfold Om zf;show(zi N x.d).bind _=_;rw[Dk.JZ N hN _ g];simp only[vf];by_cases b:lG x.d=0
  · rw[dF (nn b),Z1,Z3 (nn b),up_g];cases hu:x.up with
    |false=>
      show(bif G ((0:Int)<(O x.D:Int))then _ else _)=U (if x.D=[]then 0 else 4);by_cases a:x.D=[]
      · rw[a,Z2 rfl];rfl
      · rw[Z3 a,dT (by have:=mA.2 a;omega)];rfl
    |true=>
      simp only[cA,Z1,nr,if_false];show(bif G ((0:Int)<(O x.d.z:Int))then _ else _)=_;by_cases a:x.d.z=[]
      · rw[a,Z3 C3];rw[dF C3,Z1,VX b hN];simp only[vf];rw[Qy N V,Z3 (show¬120<O (sM x.d) by have:=(dOk b).len;omega)];simp only[vf];by_cases f:(ze [] (sM x.d)).2=0
        · rw[dF (nn f),Z1,Z3 (nn f),coSame];simp only[vf];show(bif !decide ((ze []<|sM x.d).1=x.D)then _ else _)=_;by_cases c:(ze [] (sM x.d)).1=x.D
          · rw[dT c,Z3 (λe=>e c)];exact PJ hN x.D
          · rw[dF c,Z2 c];rfl
        · rw[dT (show(ze [] (sM x.d)).2≠0 from f),ZW,Z2 f]
      · rw[Z2 a,dT (by have:=mA.2 a;omega),ZW]
  · rw[dT (show lG x.d≠0 from b),ZW,Z2 b]
theorem IS{w:aJ}(hN:60002<=N):∀l:H dW,vh (CK N w) Mk l ()=U (Sj w.r l)
  |[]=>rfl
  |m::l=>by
    rw[gq];have a:=IS (w:=w) hN l;generalize vh (CK N w) Mk l=F at a⊢;unfold CK Sj;cases ht:m.G with
    |true=>exact a
    |false=>
      rw[Z1,Hf _ _ V,Z3 C3];simp only[vf];by_cases h:(fP w.r m.t).2=0
      · rw[dF (nn h),Z1,a,Z3 (nn h)]
      · rw[dT (show(fP w.r m.t).2≠0 from h),ZW,Z2 h]
theorem Pu{w:aJ}(hN:60002<=N)(k:Unit->B Int):∀l:H Hc,(∀x∈l,O x.d.z<=9223372036854775807)->vh (CL N w) k (l.map Ph) ()=if NB w.r l≠0 then U (NB w.r l)else k ()
  |[],_=>by simp[NB,lM]
  |x::l,hw=>by
    rw[cF,gq];have a:=Pu (w:=w) hN k l λy b=>hw y<|bo _ b;generalize vh (CL N w) k (l.map Ph)=F at a⊢;unfold CL;rw[plc_g _ _ (hw x C3) hN];simp only[vf];by_cases h:zf w.r x=0
    · rw[dF (nn h),Z1,a,show NB w.r (x::l)=NB w.r l by rw[NB,Z3 (nn h)]]
    · rw[dT (show zf w.r x≠0 from h),ZW,show NB w.r (x::l)=zf w.r x by rw[NB,Z2 h],Z2 h]
def Wts(w:DY):Prop:=∀x∈w.m,O x.d.z<=9223372036854775807
theorem check_g(d:Wts w)(hN:60002<=N):Fu N (qP w)=U (yB w):=by
  unfold Fu yB;show(tT w.r).bind _=_;rw[U3];simp only[vf];by_cases b:FY w.r=0
  · rw[dF (nn b),Z1,Z3 (nn b)];have hl:(O (qP w).m:Int)=O w.m:=by unfold qP;simp
    rw[hl];by_cases e:O w.m=3
    · rw[dF V,Z1,Z3 V];show(bif G ((eG w.u:Int)≠0)then U (eG w.u)else _)=_;by_cases c:eG w.u=0
      · rw[dF (nn c),Z1,Z3 (nn c)];show vh (CL N<|qP w) _ (w.m.map Ph) ()=_;rw[Pu hN _ _ d];unfold Sb;show(if NB w.r w.m≠0 then _ else vh (CK N<|qP w) _ w.u ())=_;rw[IS hN];by_cases a:NB w.r w.m=0
        · rw[Z3 (nn a),Z3 (nn a)];rfl
        · rw[Z2 a,Z2 a];rfl
      · rw[dT (show eG w.u≠0 from c),ZW,Z2 c]
    · rw[dT V,ZW,Z2 V]
  · rw[dT (show FY w.r≠0 from b),ZW,Z2 b]
end
end Pw
open Go Go.Proofs Go.LX
namespace Pw
open Dk
theorem QM(F:Unit->B (H bN)):∀l:H zv,(∀c∈l,O c.args<=3)->vh Er (I5 F) l ()=F ()
 |[],_=>rfl
 |c::l,h=>by
  rw[gq];have a:=QM F l λx b=>h x<|bo _ b;generalize vh Er (I5 F) l=al at a⊢;unfold Er;have:=h c C3;rw[vZ V V];exact a
theorem F1{p:H bN}(h:O p<=4/\∀x∈p,wJ x/\∀c∈x.C,O c.args<=3):K9 p=U p:=by
 unfold K9;rw[vZ V V];simp only[vf,ba];have b:∀(m i:Nat),i+m=O p->zE (zh p) (Et p) (i:Int) m ()=U p:=by
  intro m;induction m with
  |zero=>intro i _;rfl
  |succ m ih=>
   intro i hi;have d:i<O p:=by omega
   show zh p (i:Int) () (zE (zh p) (Et p) ((i:Int)+1) m)=_;have a:=ih (i+1) V;rw[show((i+1:Nat):Int)=(i:Int)+1 from rfl]at a;generalize zE (zh p) (Et p) ((i:Int)+1) m=nx at a⊢;unfold zh;have e:=h.2 p[i]<|cv d;have hl:=e.1;unfold wJ at hl;rw[rE d];simp only[vf];rw[vZ V V];simp only[vf];rw[QM _ _ e.2];exact a
 simpa using b (O p) 0 V
theorem MT{p:H bN}(h:FY p=0):O p<=4/\∀x∈p,wJ x/\∀c∈x.C,O c.args<=3:=by
 obtain⟨y,a,b⟩:=Ss p;rw[U3]at a;exact b (by rw[<-osi a];exact h)
theorem copy_g{w:DY}(h:WR w):Iq (qP w)=U (qP w):=by
 have g:=MT h.C;unfold Iq;show(K9 w.r).bind _=_;rw[F1 g];simp only[vf];have c:=h.many;show(C4 80<|w.m.map Ph).bind _=_;rw[vZ (by simp;omega) (by simp;omega)];simp only[vf];show(Gs w.u).bind _=_;rw[wCopy h.mlen (λm c=>(h.mok m c).2.2.2.2.2)];simp only[vf];unfold OM;rw[ba];have b:∀(m i:Nat),i+m=O (w.m.map Ph)->zE BC (Ja w.r w.u) (i:Int) m (w.m.map Ph)=U (qP w):=by
  intro m;induction m with
  |zero=>intro i _;rfl
  |succ m ih=>
   intro i hi;have f:i<O (w.m.map Ph):=by omega
   show BC (i:Int) (w.m.map Ph) (zE BC (Ja w.r w.u) ((i:Int)+1) m)=_;have a:=ih (i+1) V;rw[show((i+1:Nat):Int)=(i:Int)+1 from rfl]at a;generalize zE BC (Ja w.r w.u) ((i:Int)+1) m=nx at a⊢;unfold BC;rw[rE f];have k:i<O w.m:=by simpa using f
   have e:(w.m.map Ph)[i]=Ph w.m[i]:=by simp
   have J:=h.pl w.m[i]<|cv k;have l:=(Dk.uO J.disk).1;simp only[vf];rw[show(w.m.map Ph)[i].D=w.m[i].D by rw[e];rfl,show(w.m.map Ph)[i].B=w.m[i].d.B by rw[e];rfl,show(w.m.map Ph)[i].z=w.m[i].d.z by rw[e];rfl];rw[coCopy J.good.1.len (λx j=>(J.good.1.ok x j).2.2.2.2.2.2.2),vZ V V];simp only[vf];rw[vZ V V];simp only[vf,ba];rw[List.set_set,show(⟨w.m[i].D,w.m[i].d.B,w.m[i].d.z,(w.m.map Ph)[i].up⟩:dx)=(w.m.map Ph)[i] by rw[e];rfl,List.set_getElem_self];exact a
 simpa using b (O (w.m.map Ph)) 0 V
def zW:aJ:=⟨[],[],[]⟩
theorem do_of{w:DY}(c:Wts w)(x:mR){N:Nat}(hN:60002<=N){q:DY×Int}(f:WR w->Is (vL N (qP w) x) q):Ur N (qP w) x=U (if yB w≠0 then(zW,yB w)else if q.2≠0 then(zW,q.2)else(qP q.1,0)):=by
  unfold Ur;rw[check_g c hN];simp only[vf];by_cases a:yB w=0
  · rw[dF (nn a),Z1,Z3 (nn a)];have h:=(w_iff w).1 a;rw[copy_g h];simp only[vf];obtain⟨v,d,e⟩:=f h;rw[d];simp only[vf];by_cases b:q.2=0
    · rw[dF (nn b),Z1,Z3 (nn b),e b]
    · rw[dT (show q.2≠0 from b),ZW,Z2 b];rfl
  · rw[dT (show yB w≠0 from a),ZW,Z2 a];rfl
theorem do_g{w:DY}(a:Wts w)(x:mR){N:Nat}(hN:60002<=N):Ur N (qP w) x=U (if yB w≠0 then(zW,yB w)else if(p8 w (NW x)).2≠0 then(zW,(p8 w (NW x)).2)else(qP (p8 w (NW x)).1,0)):=do_of a x hN λh=>step_g h x hN
end Pw
open Go Go.Proofs Go.LX
namespace Pw
open Dk
theorem wts_of{l:H dx}{w:World}{Ys A:BS}{v:Value}(h:dN iM w Ys A v l):∀x∈l,O x.z<=9223372036854775807:=by
 obtain⟨a,cap,_,_,_,_,f⟩:=h;intro x c;obtain⟨i,hi,rfl⟩:=List.getElem_of_mem c;obtain⟨b,o,cells,E,g,_,_,_,d⟩:=f i hi;obtain⟨_,_,_,_,_,_,e⟩:=eZ d;exact e.aZ
theorem wts_to{a:aJ}(h:∀x∈a.m,O x.z<=9223372036854775807):Wts (toW a):=by
 intro x c;obtain⟨y,b,rfl⟩:=List.mem_map.1 c;exact h y b
theorem gl(w:DY):O (qP w).m=O w.m:=by unfold qP;simp
theorem OB{α β:Type}{body:Int->α->Unit->(Unit->B Yi)->B Yi}{kk:Unit->B Yi}(p:α->β->Yi)(a:H α)(b:H β)(hl:O a=O b)
  (e:∀(i:Nat) x y nx,b[i]? =U y->body (i:Int) x () nx=bif p x y then nx ()else U aw):ib body kk 0 a ()=bif DO p a b then kk ()else U false:=by
 have c:∀(l:H α) (i:Nat),i+O l=O b->ib body kk (i:Int) l ()=bif DO p l (b.drop i)then kk ()else U false:=by
  intro l;induction l with
  |nil=>
   intro i h;rw[List.drop_eq_nil_of_le (by simp at h;omega)];rfl
  |cons x l ih=>
   intro i h;have d:i<O b:=by simp at h;omega
   rw[List.drop_eq_getElem_cons d];show body (i:Int) x () (ib body kk ((i:Int)+1) l)=_;rw[e i x b[i] _ (bl d)];cases J:p x b[i]with
   |true=>simp only[ZW,DO,J,gk];exact ih (i+1) (by simp at h;omega)
   |false=>simp[DO,J]
 have:=c a 0 V;simpa using this
theorem S8(a b:H bN):VJ a b=U (G (a=b)):=by
  unfold VJ;by_cases h:O a=O b
  · rw[dF V];simp only[Z1];rw[OB (λx y=>G (x=y)) a b h (λi x y Ys f=>by
      obtain⟨v,o,c⟩:=x;obtain⟨w0,E,d⟩:=y;unfold UC;rw[kF,f,cG];simp only;by_cases g:v=w0
      · by_cases k:o=E
        · subst g k;simp only[decide_true,oX,ZW];by_cases j:O c=O d
          · rw[dF V];simp only[Z1];rw[OB (λx y=>G (x=y)) c d j (λi x y Ys f=>by
              obtain⟨al,l,w,t,u⟩:=x;obtain⟨A,m,C,z,q⟩:=y;unfold UA;rw[kF,f,cG];simp only[eqInt,cG,GX,qo,zv.mk.injEq];by_cases s:al=A<;>by_cases n:l=m<;>by_cases p:w=C<;>by_cases r:t=z<;>by_cases F:u=q<;>simp[s,n,p,r,F]),Cb (λ_ _=>rfl)]
            simp[UB,qo]
          · rw[dT V];have:c≠d:=λe=>j (by rw[e]);simp[this,qo]
        · simp[k,qo]
      · simp[g,qo]),Cb (λ_ _=>rfl)]
    unfold UD;by_cases e:a=b<;>simp[e]
  · rw[dT V];have:a≠b:=λe=>h (by rw[e]);rw[dF this];rfl
theorem hN:60002<=NN:=by decide
end Pw
open Go Go.Proofs Go.LX
theorem moved_ok:Cj NN=U true:=by
 unfold Cj;rw[program_p];kernel_rfl
namespace Pw
open Dk
theorem L0(l:H dx)(h:O l<=2)(x:dx):Room 80 l [x]:=Room.mk (by simp;omega) (by simp;omega)
theorem new_g(p:H bN){N:Nat}(hN:4<=N):Ii N p=U (if FY p≠0 then(zW,FY p)else(qP (wNew p),0)):=by
  unfold Ii;rw[U3];simp only[vf];by_cases h:FY p=0
  · rw[dF (nn h),Z1,Z3 (nn h),F1 (MT h)];simp only[vf];obtain⟨k,rfl⟩:∃k,N=k+4:=⟨N-4,by omega⟩;simp only[zy,Rc];rw[dT tz,ZW,gJ (L0 _ C3 _),gI,dT tz,ZW,gJ (L0 _ C3 _),gI,dT tz,ZW,gJ (L0 _ C3 _),gI,dF tz,Z1];rfl
  · rw[dT (show FY p≠0 from h),ZW,Z2 h];rfl
end Pw
open Go Go.Proofs Go.LX
namespace Dk
theorem OF{x y:Co}(a:0<=x.x/\x.x<=2)(b:0<=y.x/\y.x<=2):Rd x y=G (x.x<y.x):=by
 unfold Rd Tb;rw[show RowKit.wrap64 (x.x-y.x)=x.x-y.x by unfold RowKit.wrap64;omega,decide_eq_decide];omega
theorem sort_few(o:H Co)(c:Co)(ho:O o<=3)(e:Up o)(a:∀x∈o,0<=x.x/\x.x<=2)(f:0<=c.x/\c.x<=2)(b:∀x∈o,x.x≠c.x):H0 Rd (o++[c])=Hg c o:=by
  unfold H0 Sort.insertionSort
  match o,ho,e,a,b with
  |[],_,_,_,_=>
    rw[fS];simp[Hg]
  |[x],_,_,a,b=>
    have d:=a x C3;have j:=b x C3;rw[fS,fS];simp[Sort.insInner,Hg,OF f d,Sort.swp];by_cases h:c.x<x.x
    · rw[Z2 h,Z3 V]
    · rw[Z3 h,Z2 V]
  |[x,y],_,e,a,b=>
    have d:=a x C3;have g:=a y C3;have j:=b x C3;have k:=b y C3;have l:x.x<y.x:=by simp[Up]at e;exact e
    rw[fS,fS,fS];simp[Sort.insInner,Hg,OF f d,OF f g,OF g d,Sort.swp,show¬y.x<x.x by omega];by_cases h:c.x<y.x
    · by_cases i:c.x<x.x
      · simp[h,i,OF f d,show¬x.x<c.x by omega]
      · simp[h,i,OF f d,show x.x<c.x by omega,show¬y.x<c.x by omega]
    · simp[h,show x.x<c.x by omega,show y.x<c.x by omega]
  |[x,y,z],_,e,a,b=>
    have d:=a x C3;have g:=a y C3;have n:=a z C3;have j:=b x C3;have k:=b y C3;have m:=b z C3;simp[Up]at e;omega
  |x::y::z::u::r,h,_,_,_=>simp at h
theorem P0(b:vp):∀(l:H Co) (h:B Co) (o:H Co),l.Pairwise (λx y=>x.x≠y.x)->(∀y,h=U y->∀x∈l,x.x≠b.s)->O o+O l<=3->
    vh (wy b) (oZ b) l (h,o)=oZ b ((match Dq b l with|some x=>U x|none=>h),o++Lp b l)
  |[],h,o,_,_,_=>by simp[lM,Dq,Lp]
  |x::r,h,o,J,hh,hl=>by
    rw[dK]at J;simp only[bw]at hl;rw[gq];have f:=P0 b r;generalize vh (wy b) (oZ b) r=nx at f⊢;unfold wy;simp only;by_cases a:x.x=b.s
    · rw[dT a];simp only[ZW];have i:∀y∈r,y.x≠b.s:=λy c e=>J.1 y c<|a.trans e.symm;rw[f (U x) o J.2 (λ_ _=>i) V];have k:Dq b r=none:=by
        unfold Dq;rw[sd];intro y c;simpa using i y c
      have d:Dq b (x::r)=U x:=by unfold Dq;rw[eE];simp[a]
      have g:Lp b (x::r)=Lp b r:=by unfold Lp;rw[hS];simp[a]
      rw[k,d,g]
    · rw[dF a];simp only[Z1];rw[gJ (Room.mk (by simp;omega) (by simp;omega)),f h (o++[x]) J.2 (λy c z j=>hh y c z (bo _ j)) (by simp;omega)];have d:Dq b (x::r)=Dq b r:=by unfold Dq;rw[eE];simp[a]
      have g:Lp b (x::r)=x::Lp b r:=by unfold Lp;rw[hS];simp[a]
      rw[d,g,cy,List.singleton_append]
theorem j10_eq(b:vp)(a:H Co)(g:Good a)(c1 c2 c:Int)(d:H Int)(i:c1=b.s)(e:0<=b.s/\b.s<=2):qc (Lp b a) c1 c2 d c=U (Hg ⟨c1,c2,d,c⟩ (Lp b a),0):=by
 unfold qc;have hl:=oth_len b a;have j:=g.len;rw[gJ (Room.mk (by simp;omega) (by simp;omega)),gJ (by simp;omega)];rw[sort_few (Lp b a) ⟨c1,c2,d,c⟩ V (oth_up b g.up) (λx f=>by have:=g.ok x (VV f).1;exact⟨this.1,this.2.1⟩) (by subst i;exact e) (λx f=>by have:=(VV f).2;rw[i];exact this)]
theorem FG(a:H Co)(b:vp):qC a b=U (oL a b):=by
  unfold qC oL;by_cases f:gM a=0
  · by_cases j:eH b=0
    · have g:=(IA a).1 f;have gr:=JY b j;rw[f,j];simp only[ne_eq,not_true_eq_false,decide_false,Z1,if_false];rw[P0 b a none [] (g.up.imp (λh=>by omega)) (λy m=>by cases m) (by simpa using g.len),ck];have e:∀s:B Co×H Co,oZ b s=tC s.1 b s.2 (decide<|b.h=1\/b.h=4):=by
        rintro⟨o,p⟩;unfold oZ;simp only;by_cases d:b.h=1
        · simp[d]
        · simp[d]
      rw[e];simp only;unfold tC;have n:=gr.h;cases hh:Dq b a with
      |none=>
        simp only;by_cases d:b.h=1\/b.h=4
        · rw[dT d,Z2 d];simp only[ZW,jJ,Z1];cases (G (b.k=1) !=G (b.h=1))with
          |true=>rfl
          |false=>
            simp only[Z1,cL,if_false];exact j10_eq b a g b.s b.k (-1) b.t Z gr.s
        · rw[dF d,Z3 d];rfl
      |some c=>
        have l:c.x=b.s:=by
          have:=AM hh;simpa using this
        simp only;by_cases d:b.h=1\/b.h=4
        · rw[dT d,Z2 d];rfl
        · rw[dF d,Z3 d];simp only[Z1,Option.isNone_some,vf];cases (G (b.k≠c.k)||(G (c.E≠ -1) !=G (b.h=5)))with
          |true=>rfl
          |false=>
            simp only[Z1,cL,if_false];by_cases i:b.h=5
            · rw[dT i,Z2 i];rfl
            · rw[dF i,Z3 i];simp only[Z1];by_cases k2:b.h=2
              · rw[dT k2,Z2 k2];exact j10_eq b a g _ _ _ _ l gr.s
              · rw[dF k2,Z3 k2];simp only[Z1];by_cases k:c.k=100
                · rw[dT k,Z2 k];rfl
                · rw[dF k,Z3 k];exact j10_eq b a g _ _ _ _ l gr.s
    · rw[f];simp only[ne_eq,not_true_eq_false,decide_false,Z1,if_false];rw[show G (¬eH b=0)=bd from dT j,Z2 j];rfl
  · rw[show G (gM a≠0)=bd from dT f,Z2 f];rfl
theorem WU:∀(l:H vp) (a:H Co),vh Ai FI l a=U (ze a l)
  |[],a=>rfl
  |x::l,a=>by
    rw[gq,Ai,FG];simp only[vf];rw[ze];by_cases h:(oL a x).2=0
    · rw[dF (show¬(oL a x).2≠0 from λe=>e h),Z1,WU l,Z3 (λe=>e h)]
    · rw[dT (show(oL a x).2≠0 from h),ZW,Z2 h]
theorem Hh(l:H vp):uK l=U (if 120<O l then([],2)else ze [] l):=by
  unfold uK;by_cases h:120<O l
  · rw[dT V,ZW,Z2 h]
  · rw[dF V,Z1,WU,Z3 h]
end Dk
open Go Go.Proofs Go.LX
namespace Pw
open Dk
theorem coSameR(a b:H Co):zI a b=U (G (a=b)):=by
 rw[<-coSame];rfl
theorem VY{N:Nat}(w:aJ)(a:Unit->B Int){e:Int}(b:e≠0):∀l:H Co,vh (mf N w) (mg a) l e=U e
 |[]=>by rw[lM];unfold mg;rw[dT b,ZW]
 |x::l=>by
  rw[gq];have c:=VY (N:=N) w a b l;generalize vh (mf N w) (mg a) l=F at c⊢;unfold mf;rw[dF b,Z1,c]
theorem imgsR{N:Nat}(hN:60002<=N){w:aJ}(J:FY w.r=0)(a:Unit->B Int):∀l:H Co,vh (mf N w) (mg a) l 0=if HV w.r l≠0 then U (HV w.r l)else a ()
  |[]=>by rw[lM];unfold mg;rw[dF tz,Z1];rfl
  |x::l=>by
    rw[gq,mf,dT rfl,ZW,Oz J _ V];simp only[vf]
    skip
    rw[HV];by_cases h:(fP w.r x.t).2=0
    · rw[h,Z3 (show¬((0:Int)≠0)from λe=>e rfl),imgsR hN J a l]
    · rw[Z2 h,Z2 h,VY w a h]
theorem plcR{N:Nat}(hN:60002<=N){w:aJ}(J:FY w.r=0)(x:Hc)(i:O x.d.z<=9223372036854775807)(f:Unit->B Int):oG N w (Ph x) () f=if zf w.r x≠0 then U (zf w.r x)else f ():=by
  unfold oG zf;show(qb x.d).bind _=_;rw[S0 _ i];simp only[vf];by_cases b:lG x.d=0
  · rw[dF (nn b),Z1,Z3 (nn b),up_g];cases hu:x.up with
    |false=>
      simp only[eb,gk,ju,rr,ZW,if_true];show(bif G ((0:Int)<(O x.D:Int))then _ else _)=_;by_cases a:x.D=[]
      · rw[a,Z2 rfl];rfl
      · rw[Z3 a,dT (by have:=mA.2 a;omega)];rfl
    |true=>
      simp only[cA,gk,ju,ml,Z1,nr,if_false];show(bif G ((0:Int)<(O x.d.z:Int))then _ else _)=_;by_cases a:x.d.z=[]
      · rw[Z3 (show¬x.d.z≠[]from λe=>e a)];rw[dF (by rw[a];simp),Z1];show(jl x.d).bind _=_;rw[K4 _ b];simp only[vf];rw[show(Wp x.d).2=sM x.d from rfl,Hh,Z3 (show¬120<O (sM x.d) by have:=(dOk b).len;omega)];simp only[vf];by_cases c:(ze [] (sM x.d)).2=0
        · rw[dT c,ZW,Z3 (nn c),coSameR];simp only[vf];unfold oD oz;show(bif !decide ((ze []<|sM x.d).1=x.D)then _ else _)=_;by_cases g:(ze [] (sM x.d)).1=x.D
          · rw[dT g,Z3 (show¬(ze [] (sM x.d)).1≠x.D from λe=>e g),c,g,cA,Z1];exact imgsR hN J f x.D
          · rw[dF g,Z2 g,Z2 tz,eb,ZW];exact VY w f tz _
        · rw[dF c,Z1,Z2 c,Z2 c];unfold oD oz;rw[Z1];exact VY w f c _
      · rw[Z2 a,dT (by have:=mA.2 a;omega),ZW,Z2 tz]
  · rw[dT (show lG x.d≠0 from b),ZW,Z2 b,Z2 b]
theorem plcsR{N:Nat}(hN:60002<=N){w:aJ}(J:FY w.r=0)(k:Unit->B Int):∀l:H Hc,(∀x∈l,O x.d.z<=9223372036854775807)->vh (oG N w) k (l.map Ph) ()=if NB w.r l≠0 then U (NB w.r l)else k ()
  |[],_=>by simp[NB,lM]
  |x::l,hw=>by
    rw[cF,gq,plcR hN J x (hw x C3),plcsR hN J k l (λy a=>hw y (bo _ a)),NB];by_cases h:zf w.r x=0
    · rw[Z3 (nn h),Z3 (nn h)]
    · rw[Z2 h,Z2 h,Z2 h]
theorem mailsR{w:aJ}(J:FY w.r=0){N:Nat}(hN:60002<=N):∀l:H dW,vh (oF N w) xy l ()=U (Sj w.r l)
  |[]=>rfl
  |m::l=>by
    rw[gq];have a:=mailsR (w:=w) J hN l;generalize vh (oF N w) xy l=F at a⊢;unfold oF Sj;rw[Oz J _ V];simp only[vf];cases ht:m.G with
    |true=>exact a
    |false=>
      rw[Z3 C3,eb,gk];by_cases h:(fP w.r m.t).2=0
      · rw[dF (nn h),Z1,a,Z3 (nn h)]
      · rw[dT (show(fP w.r m.t).2≠0 from h),ZW,Z2 h]
theorem checkR{w:DY}(d:Wts w){N:Nat}(hN:60002<=N):wD N (qP w)=U (yB w):=by
  unfold wD yB;show(nk w.r).bind _=_;rw[chk_eq2];simp only[vf];by_cases a:FY w.r=0
  · rw[dF (nn a),Z1,Z3 (nn a)];have hl:(O (qP w).m:Int)=O w.m:=by unfold qP;simp
    rw[hl,<-Dk.yB];by_cases e:O w.m=3
    · rw[dF V,Z1,Z3 V];show(bif G ((eG w.u:Int)≠0)then U (eG w.u)else _)=_;by_cases c:eG w.u=0
      · rw[dF (nn c),Z1,Z3 (nn c)];show vh (oG N<|qP w) _ (w.m.map Ph) ()=_;rw[plcsR hN (show FY (qP w).r=0 from a) _ _ d];unfold C9;show(if NB w.r w.m≠0 then _ else vh (oF N<|qP w) _ w.u ())=_;rw[mailsR (show FY (qP w).r=0 from a) hN];by_cases b:NB w.r w.m=0
        · rw[Z3 (nn b),Z3 (nn b)];rfl
        · rw[Z2 b,Z2 b];rfl
      · rw[dT (show eG w.u≠0 from c),ZW,Z2 c]
    · rw[dT V,ZW,Z2 e]
  · rw[dT (show FY w.r≠0 from a),ZW,Z2 a]
end Pw
open Go Go.Proofs Go.LX
namespace Pw
open Dk
def Hs(o:B (aJ×Int))(q:DY×Int):Prop:=o=U (if q.2=0 then(qP q.1,0)else(zW,q.2))
theorem Hs.ok(v:DY):Hs (U (qP v,0)) (v,0):=rfl
theorem Hs.bad{u:DY}{e:Int}(h:e≠0):Hs (U (zW,e)) (u,e):=by unfold Hs;rw[Z3 h]
theorem S3{d:gD}(h:lG d=0){r:vp}(e:(YZ d r).2=0):lG (YZ d r).1=0:=by
  have ok:=Dk.uO h;unfold YZ at e⊢;by_cases a:(zM r).2=0
  · rw[Z3 V]at e⊢;by_cases b:60000<O d.B+O d.z+O (zM r).1+1
    · rw[Z2 b]at e;simp at e
    · rw[Z3 b];unfold lG;simp only;rw[Z3 (by simp only[bn,bw,iv];omega)];exact ok.2
  · rw[Z2 a]at e;exact ZD e a
theorem HG{w:DY}(hl:O w.m=3){k:Int}(j:On k)(g:lG (jy w k).d=0){r:vp}(l:Fk r):lq (qP w) k r=U ((mE (jy w k) r).2,qP (Az w k (mE (jy w k) r).1)):=by
  have c:0<=k/\k<O w.m:=by unfold On at j;omega
  have a:qP (Az w k<|jy w k)=qP w:=by rw[Gx c]
  unfold lq mE E8;rw[HA c,vf];show(qC (jy w k).D r).bind _=_;rw[FG,vf,Z3 (nn g)];by_cases e:(oL (jy w k).D r).2=0
  · rw[dT e,ZW,Z3 (nn e)];show(su (jy w k).d r).bind _=_;rw[putOn_eq _ _ g l,vf];unfold uM;by_cases b:(YZ (jy w k).d r).2=0
    · rw[dT b,ZW,Z3 (nn b)];show(xN (YZ (jy w k).d r).1).bind _=_;have i:=S3 g b;unfold Vb;rw[synced_eq _ i,vf,Z3 (nn i)];unfold qK;by_cases f:(P4 (YZ (jy w k).d r).1).2=0
      · rw[dT f,ZW,Z3 (nn f),f];exact ZS (λz=>U ((0:Int),z))<|Hn w k ⟨(oL (jy w k).D r).1,(P4 (YZ (jy w k).d r).1).1,(jy w k).up⟩
      · rw[dF f,Z1,Z2 f,a]
    · rw[dF b,Z1,Z2 b];unfold qK;rw[dF b,Z1,a]
  · rw[dF e,Z1,Z2 e];unfold uM qK;rw[dF e];simp only[Z1];rw[a]
theorem XS{w:DY}(h:WR w){m:dW}(b:Y0 m)(F:H dW->B (aJ×Int)):(bif G ((O w.u:Int)<40)then iE (Room 64 w.u [m]) (F (w.u++[m]))else F w.u)=F (Hm w.u m):=by
  rw[sendP_eq h];by_cases a:O w.u<40
  · rw[dT V,ZW,gJ (Room.mk (by simp;omega) (by simp;omega)),Z2 ⟨b,a⟩]
  · rw[dF V,Z1,Z3 (λx=>a x.2)]
theorem R0{w:DY}{x:Hc}{e:Int}{al:aJ->B (aJ×Int)}{q:DY}(k:Int)(a:e=0->Hs (al (qP (Az w k x))) (q,0)):
    Hs (bif G (e≠0)then U ((⟨[],[],[]⟩:aJ),e)else al (qP (Az w k x))) (q,e):=by
  by_cases h:e=0
  · rw[dF (nn h),Z1,h];exact a h
  · rw[dT (show e≠0 from h),ZW];exact .bad h
theorem taken_q{w:DY}(hl:O w.m=3){m:dW}(e:Y0 m)(i:lG (jy w m.y).d=0):∀l:H Co,Up l->(∀c∈l,coOk c)->
    Hs (vh (zn m (qP w) w.u) (EE (qP w) w.u) l ())
      (match uP m.s l with
      |none=>(w,0)
      |some c=>if c.k≠m.k-1\/c.E≠m.from_ then(w,0)else
        (Az w m.y (mE (jy w m.y) ⟨5,m.s,m.k-1,0,[],[]⟩).1,(mE (jy w m.y) ⟨5,m.s,m.k-1,0,[],[]⟩).2))
  |[],_,_=>by unfold uP;exact .ok w
  |c::l,hu,hok=>by
    rw[Up,dK]at hu;have f:=taken_q hl e i l hu.2 λx a=>hok x<|.tail _ a;obtain⟨o1,o2,n,q,o,k,r,p⟩:=hok c<|.head _;rw[gq];unfold zn uk;unfold uP at f⊢;rw[eE];by_cases g:c.x=m.s
    · rw[dT g,ZW,gJ (Hl V)];have hn:l.find? (λc=>decide<|c.x=m.s)=none:=by
        rw[sd];intro x a;have:=hu.1 x a;rw[dF V];simp
      rw[hn]at f;simp only;by_cases b:c.k≠m.k-1\/c.E≠m.from_
      · rw[Z2 b,show(G (((c.k+1):Int)=m.k)&&G ((c.E:Int)=m.from_))=aw by
          rcases b with b|b
          · rw[dF V];rfl
          · rw[dF b,Bool.and_false],Z1]
        exact f
      · rw[Z3 b,dT V,dT (show c.E=m.from_ by omega),show c.k=m.k-1 by omega,g];simp only[oX,ZW,ck];show Hs ((lq (qP w) m.y _).bind _) _;rw[HG hl e.2.1 i (OA V e.2.2.1 (by have:=e.2.2.2.1;omega) V (λx a=>by cases a) (λx a=>by cases a))];simp only[vf];exact R0 (al:=λv=>U (v,0)) m.y λj=>.ok _
    · rw[dF g,Z1];exact f
theorem had_q(m:dW)(F:Yi->B (aJ×Int)):∀(l:H vp) (b:Yi),vh (zo m) F l b=F (b||l.any λr=>G (r.h=4)&&G (r.s=m.s)&&G (m.k<=r.k))
 |[],b=>by rw[List.any_nil,rr];rfl
 |x::l,b=>by
  show vh (zo m) F l _=_;rw[had_q m F l,uG,Bool.or_assoc]
theorem catMail{a b:H dW}(h:O a+O b<=1000):xM [a,b]=U (a++b):=by
 show xY a 0 (λs=>xY b s<|BQ [a,b])=_;unfold xY;rw[gI V V,dF V,Z1];simp only[];rw[gI V V,dF V,Z1];unfold BQ H5;rw[gJ (by constructor<;>omega)];show xX a [] (λs=>xX b s Ia)=_;unfold xX;rw[gJ (Room.mk (by simp;omega) (by simp;omega)),ck];simp only[];rw[gJ (Room.mk V V)];rfl
theorem mail_q{w:DY}{x:mR}{m:dW}{ry:H dW}(h:WR ⟨w.r,w.m,ry⟩)(a:Y0 m)(hi:m.G=aw->(fP w.r m.t).2=0)(f:x.h≠6):
    Hs (lF x (qP w) m ry) (if(jy w m.y).up=aw then(w,7)else
      if m.G then
        match uP m.s (jy w m.y).D with
        |none=>(⟨w.r,w.m,ry⟩,0)
        |some c=>if c.k≠m.k-1\/c.E≠m.from_ then(⟨w.r,w.m,ry⟩,0)else
          (Az ⟨w.r,w.m,ry⟩ m.y (mE (jy w m.y) ⟨5,m.s,m.k-1,0,[],[]⟩).1,(mE (jy w m.y) ⟨5,m.s,m.k-1,0,[],[]⟩).2)
      else if hadP (jy w m.y) m.s m.k then(⟨w.r,w.m,Hm ry (ansM m)⟩,0)else
        if(mE (jy w m.y) ⟨4,m.s,m.k,0,[],m.t⟩).2≠0 then(⟨w.r,w.m,ry⟩,(mE (jy w m.y) ⟨4,m.s,m.k,0,[],m.t⟩).2)else
        (⟨w.r,(Az w m.y (mE (jy w m.y) ⟨4,m.s,m.k,0,[],m.t⟩).1).m,Hm ry (ansM m)⟩,0)):=by
  have D0:PlR w.r (jy w m.y):=h.at a.2.1;have i:=D0.good.1;have j:O w.m=3:=h.many;have b:Y0 (ansM m):=⟨a.2.1,a.1,a.2.2.1,a.2.2.2.1,by simp[ansM],by simp[ansM]⟩;unfold lF;rw[dF f,Z1,ck,HA (w:=w) (by have:=a.2.1;omega)];simp only[vf];rw[up_g];by_cases g:(jy w m.y).up=aw
  · rw[g,Z2 rfl];exact .bad V
  · rw[Z3 g];have k:(jy w m.y).up=true:=by simpa using g
    rw[k];simp only[cA,Z1];cases ht:m.G with
    |true=>
      simp only[ZW,if_true];exact taken_q (w:=⟨w.r,w.m,ry⟩) j a D0.disk _ i.up i.ok
    |false=>
      simp only[Z1,cL,if_false];show Hs ((jl (jy w m.y).d).bind _) _;rw[K4 _ D0.disk];simp only[vf];rw[had_q,ml];show Hs (zq _ _ _<|hadP (jy w m.y) m.s m.k) _;unfold zq uo um;rw[ck];cases hh:hadP (jy w m.y) m.s m.k with
      |true=>
        simp only[cA,Z1,if_true];refine tc (ZS (λz=>Hs z _)<|XS h b λl=>U ((⟨w.r,(qP w).m,l⟩:aJ),(0:Int))) ?_;exact .ok ⟨w.r,w.m,Hm ry<|ansM m⟩
      |false=>
        simp only[eb,ZW,cL,if_false];show Hs ((lq (qP ⟨w.r,w.m,ry⟩) m.y ⟨4,m.s,m.k,0,[],m.t⟩).bind _) _;rw[HG (w:=⟨w.r,w.m,ry⟩) (r:=⟨4,m.s,m.k,0,[],m.t⟩) j a.2.1 D0.disk (OA V a.2.2.1 (by have:=a.2.2.2.1;omega) V (λx n=>by cases n) (img_I64 h.C (hi ht)))];simp only[vf];by_cases f:(mE (jy w m.y) ⟨4,m.s,m.k,0,[],m.t⟩).2=0
        · rw[Z3 (nn f)];have e:(mE (jy ⟨w.r,w.m,ry⟩ m.y) ⟨4,m.s,m.k,0,[],m.t⟩).2=0:=f;rw[dF (nn e),Z1];have:=XS h b λl=>U ((⟨w.r,(qP<|Az w m.y (mE (jy w m.y) ⟨4,m.s,m.k,0,[],m.t⟩).1).m,l⟩:aJ),(0:Int));refine tc (ZS (λz=>Hs z _) this) ?_;exact .ok ⟨w.r,(Az w m.y (mE (jy w m.y) ⟨4,m.s,m.k,0,[],m.t⟩).1).m,Hm ry<|ansM m⟩
        · rw[Z2 f];have e:(mE (jy ⟨w.r,w.m,ry⟩ m.y) ⟨4,m.s,m.k,0,[],m.t⟩).2≠0:=f;rw[dT e,ZW];exact .bad f
end Pw
open Go Go.Proofs Go.LX
namespace Pw
open Dk
theorem in_i(n a b:Int):aQ n a b=bd↔a<=n/\n<=b:=by simp[aQ]
theorem VZ(n m:Int):aL n m=bd↔0<=n/\n<m:=by simp[aL]
theorem epoch_of{w:DY}{k:Int}{c:Co}(e:Dk.Good (jy w k).D){r:vp}(b:uP r.s (jy w k).D=U c)(h:(oL (jy w k).D r).2=0)(f:r.h=3):c.k≠100:=by
  obtain⟨-,a,-⟩:=PF h;rw[b]at a;rcases a with⟨y,_,_⟩|⟨y,_,_⟩|⟨_,y,_,_,_,_⟩|⟨d,y,hx,hde,_,hdx,_⟩|⟨_,y,_,_,_,_⟩
  · omega
  · omega
  · omega
  · obtain rfl:=osi hx;omega
  · omega
def recK(w:DY)(x:mR)(c:Co)(r:vp):DY×Int:=
 if x.h=9 then(Az w x.q (WT (jy w x.q) r x.n).1,(WT (jy w x.q) r x.n).2)else
 if(mE (jy w x.q) r).2≠0 then(w,(mE (jy w x.q) r).2)else
 if r.h=3 then(⟨w.r,(Az w x.q (mE (jy w x.q) r).1).m,Hm w.u (NC x.q ⟨c.x,c.k,c.t,r.q⟩)⟩,0)else(Az w x.q (mE (jy w x.q) r).1,0)
theorem rec_q{w:DY}(h:WR w){x:mR}(k:On x.q){c:Co}(p:c∈(jy w x.q).D){fuel:Int}{r:vp}(S:Sliced w.r x.q c fuel r):
    Hs (pK x (Ph (jy w x.q)) c (qP w) r.h r.q r.H r.t)
      (recK w x c r):=by
  have t:=Vg h k;have D0:=h.at k;have o:=D0.disk;obtain⟨o1,o2,F,C,Ys,A,q,u⟩:=D0.good.1.ok c p;have s:(⟨r.h,c.x,c.k,r.q,r.H,r.t⟩:vp)=r:=by rw[<-S.s,<-S.k]
  unfold pK yz pJ recK;simp only[s,ck];by_cases m:x.h=9
  · rw[dT m,ZW,Z2 m];unfold WT E8;rw[FG,Z3 (nn o)];simp only[vf];show Hs (bif G ((oL (jy w x.q).D r).2≠0)then _ else(su (jy w x.q).d r).bind _) _;by_cases j:(oL (jy w x.q).D r).2=0
    · rw[dF (nn j),Z1,Z3 (nn j),putOn_eq _ _ o S.w];simp only[vf];by_cases e:(YZ (jy w x.q).d r).2=0
      · have g:=S3 o e;rw[dF (nn e),Z1,Z3 (nn e)];generalize (YZ (jy w x.q).d r).1=d at g;unfold Xz;rw[Z3 (nn g),Z3 V];have W:=R7 (l:=d.z) (a:=0) (b:=(max 0<|min x.n (O d.z:Int)).toNat) V V;rw[fg,show((0:Nat):Int)=0 from rfl]at W;rw[show min (max x.n 0) (O d.z:Int)=(((max 0 (min x.n (O d.z:Int))).toNat:Nat):Int) by omega,W];simp only[vf];refine tc (ZS (λz=>Hs (U (z,(0:Int))) _)<|Hn w x.q ⟨[],⟨d.B,d.z.take (max 0<|min x.n (O d.z:Int)).toNat⟩,aw⟩) ?_;exact .ok _
      · rw[dT (show(YZ (jy w x.q).d r).2≠0 from e),ZW,Z2 e];exact .bad e
    · rw[dT (show(oL (jy w x.q).D r).2≠0 from j),ZW,Z2 j];exact .bad j
  · rw[dF m,Z1,Z3 m];show Hs ((lq (qP w) x.q r).bind _) _;rw[HG h.many k o S.w];simp only[vf];by_cases f:(mE (jy w x.q) r).2=0
    · rw[dF (nn f),Z1,Z3 (nn f)];by_cases i:r.h=3
      · rw[dT i,ZW,Z2 i,gJ (Hl V)];have J:On r.q:=by
          rcases S.how with hh|hh
          · omega
          · exact hh.2.1
        have E:=epoch_of D0.good.1 (by rw[S.s];exact S5 D0.good.1.up p) (Ix f).1 i;have v:Y0 ⟨x.q,r.q,c.x,c.k+1,aw,c.t⟩:=by
          refine⟨k,J,⟨o1,o2⟩,by simp only;omega,?_,u⟩;constructor
          · intro y;cases y
          · intro y;have:c.t=[]:=y;rw[this]at q;simp at q
        refine tc (ZS (λz=>Hs z _)<|XS h v λl=>U ((⟨w.r,(qP<|Az w x.q (mE (jy w x.q) r).1).m,l⟩:aJ),(0:Int))) ?_;exact Hs.ok (⟨w.r,(Az w x.q (mE (jy w x.q) r).1).m,Hm w.u<|NC x.q ⟨c.x,c.k,c.t,r.q⟩⟩:DY)
      · rw[dF i,Z1,Z3 i];exact .ok<|Az w x.q (mE (jy w x.q) r).1
    · rw[dT (show(mE (jy w x.q) r).2≠0 from f),ZW,Z2 f];exact .bad f
theorem run_q{w:DY}(h:WR w){x:mR}(m:On x.q){c:Co}(p:c∈(jy w x.q).D)(fuel:Int){N:Nat}(hN:60002<=N):
    Hs (pO N c (qP w) x (Ph (jy w x.q)) fuel) (runK w x.h x.q x.n c fuel):=by
  have J:=h.C;have o:=pQ J;have g:=co_of h m p;unfold pO runK;by_cases y:fuel<1\/2000<fuel
  · rw[show aQ fuel 1 2000=aw by rw[fx];intro e;have:=(in_i _ _ _).1 e;omega,Z2 y];exact .bad V
  · rw[show aQ fuel 1 2000=bd from(in_i _ _ _).2 V,Z3 y];simp only[cA,Z1];by_cases z:c.E= -1
    · have d:=λr e=>rec_q h m p<|slice_ok (r:=r) J (fuel:=fuel) (k:=x.q) g e;have hi:=(h.at m).img c p;have u:=img_of J hi;have st:=Uu u.st;rw[dF (show¬c.E≠ -1 by omega),Z1];show Hs ((j6 N w.r c.t).bind _) _;rw[Oz J _ V];simp only[vf];obtain⟨q,a⟩:∃q,uf w.r x.q c fuel=q:=⟨_,Z⟩;have b:=a;unfold uf at b;rw[Z3 (show¬0<=c.E by omega),Z3 (nn hi)]at b;have W:fP w.r c.t=((fP w.r c.t).1,0):=Prod.ext Z hi;generalize (fP w.r c.t).1=s at W u st b⊢;rw[W];by_cases f:s.o=3/\0<=s.bC/\s.bC<3/\s.bC≠x.q
      · rw[show((G ((s.o:Int)=3)&&G ((s.bC:Int)≠x.q))&&aL s.bC 3)=bd by
          rw[dT f.1,dT f.2.2.2,(VZ _ _).2 ⟨f.2.1,f.2.2.1⟩];rfl,ZW]
        rw[Z2 f]at b;rw[<-b]at a;have:=d _ a;rw[a];simp only[ne_eq,not_true_eq_false,if_false];exact this
      · rw[show((G ((s.o:Int)=3)&&G ((s.bC:Int)≠x.q))&&aL s.bC 3)=aw by
          rw[fx];intro e;simp only[Bool.and_eq_true,decide_eq_true_eq,VZ]at e;exact f ⟨e.1.1,e.2.1,e.2.2,e.1.2⟩,Z1]
        rw[Z3 f]at b;have go:∀t:Yh,t=DG s->Hs (pM N (qP w) (s,0) fuel x (Ph<|jy w x.q) c t.o t.bC) (if(uf w.r x.q c fuel).2≠0 then(w,(uf w.r x.q c fuel).2)else recK w x c (uf w.r x.q c fuel).1):=by
          intro t l;unfold pM;by_cases i:(DG s).o=0
          · have v:(⟨s.i,s.j,t.o,t.bC⟩:Yh)=DG s:=by
              rw[l];unfold DG;split<;>rfl
            rw[Z3 (nn i)]at b;rw[<-b]at a;rw[l,dF (nn i),Z1,a];simp only[ne_eq,not_true_eq_false,if_false];rw[l]at v;rw[v];show Hs ((yX N w.r (DG s) fuel).bind _) _;rw[ranOn_eq o st i V V];simp only[vf];rw[Sp o (VU o fuel.toNat [] 0 _ st C3).1 V];simp only[vf];exact d _ a
          · rw[Z2 i]at b;rw[<-b]at a;rw[l,dT (show(DG s).o≠0 from i),ZW,a];exact .bad C3
        by_cases j:s.o=3
        · rw[dT j,ZW];exact go ⟨s.i,s.j,0,0⟩ (wake_eq s j).symm
        · rw[dF j,Z1];exact go s (by unfold DG;rw[Z3 j])
    · rw[dT (show c.E≠ -1 from z),ZW];have a:uf w.r x.q c fuel=(⟨2,c.x,c.k,0,[],[]⟩,7):=by
        unfold uf;rw[Z2 (by have:=g;obtain⟨o1,o2,E,C,Ys,A,-⟩:=this;omega)]
      rw[a];exact .bad C3
end Pw
open Go Go.Proofs Go.LX
namespace Pw
open Dk
theorem boot_q{a:aJ}(J:FY a.r=0){N:Nat}(hN:60002<=N)(F:Int->B (aJ×Int)):∀(l:H Co) (i e:Int),
    ib (λ_(x:Co)s c=>bif G (s=0)then Option.bind (j6 N a.r x.t) λq=>c q.2 else c s) F i l e=F (if e≠0 then e else HV a.r l)
  |[],i,e=>by
    rw[Vi,HV];by_cases h:e=0
    · rw[Z3 (nn h),h]
    · rw[Z2 h]
  |x::l,i,e=>by
    rw[AP]
    skip
    by_cases h:e=0
    · rw[dT h,ZW,Oz J _ V,Z3 (nn h)];simp only[vf];have b:=boot_q J hN F l (i+1) (fP a.r x.t).2
      skip
      rw[b,HV]
    · rw[dF h,Z1,Z2 h];have b:=boot_q J hN F l (i+1) e
      skip
      rw[b,Z2 h]
theorem find_q(a:H Co)(i:Int):(a.findIdx? (λx=>G (x.x=i))=none/\uP i a=none)\/∃(n:Nat) (c:Co),a.findIdx? (λx=>G (x.x=i))=U n/\uP i a=U c/\vj a n=U c:=by
  have:=Wf a i;rw[findEq]at this;cases h:a.findIdx? (λx=>G (x.x=i))with
  |none=>
    rw[h]at this;rcases this with⟨_,e⟩|⟨n,c,e1,_,_,e4⟩
    · exact .inl ⟨Z,e⟩
    · simp at e1;omega
  |some n=>
    rw[h]at this;rcases this with⟨e,_⟩|⟨m,c,e1,e2,e3,_⟩
    · simp at e
    · simp at e1;subst e1;exact .inr ⟨n,c,Z,e2,e3⟩
theorem act_q{w:DY}(h:WR w){x:mR}(k4:¬(x.h=4\/x.h=5\/x.h=6)){N:Nat}(hN:60002<=N):Hs (kg N x (qP w) aw) (p8 w (NW x)):=by
  have S:=h.many;unfold kg p8 NW;simp only[Z1,ck];rw[Z3 (show¬(x.h=4\/x.h=5) by omega),Z3 (show¬x.h=6 by omega)];by_cases M:x.h<1\/9<x.h
  · rw[show aQ x.h 1 9=aw by rw[fx];intro e;have:=(in_i _ _ _).1 e;omega,Z2 M];exact .bad V
  rw[show aQ x.h 1 9=bd from(in_i _ _ _).2 V,Z3 M];by_cases h2:x.q<0\/3<=x.q
  · rw[show aL x.q 3=aw by rw[fx];intro e;have:=(VZ _ _).1 e;omega,Z2 (show x.q<0\/(O w.m:Int)<=x.q by omega)];exact .bad V
  rw[show aL x.q 3=bd from(VZ _ _).2 V,Z3 (show¬(x.q<0\/(O w.m:Int)<=x.q) by omega)];have b:On x.q:=⟨by omega,by omega⟩;have D0:=h.at b;have C:=D0.disk;simp only[cA,Z1];rw[HA (Vg h b)];simp only[vf];rw[up_g];by_cases t:x.h=8
  · rw[Z2 t,dT t];unfold bootW;by_cases f:(jy w x.q).up=bd
    · rw[f,Z2 rfl];exact .bad V
    · rw[Z3 f,show(jy w x.q).up=aw by simpa using f];show Hs ((jl (jy w x.q).d).bind _) _;rw[K4 _ C];simp only[vf];rw[Hh,show(Wp (jy w x.q).d).2=sM (jy w x.q).d from rfl,Z3 (show¬120<O (sM (jy w x.q).d) by have:=(dOk C).len;omega)];simp only[vf,ba];rw[LR (g:=λ_(x:Co)s m=>bif G (s=0)then Option.bind (j6 N (qP w).r x.t) λq=>m q.2 else m s) (ze [] (sM (jy w x.q).d)).1 (λi c s m w0=>by
        unfold D9;rw[kF,w0];rfl)]
      rw[boot_q (a:=qP w) h.C hN];unfold Ea;rw[show(qP w).r=w.r from rfl,ck];by_cases j:(ze [] (sM (jy w x.q).d)).2=0
      · rw[Z3 (nn j),Z3 (nn j)];by_cases k:HV w.r (ze [] (sM (jy w x.q).d)).1=0
        · rw[Z3 (nn k),dF (nn k),Z1];refine tc (ZS (λz=>Hs (U (z,(0:Int))) _)<|Hn w x.q ⟨(ze []<|sM (jy w x.q).d).1,(Wp (jy w x.q).d).1,bd⟩) ?_;exact .ok _
        · rw[Z2 k,dT (show HV w.r (ze [] (sM (jy w x.q).d)).1≠0 from k),ZW];exact .bad k
      · rw[Z2 j,Z2 j,dT (show(ze [] (sM (jy w x.q).d)).2≠0 from j),ZW];exact .bad j
  rw[Z3 t,dF t];by_cases f:(jy w x.q).up=aw
  · rw[f,Z2 rfl];exact .bad V
  rw[Z3 f,show(jy w x.q).up=bd by simpa using f];simp only[beq_true,Bool.true_beq,Z1,cA,eb];by_cases u:x.h=7
  · rw[dT u,Z3 V,Z3 V,Z2 u];refine tc (ZS (λz=>Hs (U (z,(0:Int))) _)<|Hn w x.q ⟨[],(jy w x.q).d,aw⟩) ?_;exact .ok _
  rw[dF u];by_cases Ys:x.h=1
  · rw[Z2 Ys,dT Ys];simp only[ZW,Z1];unfold My;by_cases K:x.s=x.q
    · rw[dF (show¬x.s≠x.q by omega),Z3 (show¬x.s≠x.q by omega)];show Hs ((jl (jy w x.q).d).bind _) _;rw[K4 _ C];simp only[vf,ba];rw[show(Wp (jy w x.q).d)=((Wp (jy w x.q).d).1,sM (jy w x.q).d)from rfl];rw[Ps (λr:vp=>G ((r.h:Int)=1)) (λn=>pI N (qP w) x (G ((0:Int)<=n))) (sM (jy w x.q).d) (λn r m o=>by
        unfold Eb;rw[kF,o];rfl)]
      rw[<-Ly];cases hf:(sM (jy w x.q).d).findIdx? (λr:vp=>G ((r.h:Int)=1))with
      |some n=>
        simp only[qv,if_true];rw[dT V];exact .bad V
      |none=>
        simp only[jJ,cL,if_false];unfold Ec pI;have E:=IH<|pQ h.C;have o:Fk ⟨1,x.s,1,0,[],AO (kv (BU w.r))⟩:=OA V (by have:=b;unfold On at this;omega) V V (λx w0=>by cases w0) (img_b (pQ h.C) (SJ h.C)).1;obtain⟨y,F⟩:=YV<|pQ h.C;have aq:=((pQ h.C).mem F).2.2.1;have R:BU w.r=⟨[⟨0,0,List.replicate y.regs.toNat ⟨0,0⟩,0⟩],[],0,0⟩:=by unfold BU;rw[F];rfl
        rw[Z1,show(qP w).r=w.r from rfl,F];simp only[vf,ck];rw[gJ V,<-R,Sp (pQ h.C) E V];simp only[vf];show Hs ((lq (qP w) x.q ⟨1,x.s,1,0,[],AO<|kv<|BU w.r⟩).bind _) _;rw[HG S b C o];simp only[vf];exact R0 (al:=λv=>U (v,0)) x.q λhe=>.ok _
    · rw[dT (show x.s≠x.q from K),Z2 K];exact .bad V
  rw[Z3 Ys,dF Ys];simp only[Z1,ba];rw[show(Ph (jy w x.q)).D=(jy w x.q).D from rfl];rw[Ps (λc:Co=>G ((c.x:Int)=x.s)) (λn=>mG N (Ph (jy w x.q)) x (qP w) n) (jy w x.q).D (λn r m o=>by
    unfold Ed;rw[show(Ph (jy w x.q)).D=(jy w x.q).D from rfl,kF,o];rfl)]
  unfold HQ;rw[runW_eq];simp only;rcases find_q (jy w x.q).D x.s with⟨e1,e2⟩|⟨n,c,e1,e2,e3⟩
  · rw[e1,e2];simp only;unfold Ee mG;rw[dT V,ZW];split
    · exact .bad V
    · exact .bad V
  · rw[e1,e2];have A:=(Vf e2).2;obtain⟨o1,o2,o3,X,o5,ab,ry,P⟩:=D0.good.1.ok c A;simp only;unfold mG;rw[dF V,Z1,show(Ph (jy w x.q)).D=(jy w x.q).D from rfl,e3];simp only[vf,ck];by_cases W:x.h=3
    · rw[dT W,ZW,Z2 W];by_cases ho:c.E= -1
      · rw[dT ho,ZW,Z2 V];exact .bad V
      · rw[dF ho,Z1,Z3 V,gJ (Hl V)];have T:Y0 (NC x.q c):=by
          have:=D0.good.2 c A ho;refine⟨b,⟨by simp only[NC];omega,ab⟩,⟨o1,o2⟩,by simp only[NC];omega,?_,P⟩;constructor
          · intro y;cases y
          · intro y;have:c.t=[]:=y;rw[this]at ry;simp at ry
        unfold sS;refine tc (ZS (λz=>Hs z _)<|XS h T λl=>U ((⟨w.r,(qP w).m,l⟩:aJ),(0:Int))) ?_;exact Hs.ok (⟨w.r,w.m,Hm w.u<|NC x.q c⟩:DY)
    · rw[dF W,Z1,Z3 W,Z3 u];by_cases p:x.h=2
      · rw[dT p,ZW,Z3 V];exact run_q h b A _ hN
      · rw[dF p,Z1,Z2 V];exact run_q h b A _ hN
theorem mails_q{w:DY}(h:WR w){x:mR}(s:x.h=4\/x.h=5\/x.h=6){N:Nat}:Hs (kg N x (qP w) bd) (p8 w (NW x)):=by
  have hl:=h.mlen;unfold kg p8 NW hearW;simp only[ZW,ck];show Hs (bif !aL x.n (O w.u:Int)then _ else(vj w.u x.n).bind _) _;by_cases f:x.n<0\/(O w.u:Int)<=x.n
  · rw[show aL x.n (O w.u:Int)=aw by rw[fx];intro e;have:=(VZ _ _).1 e;omega];rw[Z2 f,Z2 f];split
    · exact .bad V
    · rw[Z2 V];exact .bad V
  · rw[show aL x.n (O w.u:Int)=bd from(VZ _ _).2 V,Z3 f,Z3 f];have hi:x.n.toNat<O w.u:=by omega
    have k:w.u[x.n.toNat]? =U w.u[x.n.toNat]:=bl hi;have d:w.u[x.n.toNat]∈w.u:=cv hi;have j:vj w.u x.n=U w.u[x.n.toNat]:=by unfold vj;rw[Z2 V,k]
    rw[j];simp only[cA,Z1,vf];rw[k];simp only[fj];generalize w.u[x.n.toNat]=m at d;have ok:=h.mok m d;have r:∀F:H dW->B (aJ×Int),(bif G (x.h≠5)then iE (ky<|x.n+1) (ao (sub? (qP w).u 0 x.n) λa=>ao (sub? (qP w).u (x.n+1) (O (qP w).u:Int)) λb=>ao (xM [a,b]) λc=>F c)else F (qP w).u)=F (if x.h=5 then w.u else w.u.take x.n.toNat++w.u.drop (x.n.toNat+1)):=by
      intro F;show(bif G (x.h≠5)then iE (ky<|x.n+1) (ao (sub? w.u 0 x.n) λa=>ao (sub? w.u (x.n+1) (O w.u:Int)) λb=>ao (xM [a,b]) λc=>F c)else F w.u)=_;by_cases i:x.h=5
      · rw[dF V,Z1,Z2 i]
      · rw[dT (show x.h≠5 from i),ZW,Z3 i,gJ (Hl V)];have o:=R7 (l:=w.u) (a:=0) (b:=x.n.toNat) V V;have p:=R7 (l:=w.u) (a:=x.n.toNat+1) (b:=O w.u) V V;rw[fg,show((0:Nat):Int)=0 from rfl,show(x.n.toNat:Int)=x.n by omega]at o;rw[List.take_length,show((x.n.toNat+1:Nat):Int)=x.n+1 by omega]at p;rw[o];simp only[vf];rw[p];simp only[vf];rw[catMail (by rw[cd,List.length_drop];omega)];rfl
    refine tc (ZS (λz=>Hs z _)<|r λl=>lF x (qP w) m l) ?_;by_cases g:x.h=6
    · rw[Z3 V,Z3 V,Z2 g];unfold lF;rw[dT g,ZW,ck];exact Hs.ok (⟨w.r,w.m,w.u.take x.n.toNat++w.u.drop (x.n.toNat+1)⟩:DY)
    · rw[Z2 (show x.h=4\/x.h=5 by omega)];have hl:WR ⟨w.r,w.m,if x.h=5 then w.u else w.u.take x.n.toNat++w.u.drop (x.n.toNat+1)⟩:=by
        split
        · exact h
        · exact h.drop _
      have q:(if G (x.h=5)=bd then w.u else w.u.take x.n.toNat++w.u.drop (x.n.toNat+1))=(if x.h=5 then w.u else w.u.take x.n.toNat++w.u.drop (x.n.toNat+1)):=by simp only[decide_eq_true_eq]
      rw[q];exact mail_q hl ok (h.mimg m d) g
theorem happened_q{w:DY}(h:WR w)(x:mR){N:Nat}(hN:60002<=N):Hs (uN N (qP w) x) (p8 w (NW x)):=by
  unfold uN Aq;rw[gJ (Room.mk (by rw[gl];have:=h.many;simp;omega) (by rw[gl];have:=h.many;simp;omega)),gJ (Room.mk (by have:=h.mlen;simp[qP];omega) (by have:=h.mlen;simp[qP];omega))];by_cases c:x.h=4
  · rw[dT c,ZW];exact mails_q h (.inl c)
  · rw[dF c,Z1];by_cases a:x.h=5
    · rw[dT a,ZW];exact mails_q h (.inr<|.inl a)
    · rw[dF a,Z1];by_cases b:x.h=6
      · rw[dT b];exact mails_q h (.inr<|.inr b)
      · rw[dF b];exact act_q h V hN
end Pw
open Go Go.Proofs Go.LX
namespace Pw
open Dk
noncomputable instance:DecidableEq dx:=λ_ _=>Classical.propDecidable _
noncomputable instance:DecidableEq aJ:=λ_ _=>Classical.propDecidable _
theorem sameR(a b:aJ):nu a b=U (G (a=b)):=by
  obtain⟨j,f,u⟩:=a;obtain⟨k,d,o⟩:=b;unfold nu;rw[show Di j k=U (G (j=k))from S8 _ _,rSame];simp only[vf,aJ.mk.injEq];by_cases c:j=k
  · by_cases g:u=o
    · by_cases l:O f=O d
      · rw[dT c,dT g,ZW,ZW,dF V,Z1];rw[OB (λx y=>G (x=y)) f d l (λi x y C n=>by
          obtain⟨s,t,A,m⟩:=x;obtain⟨p,Ys,z,r⟩:=y;unfold D7 pG;simp only;rw[kF,n];simp only[vf,coSameR,diskSame2,dx.mk.injEq,gD.mk.injEq];by_cases q:s=p<;>by_cases w:t=Ys<;>by_cases v:A=z<;>cases m<;>cases r<;>simp[q,w,v]),Cb (λ_ _=>rfl)]
        unfold D8;by_cases e:f=d<;>simp[e,c,g]
      · rw[dT c,dT g,ZW,ZW,dT V,ZW];have:f≠d:=λe=>l (by rw[e]);simp[this]
    · simp[c,g]
  · simp[c]
end Pw
open Go Go.Proofs Go.LX
namespace Pw
open Dk
theorem sameP(a b:aJ):RU a b=U (G (a=b)):=by
  obtain⟨k,d,A⟩:=a;obtain⟨v,c,z⟩:=b;unfold RU;rw[S8];simp only[vf,aJ.mk.injEq];by_cases f:k=v
  · by_cases g:O d=O c
    · rw[dT f,ZW,dF V,Z1];rw[OB (λx y=>G (x=y)) d c g (λi x y Ys l=>by
        obtain⟨p,q,u,j⟩:=x;obtain⟨m,w,t,o⟩:=y;unfold UG Dh;simp only;rw[kF,l];simp only[vf,coSame,diskSame,dx.mk.injEq,gD.mk.injEq];by_cases n:p=m<;>by_cases s:q=w<;>by_cases r:u=t<;>cases j<;>cases o<;>simp[n,s,r]),Cb (λ_ _=>rfl)]
      unfold UH;rw[wSame];by_cases e:d=c<;>simp[e,f]
    · rw[dT f,ZW,dT V,ZW];have:d≠c:=λe=>g (by rw[e]);simp[this]
  · simp[f]
theorem does_j3{a:aJ}{b:mR}{y:Int}{z:aJ×Int}(h:y≠0->z=(zW,y))(c:y=0->uN NN a b=U z):jw NN y z a b aw=U true:=by
  unfold jw;rw[Z1];by_cases e:y=0
  · rw[dF (nn e),Z1,c e];simp only[vf];rw[dT trivial,ZW,sameR,dT rfl];rfl
  · rw[dT (show y≠0 from e),ZW,h e];simp only;rw[dT trivial,ZW,show(⟨[],[],[]⟩:aJ)=zW from rfl,sameR,dT rfl];rfl
theorem worldDoes(a:aJ)(b:mR)(c:H bN)(d:aJ)(j:∀x∈a.m,O x.z<=9223372036854775807):BR NN a b c d=U true:=by
  have f:=wts_to j;rw[<-of_to a];generalize toW a=w at f;unfold BR;rw[new_g c (Nat.le_trans V hN)];simp only[vf];rw[do_g f b hN];simp only[vf];rw[checkR f hN];simp only[vf];rw[chk_eq2];simp only[vf];have g:jw NN (yB w) (if yB w≠0 then(zW,yB w)else if(p8 w<|NW b).2≠0 then(zW,(p8 w<|NW b).2)else(qP (p8 w<|NW b).1,0)) (qP w) b aw=U true:=by
    refine does_j3 (λh=>by rw[Z2 h]) λh=>?_;rw[Z3 (nn h)];refine(happened_q ((w_iff w).1 h) b hN).trans ?_;by_cases e:(p8 w (NW b)).2=0
    · rw[Z2 e,Z3 (nn e)]
    · rw[Z3 e,Z2 e]
  have one:∀(v:aJ),v.u=[]->qp NN (yB w) (if yB w≠0 then(zW,yB w)else if(p8 w<|NW b).2≠0 then(zW,(p8 w<|NW b).2)else(qP (p8 w<|NW b).1,0)) (qP w) b d (v,FY c) (FY c) v.r v.m=U true:=by
    intro v i;unfold qp;rw[moved_ok];simp only[vf];rw[check_g f hN];simp only[vf];rw[sameP,sameR];simp only[vf];rw[dF (show¬yB w≠yB w from λe=>e rfl),dF (show¬FY c≠FY c from λe=>e rfl),show(⟨v.r,v.m,[]⟩:aJ)=v by rw[<-i],sameR,dT rfl];simp only[vf,bne_self_eq_false,cA,Z1];exact g
  by_cases h:FY c=0
  · rw[Z3 (nn h),dT h,ZW];have:=one (qP<|wNew c) Z;rw[h]at this⊢;exact this
  · rw[Z2 h,dF h,Z1];exact one zW Z
end Pw
end Go.Proofs.YteijalgmijkphaaGreatDoor