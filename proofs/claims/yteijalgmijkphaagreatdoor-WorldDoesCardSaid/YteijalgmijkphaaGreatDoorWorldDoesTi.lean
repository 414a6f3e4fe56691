/-
  What the law WorldDoes needs of our own library and of the walks, no more.
-/
import Derived.Test.YteijalgmijkphaaGreatDoorWorldDoesTh
set_option linter.unusedSimpArgs false
set_option linter.unusedVariables false
set_option maxRecDepth 10000
set_option maxHeartbeats 4000000
open Go.LX renaming State->Yh
open Go.LX renaming Frame->Yg
open Bool renaming and_eq_false_iff->cg,and_eq_true->cS,and_false->qk,and_self->oX,cond_eq_ite->du,eq_iff_iff->dv,false_and->ju,false_eq_true->cL,false_or->ml,not_eq_false'->rO,not_eq_true'->ef,not_false->eb,not_true->cA,or_eq_false_iff->cV,or_eq_true->dH,true_and->gk,false->aw,true->bd
open Decidable renaming not_not->eR,decide->G
open Go.Lib renaming atoiAll_bounds->yW,itoa->ey
open Int renaming eq_ofNat_of_zero_le->cl,reduceEq->bq,toNat_natCast->ba,toNat_of_nonneg->xo
open List renaming Pairwise->ua,all_eq_true->pd,append_assoc->cy,append_nil->kd,concat_eq_append->iu,cons_append->gf,dropLast_concat->iV,drop_eq_getElem_cons->cp,drop_eq_nil_of_le->cq,drop_replicate->wc,drop_zero->fg,eq_nil_of_length_eq_zero->cE,eq_nil_or_concat->ir,eq_of_mem_replicate->oA,exists_of_findSome?_eq_some->sy,filter_cons->hS,filter_eq_self->rB,findIdx?_cons->sa,findSome?_cons->wa,findSome?_eq_none_iff->tr,flatMap_cons->iz,getElem?_append_right->jt,getElem?_cons_succ->ur,getElem?_cons_zero->oV,getElem?_eq_none->bG,getElem?_eq_some_iff->oy,getElem_idxOf->sc,getElem_map->zx,getElem_mem->cv,getElem_of_mem->wb,getLast?_append->fp,getLast?_singleton->eM,headD_cons->tb,idxOf_append->yO,idxOf_cons->AI,idxOf_lt_length_of_mem->eS,length->O,length_append->bn,length_cons->bw,length_flatMap->cJ,length_map->dr,length_nil->iv,length_replicate->mj,mapM_cons->tE,map_append->cY,map_cons->cF,map_map->pk,mem_append->fi,mem_cons->bs,mem_cons_of_mem->bo,mem_cons_self->fo,mem_filter->AK,mem_flatMap->pj,mem_map->fW,mem_of_getElem?->hJ,mem_or_eq_of_mem_set->tB,nil_append->ck,nodup_append->yN,pairwise_cons->dK,prefix_append->rS,prefix_refl->fX,replicate->bt,set_getElem_self->pA,singleton_append->vl,sum_cons->lX,take_length->sE
open Nat renaming add_assoc->ki,le_refl->cj,lt_or_ge->cH,mul_le_mul->tA
open Option renaming bind->ao,bind_some->cG,getD_none->xn,getD_some->fj,isNone_iff_eq_none->tj,isSome_none->jJ,map_eq_some_iff->tW,map_some->dk,some_or->iH,none->bh,some->U
namespace Go.Proofs.YteijalgmijkphaaGreatDoor
open Go Go.Proofs Go.LX
noncomputable section
abbrev preL:H (Int×uH):=[(2,[118]),(4,[46]),(5,[110,101,119]),(6,[102]),(1,[])]
theorem vf{α β:Type}(a:α)(f:α->B β):(U a).bind f=f a:=rfl
section
variable{α σ:Type}{g:α->B σ}
theorem find_uniq{l:H α}(b:∀p∈l,∀q∈l,g p≠bh->g q≠bh->p=q){p:α}(J:p∈l){t:σ}(h:g p=U t):l.findSome? g=U t:=by
 cases e:l.findSome? g with
 |none=>
  rw[tr]at e;rw[e p J]at h;cases h
 |some u=>
  obtain⟨q,c,a⟩:=sy e;have:=b p J q c (by rw[h];simp) (by rw[a];simp);subst this;rw[h]at a;exact a.symm
variable{step:α->σ->B σ}
theorem Se:∀{l:H α},(∀p∈l,∀s,step p s=U ((g p).getD s))->(∀p∈l,g p=bh)->∀s,It step l s=U s
 |[],_,_,s=>rfl
 |p::l,h,hn,s=>by
  unfold It;rw[h p C3,hn p C3,xn,vf];exact Se (λq a=>h q<|bo _ a) (λq a=>hn q<|bo _ a) s
theorem Qi:∀{l:H α},(∀p∈l,∀s,step p s=U ((g p).getD s))->(∀p∈l,∀q∈l,g p≠bh->g q≠bh->p=q)->l.Nodup->∀s,It step l s=U ((l.findSome? g).getD s)
  |[],_,_,_,s=>rfl
  |p::l,h,hu,hn,s=>by
    unfold It;rw[h p C3,vf];have d:=List.nodup_cons.1 hn;cases e:g p with
    |none=>
      rw[xn,Qi (λq c=>h q (bo _ c)) (λa i b f=>hu a (bo _ i) b (bo _ f)) d.2 s,wa,e]
    |some t=>
      rw[fj,Se (λq c=>h q (bo _ c)) (λq c=>?_) t,wa,e]
      · rfl
      · cases e2:g q with
        |none=>rfl
        |some u=>
          have:=hu p C3 q (bo _ c) (by rw[e];simp) (by rw[e2];simp);subst this;exact ZD c d.1
theorem folds_one{ry:H α}(h:∀p∈ry,∀s,step p s=U ((g p).getD s))(b:∀p∈ry,∀q∈ry,g p≠bh->g q≠bh->p=q)(hn:ry.Nodup)(s:σ):EJ step ry s ((ry.findSome? g).getD s):=by
 intro l hl;rw[Qi (λp J=>h p (hl.mem_iff.1 J)) (λp J q a=>b p (hl.mem_iff.1 J) q (hl.mem_iff.1 a)) (hl.nodup_iff.2 hn) s];congr 2;cases e:ry.findSome? g with
 |none=>
  rw[tr]at e⊢;exact λx c=>e x<|hl.mem_iff.1 c
 |some t=>
  obtain⟨p,J,d⟩:=sy e;exact find_uniq (λp J q a=>b p (hl.mem_iff.1 J) q<|hl.mem_iff.1 a) (hl.mem_iff.2 J) d
end
def joO(a:Int×uH)(y:Int×Yi)(x:Yi):B (Int×Int):=bif x then U (a.1,y.1)else bh
def stepO(s:uH)(a:Int×uH):B (B (Int×Int)):=
 ao (Db s a.2) λd=>ao (Ob d) λb=>bif (!b.2)then Option.bind (sH (⟨a.1,b.1⟩:Tok)) λc=>U (joO a b (G ((c:uH)=s)))else U (joO a b aw)
theorem j227_eq(c:Int×uH)(y:Int×Yi)(a b:Int)(x:Yi):GL c y a b x=U ((joO c y x).getD (a,b)):=by
 unfold GL joO;cases x<;>rfl
theorem b228_eq(s:uH)(c:Int×uH)(st:Int×Int):A8 s c st=ao (stepO s c) λo=>U (o.getD st):=by
 obtain⟨a,b⟩:=st;unfold A8 stepO;simp only[j227_eq];cases Db s c.2 with
 |none=>rfl
 |some y=>
  simp only[vf];cases Ob y with
  |none=>rfl
  |some z=>
   simp only[vf];cases z.2 with
   |true=>rfl
   |false=>
    simp only[eb,ZW];cases sH (⟨c.1,z.1⟩:Tok)<;>rfl
def gO(s:uH)(p:Int×uH):B (Int×Int):=(stepO s p).join
def okW(s:uH):Yi:=preL.all (λp=>(stepO s p).isSome)&&preL.all (λp=>preL.all λq=>(gO s p).isNone||(gO s q).isNone||G (p=q))
def preC(s:uH):Int×Int:=(preL.findSome? (gO s)).getD (0,0)
theorem fold_ok{s:uH}(h:okW s=bd):Od (A8 s) preL (0,0)=U (preC s):=by
  unfold okW at h;rw[cS,pd,pd]at h;refine foldAny_eq<|folds_one (g:=gO s) (λp J st=>?_) (λp J q b a c=>?_) tz (0,0)
  · have a:=h.1 p J;rw[b228_eq];unfold gO;cases e:stepO s p with
    |none=>rw[e]at a;cases a
    |some o=>cases o<;>rfl
  · have:=pd.1 (h.2 p J) q b;rw[dH,dH]at this;rcases this with(e|e)|e
    · exact ZD (tj.1 e) a
    · exact ZD (tj.1 e) c
    · exact NX e
def foldC(s:uH):B (Int×Int):=bif okW s then U (preC s)else Od (A8 s) preL (0,0)
theorem foldC_eq(s:uH):foldC s=Od (A8 s) preL (0,0):=by
 unfold foldC;cases e:okW s with
 |false=>rfl
 |true=>exact(fold_ok e).symm
def Jb(N:Nat)(g:H Tok)(F:H lu)(f:Int)(d:(H Tok×Int×Yi×Int)->B (H Tok×ik))(b:uH)(e:Yi)(c:Int):B (H Tok×ik):=
 ao (foldC b) λa=>(aai N b g F c f d e) a
theorem Mq: @Jb= @GM:=by
 funext a b c d e f g h;unfold Jb GM;rw[foldC_eq]
def O8(N:Nat)(a:H uH)(F:H lu)(s:H Tok×Int×Yi×Int)(c:H Tok×Int×Yi×Int->B (H Tok×ik)):B (H Tok×ik):=
 match s with|(lg,Eu,y19,y20)=>bif (G ((0:Int)<Eu)&&y19)then bif G (((O a:Int):Int)<=y20)then Jb N lg F Eu c [] aw y20 else iE (ky (y20+1)) (iE (ky ((y20+1)-1)) (ao (vj a ((y20+1)-1)) λb=>Jb N lg F Eu c b y19 (y20+1)))else U (lg,(⟨y20,y19⟩:ik))
theorem Kp: @O8= @RL:=by
 unfold O8 RL;rw[Mq]
def E1(N:Nat)(b:ik)(a:H uH)(F:H lu):B (H Tok×ik):=
 zy (O8 N a F) N ([],1,b.ok,b.at_)
theorem RE: @E1= @aaj:=by
 unfold E1 aaj;rw[Kp]
def Jc(N:Nat)(k:ik->H uH->H lu->Int->B (H dO×ik))(d:Int)(b:H uH)(F:H lu)(a:Int)(l:H dO)(e:Int)(g:(H dO×Int×Yi)->B (H dO×ik))(i:Int)(j:Yi)(f:H Tok):B (H dO×ik):=
 bif G (((d+1):Int)=2)then Option.bind (E1 N (⟨i,j⟩:ik) b F) λc=>GN k d a b F l e f g c.2.at_ c.2.ok c.1 else GN k d a b F l e f g i j []
theorem ML: @Jc= @GQ:=by
 unfold Jc GQ;rw[RE]
def EF(N:Nat)(g:ik->H uH->H lu->Int->B (H dO×ik))(d:Int)(b:H uH)(F:H lu)(a:Int)(j:H dO)(f:(H dO×Int×Yi)->B (H dO×ik))(k:Int)(i:Yi)(e:Int):B (H dO×ik):=
 bif G (((d+1):Int)≠4)then Option.bind (E1 N (⟨k,i⟩:ik) b F) λc=>Jc N g d b F a j e f c.2.at_ c.2.ok c.1 else Jc N g d b F a j e f k i []
theorem Mp: @EF= @DT:=by
 unfold EF DT;rw[RE,ML]
def Jd(N:Nat)(n:ik->H uH->H lu->Int->B (H dO×ik))(k:H dO)(b:H uH)(F:H lu)(a:Int)(m:(H dO×Int×Yi)->B (H dO×ik))(j:uH)(c:Int)(d:Yi):B (H dO×ik):=
 bif G ((j:uH)=[125])then U (k,(⟨c,d⟩:ik))else Option.bind (Zr [115,101,116,32,112,117,116,32,115,97,121,32,112,97,117,115,101,32,103,111,32,105,102,32,119,104,105,108,101,32,114,101,116,117,114,110]) λl=>ao (Dg l j) λe=>iE (ky (e+1)) (bif (!(d&&G ((0:Int)<(e+1))))then U ([],(⟨c,d&&G ((0:Int)<(e+1))⟩:ik))else bif G (((e+1):Int)<=2)then bif G (((O b:Int):Int)<=c)then Option.bind (Ob []) λg=>EF N n e b F a k m c aw g.1 else iE (ky (c+1)) (iE (ky ((c+1)-1)) (ao (vj b ((c+1)-1)) λf=>ao (Ob f) λi=>EF N n e b F a k m (c+1) (d&&G ((0:Int)<(e+1))) i.1))else EF N n e b F a k m c (d&&G ((0:Int)<(e+1))) 0)
theorem Mu: @Jd= @GR:=by
 unfold Jd GR;rw[Mp]
def O9(N:Nat)(d:ik->H uH->H lu->Int->B (H dO×ik))(b:H uH)(F:H lu)(a:Int)(s:H dO×Int×Yi)(e:H dO×Int×Yi->B (H dO×ik)):B (H dO×ik):=
 match s with|(zw,ND,PX)=>bif PX then bif G (((O b:Int):Int)<=ND)then Jd N d zw b F a e [] ND aw else iE (ky (ND+1)) (iE (ky ((ND+1)-1)) (ao (vj b ((ND+1)-1)) λc=>Jd N d zw b F a e c (ND+1) PX))else U ([],(⟨ND,PX⟩:ik))
theorem H2: @O9= @RP:=by
 unfold O9 RP;rw[Mu]
def K3(N:Nat)(e:ik->H uH->H lu->Int->B (H dO×ik))(b:H uH)(F:H lu)(a:Int)(d:Int)(c:Yi):B (H dO×ik):=
 zy (O9 N e b F a) N ([],d,c)
theorem N3: @K3= @JJ:=by
 unfold K3 JJ;rw[H2]
def Je(N:Nat)(f:ik->H uH->H lu->Int->B (H dO×ik))(b:H uH)(F:H lu)(a:Int)(e:Yi)(c:Int)(d:Yi):B (H dO×ik):=
 bif e then K3 N f b F a c aw else K3 N f b F a c d
theorem HX: @Je= @GU:=by
 unfold Je GU;rw[N3]
def Ov(N:Nat)(e:ik->H uH->H lu->Int->B (H dO×ik))(c:ik)(b:H uH)(F:H lu)(a:Int):B (H dO×ik):=
 bif G (((O b:Int):Int)<=c.at_)then Je N e b F a bd c.at_ aw else iE (ky (c.at_+1)) (iE (ky ((c.at_+1)-1)) (ao (vj b ((c.at_+1)-1)) λd=>Je N e b F a (G ((d:uH)≠[123])||G ((6:Int)<a)) (c.at_+1) c.ok))
theorem Tl: @Ov= @Na:=by
 unfold Ov Na;rw[HX]
def QK:Nat->ik->H uH->H lu->Int->B (H dO×ik)
 |0=>λ_ _ _ _=>bh
 |N+1=>Ov N (QK N)
theorem L4:∀N,QK N=JK N
 |0=>rfl
 |N+1=>by show Ov N (QK N)=Na N (JK N);rw[Tl,L4 N]
def qU(N:Nat)(f:H uH)(a:H lu)(b:Int)(i:(H lu×Int×Yi)->B (H lu×Int))(g:Int)(d:Yi):B (H lu×Int):=
 ao (QK N (⟨g,d⟩:ik) f a 1) λc=>ao (vj a b) λe=>i (a.set (b).toNat {e with body:=c.1},c.2.at_,c.2.ok)
theorem Kj: @qU= @oH:=by
 unfold qU oH;rw[show @QK= @JK from funext L4]
def qV(N:Nat)(d:H uH)(c:H lu)(b:Int)(f:(H lu×Int×Yi)->B (H lu×Int))(a:Int)(g:Yi):B (H lu×Int):=
 bif G (((O d:Int):Int)<=a)then qU N d c b f a aw else iE (ky (a+1)) (iE (ky ((a+1)-1)) (ao (vj d ((a+1)-1)) λe=>qU N d c b f (a+1) g))
theorem Kk: @qV= @oI:=by
 unfold qV oI;rw[Kj]
def qW(N:Nat)(d:H uH)(c:H lu)(b:Int)(f:(H lu×Int×Yi)->B (H lu×Int))(a:Int)(g:Yi):B (H lu×Int):=
 bif G (((O d:Int):Int)<=a)then qV N d c b f a aw else iE (ky (a+1)) (iE (ky ((a+1)-1)) (ao (vj d ((a+1)-1)) λe=>qV N d c b f (a+1) g))
theorem Kl: @qW= @oJ:=by
 unfold qW oJ;rw[Kk]
def qX(N:Nat)(f:H uH)(c:H lu)(b:Int)(g:(H lu×Int×Yi)->B (H lu×Int))(e:Yi)(a:Int)(d:Yi):B (H lu×Int):=
 bif e then qW N f c b g a aw else qW N f c b g a d
theorem Km: @qX= @oK:=by
 unfold qX oK;rw[Kl]
def wG(N:Nat)(c:H uH)(a:Int)(s:H lu×Int×Yi)(d:H lu×Int×Yi->B (H lu×Int)):B (H lu×Int):=
 match s with|(y95,y96,y97)=>bif G (((O c:Int):Int)<=y96)then qX N c y95 a d bd y96 aw else iE (ky (y96+1)) (iE (ky ((y96+1)-1)) (ao (vj c ((y96+1)-1)) λb=>qX N c y95 a d (G ((b:uH)≠[102,117,110])) (y96+1) y97))
theorem Kn: @wG= @xI:=by
 unfold wG xI;rw[Km]
def wH(N:Nat)(c:H uH)(a:uH)(b:H lu)(s:Unit):B (H lu×Int):=
 zE (wG N c) (Dc N c a) 0 ((O b:Int)).toNat (b,0,bd)
theorem Ko: @wH= @xJ:=by
 unfold wH xJ;rw[Kn]
def wI(N:Nat)(c:H uH)(a:uH)(b:H lu):B (H lu×Int):=
 bif (G (((O b:Int):Int)=0)||G ((4:Int)<(O b:Int)))then U ([],1)else zE (De b) (wH N c a b) 0 ((O b:Int)).toNat ()
theorem Kq: @wI= @xK:=by
 unfold wI xK;rw[Ko]
def Av(N:Nat)(a:uH):B (H lu×Int):=
 ao (Tp a [32]) λb=>ib (Df b) (wI N b a) 0 b []
theorem Pb: @Av= @wE:=by
 unfold Av wE;rw[Kq]
def Dp(N:Nat):B (H lu):=
 ao (Av N [102,117,110,32,48,32,49,32,123,32,115,101,116,32,48,32,51,32,119,104,105,108,101,32,118,48,32,123,32,115,97,121,32,102,49,32,118,48,32,118,48,32,103,111,32,118,48,32,112,97,117,115,101,32,115,101,116,32,48,32,45,32,118,48,32,49,32,125,32,125,32,102,117,110,32,50,32,50,32,123,32,114,101,116,117,114,110,32,42,32,118,48,32,118,49,32,125]) λa=>U a.1
theorem S9: @Dp= @vV:=by
 unfold Dp vV;rw[Pb]
abbrev NN:Nat:=70000
theorem program_p:vV NN=Dp NN:=by rw[S9]
end
open Go Go.Proofs Go.LX
theorem eqInt(a b:H Int):CE a b=U (G (a=b)):=by
  unfold CE;by_cases h:O a=O b
  · rw[dF V];simp only[Z1,ba];rw[Pq (λx y=>G (x=y)) a b h rfl (λi x y f c d=>by
      unfold Ef;rw[kF,kF,c,d];by_cases e:x=y<;>simp[e]),Cb (λ_ _=>rfl)]
  · rw[dT V];have:a≠b:=λe=>h (by rw[e]);rw[dF this];rfl
theorem G9(a b:Int):(G (0<=a)&&G (a<b))=aL a b:=rfl
theorem inL(a b c:Int):(G (b<=a)&&G (a<=c))=aQ a b c:=rfl
theorem Ow(a:Int):jr a=aQ a (-1000000000) 1000000000:=rfl
theorem tL(a b:Int):(G (a<0)||G (b<=a))= !aL a b:=by
 unfold aL;rw[dv];simp;try omega
theorem Ha(a:Int):aL a 4=aQ a 0 3:=by
 unfold aL aQ;rw[dv];simp;omega
theorem QL{α:Type}(x:α)(l:H α):vj (x::l) 0=U x:=by simp[vj]
theorem Ox{α:Type}(x y:α)(l:H α):vj (x::y::l) 1=U y:=by simp[vj]
theorem E0{α:Type}(x y z:α)(l:H α):vj (x::y::z::l) 2=U z:=by simp[vj]
theorem QM(op a b c:Int)(x:bN)(n:Int)(hn:n=x.regs)(d:H Int)(h:op=7):∀l:H Int,vh (wO n) Bz l ()=vh (qm ⟨op,a,b,c,d⟩ x) dL l ()
 |[]=>rfl
 |y::l=>by
  subst hn h;have f:vh (wO x.regs) Bz (y::l) ()=bif (!aL y x.regs)then U 3 else vh (wO x.regs) Bz l ():=rfl;have e:vh (qm ⟨7,a,b,c,d⟩ x) dL (y::l) ()=bif (!aL y x.regs)then U 3 else vh (qm ⟨7,a,b,c,d⟩ x) dL l ():=rfl;rw[f,e,QM 7 a b c x x.regs rfl d rfl l]
theorem Wk{l:H Int}:O l=1↔∃x,l=[x]:=by
 match l with
 |[]=>simp
 |[x]=>simp
 |x::y::r=>simp
set_option maxHeartbeats 2000000 in
theorem ins_eq(c:zv)(i:Int)(x:bN)(g:H bN):iC c i g x.regs (O x.C:Int)=fM c x g:=by
  obtain⟨op,a,b,c,args⟩:=c;by_cases v:op=1
  · subst v;simp[iC,eX,eU,fT,gu,fO,dw,eY,dY,dX,dQ,fM,fD,fE,cO,fB,fC,ed,dZ,lk,ib,QL,Ox,E0,G9,inL,tL,Ow,Ha];cases ha:aL a x.regs<;>cases hf:aQ b (-1000000000) 1000000000<;>by_cases d:c=0<;>by_cases f:args=[]<;>simp_all[vh,dL]
  by_cases t:op=2
  · subst t;simp[iC,eX,eU,fT,gu,fO,dw,eY,dY,dX,dQ,fM,fD,fE,cO,fB,fC,ed,dZ,lk,ib,QL,Ox,E0,G9,inL,tL,Ow,Ha];cases ha:aL a x.regs<;>cases hb:aL b x.regs<;>by_cases d:c=0<;>by_cases f:args=[]<;>simp_all[vh,dL]
  by_cases z:op=3
  · subst z;simp[iC,eX,eU,fT,gu,fO,dw,eY,dY,dX,dQ,fM,fD,fE,cO,fB,fC,ed,dZ,lk,ib,QL,Ox,E0,G9,inL,tL,Ow,Ha];cases ha:aL a x.regs<;>cases hb:aL b x.regs<;>cases hc:aL c x.regs<;>simp_all[vh,dL];by_cases e:O args=1
    · obtain⟨y,rfl⟩:=Wk.1 e;cases hy:aQ y 1 5<;>simp_all[iC,eX,eU,fT,gu,fO,dw,eY,dY,dX,dQ,fM,fD,fE,cO,fB,fC,ed,dZ,lk,ib,QL,Ox,E0,G9,inL,tL,Ow,Ha,vh,qm,dL]
    · rw[dF (show¬((O args:Int)=1) by omega)];rfl
  by_cases u:op=4
  · subst u;simp[iC,eX,eU,fT,gu,fO,dw,eY,dY,dX,dQ,fM,fD,fE,cO,fB,fC,ed,dZ,lk,ib,QL,Ox,E0,G9,inL,tL,Ow,Ha];cases ha:aL a x.regs<;>cases hb:aL b x.regs<;>cases hf:aQ c 0 3<;>by_cases f:args=[]<;>simp_all[vh,dL]
  by_cases p:op=5
  · subst p;simp[iC,eX,eU,fT,gu,fO,dw,eY,dY,dX,dQ,fM,fD,fE,cO,fB,fC,ed,dZ,lk,ib,QL,Ox,E0,G9,inL,tL,Ow,Ha];cases ha:aL a x.regs<;>cases hf:aQ b 1 4<;>by_cases d:c=0<;>by_cases f:args=[]<;>simp_all[vh,dL]
  by_cases w:op=6
  · subst w;simp[iC,eX,eU,fT,gu,fO,dw,eY,dY,dX,dQ,fM,fD,fE,cO,fB,fC,ed,dZ,lk,ib,QL,Ox,E0,G9,inL,tL,Ow,Ha];cases ha:aL a x.regs<;>cases hb:aL b x.regs<;>by_cases d:c=0<;>by_cases f:args=[]<;>simp_all[vh,dL]
  by_cases q:op=7
  · subst q;simp[iC,eX,eU,fT,gu,fO,dw,eY,dY,dX,dQ,fM,fD,fE,cO,fB,fC,ed,dZ,lk,ib,QL,Ox,E0,G9,inL,tL,Ow,Ha];cases ha:aL a x.regs<;>cases hf:aL b (O g:Int)<;>simp_all[vh,dL];cases J:vj g b with
    |none=>rfl
    |some y=>
      by_cases d:c=0<;>by_cases o:(O args:Int)=y.params<;>simp_all;exact QM 7 a b 0 x x.regs Z args Z args
  by_cases r:op=8
  · subst r;simp[iC,eX,eU,fT,gu,fO,dw,eY,dY,dX,dQ,fM,fD,fE,cO,fB,fC,ed,dZ,lk,ib,QL,Ox,E0,G9,inL,tL,Ow,Ha];cases ha:aL a x.regs<;>by_cases k:b=0<;>by_cases d:c=0<;>by_cases f:args=[]<;>simp_all[vh,dL]
  by_cases s:op=9
  · subst s;simp[iC,eX,eU,fT,gu,fO,dw,eY,dY,dX,dQ,fM,fD,fE,cO,fB,fC,ed,dZ,lk,ib,QL,Ox,E0,G9,inL,tL,Ow,Ha];cases ha:aL a x.regs<;>by_cases k:b=0<;>by_cases d:c=0<;>by_cases f:args=[]<;>simp_all[vh,dL]
  by_cases j:op=10
  · subst j;simp[iC,eX,eU,fT,gu,fO,dw,eY,dY,dX,dQ,fM,fD,fE,cO,fB,fC,ed,dZ,lk,ib,QL,Ox,E0,G9,inL,tL,Ow,Ha];by_cases o:a=0<;>by_cases k:b=0<;>by_cases d:c=0<;>by_cases f:args=[]<;>simp_all[vh,dL]
  by_cases m:op=11
  · subst m;simp[iC,eX,eU,fT,gu,fO,dw,eY,dY,dX,dQ,fM,fD,fE,cO,fB,fC,ed,dZ,lk,ib,QL,Ox,E0,G9,inL,tL,Ow,Ha];cases ha:aL a x.regs<;>by_cases k:b=0<;>by_cases d:c=0<;>by_cases f:args=[]<;>simp_all[vh,dL]
  by_cases n:op=12
  · subst n;simp[iC,eX,eU,fT,gu,fO,dw,eY,dY,dX,dQ,fM,fD,fE,cO,fB,fC,ed,dZ,lk,ib,QL,Ox,E0,G9,inL,tL,Ow,Ha];by_cases o:a=0<;>cases hf:aL b (O x.C:Int)<;>by_cases d:c=0<;>by_cases f:args=[]<;>simp_all[vh,dL]
  by_cases l:op=13
  · subst l;simp[iC,eX,eU,fT,gu,fO,dw,eY,dY,dX,dQ,fM,fD,fE,cO,fB,fC,ed,dZ,lk,ib,QL,Ox,E0,G9,inL,tL,Ow,Ha];cases ha:aL a x.regs<;>cases hf:aL b (O x.C:Int)<;>by_cases d:c=0<;>by_cases f:args=[]<;>simp_all[vh,dL]
  · simp[iC,eX,eU,fT,gu,fM,lk, *]
def Hd(i:Nat)(x:bN):Int:=
 if(0<=x.params/\x.params<=3)/\(1<=x.regs/\x.params<=x.regs/\x.regs<=40)/\¬(i=0/\x.params≠0)then(if 1<=O x.C/\O x.C<=2000 then 0 else 2)else 3
theorem b39_eq(i:Nat)(x:bN)(b:Unit->B Int):rH (i:Int) x () b=if Hd i x≠0 then U (Hd i x)else b ():=by
  unfold rH Hd;by_cases a:(0<=x.params/\x.params<=3)/\(1<=x.regs/\x.params<=x.regs/\x.regs<=40)/\¬(i=0/\x.params≠0)
  · have e:(((((G ((x.params:Int)<0)||G ((3:Int)<x.params))||G ((x.regs:Int)<1))||G ((x.regs:Int)<x.params))||G ((40:Int)<x.regs))||(G ((i:Int)=0)&&G ((0:Int)<x.params)))=false:=by
      simp only[cV,cg,decide_eq_false_iff_not];omega
    rw[e,Z2 a];simp only[Z1];by_cases c:1<=O x.C/\O x.C<=2000
    · rw[Z2 c,show(G (((O x.C:Int):Int)=0)||G ((2000:Int)<(O x.C:Int)))=aw by simp only[cV,decide_eq_false_iff_not];omega];rfl
    · rw[Z3 c,show(G (((O x.C:Int):Int)=0)||G ((2000:Int)<(O x.C:Int)))=bd by simp only[dH,decide_eq_true_eq];omega];rfl
  · have e:(((((G ((x.params:Int)<0)||G ((3:Int)<x.params))||G ((x.regs:Int)<1))||G ((x.regs:Int)<x.params))||G ((40:Int)<x.regs))||(G ((i:Int)=0)&&G ((0:Int)<x.params)))=true:=by
      simp only[dH,cS,decide_eq_true_eq];omega
    rw[e,Z3 a];rfl
theorem r39_eq(i:Nat)(x:bN)(b:Unit->B Int):kP (i:Int) x () b=if Hd i x≠0 then U (Hd i x)else b ():=by
  unfold kP Hd aQ;by_cases a:(0<=x.params/\x.params<=3)/\(1<=x.regs/\x.params<=x.regs/\x.regs<=40)/\¬(i=0/\x.params≠0)
  · have e:(((!(G ((0:Int)<=x.params)&&G (x.params<=(3:Int))))||(!(G (max 1 x.params<=x.regs)&&G (x.regs<=(40:Int)))))||(G ((i:Int)=0)&&G ((x.params:Int)≠0)))=false:=by
      simp only[cV,cg,rO,cS,decide_eq_true_eq,decide_eq_false_iff_not];omega
    rw[e,Z2 a];simp only[Z1];by_cases c:1<=O x.C/\O x.C<=2000
    · rw[Z2 c,show(!(G ((1:Int)<=(O x.C:Int))&&G ((O x.C:Int)<=(2000:Int))))=aw by simp only[rO,cS,decide_eq_true_eq];omega];rfl
    · rw[Z3 c,show(!(G ((1:Int)<=(O x.C:Int))&&G ((O x.C:Int)<=(2000:Int))))=bd by simp only[ef,cg,decide_eq_false_iff_not];omega];rfl
  · have e:(((!(G ((0:Int)<=x.params)&&G (x.params<=(3:Int))))||(!(G (max 1 x.params<=x.regs)&&G (x.regs<=(40:Int)))))||(G ((i:Int)=0)&&G ((x.params:Int)≠0)))=true:=by
      simp only[dH,cS,ef,cg,decide_eq_true_eq,decide_eq_false_iff_not];omega
    rw[e,Z3 a];rfl
def DL:Nat->H bN->Int
 |_,[]=>0
 |i,x::p=>if Hd i x≠0 then Hd i x else DL (i+1) p
theorem E4(k:Unit->B Int):∀(p:H bN) (i:Nat),ib rH k (i:Int) p ()=if DL i p≠0 then U (DL i p)else k ()
 |[],i=>by simp[DL,ib]
 |x::p,i=>by
  show rH (i:Int) x () (ib rH k ((i:Int)+1) p)=_;rw[b39_eq,show((i:Int)+1)=((i+1:Nat):Int) by omega,E4 k p (i+1),DL];by_cases h:Hd i x=0<;>simp[h]
theorem RF(k:Unit->B Int):∀(p:H bN) (i:Nat),ib kP k (i:Int) p ()=if DL i p≠0 then U (DL i p)else k ()
 |[],i=>by simp[DL,ib]
 |x::p,i=>by
  show kP (i:Int) x () (ib kP k ((i:Int)+1) p)=_;rw[r39_eq,show((i:Int)+1)=((i+1:Nat):Int) by omega,RF k p (i+1),DL];by_cases h:Hd i x=0<;>simp[h]
theorem b35_eq(a:H bN)(x:bN)(i:Int)(c:zv)(b:Unit->B Int):jk a x i c () b=jP x a c () b:=by
 unfold jk jP;rw[ins_eq]
theorem IE(a:H bN)(x:bN)(k:Unit->B Int):∀(l:H zv) (i:Int),ib (jk a x) k i l ()=vh (jP x a) k l ()
 |[],i=>rfl
 |c::l,i=>by
  have b:ib (jk a x) k (i+1) l=vh (jP x a) k l:=by funext u;exact IE a x k l (i+1)
  have d:ib (jk a x) k i (c::l) ()=jk a x i c () (ib (jk a x) k (i+1) l):=rfl;have e:vh (jP x a) k (c::l) ()=jP x a c () (vh (jP x a) k l):=rfl;rw[d,e,b35_eq,b]
theorem b37_eq(a:H bN)(x:bN)(b:Unit->B Int):l8 a x () b=jQ a x () b:=by
 unfold l8 jQ;rw[IE];rfl
theorem JZ(a:H bN):tT a=nk a:=by
 unfold tT nk;have e:(G (((O a:Int):Int)=0)||G ((4:Int)<(O a:Int)))= !(aQ (O a:Int) 1 4):=by
  unfold aQ;rw[dv];simp only[dH,ef,cg,decide_eq_true_eq,decide_eq_false_iff_not];omega
 rw[e];have k1:∀l:H bN,vh (l8 a) uC l ()=vh (jQ a) pE l ():=by
  intro l;induction l with
  |nil=>rfl
  |cons x l ih=>
   have g:vh (l8 a) uC (x::l) ()=l8 a x () (vh (l8 a) uC l):=rfl;have d:vh (jQ a) pE (x::l) ()=jQ a x () (vh (jQ a) pE l):=rfl;have:(vh (l8 a) uC l)=(vh (jQ a) pE l):=by funext u;exact ih
   rw[g,d,b37_eq,this]
 have f:=E4 (uD a) a 0;have i:=RF (sP a) a 0;have c:ib rH (uD a) 0 a ()=_:=f;have b:ib kP (sP a) 0 a ()=_:=i;have k2:uD a ()=sP a ():=k1 a;rw[c,b,k2]
def wJ(x:bN):Prop:=1<=O x.C/\O x.C<=2000
theorem gq{α σ ρ:Type}{body:α->σ->(σ->ρ)->ρ}{k:σ->ρ}(x:α)(l:H α)(s:σ):vh body k (x::l) s=body x s (vh body k l):=rfl
theorem lM{α σ ρ:Type}{body:α->σ->(σ->ρ)->ρ}{k:σ->ρ}(s:σ):vh body k [] s=k s:=rfl
theorem b8_tot(d:Int):∀l:H Int,∃y,vh (wO d) Bz l ()=U y
 |[]=>⟨0,rfl⟩
 |x::l=>by
  obtain⟨y,a⟩:=b8_tot d l;rw[gq];unfold wO;cases (!(G ((0:Int)<=x)&&G ((x:Int)<d)))with
  |true=>exact⟨3,rfl⟩
  |false=>exact⟨y,a⟩
theorem j5_tot(k:Yi)(a:zv)(b e:Int)(c:H bN)(f g d j:Int):∃y,eY k a b e c f g d j=U y/\(y=0->(O a.args:Int)=g):=by
 unfold eY;cases k with
 |false=>exact⟨3,rfl,λh=>ZD h tz⟩
 |true=>
  simp only[cA,Z1];generalize i:(((G ((a.a:Int)≠j)||G ((a.b:Int)≠e))||G ((a.c:Int)≠f))||G (((O a.args:Int):Int)≠g))=C;cases C with
  |true=>exact⟨4,rfl,λh=>ZD h tz⟩
  |false=>
   simp only[cV,decide_eq_false_iff_not,eR]at i;simp only[Z1];cases G ((a.op:Int)=7)with
   |true=>obtain⟨y,l⟩:=b8_tot d a.args;exact⟨y,l,λ_=>i.2⟩
   |false=>exact⟨0,rfl,λ_=>i.2⟩
theorem j4_tot(a:zv)(b:Int)(c:H bN)(d:Int)(j:Yi)(i g e f:Int):∃y,dw a b c d j i g e f=U y/\(y=0->(O a.args:Int)=i):=by
 unfold dw;cases G ((a.op:Int)=12)with
 |true=>exact j5_tot j a b e c f i d 0
 |false=>exact j5_tot j a b e c f i d g
def WD(a:zv)(r:B Int):Prop:=∃y,r=U y/\(y=0->O a.args<=3)
theorem N6(a:zv)(b:Int)(c:H bN)(d:Int)(j:Yi){i:Int}(f e g:Int)(h:i<=3):WD a (dw a b c d j i f e g):=by
 obtain⟨y,l,m⟩:=j4_tot a b c d j i f e g;exact⟨y,l,λk=>by have:=m k;omega⟩
theorem Bv{a:zv}{c:Yi}{x y:B Int}(d:WD a x)(b:WD a y):WD a (bif c then x else y):=by
  cases c
  · exact b
  · exact d
theorem L2{a:zv}{e:Int}(h:e≠0):WD a (U e):=⟨e,rfl,λb=>ZD b h⟩
theorem check_ins(a:zv)(b:Int)(c:H bN)(d e:Int)(J:∀x∈c,x.params<=3):WD a (iC a b c d e):=by
  unfold iC;refine Bv (L2 tz)<|Bv (L2 tz)<|Bv (N6 _ _ _ _ _ _ _ _ tz)<|Bv (N6 _ _ _ _ _ _ _ _ tz) ?_;have f:∀x,WD a (dQ a b c d x):=λx=>by
    unfold dQ;exact Bv (N6 _ _ _ _ _ _ _ _ tz)<|Bv (N6 _ _ _ _ _ _ _ _ tz)<|N6 _ _ _ _ _ _ _ _ tz
  have i:∀x,WD a (dX a b c d e x):=λx=>by
    unfold dX;refine Bv (N6 _ _ _ _ _ _ _ _ tz) ?_;cases G ((a.op:Int)=7)with
    |false=>
      rw[Z1];exact Bv (f _)<|Bv (f _)<|f _
    |true=>
      simp only[ZW];rw[tL];cases hb:aL a.b (O c:Int)with
      |false=>exact L2 tz
      |true=>
        simp only[cA,Z1];unfold aL at hb;simp only[cS,decide_eq_true_eq]at hb;obtain⟨n,hn⟩:=cl hb.1;rw[hn,rE V,cG];exact N6 _ _ _ _ _ _ _ _<|J _<|cv _
  have g:∀x,WD a (dY a b c d e x):=λx=>by
    unfold dY;refine Bv (N6 _ _ _ _ _ _ _ _ tz) ?_;cases G ((a.op:Int)=3)with
    |false=>
      rw[Z1];exact Bv (i _)<|i _
    |true=>
      simp only[ZW];by_cases k:O a.args=1
      · rw[dT (show((O a.args:Int):Int)=1 by omega)];obtain⟨y,j⟩:=Wk.1 k;simp only[ZW];rw[show vj a.args 0=U y by rw[j,QL],cG];exact N6 _ _ _ _ _ _ _ _ tz
      · rw[dF (show¬((O a.args:Int):Int)=1 by omega)];exact N6 _ _ _ _ _ _ _ _ tz
  exact Bv (g _)<|g _
def Good(a:H bN):Prop:=O a<=4/\∀x∈a,wJ x/\∀c∈x.C,O c.args<=3
theorem headOk_zero{i:Nat}{x:bN}(h:Hd i x=0):x.params<=3/\wJ x:=by
  unfold Hd at h;split at h
  · split at h
    · exact⟨by omega,by unfold wJ;omega⟩
    · cases h
  · cases h
theorem Mz:∀(p:H bN) (i:Nat),DL i p=0->∀x∈p,x.params<=3/\wJ x
  |[],_,_,x,hx=>by cases hx
  |y::p,i,h,x,hx=>by
    unfold DL at h;split at h
    · rename_i a;exact ZD h a
    · rename_i a;rcases bs.1 hx with rfl|hx
      · exact headOk_zero<|eR.1 a
      · exact Mz p (i+1) h x hx
theorem b35_tot(a:H bN)(x:bN)(k:Unit->B Int)(J:∀x∈a,x.params<=3)(aq:Prop)(j:∃y,k ()=U y/\(y=0->aq)):∀(l:H zv) (i:Int),∃y,ib (jk a x) k i l ()=U y/\(y=0->aq/\∀c∈l,O c.args<=3)
  |[],i=>by
    obtain⟨y,e,b⟩:=j;exact⟨y,e,λh=>⟨b h,by intro c n;cases n⟩⟩
  |c::l,i=>by
    obtain⟨y,e,b⟩:=b35_tot a x k J aq j l<|i+1;have m:ib (jk a x) k i (c::l) ()=jk a x i c () (ib (jk a x) k (i+1) l):=rfl;rw[m];unfold jk;obtain⟨z,g1,g2⟩:=check_ins c i a x.regs (O x.C:Int) J;rw[g1,cG];by_cases f:z=0
    · rw[dF V,Z1];refine⟨y,e,λh=>⟨(b h).1,λd g=>?_⟩⟩;rcases bs.1 g with rfl|g
      · exact g2 f
      · exact(b h).2 d g
    · rw[dT f,ZW];exact⟨z,Z,λh=>ZD h f⟩
theorem b37_tot(a:H bN)(J:∀x∈a,x.params<=3/\wJ x):∀l:H bN,(∀x∈l,x.params<=3/\wJ x)->∃y,vh (l8 a) uC l ()=U y/\(y=0->∀x∈l,∀c∈x.C,O c.args<=3)
  |[],_=>⟨0,rfl,λ_ x b=>by cases b⟩
  |x::l,hl=>by
    obtain⟨y,e,g⟩:=b37_tot a J l λz f=>hl z<|bo _ f;rw[gq];unfold l8;have b:=hl x C3;obtain⟨z,g1,g2⟩:=b35_tot a x (Gd x (vh (l8 a) uC l)) (λx b=>(J x b).1) (∀x∈l,∀c∈x.C,O c.args<=3) (by
      unfold Gd;have i:=b.2;unfold wJ at i;rw[gI,show((O x.C:Int)-1)=((O x.C-1:Nat):Int) by omega,rE V,cG];cases (G ((x.C[O x.C-1].op:Int)≠8)&&G ((x.C[O x.C-1].op:Int)≠12))with
      |true=>exact⟨4,rfl,λh=>ZD h tz⟩
      |false=>exact⟨y,e,g⟩) x.C 0
    refine⟨z,g1,λh=>?_⟩;intro w d;rcases bs.1 d with rfl|d
    · exact(g2 h).2
    · exact(g2 h).1 w d
theorem Ss(a:H bN):∃y,tT a=U y/\(y=0->Good a):=by
  unfold tT;generalize d:(G (((O a:Int):Int)=0)||G ((4:Int)<(O a:Int)))=C;cases C with
  |true=>exact⟨2,rfl,λh=>ZD h tz⟩
  |false=>
    simp only[cV,decide_eq_false_iff_not]at d;have e:ib rH (uD a) 0 a ()=_:=E4 (uD a) a 0;rw[Z1,e];by_cases b:DL 0 a=0
    · rw[Z3 V];have J:=Mz a 0 b;obtain⟨y,g1,g2⟩:=b37_tot a J a J;exact⟨y,g1,λh=>⟨by omega,λx c=>⟨(J x c).2,g2 h x c⟩⟩⟩
    · rw[Z2 b];exact⟨_,Z,λh=>ZD h b⟩
def FY(a:H bN):Int:=(tT a).getD 0
theorem U3(a:H bN):tT a=U (FY a):=by
 obtain⟨y,h,_⟩:=Ss a;unfold FY;rw[h];rfl
theorem chk_eq2(a:H bN):nk a=U (FY a):=by rw[<-JZ,U3]
def Em(R x:Int):Prop:=0<=x/\x<R
def Ta(a:H bN)(R ry:Int)(c:zv):Prop:=
 (c.op=1/\Em R c.a/\(-1000000000<=c.b/\c.b<=1000000000))\/
 (c.op=2/\Em R c.a/\Em R c.b)\/
 (c.op=3/\Em R c.a/\Em R c.b/\Em R c.c/\∃n,c.args=[n]/\1<=n/\n<=5)\/
 ((c.op=4\/c.op=6)/\Em R c.a/\Em R c.b/\(0<=c.c/\c.c<4))\/
 (c.op=5/\Em R c.a/\(1<=c.b/\c.b<=4))\/
 (c.op=7/\Em R c.a/\(∃p,vj a c.b=U p/\(O c.args:Int)=p.params)/\∀x∈c.args,Em R x)\/
 ((c.op=8\/c.op=9\/c.op=11)/\Em R c.a)\/
 c.op=10\/
 (c.op=12/\(0<=c.b/\c.b<ry))\/
 (c.op=13/\Em R c.a/\(0<=c.b/\c.b<ry))
theorem each_b8(R:Int):∀l:H Int,vh (wO R) Bz l ()=U 0->∀x∈l,Em R x
  |[],_,x,hx=>by cases hx
  |y::l,h,x,hx=>by
    rw[gq]at h;unfold wO at h;cases e:(!(G ((0:Int)<=y)&&G ((y:Int)<R)))with
    |true=>rw[e,ZW]at h;cases h
    |false=>
      rw[e,Z1]at h;rcases bs.1 hx with rfl|hx
      · simp at e;exact e
      · exact each_b8 R l h x hx
theorem insG_of{c:zv}{i:Int}{a:H bN}{R ry:Int}(h:iC c i a R ry=U 0):Ta a R ry c:=by
  obtain⟨op,v,u,t,args⟩:=c;by_cases q:op=1
  · subst q;simp[iC,eX,eU,fT,gu,fO,dw,eY,dY,dX,dQ,du]at h;simp[Ta,Em]
    (repeat (split at h;·simp at h))
    omega
  by_cases s:op=2
  · subst s;simp[iC,eX,eU,fT,gu,fO,dw,eY,dY,dX,dQ,du]at h;simp[Ta,Em]
    (repeat (split at h;·simp at h))
    omega
  by_cases n:op=3
  · subst n;simp[iC,eX,eU,fT,gu,fO,dw,eY,dY,dX,dQ,du]at h;simp[Ta,Em];by_cases hl:O args=1
    · obtain⟨y,rfl⟩:=Wk.1 hl;simp[QL]at h;split at h
      · simp at h
      split at h
      · simp at h
      refine⟨by omega,by omega,by omega,y,Z,by omega,by omega⟩
    · exfalso;rw[Z3 (show¬((O args:Int)=1) by omega)]at h;split at h<;>simp at h
  by_cases o:op=4
  · subst o;simp[iC,eX,eU,fT,gu,fO,dw,eY,dY,dX,dQ,du]at h;simp[Ta,Em]
    (repeat (split at h;·simp at h))
    omega
  by_cases g:op=5
  · subst g;simp[iC,eX,eU,fT,gu,fO,dw,eY,dY,dX,dQ,du]at h;simp[Ta,Em]
    (repeat (split at h;·simp at h))
    omega
  by_cases r:op=6
  · subst r;simp[iC,eX,eU,fT,gu,fO,dw,eY,dY,dX,dQ,du]at h;simp[Ta,Em]
    (repeat (split at h;·simp at h))
    omega
  by_cases j:op=7
  · subst j;simp[iC,eX,eU,fT,gu,fO,dw,eY,dY,dX,dQ,du]at h;simp[Ta,Em];split at h
    · simp at h
    split at h
    · simp at h
    obtain⟨p,J,h⟩:=aO h
    (repeat (split at h;·simp at h))
    refine⟨by omega,⟨p,J,by omega⟩,λx l=>each_b8 R args h x l⟩
  by_cases k:op=8
  · subst k;simp[iC,eX,eU,fT,gu,fO,dw,eY,dY,dX,dQ,du]at h;simp[Ta,Em]
    (repeat (split at h;·simp at h))
    omega
  by_cases m:op=9
  · subst m;simp[iC,eX,eU,fT,gu,fO,dw,eY,dY,dX,dQ,du]at h;simp[Ta,Em]
    (repeat (split at h;·simp at h))
    omega
  by_cases b:op=10
  · subst b;simp[Ta,Em]
  by_cases f:op=11
  · subst f;simp[iC,eX,eU,fT,gu,fO,dw,eY,dY,dX,dQ,du]at h;simp[Ta,Em]
    (repeat (split at h;·simp at h))
    omega
  by_cases e:op=12
  · subst e;simp[iC,eX,eU,fT,gu,fO,dw,eY,dY,dX,dQ,du]at h;simp[Ta,Em]
    (repeat (split at h;·simp at h))
    omega
  by_cases d:op=13
  · subst d;simp[iC,eX,eU,fT,gu,fO,dw,eY,dY,dX,dQ,du]at h;simp[Ta,Em]
    (repeat (split at h;·simp at h))
    omega
  · exfalso;simp[iC,eX,eU,fT,gu,fO,dw,eY,dY,dX,dQ,du, *]at h
structure pg(a:List bN):Prop where
 many:1<=a.length/\a.length<=4
 head:∀(i:Nat) x,a[i]? =U x->(0<=x.params/\x.params<=3)/\(1<=x.regs/\x.params<=x.regs/\x.regs<=40)/\¬(i=0/\x.params≠0)/\wJ x
 last:∀x∈a,∃c,vj x.C ((x.C.length:Int)-1)=U c/\(c.op=8\/c.op=12)
 ins:∀x∈a,∀c∈x.C,Ta a x.regs x.C.length c
theorem Rg:∀(p:H bN) (j:Nat),DL j p=0->∀(i:Nat) x,p[i]? =U x->Hd (j+i) x=0
  |[],j,_,i,x,hx=>by simp at hx
  |y::p,j,h,i,x,hx=>by
    unfold DL at h;split at h
    · rename_i a;exact ZD h a
    · rename_i a;cases i with
      |zero=>simp at hx;subst hx;exact eR.1 a
      |succ i=>rw[show j+(i+1)=(j+1)+i by omega];exact Rg p (j+1) h i x (by simpa using hx)
theorem b35_ins(a:H bN)(x:bN)(k:Unit->B Int):∀(l:H zv) (i:Int),ib (jk a x) k i l ()=U 0->k ()=U 0/\∀c∈l,Ta a x.regs (O x.C) c
  |[],i,h=>⟨h,λc b=>by cases b⟩
  |y::l,i,h=>by
    have e:ib (jk a x) k i (y::l) ()=jk a x i y () (ib (jk a x) k (i+1) l):=rfl;rw[e]at h;unfold jk at h;obtain⟨z,g,h⟩:=aO h;by_cases d:z=0
    · subst d;rw[dF C3,Z1]at h;obtain⟨f,j⟩:=b35_ins a x k l (i+1) h;refine⟨f,λc b=>?_⟩;rcases bs.1 b with rfl|b
      · exact insG_of g
      · exact j c b
    · rw[dT d,ZW]at h;exact ZD (osi h) d
theorem b37_ins(a:H bN):∀l:H bN,vh (l8 a) uC l ()=U 0->∀x∈l,(∃c,vj x.C ((O x.C:Int)-1)=U c/\(c.op=8\/c.op=12))/\∀c∈x.C,Ta a x.regs (O x.C) c
  |[],_,x,hx=>by cases hx
  |y::l,h,x,hx=>by
    rw[gq]at h;unfold l8 at h;obtain⟨b,f⟩:=b35_ins a y _ y.C 0 h;unfold Gd at b;obtain⟨_,b⟩:=dh b;obtain⟨c,d,b⟩:=aO b;cases e:(G ((c.op:Int)≠8)&&G ((c.op:Int)≠12))with
    |true=>rw[e,ZW]at b;cases b
    |false=>
      rw[e,Z1]at b;rcases bs.1 hx with rfl|hx
      · exact⟨⟨c,d,by simp only[cg,decide_eq_false_iff_not,eR]at e;exact e⟩,f⟩
      · exact b37_ins a l b x hx
theorem pQ{a:H bN}(h:FY a=0):pg a:=by
  have b:=U3 a;rw[h]at b;unfold tT at b;generalize f:(G (((O a:Int):Int)=0)||G ((4:Int)<(O a:Int)))=C at b;cases C with
  |true=>cases b
  |false=>
    simp only[cV,decide_eq_false_iff_not]at f;have j:ib rH (uD a) 0 a ()=_:=E4 (uD a) a 0;rw[Z1,j]at b;by_cases d:DL 0 a=0
    · rw[Z3 V]at b;have e:=b37_ins a a b;refine⟨by omega,λi x c=>?_,λx c=>(e x c).1,λx c=>(e x c).2⟩;have:=Rg a 0 d i x c;rw[Nat.zero_add]at this;unfold Hd at this;split at this
      · rename_i g;split at this
        · rename_i g2;exact⟨g.1,g.2.1,g.2.2,g2⟩
        · cases this
      · cases this
    · rw[Z2 d]at b;exact ZD (osi b) d
theorem AP{α σ ρ:Type}{body:Int->α->σ->(σ->ρ)->ρ}{k:σ->ρ}(i:Int)(x:α)(l:H α)(s:σ):ib body k i (x::l) s=body i x s (ib body k (i+1) l):=rfl
theorem QN{σ ρ:Type}{body:Int->σ->(σ->ρ)->ρ}{k:σ->ρ}(i:Int)(m:Nat)(s:σ):zE body k i (m+1) s=body i s (zE body k (i+1) m):=rfl
theorem sU{σ β:Type}{body:σ->(σ->B β)->B β}{m:Nat}{s:σ}:zy body (m+1) s=body s (zy body m):=rfl
def lS(n:Nat)(v:td):Prop:=(v.h=0/\v.n=0)\/(v.h=1/\ -1000000000<=v.n/\v.n<=1000000000)\/(v.h=2/\0<=v.n/\v.n<n)
instance (n:Nat) (v:td):Decidable (lS n v):=inferInstanceAs (Decidable (_\/_))
theorem uO(n:Nat)(v:td):lD v (n:Int)=0↔lS n v:=by
  obtain⟨k,m⟩:=v;simp only[lD,lS,du,dH,decide_eq_true_eq];constructor
  · intro h
    (repeat' split at h)<;>first|omega|(exfalso;omega)
  · intro h;rcases h with⟨h1,h2⟩|⟨h1,h2⟩|⟨h1,h2⟩
    · rw[Z2 h1,Z3 V]
    · rw[Z3 V,Z2 h1,Z3 V]
    · rw[Z3 V,Z3 V,Z2 h1,Z3 V]
theorem value_eq(v:td)(n:Int):jc v n=lD v n:=by
 obtain⟨k,m⟩:=v;simp only[lD,jc,sQ,aQ,jr,aL,du,dH,cS,ef,decide_eq_true_eq,decide_eq_false_iff_not,cg]
 (repeat' split)<;>first|rfl|(exfalso;omega)
def wK(l:H (H td)):Prop:=O l<=24/\∀c∈l,(1<=O c/\O c<=4)/\∀v∈c,lS (O l) v
theorem cells_eq(a:H (H td)):rU a=rA a:=by
 unfold rU rA;have k1:∀(l:H td) (f:Unit->Int),vh (rP a) (rQ f) l ()=vh (rJ a) (pX f) l ():=by
  intro l f;induction l with
  |nil=>rfl
  |cons x l ih=>
   show(bif G ((jc x (O a:Int):Int)≠0)then jc x (O a:Int)else vh (rP a) (rQ f) l ())=(bif G ((lD x (O a:Int):Int)≠0)then lD x (O a:Int)else vh (rJ a) (pX f) l ());rw[value_eq,ih]
 have k2:∀l:H (H td),vh (rR a) rT l ()=vh (uS a) rM l ():=by
  intro l;induction l with
  |nil=>rfl
  |cons x l ih=>
   show(bif (!(aQ (O x:Int) 1 4))then 2 else vh (rP a) (rQ<|vh (rR a) rT l) x ())=(bif (G (((O x:Int):Int)=0)||G ((4:Int)<(O x:Int)))then 2 else vh (rJ a) (pX<|vh (uS a) rM l) x ());have e:(!(aQ (O x:Int) 1 4))=(G (((O x:Int):Int)=0)||G ((4:Int)<(O x:Int))):=by
    unfold aQ;rw[dv];simp only[dH,ef,cg,decide_eq_true_eq,decide_eq_false_iff_not];omega
   rw[e,k1];have:vh (rR a) rT l=vh (uS a) rM l:=by funext u;exact ih
   rw[this]
 rw[k2]
theorem all_ok(a:H (H td)):rA a=0↔wK a:=by
  have k1:∀(l:H td) (f:Unit->Int),vh (rJ a) (pX f) l ()=0↔(∀v∈l,lS (O a) v)/\f ()=0:=by
    intro l f;induction l with
    |nil=>simp[lM,pX]
    |cons x l ih=>
      show(bif G ((lD x (O a:Int):Int)≠0)then lD x (O a:Int)else vh (rJ a) (pX f) l ())=0↔_;by_cases h:lD x (O a:Int)=0
      · rw[dF V,Z1,ih];have:=(uO _ _).1 h;simp[this]
      · rw[dT h,ZW];have b:¬lS (O a) x:=λe=>h ((uO _ _).2 e);simp[h,b]
  have k2:∀l:H (H td),vh (uS a) rM l ()=0↔∀c∈l,(1<=O c/\O c<=4)/\∀v∈c,lS (O a) v:=by
    intro l;induction l with
    |nil=>simp[lM,rM]
    |cons x l ih=>
      show(bif (G (((O x:Int):Int)=0)||G ((4:Int)<(O x:Int)))then 2 else vh (rJ a) (pX<|vh (uS a) rM l) x ())=0↔_;by_cases h:1<=O x/\O x<=4
      · rw[show(G (((O x:Int):Int)=0)||G ((4:Int)<(O x:Int)))=aw by simp only[cV,decide_eq_false_iff_not];omega,Z1,k1,ih];simp[h]
      · rw[show(G (((O x:Int):Int)=0)||G ((4:Int)<(O x:Int)))=bd by simp only[dH,decide_eq_true_eq];omega,ZW];simp[h]
  unfold rA wK;by_cases h:O a<=24
  · rw[dF V,Z1,k2];simp[h]
  · rw[dT V,ZW];simp[h]
structure Pd(a:List bN)(n:Nat)(f:Yg)(x:bN):Prop where
 F:vj a f.F=U x
 at_:0<=f.at_/\f.at_<x.C.length
 regs:(f.regs.length:Int)=x.regs
 vals:∀v∈f.regs,lS n v
def qN(a:H bN)(n:Nat):Int->H Yg->Prop
 |_,[]=>True
 |ahead,f::l=>(∃x,Pd a n f x)/\(0<=f.y/\f.y<ahead)/\qN a n (O f.regs) l
structure AJ(a:List bN)(s:Yh):Prop where
 o:0<=s.o/\s.o<=3
 bC: -1000000000<=s.bC/\s.bC<=1000000000
 stay:s.o≠3->s.bC=0
 ended:s.o=1↔s.i=[]
 many:s.i.length<=10
 j:wK s.j
 i:qN a s.j.length 1 s.i
def ahead(pre:H Yg):Int:=match pre.getLast? with|none=>1|some f=>O f.regs
theorem Sf:ahead []=1:=rfl
theorem R4(pre:H Yg)(f:Yg):ahead (pre++[f])=O f.regs:=by simp[ahead]
theorem Fw(b:Yh)(f:Yg)(c:Unit->B Int)(a:Int->B Int)(hn:c ()=a (O f.regs)):∀l:H td,vh (Dz b) (DC c) l ()=vh (xw b) (xx a f) l ()
 |[]=>hn
 |x::l=>by
  show(bif G ((lD x (O b.j:Int):Int)≠0)then U (lD x (O b.j:Int))else vh (Dz b) (DC c) l ())=(bif G ((jc x (O b.j:Int):Int)≠0)then U (jc x (O b.j:Int))else vh (xw b) (xx a f) l ());rw[value_eq,Fw b f c a hn l]
theorem vals_tot(b:Yh)(a:Unit->B Int)(aq:Prop)(hn:∃y,a ()=U y/\(y=0↔aq)):∀l:H td,∃y,vh (Dz b) (DC a) l ()=U y/\(y=0↔(∀v∈l,lS (O b.j) v)/\aq)
  |[]=>by obtain⟨y,c,d⟩:=hn;exact⟨y,c,by simp[d]⟩
  |x::l=>by
    obtain⟨y,c,d⟩:=vals_tot b a aq hn l;have e:vh (Dz b) (DC a) (x::l) ()=(bif G ((lD x (O b.j:Int):Int)≠0)then U (lD x (O b.j:Int))else vh (Dz b) (DC a) l ()):=rfl;rw[e];by_cases h:lD x (O b.j:Int)=0
    · rw[dF V,Z1];have:=(uO _ _).1 h;exact⟨y,c,by rw[d];simp[this]⟩
    · rw[dT h,ZW];refine⟨_,Z,?_⟩;have f:¬lS (O b.j) x:=λe=>h ((uO _ _).2 e);simp[h,f]
theorem Hk(a:H bN)(b:Yh)(k:O b.i<=10):∀(l pre:H Yg),b.i=pre++l->
    ib (KN a b) Ri (O pre:Int) l ()=vh (kE a b) ou l (ahead pre)
  |[],pre,h=>rfl
  |f::l,pre,h=>by
    have e:=Hk a b k l (pre++[f]) (by simpa using h);rw[R4]at e;have hi:((O (pre++[f]):Nat):Int)=(O pre:Int)+1:=by simp
    rw[hi]at e;rw[AP,gq];generalize ib (KN a b) Ri ((O pre:Int)+1) l=K1 at e⊢;generalize vh (kE a b) ou l=K2 at e⊢;unfold KN kE;have hl:O pre<=10:=by have:=ZS O h;simp at this;omega
    have m:(G ((f.F:Int)<0)||G (((O a:Int):Int)<=f.F))= !aL f.F (O a:Int):=tL _ _;rw[m];cases J:aL f.F (O a:Int)with
    |false=>rfl
    |true=>
      simp only[cA,Z1];cases hx:vj a f.F with
      |none=>rfl
      |some x=>
        simp only[vf];cases ha:aL f.at_ (O x.C:Int)with
        |false=>
          rw[show(((G ((f.at_:Int)<0)||G (((O x.C:Int):Int)<=f.at_))||G ((f.y:Int)<0))||(G ((O pre:Int)=0)&&G ((f.y:Int)≠0)))=bd by
            have:=tL f.at_ (O x.C:Int);rw[ha]at this;rw[this];rfl]
          rfl
        |true=>
          have j:=tL f.at_ (O x.C:Int);rw[ha]at j;rw[j];simp only[cA,ml,Z1];have i:∀t,DD f x b K1 t=kD a f b K2 t:=by
            intro t;unfold DD kD;rw[hx,vf,Fw b f _ _ e]
          simp only[i];rcases ir pre with rfl|⟨q,g,rfl⟩
          · rw[Sf];by_cases c:f.y=0
            · rw[show(G ((f.y:Int)<0)||(G ((O ([]:H Yg):Int)=0)&&G ((f.y:Int)≠0)))=aw by simp[c],Z1,dF C3,Z1,show(!aL f.y 1)=aw by simp[c,aL]]
            · rw[show(G ((f.y:Int)<0)||(G ((O ([]:H Yg):Int)=0)&&G ((f.y:Int)≠0)))=bd by simp[c],ZW,show(!aL f.y 1)=bd by simp[aL];omega]
          · rw[iu]at*;rw[R4];have d:(O (q++[g]):Int)=(O q:Int)+1:=by simp
            rw[d,show(G ((O q:Int)+1=0))=aw from dF V,ju,Bool.or_false];by_cases c:f.y<0
            · rw[dT c,ZW,show(!aL f.y (O g.regs:Int))=bd by simp[aL];omega]
            · rw[dF c,Z1,dT V,ZW,gI V (by simp at hl;omega),show(O q:Int)+1-1=((O q:Nat):Int) by omega,kF,h];simp only[cy,jt (cj _),Nat.sub_self,gf,ck,oV,vf];congr 1;rw[dv];simp[aL];omega
theorem U4(a:H bN)(b:Yh):L8 a b=mO a b:=by
  unfold L8 mO;have f:(((G ((b.o:Int)<0)||G ((3:Int)<b.o))||G ((b.bC:Int)< -1000000000))||G ((1000000000:Int)<b.bC))=((!(aQ b.o 0 3))||(!(jr b.bC))):=by
    unfold jr aQ;rw[dv];simp only[dH,ef,cg,decide_eq_true_eq,decide_eq_false_iff_not];omega
  have c:((G ((b.o:Int)≠3)&&G ((b.bC:Int)≠0))||(G ((b.o:Int)=1) !=G (((O b.i:Int):Int)=0)))=(((G ((b.bC:Int)≠0)&&G ((b.o:Int)≠3))||(G ((b.o:Int)=1)&&G ((0:Int)<(O b.i:Int))))||(G ((b.o:Int)≠1)&&G (((O b.i:Int):Int)=0))):=by
    by_cases e:b.o=1<;>by_cases g:O b.i=0<;>by_cases i:b.o=3<;>by_cases d:b.bC=0<;>simp[e,g,i,d]<;>omega
  rw[f,c,cells_eq];by_cases h:O b.i<=10
  · have:=Hk a b h b.i [] Z;rw[Sf]at this;rw[<-this];rfl
  · rw[show(G ((10:Int)<(O b.i:Int)))=bd from dT V];rfl
theorem M1(a:H bN)(b:Yh):∀(l:H Yg) (t:Int),∃y,vh (kE a b) ou l t=U y/\(y=0↔qN a (O b.j) t l)
  |[],t=>⟨0,rfl,by simp[qN]⟩
  |f::l,t=>by
    obtain⟨y,e,k⟩:=M1 a b l (O f.regs);rw[gq];generalize vh (kE a b) ou l=K2 at e⊢;unfold kE;cases J:aL f.F (O a:Int)with
    |false=>
      refine⟨5,Z,?_⟩;have:¬qN a (O b.j) t (f::l):=by
        rintro⟨⟨x,g⟩,-,-⟩;have:=aN g.F;have j:=(oy.1 this.2).1;unfold aL at J;simp only[cg,decide_eq_false_iff_not]at J;omega
      simp[this]
    |true=>
      unfold aL at J;simp only[cS,decide_eq_true_eq]at J;simp only[cA,Z1];obtain⟨n,hn⟩:=cl J.1;have d:vj a f.F=U (a[n]'V):=by rw[hn,rE V]
      generalize a[n]'V=x at d;rw[d,vf];have kB:∃y,kD a f b K2 bd=U y/\y≠0:=⟨3,Z,by decide⟩;have c:∀z,Pd a (O b.j) f z->z=x:=λz g=>by have:=g.F;rw[d]at this;exact(osi this).symm
      cases ha:aL f.at_ (O x.C:Int)with
      |false=>
        obtain⟨y,g1,g2⟩:=kB;refine⟨y,g1,?_⟩;have:¬qN a (O b.j) t (f::l):=by
          rintro⟨⟨z,g⟩,-,-⟩;have:=c z g;subst this;have:=g.at_;unfold aL at ha;simp only[cg,decide_eq_false_iff_not]at ha;omega
        simp[this,g2]
      |true=>
        simp only[cA,Z1];cases ht:aL f.y t with
        |false=>
          obtain⟨y,g1,g2⟩:=kB;refine⟨y,g1,?_⟩;have:¬qN a (O b.j) t (f::l):=by
            rintro⟨⟨z,g⟩,j,-⟩;unfold aL at ht;simp only[cg,decide_eq_false_iff_not]at ht;omega
          simp[this,g2]
        |true=>
          simp only[cA];unfold kD;rw[d,Z1,vf];unfold aL at ha ht;simp only[cS,decide_eq_true_eq]at ha ht;by_cases i:(O f.regs:Int)=x.regs
          · rw[dF V,Z1,<-Fw b f (λ_=>K2 (O f.regs)) _ rfl];obtain⟨z,g1,g2⟩:=vals_tot b (λ_=>K2 (O f.regs)) _ ⟨y,e,k⟩ f.regs;refine⟨z,g1,g2.trans ⟨λh=>⟨⟨x,d,ha,i,h.1⟩,ht,h.2⟩,?_⟩⟩;rintro⟨⟨z,g⟩,j,m⟩;exact⟨g.vals,m⟩
          · rw[dT V,ZW];refine⟨4,Z,?_⟩;have:¬qN a (O b.j) t (f::l):=by
              rintro⟨⟨z,g⟩,-,-⟩;have:=c z g;subst this;exact i g.regs
            simp[this]
theorem Mn(a:H bN)(b:Yh):∃y,L8 a b=U y/\(y=0↔AJ a b):=by
  rw[U4];unfold mO;cases c1:((!(aQ b.o 0 3))||(!(jr b.bC)))with
  |true=>
    refine⟨3,Z,⟨λh=>ZD h tz,λh=>?_⟩⟩;unfold jr aQ at c1;simp only[dH,ef,cg,decide_eq_false_iff_not]at c1;have:=h.o;have:=h.bC;omega
  |false=>
    unfold jr aQ at c1;simp only[cV,rO,cS,decide_eq_true_eq]at c1;rw[Z1];cases c2:(((G ((b.bC:Int)≠0)&&G ((b.o:Int)≠3))||(G ((b.o:Int)=1)&&G ((0:Int)<(O b.i:Int))))||(G ((b.o:Int)≠1)&&G (((O b.i:Int):Int)=0)))with
    |true=>
      refine⟨4,Z,⟨λh=>ZD h tz,λh=>?_⟩⟩;simp only[dH,cS,decide_eq_true_eq]at c2;rcases c2 with(c2|c2)|c2
      · exact ZD (h.stay c2.2) c2.1
      · have:=h.ended.1 c2.1;rw[this]at c2;simp at c2
      · exact ZD (h.ended.2<|cE V) c2.1
    |false=>
      simp only[cV,cg,decide_eq_false_iff_not]at c2;rw[Z1];by_cases e:O b.i<=10
      · rw[dF V,Z1,cells_eq];by_cases c:rA b.j=0
        · rw[dF V,Z1];obtain⟨y,f,g⟩:=M1 a b b.i 1;refine⟨y,f,g.trans ⟨λh=>⟨by omega,by omega,λd=>by omega,⟨λd=>?_,λd=>?_⟩,e,(all_ok _).1 c,h⟩,λh=>h.i⟩⟩
          · exact cE V
          · rw[d]at c2;simp at c2;omega
        · rw[dT c,ZW];exact⟨_,Z,⟨λh=>ZD h c,λh=>ZD ((all_ok _).2 h.j) c⟩⟩
      · rw[dT V,ZW];exact⟨2,Z,⟨λh=>ZD h tz,λh=>ZD h.many e⟩⟩
def S4(a:H bN)(s:Yh):Int:=(L8 a s).getD 0
theorem ckS_eq(a:H bN)(s:Yh):L8 a s=U (S4 a s):=by obtain⟨y,h,-⟩:=Mn a s;unfold S4;rw[h];rfl
theorem ckS_eq2(a:H bN)(s:Yh):mO a s=U (S4 a s):=by rw[<-U4,ckS_eq]
theorem Kr{a:H bN}{s:Yh}:S4 a s=0↔AJ a s:=by obtain⟨y,h,b⟩:=Mn a s;unfold S4;rw[h];exact b
theorem Oy(a:H bN)(s:Yh):Jq a s=U (if FY a≠0 then FY a else S4 a s):=by
  unfold Jq;rw[U3,vf];by_cases h:FY a=0
  · rw[dF V,Z1,ckS_eq,vf,Z3 V]
  · rw[dT h,ZW,Z2 h]
theorem eqVals(a b:H td):oo a b=U (G (a=b)):=by
  unfold oo;by_cases h:O a=O b
  · rw[dF V];simp only[Z1,ba];rw[Pq (λx y=>G (x=y)) a b h rfl (λi x y j f g=>by
      unfold H6;rw[kF,kF,f,g];obtain⟨k,n⟩:=x;obtain⟨k2,c⟩:=y;by_cases e:k=k2<;>by_cases d:n=c<;>simp[e,d]),Cb (λ_ _=>rfl)]
  · rw[dT V];have:a≠b:=λe=>h (by rw[e]);rw[dF this];rfl
theorem eqCells(a b:H (H td)):Vw a b=U (G (a=b)):=by
  unfold Vw;by_cases h:O a=O b
  · rw[dF V,Z1,Q5 (λx y=>G (x=y)) a b h rfl (λi x y d c=>by
      unfold ZP;rw[kF,c,vf,eqVals,vf];by_cases e:x=y<;>simp[e]),Cb (λ_ _=>rfl)]
  · rw[dT V];have:a≠b:=λe=>h (by rw[e]);rw[dF this];rfl
theorem eqCells2(a b:H (H td)):xW a b=U (G (a=b)):=by
  unfold xW;by_cases h:O a=O b
  · rw[dF V];simp only[Z1,ba];rw[Pq (λx y=>G (x=y)) a b h rfl (λi x y f c d=>by
      unfold EB;rw[kF,kF,c,d,vf,vf,eqVals,vf];by_cases e:x=y<;>simp[e]),Cb (λ_ _=>rfl)]
  · rw[dT V];have:a≠b:=λe=>h (by rw[e]);rw[dF this];rfl
theorem fr_eq(x y:Yg)(a:Unit->B Yi):(bif ((G ((x.F:Int)=y.F)&&G ((x.at_:Int)=y.at_))&&G ((x.y:Int)=y.y))then Option.bind (oo x.regs y.regs) λb=>Fp a (!b)else Fp a bd)=bif G (x=y)then a ()else U false:=by
 obtain⟨p,t,r,o⟩:=x;obtain⟨i,t2,e,o2⟩:=y;simp only[eqVals,vf,Fp];by_cases g:p=i<;>by_cases d:t=t2<;>by_cases f:r=e<;>by_cases c:o=o2<;>simp[g,d,f,c]
theorem st_eq(a b:Yh):G (a=b)=((G (a.o=b.o)&&G (a.bC=b.bC))&&(G (a.j=b.j)&&G (a.i=b.i))):=by
 obtain⟨f,c,s,w⟩:=a;obtain⟨e,c2,g,d⟩:=b;rw[dv];simp;constructor<;>(intro h;simp[h])
theorem eqState(a b:Yh):Vx a b=U (G (a=b)):=by
  rw[st_eq];unfold Vx;cases (G ((a.o:Int)=b.o)&&G ((a.bC:Int)=b.bC))with
  |false=>rfl
  |true=>
    rw[ZW,eqCells,vf];cases G (a.j=b.j)with
    |false=>rfl
    |true=>
      rw[ZW];by_cases h:O a.i=O b.i
      · rw[dF V,Z1,Q5 (λx y=>G (x=y)) a.i b.i h rfl (λi x y c d=>by
          unfold Hi;rw[kF,d,vf];exact fr_eq x y c),Cb (λ_ _=>rfl)];rfl
      · rw[dT V];have:a.i≠b.i:=λe=>h (by rw[e]);rw[dF this];rfl
theorem eqState2(a b:Yh):tF a b=U (G (a=b)):=by
 rw[<-eqState];unfold tF Vx;rw[eqCells,eqCells2];rfl
structure DQ(s:Yh):Prop where
 i:s.i.length<=10
 regs:∀f∈s.i,f.regs.length<=40
 j:s.j.length<=24
 fields:∀c∈s.j,c.length<=4
theorem DX{a:H bN}{n:Nat}:∀{l:H Yg} {t:Int},qN a n t l->∀f∈l,∃x,Pd a n f x
  |[],_,_,f,hf=>by cases hf
  |g::l,t,h,f,hf=>by
    rcases bs.1 hf with rfl|hf
    · exact h.1
    · exact DX h.2.2 f hf
theorem pg.mem{a:H bN}(h:pg a){k:Int}{x:bN}(c:vj a k=U x):x∈a/\(0<=x.params/\x.params<=3)/\(1<=x.regs/\x.params<=x.regs/\x.regs<=40)/\wJ x:=by
 have b:=(aN c).2;have:=h.head _ x b;exact⟨hJ b,this.1,this.2.1,this.2.2.2⟩
theorem AJ.small{a:H bN}{s:Yh}(h:AJ a s)(ha:pg a):DQ s where
 i:=h.many
 regs f hf:=by
  obtain⟨x,g⟩:=DX h.i f hf;have:=(ha.mem g.F).2.2.1;have:=g.regs;omega
 j:=h.j.1
 fields c hc:=(h.j.2 c hc).1.2
theorem Fm{α:Type}{bytes:Nat}{a:H α}(h:O a<=400)(b:bytes<=48):C4 bytes a=U a:=by
 have:O a*bytes<=400*48:=tA h b;unfold C4;exact gJ ⟨by simp;omega,by simp;omega⟩
theorem GB{ρ:Type}{body:Int->Unit->(Unit->ρ)->ρ}{k:Unit->ρ}:∀(m:Nat) (i:Nat),(∀j:Nat,i<=j->j<i+m->∀a,body (j:Int) () a=a ())->zE body k (i:Int) m ()=k ()
 |0,i,_=>rfl
 |m+1,i,h=>by
  rw[QN,h i (cj _) V,show((i:Int)+1)=((i+1:Nat):Int) by omega];exact GB m (i+1) λj b c=>h j V V
theorem cellCopy_eq{l:H (H td)}(h:O l<=24)(a:∀c∈l,O c<=4):Vu l=U l:=by
 unfold Vu;rw[Fm V tz,vf,ba];exact GB (k:=Rm l) (O l) 0 (λj b e d=>by
  unfold Rl;rw[rE V,vf,Fm (by have:=a _ (cv (by omega:j<O l));omega) tz,vf])
theorem HM{s:Yh}(h:DQ s):Rn s=U s:=by
 unfold Rn;rw[Fm (by have:=h.i;omega) tz,vf,cellCopy_eq h.j h.fields,vf];unfold Xk;rw[ba];exact GB (k:=Xj s s.j) (O s.i) 0 (λj a c b=>by
  unfold Xi;rw[rE V,vf,Fm (by have:=h.regs _ (cv (by omega:j<O s.i));omega) tz,vf])
theorem AN{α:Type}{bytes:Nat}{l m:H α}(h:O l+O m<=100000)(a:bytes<=48):Room bytes l m:=by
 have:(O l+O m)*bytes<=100000*48:=tA h a;exact⟨by omega,by omega⟩
theorem S6(b:H Yg)(s:Yh):∀(l a:H (H td)),(∀c∈l,O c<=4)->O a+O l<=24->vh uZ (Ak b s) l a=U ⟨b,a++l,s.o,s.bC⟩
 |[],a,_,_=>by simp[lM,Ak]
 |x::l,a,h,hl=>by
  rw[gq];unfold uZ;have:=h x C3;simp only[bw]at hl;rw[gJ (AN (by simp;omega) tz),gJ (AN (by simp;omega) tz)];have g:=S6 b s l (a++[([]:H td)++x]) (λc i=>h c (bo _ i)) (by simp;omega);have e:uZ=λd f j=>iE (Room 16 ([]:H td) d) (iE (Room 24 f [([]:H td)++d])<|j<|f++[([]:H td)++d]):=rfl;rw[<-e,g];simp
theorem J1(s:Yh)(b:O s.j<=24/\∀c∈s.j,O c<=4):∀(l a:H Yg),(∀f∈l,O f.regs<=40)->O a+O l<=10->vh vg (vk s) l a=U ⟨a++l,s.j,s.o,s.bC⟩
 |[],a,_,_=>by
  rw[lM,vk,S6 _ _ _ _ b.2 (by simp;omega)];simp
 |x::l,a,h,hl=>by
  rw[gq];have:=h x C3;simp only[bw]at hl;have d:=J1 s b l (a++[⟨x.F,x.at_,([]:H td)++x.regs,x.y⟩]) (λc b=>h c (bo _ b)) (by simp;omega);generalize vh vg (vk s) l=K at d⊢;unfold vg;rw[gJ (AN (by simp;omega) tz),gJ (AN (by simp;omega) tz),d];simp
theorem own_eq{s:Yh}(h:DQ s):qJ s=U s:=by
 unfold qJ;rw[J1 s ⟨h.j,h.fields⟩ s.i [] h.regs (by simpa using h.i)];simp
def YS(l:H Int)(v:td):H Int:=if v.h=2/\v.n∉l then l++[v.n]else l
def YT(l:H Int)(vs:H td):H Int:=vs.foldl YS l
def AS(cells:H (H td))(k:Int):H td:=(vj cells k).getD []
def bfs(cells:H (H td)):Nat->Nat->H Int->H Int
 |0,_,l=>l
 |m+1,k,l=>if h:k<O l then bfs cells m (k+1) (YT l (AS cells l[k]))else l
def Pe(cells:H (H td))(vs:H td):H Int:=bfs cells 25 0 (YT [] vs)
theorem QO(l:H Int)(v:td)(vs:H td):YT l (v::vs)=YT (YS l v) vs:=rfl
theorem metV_pre(l:H Int)(v:td):l<+:YS l v:=by
  unfold YS;split
  · exact rS _ _
  · exact fX _
theorem QP:∀(vs:H td) (l:H Int),l<+:YT l vs
 |[],l=>fX _
 |v::vs,l=>(metV_pre l v).trans (QP vs _)
theorem bfs_pre(cells:H (H td)):∀(m k:Nat) (l:H Int),l<+:bfs cells m k l
  |0,_,l=>fX _
  |m+1,k,l=>by
    unfold bfs;split
    · exact(QP _ _).trans<|bfs_pre cells m _ _
    · exact fX _
theorem P3:∀(n:Nat) (l:H Int),l.Nodup->(∀x∈l,0<=x/\x<n)->O l<=n
  |0,l,_,h=>by
    cases l with
    |nil=>simp
    |cons x l=>have:=h x C3;omega
  |n+1,l,hn,h=>by
    have d:=P3 n (l.erase (n:Int)) (hn.erase _) (λx b=>by
      have a:=(hn.mem_erase_iff).1 b;have:=h x a.2;have e:=a.1;constructor
      · omega
      · push_cast at this;omega)
    have c:O l<=O (l.erase (n:Int))+1:=by rw[List.length_erase];split<;>omega
    omega
def Aw(n:Nat)(l:H Int):Prop:=l.Nodup/\∀x∈l,0<=x/\x<n
section
variable{n:Nat}{l:H Int}
theorem Aw.len(h:Aw n l):O l<=n:=P3 n l h.1 h.2
theorem Aw.nil:Aw n []:=⟨List.nodup_nil,λx a=>by cases a⟩
variable{v:td}
theorem lS.ref(h:lS n v)(a:v.h=2):0<=v.n/\v.n<n:=by unfold lS at h;omega
theorem Aw.vv(h:Aw n l)(g:lS n v):Aw n (YS l v):=by
  unfold YS;split
  · rename_i d;refine⟨yN.2 ⟨h.1,by simp,λa i b f=>?_⟩,λx c=>?_⟩
    · simp at f;subst f;intro e;subst e;exact d.2 i
    · rcases fi.1 c with c|c
      · exact h.2 x c
      · simp at c;subst c;exact g.ref d.1
  · exact h
theorem Aw.ll:∀{vs:H td} {l:H Int},Aw n l->(∀v∈vs,lS n v)->Aw n (YT l vs)
 |[],l,h,_=>h
 |v::vs,l,h,hv=>Aw.ll (vs:=vs) (l:=YS l v) (h.vv (hv v C3)) (λw a=>hv w (bo _ a))
variable{cells:H (H td)}{k:Int}
theorem IW(h:0<=k/\k<O cells):vj cells k=U (AS cells k)/\AS cells k∈cells:=by
 obtain⟨n,rfl⟩:=cl h.1;unfold AS;rw[rE V];exact⟨Z,cv _⟩
theorem wK.at(h:wK cells)(a:0<=k/\k<O cells):(1<=O (AS cells k)/\O (AS cells k)<=4)/\∀v∈AS cells k,lS (O cells) v:=h.2 _ (IW a).2
theorem Aw.bfs(a:wK cells):∀{m k:Nat} {l:H Int},Aw (O cells) l->Aw (O cells) (bfs cells m k l)
  |0,_,l,h=>h
  |m+1,k,l,h=>by
    unfold Proofs.YteijalgmijkphaaGreatDoor.bfs;split
    · rename_i b;exact Aw.bfs a<|h.ll (a.at<|h.2 _<|cv b).2
    · exact h
def tZ(vs:H td)(l:H Int):Prop:=∀v∈vs,v.h=2->v.n∈l
variable{vs:H td}
theorem tZ.pre{l m:H Int}(h:tZ vs l)(J:l<+:m):tZ vs m:=λv b a=>J.subset (h v b a)
theorem metV_in(l:H Int)(v:td)(a:v.h=2):v.n∈YS l v:=by
  unfold YS;split
  · simp
  · rename_i b;exact eR.1 λh=>b ⟨a,h⟩
theorem W5:∀(vs:H td) (l:H Int),tZ vs (YT l vs)
  |[],l,v,hv,_=>by cases hv
  |w::vs,l,v,hv,hk=>by
    rw[QO];rcases bs.1 hv with rfl|hv
    · exact(QP vs _).subset<|metV_in l v hk
    · exact W5 vs _ v hv hk
theorem bfs_in(d:wK cells):∀{m k:Nat} {l:H Int},Aw (O cells) l->O cells<k+m->(∀j (a:j<O l),j<k->tZ (AS cells l[j]) l)->∀x∈bfs cells m k l,tZ (AS cells x) (bfs cells m k l)
  |0,k,l,h,hm,a,x,hx=>by
    have:=h.len;obtain⟨j,b,rfl⟩:=wb hx;exact a j b (by have n:j<O l:=b;omega)
  |m+1,k,l,h,hm,a,x,hx=>by
    unfold Proofs.YteijalgmijkphaaGreatDoor.bfs at hx⊢;split at hx
    · rename_i c;rw[dif_pos c];have g:=(d.at<|h.2 _<|cv c).2;have J:=QP (AS cells l[k]) l;refine bfs_in d (h.ll g) V (λj b o=>?_) x hx;by_cases e:j<O l
      · have i:(YT l<|AS cells l[k])[j]=l[j]:=(J.getElem e).symm;rw[i];by_cases f:j<k
        · exact(a j e f).pre J
        · have:j=k:=by omega
          subst this;exact W5 _ _
      · omega
    · rename_i c;rw[dif_neg c];obtain⟨j,b,rfl⟩:=wb hx;exact a j b V
theorem reach_ok(a:wK cells)(c:∀v∈vs,lS (O cells) v):Aw (O cells) (Pe cells vs)/\tZ vs (Pe cells vs)/\∀x∈Pe cells vs,tZ (AS cells x) (Pe cells vs):=by
 have b:Aw (O cells) (YT [] vs):=Aw.nil.ll c;refine⟨Aw.bfs a b,(W5 vs []).pre (bfs_pre _ _ _ _),bfs_in a b (by have:=a.1;omega) (λj e d=>ZD d (Nat.not_lt_zero _))⟩
theorem T0{α:Type}(k a:Int)(v:α):∀l:H (Int×α),lk k (V4 a v l)=if k=a then U v else lk k l
  |[]=>by unfold V4 lk;by_cases h:k=a<;>simp[h,lk]
  |p::l=>by
    unfold V4;by_cases h:a=p.1
    · rw[Z2 h];show(if k=p.1 then U v else lk k l)=if k=a then U v else(if k=p.1 then U p.2 else lk k l)
      by_cases e:k=p.1
      · rw[Z2 e,Z2 V]
      · rw[Z3 e,Z3 V,Z3 e]
    · rw[Z3 h];show(if k=p.1 then U p.2 else lk k (V4 a v l))=if k=a then U v else(if k=p.1 then U p.2 else lk k l)
      by_cases e:k=p.1
      · rw[Z2 e,Z2 e,Z3 V]
      · rw[Z3 e,Z3 e,T0 k a v l]
def Seen(l:H Int)(m:H (Int×Yi)):Prop:=∀k,(lk k m).getD aw=G (k∈l)
theorem Seen.nil:Seen [] []:=λk=>rfl
theorem Seen.put{m:H (Int×Yi)}(h:Seen l m)(n:Int):Seen (l++[n]) (V4 n bd m):=by
  intro k;rw[T0];by_cases e:k=n
  · simp[e]
  · rw[Z3 e,h k,dv];simp[e]
variable{ρ:Type}
theorem E6{body:td->H Int×H (Int×Yi)->(H Int×H (Int×Yi)->B ρ)->B ρ}{K:H Int×H (Int×Yi)->B ρ}(c:∀x l m b,O l<=1000->body x (l,m) b=bif (G (x.h=2)&&(!((lk x.n m).getD aw)))then b (l++[x.n],V4 x.n bd m)else b (l,m)):
    ∀(vs:H td) (l:H Int) (m:H (Int×Yi)),Seen l m->O l+O vs<=1000->∃d,Seen (YT l vs) d/\vh body K vs (l,m)=K (YT l vs,d)
  |[],l,m,h,_=>⟨m,h,rfl⟩
  |v::vs,l,m,h,hl=>by
    simp only[bw]at hl;rw[gq,c v l m _ V,h v.n,QO];unfold YS;by_cases a:v.h=2/\v.n∉l
    · rw[Z2 a,dT a.1,dF a.2,gk,eb,ZW];exact E6 c vs _ _ (h.put v.n) (by simp;omega)
    · rw[Z3 a,show(G (v.h=2)&& !decide (v.n∈l))=aw by rw[cg];simp;simp only[not_and,eR]at a;by_cases e:v.h=2<;>simp[e,a],Z1];exact E6 c vs _ _ h V
theorem bfs_loop(d:wK cells):∀(m N k:Nat) (l:H Int) (s:H (Int×Yi)),Aw (O cells) l->Seen l s->O cells<k+m->m<N->k<=O l->zy (Cz cells) N ((k:Int),l,s)=U (bfs cells m k l,0)
  |m,0,k,l,s,h,W,hm,hN,hk=>by omega
  |0,N+1,k,l,s,h,W,hm,hN,hk=>by have:=h.len;omega
  |m+1,N+1,k,l,s,h,W,hm,hN,hk=>by
    rw[sU];unfold Cz Proofs.YteijalgmijkphaaGreatDoor.bfs;simp only;have hl:=h.len;have hn:=d.1;by_cases a:k<O l
    · rw[dT V,ZW,rE a,vf,dif_pos a];have i:=h.2 _<|cv a;have g:=d.at i;rw[(IW i).1,vf];have o:(fun(s:Int×H Int×H (Int×Yi))(c:Int×H Int×H (Int×Yi)->B (H Int×Int))=>match s with|(b,Y6,WB)=>bif G ((b:Int)<(O Y6:Int))then Option.bind (vj Y6 b) λf=>ao (vj cells f) λe=>vh Gn (Gp b c) e (Y6,WB)else U (Y6,0))=Cz cells:=rfl;rw[o];obtain⟨j,p,q⟩:=E6 (body:=Gn) (K:=Gp (k:Int) (zy (Cz cells) N)) (λx l m r hl=>by
        unfold Gn;simp only[];cases (G (x.h=2)&&(!((lk x.n m).getD aw)))with
        |false=>rfl
        |true=>rw[ZW,ZW,gJ (AN (by simp;omega) tz)]) (AS cells l[k]) l s W (by have:=g.1.2;omega)
      rw[q];unfold Gp;simp only;rw[gI V V];have J:=(QP (AS cells l[k]) l).length_le;exact bfs_loop d m N (k+1) _ j (h.ll g.2) p V V V
    · rw[dF V,Z1,dif_neg a]
variable{N:Nat}
theorem reach_eq(hN:100<=N)(b:wK cells)(a:∀v∈vs,lS (O cells) v)(hl:O vs<=400):Rk N cells vs=U (Pe cells vs,0):=by
 unfold Rk;rw[(all_ok cells).2 b,dF C3,Z1,dF V,Z1];have k1:∀l:H td,(∀v∈l,lS (O cells) v)->vh (Ma cells) (Gq N cells vs) l ()=Gq N cells vs ():=by
  intro l;induction l with
  |nil=>intro _;rfl
  |cons x l ih=>
   intro h;rw[gq];unfold Ma;rw[(uO _ _).2 (h x C3),dF C3,Z1];exact ih λv a=>h v<|bo _ a
 rw[k1 vs a];unfold Gq;obtain⟨c,d,e⟩:=E6 (body:=L9) (K:=TD N cells) (λx l m f hl=>by
  unfold L9;simp only[];cases (G (x.h=2)&&(!((lk x.n m).getD aw)))with
  |false=>rfl
  |true=>rw[ZW,ZW,gJ (AN (by simp;omega) tz)]) vs [] [] Seen.nil (by simp;omega)
 rw[e];exact bfs_loop b 25 N 0 _ c (Aw.nil.ll a) d (by have:=b.1;omega) V V
theorem YU(a:H Int)(b:Int):∀(m i:Nat),i+m=O a->zE (vU a b) Ei (i:Int) m ()=U (match (a.drop i).findIdx? (λx=>G (b=x))with|some j=>((i+j:Nat):Int)|none=> -1)
  |0,i,h=>by
    rw[show a.drop i=[]from cq V];rfl
  |m+1,i,h=>by
    rw[QN];have f:=YU a b m (i+1) V;unfold vU;rw[rE V,vf,cp (by omega:i<O a),sa];by_cases e:b=a[i]
    · rw[dT e,ZW];simp
    · rw[dF e,Z1];have k:(fun(d:Int)(s:Unit)(c:Unit->B Int)=>ao (vj a d) λg=>bif G ((b:Int)=g)then U d else c ())=vU a b:=rfl;rw[k,show((i:Int)+1)=((i+1:Nat):Int) by omega,f];cases (a.drop (i+1)).findIdx? (λx=>G (b=x))with
      |none=>rfl
      |some j=>simp only[dF e,cL,if_false,dk];rw[show i+1+j=i+(j+1) by omega]
theorem G2{a:H Int}{b:Int}(h:b∈a):C5 a b=U (a.idxOf b:Int):=by
 unfold C5;rw[ba];have:=YU a b (O a) 0 V;rw[fg]at this;have e:a.findIdx? (λx=>decide<|b=x)=U (a.idxOf b):=by
  rw[List.findIdx?_eq_some_iff_findIdx_eq];have c:a.findIdx (λx=>decide<|b=x)=a.idxOf b:=by
   unfold List.idxOf;congr 1;funext x;rw[dv];simp;exact⟨λh=>h.symm,λh=>h.symm⟩
  exact⟨eS h,c⟩
 rw[e]at this;simpa using this
theorem contains_eq(a:H Int)(b:Int):C7 a b=U (G (b∈a)):=by
  unfold C7;by_cases h:b∈a
  · rw[G2 h,vf,dT V,dT h]
  · unfold C5;have:=YU a b (O a) 0 V;rw[fg]at this;have e:a.findIdx? (λx=>decide<|b=x)=none:=by
      rw[List.findIdx?_eq_none_iff];intro x c;simp;intro e;subst e;exact h c
    rw[e]at this;rw[ba];have d:zE (vU a b) Ei 0 (O a) ()=U (-1):=this;rw[d,vf,dF V,dF h]
theorem U5{K:H Int->B (H Int)}:∀(vs:H td) (l:H Int),O l+O vs<=1000->vh yR K vs l=K (YT l vs)
  |[],l,_=>rfl
  |v::vs,l,hl=>by
    simp only[bw]at hl;rw[gq,QO];generalize c:vh yR K vs=K1;unfold yR YS;simp only[yQ,contains_eq,vf];by_cases a:v.h=2
    · rw[dT a,ZW];by_cases b:v.n∈l
      · rw[dT b,cA,Z1,Z3 (λh=>h.2 b),<-c];exact U5 vs l V
      · rw[dF b,eb,ZW,Z2 ⟨a,b⟩,gJ (AN (by simp;omega) tz),<-c];exact U5 vs _ (by simp;omega)
    · rw[dF a,Z1,Z1,Z3 (λh=>a h.1),<-c];exact U5 vs l V
theorem Hu(b:wK cells):∀(m N k:Nat) (l:H Int) (w:H td),Aw (O cells) l->O cells<k+m->m<N->k<=O l->zy (qI cells) N (l,w,(k:Int))=U (bfs cells m k l)
  |m,0,k,l,w,h,hm,hN,hk=>by omega
  |0,N+1,k,l,w,h,hm,hN,hk=>by have:=h.len;omega
  |m+1,N+1,k,l,w,h,hm,hN,hk=>by
    rw[sU];generalize e:zy (qI cells) N=K;unfold qI Proofs.YteijalgmijkphaaGreatDoor.bfs;simp only;have hl:=h.len;have hn:=b.1;by_cases a:k<O l
    · rw[dT V,ZW,dT V,ZW,rE a,vf,dif_pos a];have d:=h.2 _<|cv a;have c:=b.at d;rw[(IW d).1,vf];unfold uL;rw[U5 _ _ (by have:=c.1.2;omega)];unfold C8;rw[gI V V,<-e];have J:=(QP (AS cells l[k]) l).length_le;exact Hu b m N (k+1) _ _ (h.ll c.2) V V V
    · rw[dF V,Z1,dif_neg a]
theorem met_eq(hN:100<=N)(a:wK cells)(c:∀v∈vs,lS (O cells) v)(hl:O vs<=400):EM N cells vs=U (Pe cells vs):=by
 unfold EM;obtain⟨M,rfl⟩:∃M,N=M+1:=⟨N-1,by omega⟩;rw[sU];generalize b:zy (qI cells) M=K;unfold qI;simp only;rw[dT C3,ZW,dF C3,Z1];unfold uL;rw[U5 _ _ (by simp;omega)];unfold C8;rw[gI V V,<-b];exact Hu a 25 M 0 _ _ (Aw.nil.ll c) (by have:=a.1;omega) V V
end
open Go Go.Proofs Go.LX
def ren(l:H Int)(v:td):td:=if v.h=2 then⟨v.h,(l.idxOf v.n:Nat)⟩else v
def Pf(l:H Int)(f:Yg):Yg:={f with regs:=f.regs.map (ren l)}
def roots(a:H Yg):H td:=a.flatMap (·.regs)
def mW(s:Yh):H Int:=Pe s.j (roots s.i)
def kv(s:Yh):Yh:=⟨s.i.map (Pf (mW s)),(mW s).map (λk=>(AS s.j k).map (ren (mW s))),s.o,s.bC⟩
structure SwOk(s:Yh):Prop where
 small:DQ s
 j:wK s.j
 vals:∀f∈s.i,∀v∈f.regs,lS s.j.length v
section
variable{s:Yh}
theorem AJ.sw{a:H bN}(h:AJ a s)(ha:pg a):SwOk s where
 small:=h.small ha
 j:=h.j
 vals f hf:=by obtain⟨x,g⟩:=DX h.i f hf;exact g.vals
theorem SwOk.roots(h:SwOk s):∀v∈roots s.i,lS (O s.j) v:=by
 intro v a;unfold YteijalgmijkphaaGreatDoor.roots at a;obtain⟨f,b,a⟩:=pj.1 a;exact h.vals f b v a
theorem roots_len(a:H Yg)(h:∀f∈a,O f.regs<=40):O (roots a)<=40*O a:=by
 induction a with
 |nil=>simp[roots]
 |cons f l ih=>
  have:=h f C3;have:=ih λg b=>h g<|bo _ b;unfold roots at*;rw[iz,bn,bw];omega
theorem SwOk.rlen(h:SwOk s):O (YteijalgmijkphaaGreatDoor.roots s.i)<=400:=by
 have:=roots_len s.i h.small.regs;have:=h.small.i;omega
theorem SwOk.reach(h:SwOk s):Aw (O s.j) (mW s)/\tZ (YteijalgmijkphaaGreatDoor.roots s.i) (mW s)/\∀x∈mW s,tZ (AS s.j x) (mW s):=reach_ok h.j h.roots
variable{α ρ:Type}{body:Int->H α->(H α->B ρ)->B ρ}{g:α->α}{P:α->Prop}
theorem map_loop{K:H α->B ρ}(e:∀(i:Nat) (x:H α) a nx,x[i]? =U a->P a->body (i:Int) x nx=nx (x.set i (g a))):
  ∀(d c:H α),(∀a∈d,P a)->zE body K (O c:Int) (O d) (c++d)=K (c++d.map g)
 |[],c,_=>by simp[zE]
 |a::d,c,h=>by
  rw[bw,QN,e (O c) (c++a::d) a _ C3 (h a C3)];have:=map_loop (K:=K) e d (c++[g a]) λb e=>h b<|bo _ e;rw[show(c++a::d).set (O c) (g a)=(c++[g a])++d by simp,show((O c:Int)+1)=(O (c++[g a]):Nat) by simp,this];simp
theorem QQ{K:H α->B ρ}(b:∀(i:Nat) (x:H α) a nx,x[i]? =U a->P a->body (i:Int) x nx=nx (x.set i (g a)))(l:H α)(J:∀a∈l,P a):zE body K 0 (O l) l=K (l.map g):=by
 have:=map_loop (K:=K) b l [] J;simpa using this
def H4(l:H Int)(m:H (Int×Int)):Prop:=∀k,lk k m=if k∈l then U ((l.idxOf k:Nat):Int)else bh
variable{l:H Int}{m:H (Int×Int)}
theorem turn_eq(h:H4 l m)(vs:H td)(f:tZ vs l):Ln vs m=U (vs.map (ren l)):=by
  unfold Ln;rw[ba];refine QQ (P:=λv=>v.h=2->v.n∈l) (λi x a g c J=>?_) vs λv d=>f v d;unfold P1;rw[kF,c,vf];by_cases b:a.h=2
  · rw[dT b,ZW,h a.n,Z2 (J b)];simp[ren,b]
  · rw[dF b,Z1];have:x.set i a=x:=by
      obtain⟨e,rfl⟩:=oy.1 c;exact pA e
    simp[ren,b,this]
theorem Iz(j:wK s.j){K:H (H td)×H Int×H (Int×Int)->B Yh}:∀(b a:H Int) (m:H (Int×Int)),Aw (O s.j) (a++b)->H4 a m->
    ∃g,H4 (a++b) g/\ib (Gr s) K (O a:Int) b (a.map (AS s.j),a,m)=K ((a++b).map (AS s.j),a++b,g)
  |[],a,m,_,h=>⟨m,by simpa using h,by simp[ib]⟩
  |k::b,a,m,hm,h=>by
    have i:a++k::b=(a++[k])++b:=by simp
    have f:k∉a:=by
      intro f;exact(yN.1 hm.1).2.2 k f k C3 Z
    have hl:=hm.len;have hn:=j.1;simp only[bn,bw]at hl;have o:=hm.2 k C3;rw[AP];obtain⟨g,n,l⟩:=Iz j (K:=K) b (a++[k]) (V4 k (O a:Int) m) (by rw[<-i];exact hm) (λq=>by
      rw[T0];by_cases e:q=k
      · subst e;rw[Z2 rfl,Z2 C3,yO,Z3 f];simp
      · rw[Z3 e,h q];by_cases d:q∈a
        · rw[Z2 d,Z2 (by simp[d]),yO,Z2 d]
        · rw[Z3 d,Z3 (by simp[d,e])])
    refine⟨g,by rw[i];exact n,?_⟩;have c:((O (a++[k]):Nat):Int)=(O a:Int)+1:=by simp
    rw[c]at l;rw[i,<-l];generalize ib (Gr s) K ((O a:Int)+1) b=K1;unfold Gr;simp only;rw[(IW o).1,vf,gJ f,gJ (AN (by simp;omega) tz),cY];rfl
theorem W1(h:H4 l m)(K:H Yg->B Yh)(b:H Yg)(c:∀f∈b,tZ f.regs l):zE (Rp m) K 0 (O b) b=K (b.map (Pf l)):=
 QQ (P:=λf=>tZ f.regs l) (λi x a e d J=>by
  unfold Rp;rw[kF,d,vf,turn_eq h a.regs J,vf];simp[Pf]) b c
theorem cells_sweep(h:H4 l m)(K:H (H td)->B Yh)(cs:H (H td))(b:∀c∈cs,tZ c l):zE (TM m) K 0 (O cs) cs=K (cs.map (λc=>c.map (ren l))):=
 QQ (P:=λc=>tZ c l) (λi x a e d J=>by
  unfold TM;rw[kF,d,vf,turn_eq h a J,vf];simp) cs b
variable{K:H td->B Yh}
theorem Sn:∀(b:H Yg) (a:H td),O a+O (roots b)<=1000->vh KQ K b a=K (a++roots b)
 |[],a,_=>by simp[lM,roots]
 |f::b,a,h=>by
  have e:roots (f::b)=f.regs++roots b:=rfl;rw[e,bn]at h;rw[gq];have c:=Sn b (a++f.regs) (by simp;omega);generalize vh KQ K b=K1 at c⊢;unfold KQ;rw[gJ (AN V tz),c,e,cy]
theorem EV{a:H Yg}(h:tZ (roots a) l):∀f∈a,tZ f.regs l:=λf b v d c=>h v (pj.2 ⟨f,b,d⟩) c
variable{N:Nat}
theorem I6(hN:100<=N)(h:SwOk s):Md N s=U (kv s):=by
 have d:=h.reach;unfold Md;rw[Sn s.i [] (by have:=h.rlen;simp;omega),ck];unfold ZO;rw[reach_eq hN h.j h.roots h.rlen,vf,dF C3,Z1,HM h.small,vf];have e:Pe s.j (roots s.i)=mW s:=rfl;simp only[e];obtain⟨j,b,i⟩:=Iz h.j (K:=KP s) (mW s) [] [] (by simpa using d.1) (λk=>by simp[lk]);have a:ib (Gr s) (KP s) 0 (mW s) ([],([]:H Int),([]:H (Int×Int)))=_:=i;rw[a];simp only[ck]at b⊢;unfold KP;simp only[ba];rw[W1 b _ _ (EV d.2.1)];unfold ZN;rw[ba,cells_sweep b _ _ (λc g=>by
  obtain⟨k,f,rfl⟩:=fW.1 g;exact d.2.2 k f)]
 unfold ZM kv;rw[pk];rfl
theorem ren_ref{v:td}(h:v.h=2->v.n∈l):yS v l=U (ren l v):=by
  unfold yS vo ren;by_cases a:v.h=2
  · rw[dT a,ZW,G2 (h a),vf,Z2 a]
  · rw[dF a,Z1,Z3 a]
theorem regs_ref(K:H td->B Yh)(vs:H td)(c:tZ vs l):zE (BN l) K 0 (O vs) vs=K (vs.map (ren l)):=
 QQ (P:=λv=>v.h=2->v.n∈l) (λi x a e d J=>by
  unfold BN;rw[kF,d,vf,ren_ref J,vf];simp) vs (λv b=>c v b)
theorem frames_ref(K:H Yg->B Yh)(b:H Yg)(c:∀f∈b,tZ f.regs l):zE (A7 l) K 0 (O b) b=K (b.map (Pf l)):=
 QQ (P:=λf=>tZ f.regs l) (λi x a e d J=>by
  unfold A7;rw[kF,d,vf,ba,regs_ref _ _ J];unfold H8;simp[Pf]) b c
theorem cell_ref(K:H td->B Yh):∀(vs a:H td),tZ vs l->O a+O vs<=1000->vh (rV l) K vs a=K (a++vs.map (ren l))
  |[],a,_,_=>by simp[lM]
  |v::vs,a,hr,hl=>by
    simp only[bw]at hl;rw[gq];have c:=cell_ref K vs (a++[ren l v]) (λw d=>hr w (bo _ d)) (by simp;omega);generalize vh (rV l) K vs=K1 at c⊢;have e:rV l v a K1=K1 (a++[ren l v]):=by
      unfold rV wz ren;by_cases b:v.h=2
      · rw[dT b,ZW,G2 (hr v C3 b),vf,Z2 b,gJ (AN (by simp;omega) tz)]
      · rw[dF b,Z1,Z3 b,gJ (AN (by simp;omega) tz)]
    rw[e,c];simp
theorem S7(c:wK s.j)(hl:Aw (O s.j) l)(e:∀x∈l,tZ (AS s.j x) l)(K:H (H td)->B Yh):
  ∀(m i:Nat) (a:H (H td)),i+m=O l->O a=i->zE (rW l s) K (i:Int) m a=K (a++(l.drop i).map (λk=>(AS s.j k).map (ren l)))
 |0,i,a,h,_=>by rw[show l.drop i=[]from cq V];simp[zE]
 |m+1,i,a,h,ha=>by
  rw[QN];have hi:i<O l:=by omega
  have d:=hl.2 _<|cv hi;have b:=S7 c hl e K m (i+1) (a++[(AS s.j l[i]).map (ren l)]) V (by simp;omega);rw[show(((i+1:Nat)):Int)=(i:Int)+1 by omega]at b;generalize zE (rW l s) K ((i:Int)+1) m=K1 at b⊢;unfold rW;have j:=(c.at d).1.2;have f:=hl.len;have g:=c.1;rw[rE hi,vf,(IW d).1,vf,cell_ref _ _ _ (e _ (cv hi)) (by simp;omega)];unfold GA;rw[ck,gJ (AN (by simp;omega) tz),b,cp hi,cF];simp only[cy,gf,ck]
theorem root_ref:∀(b:H Yg) (a:H td),O a+O (roots b)<=1000->vh wB K b a=K (a++roots b)
 |[],a,_=>by simp[lM,roots]
 |f::b,a,h=>by
  have e:roots (f::b)=f.regs++roots b:=rfl;rw[e,bn]at h;rw[gq];have c:=root_ref b (a++f.regs) (by simp;omega);generalize vh wB K b=K1 at c⊢;unfold wB;rw[gJ (AN V tz),c,e,cy]
theorem IF(hN:100<=N)(h:SwOk s):rX N s=U (kv s):=by
 have a:=h.reach;unfold rX;rw[root_ref s.i [] (by have:=h.rlen;simp;omega),ck];unfold GG;rw[met_eq hN h.j h.roots h.rlen,vf,own_eq h.small,vf];have e:Pe s.j (roots s.i)=mW s:=rfl;rw[e,ba,frames_ref _ _ (EV a.2.1)];unfold GD;rw[ba];have:=S7 h.j a.1 a.2.2 (AZ (s.i.map<|Pf<|mW s) s) (O (mW s)) 0 [] V Z;have b:zE (rW (mW s) s) (AZ (s.i.map<|Pf<|mW s) s) 0 (O (mW s)) []=_:=this;rw[b];rfl
end
open Go Go.Proofs Go.LX
def pY(r:H td)(i:Int):td:=(vj r i).getD ⟨0,0⟩
def opP(k:Int)(b c:td):B td:=
 if k=5 then U ⟨1,if b=c then 1 else 0⟩else if b.h≠1\/c.h≠1 then bh else if k=4 then U ⟨1,if b.n<c.n then 1 else 0⟩else
 let n:=if k=1 then b.n+c.n else if k=2 then b.n-c.n else b.n*c.n
 if-1000000000<=n/\n<=1000000000 then U ⟨1,n⟩else bh
def Tc(f:Yg)(x:bN):Yg:={f with at_:=min (f.at_+1) ((O x.C:Int)-1)}
def N0(s:Yh)(c:zv):B Yh:=
 if O s.j=24 then bh else U ⟨s.i.dropLast++(s.i.getLast?.map λh=>{h with regs:=h.regs.set c.a.toNat ⟨2,O s.j⟩}).toList,s.j++[bt c.b.toNat ⟨0,0⟩],s.o,s.bC⟩
def mX(a:H bN)(pre:H Yg)(f:Yg)(cells:H (H td))(st wh:Int)(x:bN)(c:zv):B (Yh×B Int×Yi):=
  let g:=Tc f x;let r:=pY f.regs;let put:=fun(v:td)=>(⟨pre++[{g with regs:=f.regs.set c.a.toNat v}],cells,st,wh⟩:Yh);let d:=(⟨pre++[g],cells,st,wh⟩:Yh);let jump:=(⟨pre++[{g with at_:=c.b}],cells,st,wh⟩:Yh);let bad:=fun(v:td)=>v.h≠2\/(O (AS cells v.n):Int)<=c.c
  if c.op=1 then U (put ⟨1,c.b⟩,bh,aw)else
  if c.op=2 then U (put (r c.b),bh,aw)else
  if c.op=3 then(opP (c.args.headD 0) (r c.b) (r c.c)).map λv=>(put v,bh,aw)else
  if c.op=4 then(if bad (r c.b)then bh else U (put (pY (AS cells (r c.b).n) c.c),bh,aw))else
  if c.op=6 then(if bad (r c.a)then bh else U (⟨pre++[g],cells.set (r c.a).n.toNat ((AS cells (r c.a).n).set c.c.toNat (r c.b)),st,wh⟩,bh,aw))else
  if c.op=5 then(N0 (if O cells=24 then kv d else d) c).map λt=>(t,bh,aw)else
  if c.op=7 then(if O pre+1=10 then bh else U (⟨pre++[g]++[⟨c.b,0,c.args.map r++bt (((vj a c.b).map (·.regs)).getD 0-O c.args).toNat ⟨0,0⟩,c.a⟩],cells,st,wh⟩,bh,aw))else
  if c.op=8 then U (match pre.getLast? with
    |none=>⟨[],cells,1,wh⟩
    |some h=>⟨pre.dropLast++[{h with regs:=h.regs.set f.y.toNat (r c.a)}],cells,st,wh⟩,bh,aw)else
  if c.op=9 then(if(r c.a).h=1 then U (d,U (r c.a).n,aw)else bh)else
  if c.op=11 then(if(r c.a).h=1 then U (⟨pre++[g],cells,3,(r c.a).n⟩,bh,bd)else bh)else
  if c.op=12 then U (jump,bh,aw)else
  if c.op=13 then U (if(r c.a).h≠2/\(r c.a).n=0 then jump else d,bh,aw)else
  U (d,bh,bd)
def R1(r:B (Xa×Yi×Yh))(q:B (Yh×B Int×Yi)):Prop:=∃o ok a,r=U (o,ok,a)/\match q with|none=>ok=aw|some (t,said,p)=>ok=bd/\a=t/\o=⟨said.isSome,said.getD 0,p⟩
def R2(r:B (H Int×Yi×Yi×Yh))(q:B (Yh×B Int×Yi)):Prop:=∃l p ok a,r=U (l,p,ok,a)/\match q with|none=>ok=aw|some (t,said,pz)=>ok=bd/\a=t/\l=said.toList/\p=pz
theorem Nz{R:Int}{r:H td}(b:(O r:Int)=R){i:Int}(h:Em R i):vj r i=U (pY r i)/\pY r i∈r:=by
 obtain⟨a,c⟩:=h;obtain⟨n,rfl⟩:=cl a;unfold pY;rw[rE V];exact⟨Z,cv _⟩
theorem uq(pre:H Yg)(f:Yg):vj (pre++[f]) (O pre:Int)=U f:=by rw[kF];simp
theorem qx(pre:H Yg)(f g:Yg):(pre++[f]).set (O pre) g=pre++[g]:=by simp
theorem mQ(pre:H Yg)(f:Yg):((O (pre++[f]):Int)-1)=(O pre:Int):=by simp
theorem mul_bd{x y:Int}(c: -1000000000<=x/\x<=1000000000)(b: -1000000000<=y/\y<=1000000000): -1000000000000000000<=x*y/\x*y<=1000000000000000000:=by
 have a:(x*y).natAbs<=1000000000*1000000000:=by
  rw[Int.natAbs_mul];exact tA V V
 omega
theorem lS.int{n:Nat}{v:td}(h:lS n v)(a:v.h=1): -1000000000<=v.n/\v.n<=1000000000:=by unfold lS at h;omega
theorem op_eq{n:Nat}{k:Int}{b c:td}(o:1<=k/\k<=5)(i:lS n b)(g:lS n c):∃v,vm_op k b c=U (v,(opP k b c).isSome)/\∀w,opP k b c=U w->v=w:=by
  unfold vm_op opP PY;by_cases a:k=5
  · rw[dT a,ZW,Z2 a];by_cases e:b=c
    · subst e;simp
    · rw[Z3 e];have:(G (b.h=c.h)&&G (b.n=c.n))=false:=by
        obtain⟨k1,p⟩:=b;obtain⟨k2,m⟩:=c;rw[cg];simp at e⊢;by_cases h:k1=k2
        · right;exact e h
        · left;exact h
      rw[this];simp
  rw[dF a,Z1,Z3 a];by_cases hi:b.h=1/\c.h=1
  · rw[show(G ((b.h:Int)≠1)||G ((c.h:Int)≠1))=aw by simp[hi.1,hi.2],Z1,Z3 (by simp[hi.1,hi.2])];have f:=i.int hi.1;have c1:=g.int hi.2;have m1:=mul_bd f c1;have fin:∀z:Int,∃v,U ((⟨1,z⟩:td),G ((-1000000000:Int)<=z)&&G ((z:Int)<=1000000000))=U (v,(if-1000000000<=z/\z<=1000000000 then U (⟨1,z⟩:td)else bh).isSome)/\∀w,(if-1000000000<=z/\z<=1000000000 then U (⟨1,z⟩:td)else bh)=U w->v=w:=by
      intro z;by_cases h: -1000000000<=z/\z<=1000000000
      · rw[Z2 h,dT h.1,dT h.2];exact⟨_,Z,λw e=>by cases e;rfl⟩
      · rw[Z3 h];refine⟨⟨1,z⟩,?_,λw e=>by cases e⟩
        · congr 2;rw[jJ,cg];simp only[decide_eq_false_iff_not];omega
    by_cases d:k=4
    · subst d;rw[Z2 rfl];simp only[bq,decide_false,decide_true,Z1,ZW];by_cases e:b.n<c.n<;>simp[e]
    rw[Z3 d];by_cases j:k=1
    · subst j;simp only[bq,decide_true,ZW,if_true];rw[gI V V];exact fin _
    by_cases l:k=2
    · subst l;simp only[bq,decide_true,decide_false,ZW,Z1,if_true,if_false];rw[gI V V];exact fin _
    · obtain rfl:k=3:=by omega
      simp only[bq,decide_true,decide_false,ZW,Z1,if_true,if_false];rw[gI V V];exact fin _
  · rw[show(G ((b.h:Int)≠1)||G ((c.h:Int)≠1))=bd by simp;omega,ZW,Z2 V];exact⟨_,Z,λw e=>by cases e⟩
theorem reckon_eq{n:Nat}{k:Int}{b c:td}(o:1<=k/\k<=5)(i:lS n b)(g:lS n c):∃v,Be k b c=U (v,(opP k b c).isSome)/\∀w,opP k b c=U w->v=w:=by
  unfold Be opP;by_cases a:k=5
  · rw[dT a,ZW,Z2 a];by_cases e:b=c
    · subst e;simp
    · rw[Z3 e];have:(G (b.h=c.h)&&G (b.n=c.n))=false:=by
        obtain⟨k1,p⟩:=b;obtain⟨k2,m⟩:=c;rw[cg];simp at e⊢;by_cases h:k1=k2
        · right;exact e h
        · left;exact h
      rw[this];simp
  rw[dF a,Z1,Z3 a];by_cases hi:b.h=1/\c.h=1
  · rw[show(G ((b.h:Int)≠1)||G ((c.h:Int)≠1))=aw by simp[hi.1,hi.2],Z1,Z3 (by simp[hi.1,hi.2])];have f:=i.int hi.1;have c1:=g.int hi.2;have m1:=mul_bd f c1;have fin:∀z:Int,∃v,U ((⟨1,z⟩:td),jr z)=U (v,(if-1000000000<=z/\z<=1000000000 then U (⟨1,z⟩:td)else bh).isSome)/\∀w,(if-1000000000<=z/\z<=1000000000 then U (⟨1,z⟩:td)else bh)=U w->v=w:=by
      intro z;unfold jr aQ;by_cases h: -1000000000<=z/\z<=1000000000
      · rw[Z2 h,dT h.1,dT h.2];exact⟨_,Z,λw e=>by cases e;rfl⟩
      · rw[Z3 h];refine⟨⟨1,z⟩,?_,λw e=>by cases e⟩
        · congr 2;rw[jJ,cg];simp only[decide_eq_false_iff_not];omega
    by_cases d:k=4
    · subst d;rw[Z2 rfl];simp only[bq,decide_false,decide_true,Z1,ZW];by_cases e:b.n<c.n<;>simp[e]
    rw[Z3 d,dF d,Z1,gI V V,gI V V,gI V V];by_cases j:k=1
    · subst j;exact fin _
    by_cases l:k=2
    · subst l;exact fin _
    · obtain rfl:k=3:=by omega
      exact fin _
  · rw[show(G ((b.h:Int)≠1)||G ((c.h:Int)≠1))=bd by simp;omega,ZW,Z2 V];exact⟨_,Z,λw e=>by cases e⟩
section
variable{a:H bN}{f:Yg}
theorem wQ{n:Nat}:∀{l:H Yg} {t:Int},qN a n t (l++[f])↔qN a n t l/\(∃x,Pd a n f x)/\(0<=f.y/\f.y<(match l.getLast? with|none=>t|some g=>O g.regs))
 |[],t=>by simp[qN]
 |g::l,t=>by
  show((∃x,Pd a n g x)/\(0<=g.y/\g.y<t)/\qN a n (O g.regs) (l++[f]))↔_;rw[wQ (l:=l)];have e:(match (g::l).getLast? with|none=>t|some g=>(O g.regs:Int))=(match l.getLast? with|none=>((O g.regs:Int))|some g=>(O g.regs:Int)):=by
   rw[List.getLast?_cons];cases l.getLast?<;>rfl
  rw[e];simp only[qN,and_assoc]
structure uh(a:List bN)(pre:List Yg)(f:Yg)(cells:List (List td))(x:bN)(c:zv):Prop where
 fr:Pd a cells.length f x
 ins:vj x.C f.at_=U c
 good:Ta a x.regs x.C.length c
 chain:qN a cells.length 1 pre
 y:0<=f.y/\f.y<ahead pre
 many:pre.length+1<=10
 cok:wK cells
 F:(1<=x.regs/\x.regs<=40)/\wJ x
variable{pre:H Yg}{cells:H (H td)}{st wh:Int}
theorem top_ok(d:pg a)(h:AJ a ⟨pre++[f],cells,st,wh⟩):∃x c,uh a pre f cells x c:=by
 obtain⟨i,⟨x,g⟩,j⟩:=wQ.1 h.i;have e:=d.mem g.F;have D0:=g.at_;obtain⟨n,hn⟩:=cl D0.1;have b:n<O x.C:=by omega
 refine⟨x,x.C[n],g,by rw[hn,rE b],d.ins x e.1 _<|cv _,i,j,?_,h.j,⟨by omega,e.2.2.2⟩⟩;have:=h.many;simpa using this
variable{x:bN}{c:zv}
theorem uh.Tc(h:uh a pre f cells x c):Pd a (O cells) (Tc f x) x where
 F:=h.fr.F
 at_:=by
  have:=h.fr.at_;have:=h.F.2;unfold wJ at this;simp only[YteijalgmijkphaaGreatDoor.Tc];omega
 regs:=h.fr.regs
 vals:=h.fr.vals
theorem uh.reg(h:uh a pre f cells x c){i:Int}(hi:Em x.regs i):vj f.regs i=U (pY f.regs i)/\lS (O cells) (pY f.regs i):=by
 have:=Nz h.fr.regs hi;exact⟨this.1,h.fr.vals _ this.2⟩
theorem uh.sw(ha:pg a)(h:uh a pre f cells x c){g:Yg}(hg:Pd a (O cells) g x):SwOk ⟨pre++[g],cells,st,wh⟩ where
  small:=⟨by have:=h.many;simp;omega,λk hk=>by
    rcases fi.1 hk with hk|hk
    · obtain⟨y,hy⟩:=DX h.chain k hk;have:=hy.regs;have:=(ha.mem hy.F).2.2.1;omega
    · simp at hk;subst hk;have:=hg.regs;have:=h.F.1;omega,h.cok.1,λc hc=>(h.cok.2 c hc).1.2⟩
  j:=h.cok
  vals k hk:=by
    rcases fi.1 hk with hk|hk
    · obtain⟨y,hy⟩:=DX h.chain k hk;exact hy.vals
    · simp at hk;subst hk;exact hg.vals
end
section
variable{a:H bN}{pre:H Yg}{f:Yg}{cells:H (H td)}{st wh:Int}{x:bN}{c:zv}{N:Nat}
theorem He(h:uh a pre f cells x c):AV N ⟨pre++[f],cells,st,wh⟩ a=(bif G ((c.op:Int)=1)then Option.bind (vj f.regs c.a) λk=>vK aw (pre++[{Tc f x with regs:=(f.regs.set (c.a).toNat (⟨1,c.b⟩:td))}]) cells st wh else bif G ((c.op:Int)=2)then Option.bind (vj f.regs c.b) λl=>ao (vj f.regs c.a) λj=>vK aw (pre++[{Tc f x with regs:=(f.regs.set (c.a).toNat l)}]) cells st wh else bif G ((c.op:Int)=3)then Option.bind (vj c.args 0) λi=>ao (vj f.regs c.b) λe=>ao (vj f.regs c.c) λg=>ao (vm_op i e g) λd=>ao (vj f.regs c.a) λm=>Rz ⟨pre++[f],cells,st,wh⟩ d.2 (pre++[{Tc f x with regs:=(f.regs.set (c.a).toNat d.1)}])else bif G ((c.op:Int)=4)then qB N ⟨pre++[f],cells,st,wh⟩ f x c a (G ((c.op:Int)=4))else qB N ⟨pre++[f],cells,st,wh⟩ f x c a (G ((c.op:Int)=6))):=by
 have n:=h.many;have D0:=h.fr.at_;have hl:=h.F.2;unfold wJ at hl;unfold AV;simp only[mQ];rw[gI V V,uq,vf,h.fr.F,vf,h.ins,vf,gI V V,gI V V];simp only[ba,qx];rfl
theorem step1(h:uh a pre f cells x c)(b:c.op=1)(d:Em x.regs c.a):R1 (AV N ⟨pre++[f],cells,st,wh⟩ a) (mX a pre f cells st wh x c):=by
 rw[He h,b];simp only[bq,decide_true,decide_false,ZW,Z1];rw[(h.reg d).1,vf];unfold mX;simp only[b,if_true];exact⟨_,_,_,Z,Z,Z,Z⟩
theorem step2(h:uh a pre f cells x c)(d:c.op=2)(e:Em x.regs c.a)(g:Em x.regs c.b):R1 (AV N ⟨pre++[f],cells,st,wh⟩ a) (mX a pre f cells st wh x c):=by
 rw[He h,d];simp only[bq,decide_true,decide_false,ZW,Z1];rw[(h.reg g).1,vf,(h.reg e).1,vf];unfold mX;simp only[d,bq,if_true,if_false];exact⟨_,_,_,Z,Z,Z,Z⟩
theorem step3(h:uh a pre f cells x c)(d:c.op=3)(l:Em x.regs c.a)(j:Em x.regs c.b)(i:Em x.regs c.c){n:Int}(hn:c.args=[n])(g:1<=n/\n<=5):R1 (AV N ⟨pre++[f],cells,st,wh⟩ a) (mX a pre f cells st wh x c):=by
 rw[He h,d,hn];simp only[bq,decide_true,decide_false,ZW,Z1];obtain⟨v,k,m⟩:=op_eq g (h.reg j).2 (h.reg i).2;rw[QL,vf,(h.reg j).1,vf,(h.reg i).1,vf,k,vf,(h.reg l).1,vf];unfold mX Rz;simp only[d,hn,bq,if_true,if_false,tb];cases e:opP n (pY f.regs c.b) (pY f.regs c.c)with
 |none=>exact⟨_,_,_,rfl,rfl⟩
 |some w=>rw[m w e];exact⟨_,_,_,Z,Z,Z,Z⟩
theorem Fi{v:td}(c:wK cells)(h:lS (O cells) v)(b:v.h=2):vj cells v.n=U (AS cells v.n)/\(1<=O (AS cells v.n)/\O (AS cells v.n)<=4):=by
 have a:=h.ref b;exact⟨(IW a).1,(c.at a).1⟩
theorem HJ{v:td}{i:Int}(hi:0<=i)(h:i<(O (AS cells v.n):Int)):vj (AS cells v.n) i=U (pY (AS cells v.n) i):=(Nz Z ⟨hi,h⟩).1
theorem field_get(h:uh a pre f cells x c)(d:c.op=4)(l:Em x.regs c.a)(k:Em x.regs c.b)(j:0<=c.c/\c.c<4):R1 (AV N ⟨pre++[f],cells,st,wh⟩ a) (mX a pre f cells st wh x c):=by
  rw[He h,d];simp only[bq,decide_true,decide_false,ZW,Z1];unfold qB Z6 JA Jz;simp only[mQ,ba,qx,d,bq,decide_true,decide_false,ZW,Z1];have i:=h.reg k;rw[i.1];simp only[vf];unfold mX;simp only[d,bq,if_true,if_false];by_cases g:(pY f.regs c.b).h=2
  · have e:=Fi h.cok i.2 g;rw[dF V,Z1,e.1];simp only[vf];by_cases hl:(O (AS cells (pY f.regs c.b).n):Int)<=c.c
    · rw[dT hl,ZW,Z2 V];exact⟨_,_,_,Z,Z⟩
    · rw[dF hl,Z1,Z3 V,HJ j.1 V,vf,(h.reg l).1,vf];exact⟨_,_,_,Z,Z,Z,Z⟩
  · rw[dT g,ZW,Z2 (.inl g)];exact⟨_,_,_,Z,Z⟩
theorem field_put(h:uh a pre f cells x c)(d:c.op=6)(l:Em x.regs c.a)(k:Em x.regs c.b)(j:0<=c.c/\c.c<4):R1 (AV N ⟨pre++[f],cells,st,wh⟩ a) (mX a pre f cells st wh x c):=by
  rw[He h,d];simp only[bq,decide_true,decide_false,ZW,Z1];unfold qB Z6 JA Jz;simp only[mQ,ba,qx,d,bq,decide_true,decide_false,ZW,Z1];have i:=h.reg l;rw[i.1];simp only[vf];unfold mX;simp only[d,bq,if_true,if_false];by_cases g:(pY f.regs c.a).h=2
  · have e:=Fi h.cok i.2 g;rw[dF V,Z1,e.1];simp only[vf];by_cases hl:(O (AS cells (pY f.regs c.a).n):Int)<=c.c
    · rw[dT hl,ZW,Z2 V];exact⟨_,_,_,Z,Z⟩
    · rw[dF hl,Z1,Z3 V,(h.reg k).1,vf,HJ j.1 V,vf];exact⟨_,_,_,Z,Z,Z,Z⟩
  · rw[dT g,ZW,Z2 (.inl g)];exact⟨_,_,_,Z,Z⟩
theorem GJ(g:Yg):kv ⟨pre++[g],cells,st,wh⟩=⟨pre.map (Pf (mW ⟨pre++[g],cells,st,wh⟩))++[Pf (mW ⟨pre++[g],cells,st,wh⟩) g],(kv ⟨pre++[g],cells,st,wh⟩).j,st,wh⟩:=by
 unfold kv;simp
theorem OR{s:Yh}(h:SwOk s):O (kv s).j<=O s.j/\O (kv s).j<=24:=by
 have a:=h.reach.1.len;have:=h.j.1;unfold kv;simp;omega
theorem fresh_j1(d:H Yg)(g:Yg)(cs:H (H td))(hl:O d<=20)(e:O cs<=24)(f:Em (O g.regs) c.a)(i:1<=c.b/\c.b<=4):∃ok t,CS c (d++[g]) cs st wh=U (ok,t)/\match N0 ⟨d++[g],cs,st,wh⟩ c with|none=>ok=aw|some u=>ok=bd/\t=u:=by
  unfold CS N0;simp only[mQ];by_cases h:O cs=24
  · rw[dT V,ZW,Z2 h];exact⟨_,_,Z,Z⟩
  · rw[dF V,Z1,Z3 h,gI V V,uq,vf,(Nz rfl f).1,vf,gJ V,gJ (AN (by simp;omega) tz),ba,qx];refine⟨_,_,Z,Z,?_⟩;simp
theorem step5(o:pg a)(hN:100<=N)(h:uh a pre f cells x c)(g:c.op=5)(q:Em x.regs c.a)(m:1<=c.b/\c.b<=4):R1 (AV N ⟨pre++[f],cells,st,wh⟩ a) (mX a pre f cells st wh x c):=by
  rw[He h,g];simp only[bq,decide_true,decide_false,ZW,Z1];unfold qB MY;simp only[mQ,ba,qx,g,bq,decide_true,decide_false,ZW,Z1];unfold mX;simp only[g,bq,if_true,if_false];have r:=h.many;have i:=uh.sw o h (st:=st) (wh:=wh) h.Tc;have j:Em (O (Tc f x).regs) c.a:=by have:=h.Tc.regs;rw[this];exact q
  have fin:∀d:Yh,(∃ok t,CS c d.i d.j d.o d.bC=U (ok,t)/\match N0 d c with|none=>ok=aw|some u=>ok=bd/\t=u)->
      R1 (ao (CS c d.i d.j d.o d.bC) λy=>U ((⟨aw,0,aw⟩:Xa),y.1,y.2)) ((N0 d c).map λt=>(t,bh,aw)):=by
    rintro d⟨ok,t,p,l⟩;rw[p,vf];cases e:N0 d c with
    |none=>rw[e]at l;exact⟨_,_,_,Z,l⟩
    |some u=>rw[e]at l;exact⟨_,_,_,Z,l.1,l.2,Z⟩
  by_cases k:O cells=24
  · rw[dT V,ZW,Z2 k];have n:({f with at_:=min (f.at_+1) ((O x.C:Int)-1)}:Yg)=Tc f x:=rfl;rw[n,I6 hN i,vf];refine fin _ ?_;rw[GJ];exact fresh_j1 _ _ _ (by simp;omega) (OR i).2 (by simpa[Pf]using j) m
  · rw[dF V,Z1,Z3 k];exact fin ⟨pre++[Tc f x],cells,st,wh⟩<|fresh_j1 _ _ _ V h.cok.1 j m
theorem GF{ρ:Type}{body:Int->Int->H td->(H td->B ρ)->B ρ}{K:H td->B ρ}{r:Int->td}{P:Int->Prop}
  (b:∀(i:Nat) k y nx,i<O y->P k->body (i:Int) k y nx=nx (y.set i (r k))):∀(l:H Int) (a rest:H td),(∀k∈l,P k)->O l<=O rest->ib body K (O a:Int) l (a++rest)=K (a++l.map r++rest.drop (O l))
 |[],a,rest,_,_=>by simp[ib]
 |k::l,a,z::rest,h,hl=>by
  rw[AP,b (O a) k (a++z::rest) _ C3 (h k C3),show(a++z::rest).set (O a) (r k)=(a++[r k])++rest by simp,show((O a:Int)+1)=(O (a++[r k]):Nat) by simp,GF b l (a++[r k]) rest (λq c=>h q (bo _ c)) (by simpa using hl)];simp
 |k::l,a,[],h,hl=>by simp at hl
theorem step7(t:pg a)(h:uh a pre f cells x c)(e:c.op=7)(w:Em x.regs c.a){p:bN}(J:vj a c.b=U p)(hl:(O c.args:Int)=p.params)(j:∀k∈c.args,Em x.regs k):R1 (AV N ⟨pre++[f],cells,st,wh⟩ a) (mX a pre f cells st wh x c):=by
  rw[He h,e];simp only[bq,decide_true,decide_false,ZW,Z1];unfold qB X1;simp only[mQ,ba,qx,e,bq,decide_true,decide_false,ZW,Z1];unfold mX;simp only[e,bq,if_true,if_false];have v:=h.many;have u:=t.mem J;by_cases l:O pre+1=10
  · rw[dT (by simp;omega),ZW,Z2 l];exact⟨_,_,_,Z,Z⟩
  · rw[dF (by simp;omega),Z1,Z3 l,J,vf,gJ V];have g:=GF (K:=Ry ⟨pre++[Tc f x],cells,st,wh⟩ c a) (body:=Rx ⟨pre++[Tc f x],cells,st,wh⟩) (r:=pY f.regs) (P:=λk=>Em x.regs k) (λi k y o hi n=>by
      unfold Rx;simp only[mQ];rw[gI V V,uq,vf];show(ao (vj f.regs k) λm=>ao (vj y (i:Int)) λq=>o<|y.set ((i:Int)).toNat m)=_;rw[(h.reg n).1,vf,rE hi,vf,ba]) c.args [] (bt p.regs.toNat ⟨0,0⟩) j (by simp;omega)
    have d:ib (Rx ⟨pre++[Tc f x],cells,st,wh⟩) (Ry ⟨pre++[Tc f x],cells,st,wh⟩ c a) 0 c.args (bt p.regs.toNat ⟨0,0⟩)=_:=g;have s:({f with at_:=min (f.at_+1) ((O x.C:Int)-1)}:Yg)=Tc f x:=rfl;rw[s,d];unfold Ry;simp only;rw[gJ (AN (by simp;omega) tz),vf];refine⟨_,_,_,Z,Z,?_,Z⟩;simp only[ck,wc,J,dk,fj];rw[show p.regs.toNat-O c.args=(p.regs-(O c.args:Int)).toNat by omega]
theorem step8(j:pg a)(h:uh a pre f cells x c)(b:c.op=8)(i:Em x.regs c.a):R1 (AV N ⟨pre++[f],cells,st,wh⟩ a) (mX a pre f cells st wh x c):=by
  rw[He h,b];simp only[bq,decide_true,decide_false,ZW,Z1];unfold qB Uh;simp only[mQ,ba,qx,b,bq,decide_true,decide_false,ZW,Z1];unfold mX;simp only[b,bq,if_true,if_false];have e:=h.many;rw[(h.reg i).1,vf,gI V V];rw[show sub? (pre++[({f with at_:=min (f.at_+1) ((O x.C:Int)-1)}:Yg)]) 0 (O pre:Int)=U pre by unfold sub?;rw[Z2 (by simp;omega)];simp[cut],vf];rw[show(pre++[({f with at_:=min (f.at_+1) ((O x.C:Int)-1)}:Yg)]).take (O pre)=pre by simp];rcases ir pre with J|⟨q,g,J⟩
  · subst J;exact⟨_,_,_,Z,Z,Z,Z⟩
  · rw[iu]at J;subst J;have d:=h.y;rw[R4]at d;simp only[bn,bw,iv]at e;rw[dF (by simp;omega),Z1,mQ,gI V V,uq,vf,(Nz Z d).1,vf,ba,qx,vf];simp only[fp,eM,iH,iV];exact⟨_,_,_,Z,Z,Z,Z⟩
theorem QR(h:uh a pre f cells x c)(b:(c.op=9\/c.op=11\/c.op=13)/\Em x.regs c.a\/c.op=10\/c.op=12):R1 (AV N ⟨pre++[f],cells,st,wh⟩ a) (mX a pre f cells st wh x c):=by
  rw[He h];rcases b with⟨b|b|b,hr⟩|b|b
  · rw[b];simp only[bq,decide_true,decide_false,ZW,Z1];unfold qB;simp only[mQ,ba,qx,b,bq,decide_true,decide_false,ZW,Z1];unfold mX;simp only[b,bq,if_true,if_false];rw[(h.reg hr).1,vf];by_cases d:(pY f.regs c.a).h=1
    · rw[dT d,Z2 d];exact⟨_,_,_,Z,Z,Z,Z⟩
    · rw[dF d,Z3 d];exact⟨_,_,_,Z,Z⟩
  · rw[b];simp only[bq,decide_true,decide_false,ZW,Z1];unfold qB;simp only[mQ,ba,qx,b,bq,decide_true,decide_false,ZW,Z1];unfold mX;simp only[b,bq,if_true,if_false];rw[(h.reg hr).1,vf];by_cases d:(pY f.regs c.a).h=1
    · rw[dF V,Z1,Z2 d];exact⟨_,_,_,Z,Z,Z,Z⟩
    · rw[dT d,ZW,Z3 d];exact⟨_,_,_,Z,Z⟩
  · rw[b];simp only[bq,decide_true,decide_false,ZW,Z1];unfold qB;simp only[mQ,ba,qx,b,bq,decide_true,decide_false,ZW,Z1];unfold mX;simp only[b,bq,if_true,if_false];have g:=h.reg hr;rw[g.1,vf];have e:=g.2;unfold lS at e;by_cases d:(pY f.regs c.a).h≠2/\(pY f.regs c.a).n=0
    · rw[Z2 d,show(G ((pY f.regs c.a).h=0)||(G ((pY f.regs c.a).h=1)&&G ((pY f.regs c.a).n=0)))=bd by simp;omega,ZW];exact⟨_,_,_,Z,Z,Z,Z⟩
    · rw[Z3 d,show(G ((pY f.regs c.a).h=0)||(G ((pY f.regs c.a).h=1)&&G ((pY f.regs c.a).n=0)))=aw by rw[cV,cg];simp only[decide_eq_false_iff_not];omega,Z1];exact⟨_,_,_,Z,Z,Z,Z⟩
  · rw[b];simp only[bq,decide_true,decide_false,ZW,Z1];unfold qB;simp only[mQ,ba,qx,b,bq,decide_true,decide_false,ZW,Z1];unfold mX;simp only[b,bq,if_true,if_false];exact⟨_,_,_,Z,Z,Z,Z⟩
  · rw[b];simp only[bq,decide_true,decide_false,ZW,Z1];unfold qB;simp only[mQ,ba,qx,b,bq,decide_true,decide_false,ZW,Z1];unfold mX;simp only[b,bq,if_true,if_false];exact⟨_,_,_,Z,Z,Z,Z⟩
theorem vm_step_ok(e:pg a)(hN:100<=N)(h:uh a pre f cells x c):R1 (AV N ⟨pre++[f],cells,st,wh⟩ a) (mX a pre f cells st wh x c):=by
  rcases h.good with g|g|g|g|g|g|g|g|g|g
  · exact step1 h g.1 g.2.1
  · exact step2 h g.1 g.2.1 g.2.2
  · obtain⟨g1,g2,b,d,n,i,k,j⟩:=g;exact step3 h g1 g2 b d i ⟨k,j⟩
  · obtain⟨g1|g1,g2,b,d⟩:=g
    · exact field_get h g1 g2 b d
    · exact field_put h g1 g2 b d
  · exact step5 e hN h g.1 g.2.1 g.2.2
  · obtain⟨g1,g2,⟨p,b,d⟩,i⟩:=g;exact step7 e h g1 g2 b d i
  · obtain⟨g1|g1|g1,g2⟩:=g
    · exact step8 e h g1 g2
    · exact QR h<|.inl ⟨.inl g1,g2⟩
    · exact QR h<|.inl ⟨.inr<|.inl g1,g2⟩
  · exact QR h<|.inr<|.inl g
  · exact QR h<|.inr<|.inr g.1
  · exact QR h<|.inl ⟨.inr<|.inr g.1,g.2.1⟩
end
open Go Go.Proofs Go.LX
section
variable{a:H bN}{pre:H Yg}{f:Yg}{cells:H (H td)}{st wh:Int}{x:bN}{c:zv}{N:Nat}
theorem yY(h:uh a pre f cells x c):iG N ⟨pre++[f],cells,st,wh⟩ a=fu N ⟨pre++[f],cells,st,wh⟩ c a (pre++[Tc f x]):=by
  have d:=h.many;have D0:=h.fr.at_;have hl:=h.F.2;unfold wJ at hl;unfold iG;simp only[mQ];rw[gI V V,uq,vf,h.fr.F,vf,h.ins,vf,gI V V];by_cases b:f.at_<(O x.C:Int)-1
  · rw[dT b,ZW,gI V V,ba,qx];have e:Tc f x={f with at_:=f.at_+1}:=by unfold Tc;rw[show min (f.at_+1) ((O x.C:Int)-1)=f.at_+1 by omega]
    rw[e]
  · rw[dF b,Z1];have e:Tc f x=f:=by unfold Tc;rw[show min (f.at_+1) ((O x.C:Int)-1)=f.at_ by omega]
    rw[e]
theorem U6(h:uh a pre f cells x c){i:Int}(hi:Em x.regs i):vj (Tc f x).regs i=U (pY f.regs i):=(h.reg hi).1
theorem ref1(h:uh a pre f cells x c)(b:c.op=1)(d:Em x.regs c.a):R2 (iG N ⟨pre++[f],cells,st,wh⟩ a) (mX a pre f cells st wh x c):=by
 rw[yY h];unfold fu mX;simp only[b,bq,decide_true,decide_false,ZW,Z1,if_true,if_false,mQ,uq,vf,U6 h d,ba,qx];exact⟨_,_,_,_,Z,Z,Z,Z,Z⟩
theorem ref2(h:uh a pre f cells x c)(d:c.op=2)(e:Em x.regs c.a)(g:Em x.regs c.b):R2 (iG N ⟨pre++[f],cells,st,wh⟩ a) (mX a pre f cells st wh x c):=by
 rw[yY h];unfold fu mX;simp only[d,bq,decide_true,decide_false,ZW,Z1,if_true,if_false,mQ,uq,vf,U6 h e,U6 h g,ba,qx];exact⟨_,_,_,_,Z,Z,Z,Z,Z⟩
theorem ref3(h:uh a pre f cells x c)(d:c.op=3)(l:Em x.regs c.a)(j:Em x.regs c.b)(i:Em x.regs c.c){n:Int}(hn:c.args=[n])(g:1<=n/\n<=5):R2 (iG N ⟨pre++[f],cells,st,wh⟩ a) (mX a pre f cells st wh x c):=by
 rw[yY h];obtain⟨v,k,m⟩:=reckon_eq g (h.reg j).2 (h.reg i).2;unfold fu mX Ao;simp only[d,hn,bq,decide_true,decide_false,ZW,Z1,if_true,if_false,mQ,uq,vf,U6 h l,U6 h j,U6 h i,ba,qx,QL,k,tb];cases e:opP n (pY f.regs c.b) (pY f.regs c.c)with
 |none=>exact⟨_,_,_,_,rfl,rfl⟩
 |some w=>rw[m w e];exact⟨_,_,_,_,Z,Z,Z,Z,Z⟩
theorem OS{α:Type}{l:H α}(h:1<=O l):l≠[]:=λe=>by subst e;simp at h
theorem ref4(h:uh a pre f cells x c)(g:c.op=4)(l:Em x.regs c.a)(i:Em x.regs c.b)(j:0<=c.c/\c.c<4):R2 (iG N ⟨pre++[f],cells,st,wh⟩ a) (mX a pre f cells st wh x c):=by
  rw[yY h];have k:=h.reg i;unfold fu mX vw;simp only[g,bq,decide_true,decide_false,ZW,Z1,if_true,if_false,mQ,uq,vf,U6 h l,U6 h i,ba,qx];by_cases e:(pY f.regs c.b).h=2
  · have d:=Fi h.cok k.2 e;rw[dF V,Z1,d.1];simp only[vf];by_cases hl:(O (AS cells (pY f.regs c.b).n):Int)<=c.c
    · rw[dT hl,ZW,Z2 V];exact⟨_,_,_,_,Z,Z⟩
    · rw[dF hl,Z1,Z3 V,gJ (OS d.2.1),HJ j.1 V,vf];exact⟨_,_,_,_,Z,Z,Z,Z,Z⟩
  · rw[dT e,ZW,Z2 (.inl e)];exact⟨_,_,_,_,Z,Z⟩
theorem ref6(h:uh a pre f cells x c)(g:c.op=6)(i:Em x.regs c.a)(l:Em x.regs c.b)(j:0<=c.c/\c.c<4):R2 (iG N ⟨pre++[f],cells,st,wh⟩ a) (mX a pre f cells st wh x c):=by
  rw[yY h];have k:=h.reg i;unfold fu mX vz;simp only[g,bq,decide_true,decide_false,ZW,Z1,if_true,if_false,mQ,uq,vf,U6 h i,U6 h l,ba,qx];by_cases e:(pY f.regs c.a).h=2
  · have d:=Fi h.cok k.2 e;rw[dF V,Z1,d.1];simp only[vf];by_cases hl:(O (AS cells (pY f.regs c.a).n):Int)<=c.c
    · rw[dT hl,ZW,Z2 V];exact⟨_,_,_,_,Z,Z⟩
    · rw[dF hl,Z1,Z3 V,gJ (OS d.2.1),HJ j.1 V,vf];exact⟨_,_,_,_,Z,Z,Z,Z,Z⟩
  · rw[dT e,ZW,Z2 (.inl e)];exact⟨_,_,_,_,Z,Z⟩
theorem ref_j30(d:H Yg)(g:Yg)(cs:H (H td))(hl:O d<=20)(e:O cs<=24)(f:Em (O g.regs) c.a)(i:1<=c.b/\c.b<=4):R2 (qL c a (d++[g]) cs st wh) ((N0 ⟨d++[g],cs,st,wh⟩ c).map λt=>(t,bh,aw)):=by
  unfold qL N0;simp only[mQ];by_cases h:O cs=24
  · rw[dT V,ZW,Z2 h];exact⟨_,_,_,_,Z,Z⟩
  · rw[dF V,Z1,Z3 h,gI V V,uq,vf,(Nz rfl f).1,vf,gJ V,gJ (AN (by simp;omega) tz),ba,qx];refine⟨_,_,_,_,Z,Z,?_,Z,Z⟩;simp
theorem ref5(l:pg a)(hN:100<=N)(h:uh a pre f cells x c)(i:c.op=5)(k:Em x.regs c.a)(j:1<=c.b/\c.b<=4):R2 (iG N ⟨pre++[f],cells,st,wh⟩ a) (mX a pre f cells st wh x c):=by
  rw[yY h];unfold fu mX;simp only[i,bq,decide_true,decide_false,ZW,Z1,if_true,if_false,mQ,uq,vf,U6 h k];have m:=h.many;have d:=uh.sw l h (st:=st) (wh:=wh) h.Tc;have e:Em (O (Tc f x).regs) c.a:=by have:=h.Tc.regs;rw[this];exact k
  by_cases g:O cells=24
  · rw[dT V,ZW,Z2 g,IF hN d,vf,GJ];exact ref_j30 _ _ _ (by simp;omega) (OR d).2 (by simpa[Pf]using e) j
  · rw[dF V,Z1,Z3 g];exact ref_j30 _ _ _ V h.cok.1 e j
theorem ref7(n:pg a)(h:uh a pre f cells x c)(l:c.op=7)(q:Em x.regs c.a){p:bN}(J:vj a c.b=U p)(hl:(O c.args:Int)=p.params)(g:∀k∈c.args,Em x.regs k):R2 (iG N ⟨pre++[f],cells,st,wh⟩ a) (mX a pre f cells st wh x c):=by
  rw[yY h];unfold fu mX;simp only[l,bq,decide_true,decide_false,ZW,Z1,if_true,if_false,mQ,uq,vf,U6 h q];have s:=h.many;have o:=n.mem J;by_cases j:O pre+1=10
  · rw[dT (by simp;omega),ZW,Z2 j];exact⟨_,_,_,_,Z,Z⟩
  · rw[dF (by simp;omega),Z1,Z3 j,J,vf,gJ V];have e:=GF (K:=vC (pre++[Tc f x]) c a ⟨pre++[f],cells,st,wh⟩) (body:=vB (Tc f x)) (r:=pY f.regs) (P:=λk=>Em x.regs k) (λi k y t hi m=>by
      unfold vB;rw[U6 h m,vf,rE hi,vf,ba]) c.args [] (bt p.regs.toNat ⟨0,0⟩) g (by simp;omega)
    have d:ib (vB<|Tc f x) (vC (pre++[Tc f x]) c a ⟨pre++[f],cells,st,wh⟩) 0 c.args (bt p.regs.toNat ⟨0,0⟩)=_:=e;rw[d];unfold vC;rw[gJ (AN (by simp;omega) tz)];refine⟨_,_,_,_,Z,Z,?_,Z,Z⟩;simp only[ck,wc,J,dk,fj];rw[show p.regs.toNat-O c.args=(p.regs-(O c.args:Int)).toNat by omega]
theorem ref8(k:pg a)(h:uh a pre f cells x c)(d:c.op=8)(j:Em x.regs c.a):R2 (iG N ⟨pre++[f],cells,st,wh⟩ a) (mX a pre f cells st wh x c):=by
  rw[yY h];unfold fu mX;simp only[d,bq,decide_true,decide_false,ZW,Z1,if_true,if_false,mQ,uq,vf,U6 h j,ba];have e:=h.many;rw[gI V V];rw[show sub? (pre++[Tc f x]) 0 (O pre:Int)=U pre by unfold sub?;rw[Z2 (by simp;omega)];simp[cut],vf];rw[show(pre++[Tc f x]).take (O pre)=pre by simp];have i:(Tc f x).y=f.y:=rfl;rcases ir pre with J|⟨q,g,J⟩
  · subst J;exact⟨_,_,_,_,Z,Z,Z,Z,Z⟩
  · rw[iu]at J;subst J;have b:=h.y;rw[R4]at b;simp only[bn,bw,iv]at e;rw[dF (by simp;omega),Z1,mQ,gI V V,uq,vf,i,(Nz Z b).1,vf,ba,qx];simp only[fp,eM,iH,iV];exact⟨_,_,_,_,Z,Z,Z,Z,Z⟩
theorem U7(h:uh a pre f cells x c)(b:(c.op=9\/c.op=11\/c.op=13)/\Em x.regs c.a\/c.op=10\/c.op=12):R2 (iG N ⟨pre++[f],cells,st,wh⟩ a) (mX a pre f cells st wh x c):=by
  rw[yY h];rcases b with⟨b|b|b,hr⟩|b|b
  · unfold fu mX kH;simp only[b,bq,decide_true,decide_false,ZW,Z1,if_true,if_false,mQ,uq,vf,U6 h hr,ba,qx];by_cases d:(pY f.regs c.a).h=1
    · rw[dF V,Z1,Z2 d];exact⟨_,_,_,_,Z,Z,Z,Z,Z⟩
    · rw[dT d,ZW,Z3 d];exact⟨_,_,_,_,Z,Z⟩
  · unfold fu mX kH;simp only[b,bq,decide_true,decide_false,ZW,Z1,if_true,if_false,mQ,uq,vf,U6 h hr,ba,qx];by_cases d:(pY f.regs c.a).h=1
    · rw[dF V,Z1,Z2 d];exact⟨_,_,_,_,Z,Z,Z,Z,Z⟩
    · rw[dT d,ZW,Z3 d];exact⟨_,_,_,_,Z,Z⟩
  · unfold fu mX kH;simp only[b,bq,decide_true,decide_false,ZW,Z1,if_true,if_false,mQ,uq,vf,U6 h hr,ba,qx];by_cases d:(pY f.regs c.a).h≠2/\(pY f.regs c.a).n=0
    · rw[Z2 d,dT d.1,dT d.2,gk,ZW];exact⟨_,_,_,_,Z,Z,Z,Z,Z⟩
    · rw[Z3 d,show(G ((pY f.regs c.a).h≠2)&&G ((pY f.regs c.a).n=0))=aw by rw[cg];simp only[decide_eq_false_iff_not];omega,Z1];exact⟨_,_,_,_,Z,Z,Z,Z,Z⟩
  · unfold fu mX kH;simp only[b,bq,decide_true,decide_false,ZW,Z1,if_true,if_false,mQ,uq,vf];exact⟨_,_,_,_,Z,Z,Z,Z,Z⟩
  · unfold fu mX kH;simp only[b,bq,decide_true,decide_false,ZW,Z1,if_true,if_false,mQ,uq,vf,ba,qx];exact⟨_,_,_,_,Z,Z,Z,Z,Z⟩
theorem stepped_ok(e:pg a)(hN:100<=N)(h:uh a pre f cells x c):R2 (iG N ⟨pre++[f],cells,st,wh⟩ a) (mX a pre f cells st wh x c):=by
  rcases h.good with g|g|g|g|g|g|g|g|g|g
  · exact ref1 h g.1 g.2.1
  · exact ref2 h g.1 g.2.1 g.2.2
  · obtain⟨g1,g2,b,d,n,i,k,j⟩:=g;exact ref3 h g1 g2 b d i ⟨k,j⟩
  · obtain⟨g1|g1,g2,b,d⟩:=g
    · exact ref4 h g1 g2 b d
    · exact ref6 h g1 g2 b d
  · exact ref5 e hN h g.1 g.2.1 g.2.2
  · obtain⟨g1,g2,⟨p,b,d⟩,i⟩:=g;exact ref7 e h g1 g2 b d i
  · obtain⟨g1|g1|g1,g2⟩:=g
    · exact ref8 e h g1 g2
    · exact U7 h<|.inl ⟨.inl g1,g2⟩
    · exact U7 h<|.inl ⟨.inr<|.inl g1,g2⟩
  · exact U7 h<|.inr<|.inl g
  · exact U7 h<|.inr<|.inr g.1
  · exact U7 h<|.inl ⟨.inr<|.inr g.1,g.2.1⟩
end
open Go Go.Proofs Go.LX
section
variable{v:td}
theorem lS.up{n m:Nat}(h:lS n v)(a:n<=m):lS m v:=by unfold lS at*;omega
variable{a:H bN}{f:Yg}{x:bN}
theorem Pd.up{n m:Nat}(h:Pd a n f x)(b:n<=m):Pd a m f x:=⟨h.F,h.at_,h.regs,λv c=>(h.vals v c).up b⟩
theorem U8{n m:Nat}(b:n<=m):∀{l:H Yg} {t:Int},qN a n t l->qN a m t l
 |[],_,_=>trivial
 |f::l,t,h=>by obtain⟨⟨x,g⟩,c,d⟩:=h;exact⟨⟨x,g.up b⟩,c,U8 b d⟩
variable{n:Nat}{l:H Int}
theorem ren_ok(h:lS n v)(b:v.h=2->v.n∈l):lS (O l) (ren l v):=by
  unfold ren;by_cases a:v.h=2
  · rw[Z2 a];have:=eS<|b a;unfold lS;simp only;omega
  · rw[Z3 a];unfold lS at*;omega
theorem Pd.ren(h:Pd a n f x)(hr:tZ f.regs l):Pd a (O l) (Pf l f) x where
 F:=h.F
 at_:=h.at_
 regs:=by unfold Pf;simpa using h.regs
 vals v hv:=by
  unfold Pf at hv;simp only[fW]at hv;obtain⟨w,hw,rfl⟩:=hv;exact ren_ok (h.vals w hw)<|hr w hw
theorem Ek{r:H Int}:∀{l:H Yg} {t:Int},qN a n t l->(∀f∈l,tZ f.regs r)->qN a (O r) t (l.map (Pf r))
 |[],_,_,_=>trivial
 |f::l,t,h,hr=>by
  obtain⟨⟨x,g⟩,c,d⟩:=h;refine⟨⟨x,g.ren<|hr f C3⟩,c,?_⟩;have:=Ek d λk b=>hr k<|bo _ b;simpa[Pf]using this
variable{s:Yh}
theorem sweep_cells(h:SwOk s):wK (kv s).j:=by
 have d:=h.reach;have hl:=d.1.len;have hn:=h.j.1;refine⟨by simp[kv];omega,λc b=>?_⟩;unfold kv at b⊢;simp only[fW,dr]at b⊢;obtain⟨k,e,rfl⟩:=b;have a:=h.j.at<|d.1.2 k e;refine⟨by simpa using a.1,λv g=>?_⟩;obtain⟨w,f,rfl⟩:=fW.1 g;exact ren_ok (a.2 w f)<|d.2.2 k e w f
theorem Fc(ha:pg a)(h:AJ a s):AJ a (kv s) where
 o:=h.o
 bC:=h.bC
 stay:=h.stay
 ended:=by rw[show(kv s).o=s.o from rfl,h.ended];simp[kv]
 many:=by simpa[kv]using h.many
 j:=sweep_cells (h.sw ha)
 i:=by
  have hr:=(h.sw ha).reach;have:=Ek h.i<|EV hr.2.1;simpa[kv]using this
theorem set_vals{r:H td}{i:Nat}(h:∀w∈r,lS n w)(b:lS n v):∀w∈r.set i v,lS n w:=λw a=>by
  rcases tB a with a|rfl
  · exact h w a
  · exact b
end
section
variable{a:H bN}{pre:H Yg}{f:Yg}{cells:H (H td)}{wh:Int}{x:bN}{c:zv}{N:Nat}
theorem uh.st(h:uh a pre f cells x c){g:Yg}{y:bN}{cs:H (H td)}{s w:Int}(hg:Pd a (O cs) g y)(hto:g.y=f.y)(hc:wK cs)(hl:O cells<=O cs)(W:(s=0/\w=0)\/(s=3/\ -1000000000<=w/\w<=1000000000)):AJ a ⟨pre++[g],cs,s,w⟩ where
 o:=by simp only;omega
 bC:=by simp only;omega
 stay:=by simp only;omega
 ended:=by simp;omega
 many:=by have:=h.many;simp;omega
 j:=hc
 i:=wQ.2 ⟨U8 hl h.chain,⟨y,hg⟩,by rw[hto];exact h.y⟩
theorem opP_ok{n:Nat}{k:Int}{b c v:td}(d:1<=k/\k<=5)(h:opP k b c=U v):lS n v:=by
  unfold opP at h;split at h
  · cases h;split<;>(unfold lS;simp)
  split at h
  · cases h
  split at h
  · cases h;split<;>(unfold lS;simp)
  simp only at h;generalize (if k=1 then b.n+c.n else if k=2 then b.n-c.n else b.n*c.n)=z at h;split at h
  · rename_i a;cases h;exact .inr (.inl ⟨Z,a.1,a.2⟩)
  · cases h
theorem Pd.put{n:Nat}{f:Yg}{x:bN}(h:Pd a n f x){i:Nat}{v:td}(b:lS n v):Pd a n {f with regs:=f.regs.set i v} x:=⟨h.F,h.at_,by simpa using h.regs,set_vals h.vals b⟩
theorem Pd.jump{n:Nat}{f:Yg}{x:bN}(h:Pd a n f x){b:Int}(c:0<=b/\b<O x.C):Pd a n {f with at_:=b} x:=⟨h.F,c,h.regs,h.vals⟩
theorem newP_ok{s t:Yh}{g:Yg}(h:N0 ⟨pre++[g],cells,0,wh⟩ c=U t)(W:AJ a ⟨pre++[g],cells,0,wh⟩)(o:1<=c.b/\c.b<=4):AJ a t/\t.o=0:=by
  unfold N0 at h;split at h
  · cases h
  rename_i k;simp only[iV,fp,eM,iH,dk,Option.toList_some]at h k;cases h;obtain⟨l,⟨x,m⟩,n⟩:=wQ.1 W.i;have i:=W.j;simp only at l m n i;have e:O cells<=O (cells++[bt c.b.toNat (⟨0,0⟩:td)]):=by simp
  refine⟨⟨W.o,W.bC,W.stay,by simp,by simpa using W.many,⟨?_,?_⟩,wQ.2 ⟨U8 e l,⟨x,(m.up e).put ?_⟩,n⟩⟩,Z⟩
  · have:=i.1;simp;omega
  · intro d f;rcases fi.1 f with f|f
    · have:=i.2 d f;exact⟨this.1,λv j=>(this.2 v j).up e⟩
    · simp at f;subst f;refine⟨by simp;omega,λv j=>?_⟩;have:=oA j;subst this;unfold lS;simp
  · unfold lS;simp;try omega
theorem step_keeps(M:pg a)(h:uh a pre f cells x c)(P:wh=0){t:Yh}{A:B Int}{p:Yi}(W:mX a pre f cells 0 wh x c=U (t,A,p)):
    AJ a t/\(t.o=0\/t.o=1/\p=aw\/t.o=3/\p=bd)/\(A.isSome->t.o=0/\c.op=9):=by
  subst P;have j:=h.Tc;have o:∀{v:td},lS (O cells) v->AJ a ⟨pre++[{Tc f x with regs:=f.regs.set c.a.toNat v}],cells,0,0⟩:=λr=>h.st (j.put r) Z h.cok (cj _)<|.inl ⟨Z,Z⟩;have i:AJ a ⟨pre++[Tc f x],cells,0,0⟩:=h.st j Z h.cok (cj _)<|.inl ⟨Z,Z⟩;have z:(0<=c.b/\c.b<O x.C)->AJ a ⟨pre++[{Tc f x with at_:=c.b}],cells,0,0⟩:=λm=>h.st (j.jump m) Z h.cok (cj _)<|.inl ⟨Z,Z⟩;unfold mX at W;rcases h.good with g|g|g|g|g|g|g|g|g|g
  · obtain⟨e,w,m⟩:=g;simp only[e,bq,if_true,if_false]at W;cases W;exact⟨o<|.inr<|.inl ⟨Z,m.1,m.2⟩,.inl Z,by simp⟩
  · obtain⟨e,w,m⟩:=g;simp only[e,bq,if_true,if_false]at W;cases W;exact⟨o (h.reg m).2,.inl Z,by simp⟩
  · obtain⟨e,w,m,ab,n,hn,K⟩:=g;simp only[e,hn,bq,if_true,if_false,tb]at W;obtain⟨v,r,W⟩:=tW.1 W;cases W;exact⟨o<|opP_ok K r,.inl Z,by simp⟩
  · obtain⟨e,w,m,ab⟩:=g;rcases e with e|e
    · simp only[e,bq,if_true,if_false]at W;split at W
      · cases W
      · rename_i E;cases W;have Ys:(pY f.regs c.b).h=2:=by omega
        have r:=(h.reg m).2;have l:=h.cok.at<|r.ref Ys;exact⟨o<|l.2 _ (Nz Z ⟨ab.1,by omega⟩).2,.inl Z,by simp⟩
    · simp only[e,bq,if_true,if_false]at W;split at W
      · cases W
      · rename_i E;cases W;have Ys:(pY f.regs c.a).h=2:=by omega
        have r:=(h.reg w).2;have l:=h.cok.at<|r.ref Ys;refine⟨h.st (by simpa using j) Z ⟨by simpa using h.cok.1,λd ry=>?_⟩ C3<|.inl ⟨Z,Z⟩,.inl Z,by simp⟩;rw[List.length_set];rcases tB ry with ry|rfl
        · exact h.cok.2 d ry
        · exact⟨by simpa using l.1,set_vals l.2 (h.reg m).2⟩
  · obtain⟨e,w,m⟩:=g;simp only[e,bq,if_true,if_false]at W;obtain⟨u,al,W⟩:=tW.1 W;cases W;split at al
    · have F:=Fc M i;rw[GJ]at al F;have:=newP_ok (s:=t) al F m;exact⟨this.1,.inl this.2,by simp⟩
    · have:=newP_ok (s:=t) al i m;exact⟨this.1,.inl this.2,by simp⟩
  · obtain⟨e,w,⟨R,J,hl⟩,C⟩:=g;simp only[e,bq,if_true,if_false]at W;split at W
    · cases W
    · rename_i aq;cases W;have w0:=M.mem J;have N:=h.many;refine⟨⟨by simp,by simp,by simp,by simp,by simp;omega,h.cok,wQ.2 ⟨i.i,⟨R,⟨J,?_,?_,?_⟩⟩,?_⟩⟩,.inl Z,by simp⟩
      · have:=w0.2.2.2;unfold wJ at this;simp only;omega
      · simp only[J,dk,fj,bn,dr,mj];omega
      · intro v r;rcases fi.1 r with r|r
        · obtain⟨k,Ys,rfl⟩:=fW.1 r;exact(h.reg<|C k Ys).2
        · have:=oA r;subst this;unfold lS;simp
      · simp only[fp,eM,iH];have T:=j.regs;rw[T];exact w
  · obtain⟨e,w⟩:=g;rcases e with e|e|e
    · simp only[e,bq,if_true,if_false]at W;rcases ir pre with J|⟨q,g,J⟩
      · subst J;simp only[List.getLast?_nil]at W;cases W;exact⟨⟨by simp,by simp,by simp,by simp,by simp,h.cok,an⟩,.inr<|.inl ⟨Z,Z⟩,by simp⟩
      · rw[iu]at J;subst J;simp only[fp,eM,iH,iV]at W;cases W;obtain⟨c1,⟨y,c2⟩,S⟩:=wQ.1 h.chain;have N:=h.many;simp only[bn,bw,iv]at N;exact⟨⟨by simp,by simp,by simp,by simp,by simp;omega,h.cok,wQ.2 ⟨c1,⟨y,c2.put (h.reg w).2⟩,S⟩⟩,.inl Z,by simp⟩
    · simp only[e,bq,if_true,if_false]at W;split at W
      · cases W;exact⟨i,.inl Z,λ_=>⟨Z,e⟩⟩
      · cases W
    · simp only[e,bq,if_true,if_false]at W;split at W
      · rename_i Ys;cases W;exact⟨h.st j Z h.cok (cj _)<|.inr ⟨Z,(h.reg w).2.int Ys⟩,.inr<|.inr ⟨Z,Z⟩,by simp⟩
      · cases W
  · simp only[g,bq,if_true,if_false]at W;cases W;exact⟨i,.inl Z,by simp⟩
  · obtain⟨e,m⟩:=g;simp only[e,bq,if_true,if_false]at W;cases W;exact⟨z m,.inl Z,by simp⟩
  · obtain⟨e,w,m⟩:=g;simp only[e,bq,if_true,if_false]at W;cases W;split
    · exact⟨z m,.inl Z,by simp⟩
    · exact⟨i,.inl Z,by simp⟩
end
open Go Go.Proofs Go.LX
def insOf(a:H bN)(f:Yg):B (bN×zv):=ao (vj a f.F) λx=>(vj x.C f.at_).map λc=>(x,c)
def J2(a:H bN)(s:Yh):B (Yh×B Int×Yi):=
 s.i.getLast?.bind λf=>ao (insOf a f) λq=>mX a s.i.dropLast f s.j s.o s.bC q.1 q.2
def QS(a:H bN)(s:Yh):Int:=((s.i.getLast?.bind λf=>insOf a f).map λq=>q.2.op).getD 0
def xP(a:H bN):Nat->H Int->Nat->Yh->Yh×H Int×Nat
 |0,said,n,s=>(s,said,n)
 |m+1,said,n,s=>
  if s.o≠0 then(s,said,n)else
  if O said=40/\QS a s=9 then(s,said,n)else
  match J2 a s with
  |none=>({s with o:=2},said,n+1)
  |some (t,o,p)=>if p then(t,said++o.toList,n+1)else xP a m (said++o.toList) (n+1) t
section
variable{a:H bN}{s:Yh}
theorem QT(b:pg a)(h:AJ a s)(W:s.o=0):∃pre f x c,s=⟨pre++[f],s.j,0,0⟩/\uh a pre f s.j x c/\J2 a s=mX a pre f s.j 0 0 x c/\QS a s=c.op:=by
  obtain⟨d,cells,st,wh⟩:=s;simp only at W;subst W;have e:wh=0:=h.stay C3;subst e;rcases ir d with J|⟨pre,f,J⟩
  · have:=h.ended.2 J;simp at this
  · rw[iu]at J;subst J;obtain⟨x,c,g⟩:=top_ok b h;refine⟨pre,f,x,c,Z,g,?_,?_⟩
    · unfold J2 insOf;simp only[fp,eM,iH,iV,vf,g.fr.F,g.ins,dk]
    · unfold QS insOf;simp only[fp,eM,iH,vf,g.fr.F,g.ins,dk,fj]
variable{N:Nat}
theorem vm_step_P(b:pg a)(h:AJ a s)(W:s.o=0)(hN:100<=N):R1 (AV N s a) (J2 a s):=by
 obtain⟨pre,f,x,c,d,e,g,-⟩:=QT b h W;rw[g];generalize s.j=cells at*;subst d;exact vm_step_ok b hN e
theorem stepped_P(b:pg a)(h:AJ a s)(W:s.o=0)(hN:100<=N):R2 (iG N s a) (J2 a s):=by
 obtain⟨pre,f,x,c,d,e,g,-⟩:=QT b h W;rw[g];generalize s.j=cells at*;subst d;exact stepped_ok b hN e
theorem J3(b:pg a)(h:AJ a s)(W:s.o=0){t:Yh}{o:B Int}{p:Yi}(d:J2 a s=U (t,o,p)):
  AJ a t/\(t.o=0\/t.o=1/\p=aw\/t.o=3/\p=bd)/\(o.isSome->t.o=0/\QS a s=9):=by
 obtain⟨pre,f,x,c,j,g,i,e⟩:=QT b h W;rw[i]at d;rw[e];exact step_keeps b g Z d
theorem SW(e:pg a)(h:AJ a s)(W:s.o=0):(O s.i<=10/\1<=O s.i)/\∃f x c,vj s.i ((O s.i:Int)-1)=U f/\vj a f.F=U x/\vj x.C f.at_=U c/\c.op=QS a s:=by
 obtain⟨pre,f,x,c,b,d,i,g⟩:=QT e h W;refine⟨⟨h.many,by rw[b];simp⟩,f,x,c,?_,d.fr.F,d.ins,g.symm⟩;have:s.i=pre++[f]:=by rw[b]
 rw[this,mQ,uq]
theorem fail_ok(h:AJ a s)(W:s.o=0):AJ a {s with o:=2}:=by
  have b:s.bC=0:=h.stay V;refine⟨by simp,h.bC,λ_=>b,?_,h.many,h.j,h.i⟩;constructor
  · intro e;simp at e
  · intro e;have:=h.ended.2 e;omega
theorem run_loop(r:pg a)(hN:100<=N)(c:Int):∀(m M:Nat) (b:H Int) (n:Nat) (s:Yh),AJ a s->O b<=40->c=(n:Int)+m->c<=2000->m<M->
    zy (ME N c a) M (b,(n:Int),s.i,s.j,s.o,s.bC)=U ((xP a m b n s).1,(xP a m b n s).2.1,((xP a m b n s).2.2:Int),0)
  |m,0,b,n,s,h,hl,hc,hb,hM=>by omega
  |0,M+1,b,n,s,h,hl,hc,hb,hM=>by
    rw[sU];unfold ME FB xP;simp only;rw[show(G ((n:Int)<c)&&G ((s.o:Int)=0))=aw by rw[dF V];rfl,Z1]
  |m+1,M+1,b,n,s,h,hl,hc,hb,hM=>by
    rw[sU];have A:=run_loop r hN c m M;generalize zy (ME N c a) M=K at A⊢;unfold ME xP;simp only;by_cases W:s.o=0
    · rw[dT V,dT W,gk,ZW,Z3 V];obtain⟨F,f,x,i,al,w0,Ys,E⟩:=SW r h W;rw[gI V V,al,vf];have go:MC N b n s.i s.j s.o s.bC a K aw=U (match J2 a s with
          |none=>({s with o:=2},b,((n+1:Nat):Int),0)
          |some (t,o,p)=>if p then(t,b++o.toList,((n+1:Nat):Int),0)else((xP a m (b++o.toList) (n+1) t).1,(xP a m (b++o.toList) (n+1) t).2.1,((xP a m (b++o.toList) (n+1) t).2.2:Int),0))\/(O b=40/\QS a s=9):=by
        by_cases g:O b=40/\QS a s=9
        · exact .inr g
        left;unfold MC;rw[Z1,show(⟨s.i,s.j,s.o,s.bC⟩:Yh)=s from rfl,HM (h.small r),vf];obtain⟨o,ok,k,C,u⟩:=vm_step_P r h W hN;rw[C,vf,gI V V];cases eq:J2 a s with
        |none=>
          rw[eq]at u;simp only at u;subst u;simp only[eb,ZW];unfold FB
          push_cast;rfl
        |some q=>
          obtain⟨t,o2,p⟩:=q;rw[eq]at u;obtain⟨rfl,rfl,rfl⟩:=u;have y:=J3 r h W eq;simp only[cA,Z1];have fin:∀l,l=b++o2.toList->O l<=40->MB (⟨o2.isSome,o2.getD 0,p⟩,bd,k) n K l=U (if p then(k,b++o2.toList,((n+1:Nat):Int),0)else((xP a m (b++o2.toList) (n+1) k).1,(xP a m (b++o2.toList) (n+1) k).2.1,((xP a m (b++o2.toList) (n+1) k).2.2:Int),0)):=by
            intro l w v;subst w;unfold MB FB;simp only;cases p with
            |true=>rw[ZW,Z2 Z];push_cast;rfl
            |false=>
              rw[Z1,Z3 C3];have:=A (b++o2.toList) (n+1) k y.1 v (by push_cast;omega) hb V;rw[<-this];push_cast;rfl
          cases o2 with
          |none=>
            simp only[jJ,Z1];exact fin b C3 hl
          |some z=>
            have j:=(y.2.2 Z).2;simp only[Option.isSome_some,ZW];rw[gJ (AN (by simp;omega) tz)];exact fin (b++[z]) C3 (by simp;omega)
      by_cases d:O b=40
      · rw[dT V,ZW,w0,vf,Ys,vf,E];by_cases j:QS a s=9
        · rw[Z2 ⟨d,j⟩,dT j];rfl
        · rw[Z3 (λe=>j e.2),dF j];rcases go with go|go
          · rw[go];cases J2 a s with
            |none=>rfl
            |some q=>obtain⟨t,o,p⟩:=q;cases p<;>rfl
          · exact ZD go.2 j
      · rw[dF V,Z1,Z3 (λe=>d e.1)];rcases go with go|go
        · rw[go];cases J2 a s with
          |none=>rfl
          |some q=>obtain⟨t,o,p⟩:=q;cases p<;>rfl
        · exact ZD go.1 d
    · rw[dF W,qk,Z1,Z2 W];rfl
theorem ran_loop(u:pg a)(hN:100<=N)(c:Int):∀(m M:Nat) (b:H Int) (n:Nat) (s:Yh),AJ a s->s.o=0->O b<=40->c=(n:Int)+m->c<=2000->m<M->
    zy (tK N c a) M (b,(n:Int),s.i,s.j,s.o,s.bC)=U ((xP a m b n s).1,(xP a m b n s).2.1,((xP a m b n s).2.2:Int))
  |m,0,b,n,s,h,W,hl,hc,hb,hM=>by omega
  |0,M+1,b,n,s,h,W,hl,hc,hb,hM=>by
    rw[sU];unfold tK xP;simp only;rw[dF V,Z1,show c=(n:Int) by omega]
  |m+1,M+1,b,n,s,h,W,hl,hc,hb,hM=>by
    rw[sU];have F:=ran_loop u hN c m M;generalize zy (tK N c a) M=K at F⊢;unfold tK xP;simp only;rw[dT V,ZW,Z3 V];obtain⟨P,f,x,i,aq,S,al,ry⟩:=SW u h W;rw[gI V V,aq,vf];have go:tJ N s.i s.j s.o s.bC b n a K aw=U (match J2 a s with
        |none=>({s with o:=2},b,((n+1:Nat):Int))
        |some (t,o,p)=>if p then(t,b++o.toList,((n+1:Nat):Int))else((xP a m (b++o.toList) (n+1) t).1,(xP a m (b++o.toList) (n+1) t).2.1,((xP a m (b++o.toList) (n+1) t).2.2:Int)))\/(O b=40/\QS a s=9):=by
      by_cases j:O b=40/\QS a s=9
      · exact .inr j
      left;unfold tJ;rw[Z1,show(⟨s.i,s.j,s.o,s.bC⟩:Yh)=s from rfl,own_eq (h.small u),vf];obtain⟨l,ab,ok,Ys,w0,v⟩:=stepped_P u h W hN;rw[w0,vf];cases eq:J2 a s with
      |none=>
        rw[eq]at v;simp only at v;subst v;simp only[eb,ZW];rw[gI V V]
        push_cast;rfl
      |some q=>
        obtain⟨t,o2,p⟩:=q;rw[eq]at v;obtain⟨rfl,rfl,rfl,rfl⟩:=v;have E:=J3 u h W eq;have d:O (b++o2.toList)<=40:=by
          cases o2 with
          |none=>simpa using hl
          |some z=>have r:=(E.2.2 Z).2;simp;omega
        simp only[cA,Z1];rw[gJ (AN (by simp at d;omega) tz)];have D:∀w:Yh,w.o≠0->∀k A y,xP a k A y w=(w,A,y):=by
          intro w R k A y;cases k with
          |zero=>rfl
          |succ k=>unfold xP;rw[Z2 R]
        cases ab with
        |true=>
          rw[Bool.true_or,ZW,gI V V,Z2 rfl];push_cast;rfl
        |false=>
          rw[ml,Z3 C3];by_cases C:Ys.o=0
          · rw[dF V,Z1,gI V V];have:=F (b++o2.toList) (n+1) Ys E.1 C d (by push_cast;omega) hb V;rw[<-this];push_cast;rfl
          · rw[dT C,ZW,gI V V,D Ys C];push_cast;rfl
    by_cases g:O b=40
    · rw[dT V,ZW,S,vf,al,vf,ry];by_cases r:QS a s=9
      · rw[Z2 ⟨g,r⟩,dT r];rfl
      · rw[Z3 (λe=>r e.2),dF r];rcases go with go|go
        · rw[go];cases J2 a s with
          |none=>rfl
          |some q=>obtain⟨t,o,p⟩:=q;cases p<;>rfl
        · exact ZD go.2 r
    · rw[dF V,Z1,Z3 (λe=>g e.1)];rcases go with go|go
      · rw[go];cases J2 a s with
        |none=>rfl
        |some q=>obtain⟨t,o,p⟩:=q;cases p<;>rfl
      · exact ZD go.1 g
theorem VU(g:pg a):∀(m:Nat) (b:H Int) (n:Nat) (s:Yh),AJ a s->O b<=40->
    AJ a (xP a m b n s).1/\O (xP a m b n s).2.1<=40/\n<=(xP a m b n s).2.2/\(xP a m b n s).2.2<=n+m/\b<+:(xP a m b n s).2.1/\O (xP a m b n s).2.1<=O b+((xP a m b n s).2.2-n)/\((xP a m b n s).2.2=n->(xP a m b n s).1=s)
  |0,b,n,s,h,hl=>⟨h,hl,cj _,cj _,fX _,by simp[xP],λ_=>rfl⟩
  |m+1,b,n,s,h,hl=>by
    unfold xP;by_cases W:s.o=0
    · rw[Z3 V];by_cases d:O b=40/\QS a s=9
      · rw[Z2 d];exact⟨h,hl,cj _,by simp,fX _,by simp,λ_=>rfl⟩
      · rw[Z3 d];cases eq:J2 a s with
        |none=>exact⟨fail_ok h W,hl,by simp,by simp,fX _,by simp,λe=>by simp at e⟩
        |some q=>
          obtain⟨t,o,p⟩:=q;have f:=J3 g h W eq;have c:O (b++o.toList)<=40:=by
            cases o with
            |none=>simpa using hl
            |some z=>have w:=(f.2.2 Z).2;simp;omega
          have ho:O o.toList<=1:=by cases o<;>simp
          simp only;split
          · exact⟨f.1,c,by simp,by simp,rS _ _,by show O (b++o.toList)<=O b+(n+1-n);rw[bn];omega,λe=>by simp at e⟩
          · obtain⟨i,k,r,v,l,j,u⟩:=VU g m (b++o.toList) (n+1) t f.1 c;refine⟨i,k,by omega,by omega,(rS _ _).trans l,?_,λe=>by omega⟩;rw[bn]at j;omega
    · rw[Z2 W];exact⟨h,hl,cj _,by simp,fX _,by simp,λ_=>rfl⟩
theorem RR(a:H bN)(s:Yh)(c:Int)(hN:3000<=N):G1 N a s c=U (if FY a≠0 then(⟨[],[],0,0⟩,[],0,FY a)else if S4 a s≠0 then(⟨[],[],0,0⟩,[],0,S4 a s)else if c<0\/2000<c then(⟨[],[],0,0⟩,[],0,3)else if s.o≠0 then(⟨[],[],0,0⟩,[],0,7)else((xP a c.toNat [] 0 s).1,(xP a c.toNat [] 0 s).2.1,((xP a c.toNat [] 0 s).2.2:Int),0)):=by
  unfold G1;rw[Oy,vf];by_cases b:FY a=0
  · rw[Z3 V,Z3 V];by_cases d:S4 a s=0
    · rw[dF V,Z1,Z3 V];by_cases e:c<0\/2000<c
      · rw[show(G ((c:Int)<0)||G ((2000:Int)<c))=bd by rw[dH];simp only[decide_eq_true_eq];exact e,ZW,Z2 e]
      · rw[show(G ((c:Int)<0)||G ((2000:Int)<c))=aw by rw[cV];simp only[decide_eq_false_iff_not];omega,Z1,Z3 e];by_cases g:s.o=0
        · rw[dF V,Z1,Z3 V];have f:=pQ b;have W:=Kr.1 d;rw[HM (W.small f),vf];have:=run_loop f (N:=N) V c c.toNat N [] 0 s W C3 V V V;exact this
        · rw[dT g,ZW,Z2 g]
    · rw[dT d,ZW,Z2 d]
  · rw[Z2 b,Z2 b,dT b,ZW]
theorem ranOn_eq(b:pg a)(W:AJ a s)(d:s.o=0){c:Int}(e:0<=c/\c<=2000)(hN:3000<=N):yX N a s c=U ((xP a c.toNat [] 0 s).1,(xP a c.toNat [] 0 s).2.1,((xP a c.toNat [] 0 s).2.2:Int)):=by
 unfold yX;rw[own_eq (W.small b),vf];exact ran_loop b (N:=N) V c c.toNat N [] 0 s W d C3 V V V
theorem vm_Wake_eq(a:H bN)(s:Yh):Z5 a s=U (if FY a≠0 then(⟨[],[],0,0⟩,FY a)else if S4 a s≠0 then(⟨[],[],0,0⟩,S4 a s)else if s.o≠3 then(⟨[],[],0,0⟩,7)else(⟨s.i,s.j,0,0⟩,0)):=by
  unfold Z5;rw[Oy,vf];by_cases b:FY a=0
  · rw[Z3 V,Z3 V];by_cases c:S4 a s=0
    · rw[dF V,Z1,Z3 V];by_cases d:s.o=3
      · rw[dF V,Z1,Z3 V,HM ((Kr.1 c).small (pQ b)),vf]
      · rw[dT d,ZW,Z2 d]
    · rw[dT c,ZW,Z2 c]
  · rw[Z2 b,Z2 b,dT b,ZW]
def BU(a:H bN):Yh:=⟨[⟨0,0,bt (((vj a 0).map (λx:bN=>x.regs)).getD 0).toNat ⟨0,0⟩,0⟩],[],0,0⟩
theorem YV(b:pg a):∃x,vj a 0=U x:=by
 have:=b.many;cases a with
 |nil=>simp at this
 |cons x l=>exact⟨x,QL x l⟩
theorem vm_New_eq(a:H bN):Ir a=U (if FY a≠0 then(⟨[],[],0,0⟩,FY a)else(BU a,0)):=by
  unfold Ir;rw[U3,vf];by_cases b:FY a=0
  · rw[dF V,Z1,Z3 V];obtain⟨x,c⟩:=YV<|pQ b;have:=((pQ b).mem c).2.2.1;rw[c,vf,gJ V];unfold BU;rw[c];rfl
  · rw[dT b,ZW,Z2 b]
theorem IH(d:pg a):AJ a (BU a):=by
  obtain⟨x,b⟩:=YV d;have e:=d.mem b;have hl:=e.2.2.2;unfold wJ at hl;refine⟨by simp[BU],by simp[BU],by simp[BU],by simp[BU],by simp[BU],⟨by simp[BU],λc f=>by simp[BU]at f⟩,⟨x,b,by simp only;omega,?_,λv g=>?_⟩,by simp,trivial⟩
  · simp only[b,dk,fj,mj];omega
  · have:=oA g;subst this;unfold lS;simp
end
open Go Go.Proofs Go.LX
def Kx(ρ:Int->Int)(v:td):td:=if v.h=2 then⟨v.h,ρ v.n⟩else v
def renFr(ρ:Int->Int)(f:Yg):Yg:={f with regs:=f.regs.map (Kx ρ)}
structure Iso(ρ:Int->Int)(R:List Int)(s t:Yh):Prop where
 i:t.i=s.i.map (renFr ρ)
 o:t.o=s.o
 bC:t.bC=s.bC
 roots:tZ (YteijalgmijkphaaGreatDoor.roots s.i) R
 range:∀x∈R,0<=x/\x<s.j.length
 range':∀x∈R,0<=ρ x/\ρ x<t.j.length
 inj:∀x∈R,∀y∈R,ρ x=ρ y->x=y
 j:∀x∈R,AS t.j (ρ x)=(AS s.j x).map (Kx ρ)/\tZ (AS s.j x) R
theorem renV_kind(ρ:Int->Int)(v:td):(Kx ρ v).h=v.h:=by unfold Kx;split<;>rfl
theorem renV_ref(ρ:Int->Int){v:td}(h:v.h=2):Kx ρ v=⟨v.h,ρ v.n⟩:=Z2 h
theorem renV_no(ρ:Int->Int){v:td}(h:v.h≠2):Kx ρ v=v:=Z3 h
section
variable{ρ:Int->Int}{R:H Int}{s t:Yh}
theorem mem_map_inj(hi:∀x∈R,∀y∈R,ρ x=ρ y->x=y){l:H Int}(hl:∀x∈l,x∈R){x:Int}(b:x∈R):ρ x∈l.map ρ↔x∈l:=by
  constructor
  · intro h;obtain⟨y,a,e⟩:=fW.1 h;rw[<-hi y (hl y a) x b e];exact a
  · exact λh=>List.mem_map_of_mem h
theorem WQ(hi:∀x∈R,∀y∈R,ρ x=ρ y->x=y):∀{l:H Int},(∀x∈l,x∈R)->∀{x:Int},x∈R->(l.map ρ).idxOf (ρ x)=l.idxOf x
  |[],_,x,_=>rfl
  |y::l,hl,x,hx=>by
    rw[cF,AI,AI,WQ hi (λz b=>hl z (bo _ b)) hx];by_cases e:y=x
    · subst e;simp
    · have a:ρ y≠ρ x:=λh=>e<|hi y (hl y C3) x hx h;rw[show(ρ y==ρ x)=aw by simpa using a,show(y==x)=aw by simpa using e]
theorem metV_map(hi:∀x∈R,∀y∈R,ρ x=ρ y->x=y){l:H Int}(hl:∀x∈l,x∈R){v:td}(e:v.h=2->v.n∈R):YS (l.map ρ) (Kx ρ v)=(YS l v).map ρ/\∀x∈YS l v,x∈R:=by
  unfold YS;by_cases a:v.h=2
  · rw[renV_ref ρ a];simp only[a,true_and];have c:=mem_map_inj hi hl<|e a;by_cases d:v.n∈l
    · rw[Z3 (λh=>h (c.2 d)),Z3 (λh=>h d)];exact⟨Z,hl⟩
    · rw[Z2 (λh=>d (c.1 h)),Z2 d];refine⟨by simp,λx b=>?_⟩;rcases fi.1 b with b|b
      · exact hl x b
      · simp at b;subst b;exact e a
  · rw[renV_no ρ a,Z3 (λh=>a h.1),Z3 (λh=>a h.1)];exact⟨Z,hl⟩
theorem LL(hi:∀x∈R,∀y∈R,ρ x=ρ y->x=y):∀{vs:H td} {l:H Int},(∀x∈l,x∈R)->tZ vs R->YT (l.map ρ) (vs.map (Kx ρ))=(YT l vs).map ρ/\∀x∈YT l vs,x∈R
 |[],l,hl,_=>⟨rfl,hl⟩
 |v::vs,l,hl,hv=>by
  obtain⟨b,c⟩:=metV_map hi hl<|hv v C3;rw[cF,QO,QO,b];exact LL hi c λw a=>hv w<|bo _ a
theorem Iso.bfs(h:Iso ρ R s t):∀(m k:Nat) (l:H Int),(∀x∈l,x∈R)->bfs t.j m k (l.map ρ)=(bfs s.j m k l).map ρ/\∀x∈bfs s.j m k l,x∈R
  |0,k,l,hl=>⟨rfl,hl⟩
  |m+1,k,l,hl=>by
    unfold YteijalgmijkphaaGreatDoor.bfs;by_cases a:k<O l
    · rw[dif_pos a,dif_pos (by simpa using a)];have d:=hl _<|cv a;have b:=h.j _ d;rw[zx,b.1];obtain⟨c,e⟩:=LL h.inj hl b.2;rw[c];exact Iso.bfs h m (k+1) _ e
    · rw[dif_neg a,dif_neg (by simpa using a)];exact⟨Z,hl⟩
theorem Rr(ρ:Int->Int):∀a:H Yg,YteijalgmijkphaaGreatDoor.roots (a.map (renFr ρ))=(YteijalgmijkphaaGreatDoor.roots a).map (Kx ρ)
 |[]=>rfl
 |f::a=>by
  have:=Rr ρ a;unfold YteijalgmijkphaaGreatDoor.roots at*;rw[cF,iz,iz,cY,this];rfl
theorem Iso.reach(h:Iso ρ R s t):mW t=(mW s).map ρ/\∀x∈mW s,x∈R:=by
 unfold mW Pe;rw[h.i,Rr];obtain⟨a,c⟩:=LL h.inj (l:=[]) (λx b=>by cases b) h.roots;rw[List.map_nil]at a;rw[a];exact h.bfs 25 0 _ c
theorem ren_map(h:Iso ρ R s t){v:td}(b:v.h=2->v.n∈R):ren (mW t) (Kx ρ v)=ren (mW s) v:=by
  unfold ren;rw[renV_kind];by_cases a:v.h=2
  · rw[Z2 a,Z2 a,renV_ref ρ a,h.reach.1,WQ h.inj h.reach.2 (b a)]
  · rw[Z3 a,Z3 a,renV_no ρ a]
theorem R5{α β:Type}{f g:α->β}:∀{l:H α},(∀x∈l,f x=g x)->l.map f=l.map g:=λh=>List.map_congr_left h
theorem Iso.sweep(h:Iso ρ R s t):kv t=kv s:=by
 have c:t.i.map (Pf<|mW t)=s.i.map (Pf<|mW s):=by
  rw[h.i,pk];refine R5 λf e=>?_;have:(f.regs.map<|Kx ρ).map (ren<|mW t)=f.regs.map (ren<|mW s):=by
   rw[pk];exact R5 λv b=>ren_map h<|EV h.roots f e v b
  show Pf (mW t) (renFr ρ f)=Pf (mW s) f;unfold Pf renFr;simp only[this]
 have a:(mW t).map (λk=>(AS t.j k).map<|ren<|mW t)=(mW s).map (λk=>(AS s.j k).map<|ren<|mW s):=by
  conv=>lhs;rw[h.reach.1]
  rw[pk];refine R5 λk g=>?_;have d:=h.j k<|h.reach.2 k g;show(AS t.j<|ρ k).map (ren _)=_;rw[d.1,pk,<-h.reach.1];exact R5 λv b=>ren_map h<|d.2 v b
 unfold kv;rw[c,a,h.o,h.bC]
end
theorem cellAt_nat{cells:H (H td)}{i:Nat}(h:i<O cells):AS cells (i:Int)=cells[i]:=by unfold AS;rw[rE h];rfl
theorem iso_sweep{s:Yh}(h:SwOk s):Iso (λx=>((mW s).idxOf x:Nat)) (mW s) s (kv s) where
 i:=rfl
 o:=rfl
 bC:=rfl
 roots:=h.reach.2.1
 range:=h.reach.1.2
 range' x hx:=by
  have:=eS hx;simp only[kv,dr];omega
 inj x hx y hy e:=by
  have e':(mW s).idxOf x=(mW s).idxOf y:=by omega
  have h1:=sc<|eS hx;have h2:=sc<|eS hy;rw[<-h1,<-h2];simp only[e']
 j x hx:=by
  have hlt:=eS hx;refine⟨?_,h.reach.2.2 x hx⟩;rw[cellAt_nat (by simpa[kv]using hlt)];simp only[kv,zx];rw[sc hlt];rfl
theorem IB{s:Yh}(h:SwOk s):kv (kv s)=kv s:=(iso_sweep h).sweep
open Go Go.Proofs Go.LX
def G4(l:H td):H Int:=l.flatMap λv=>[v.h,v.n]
def DE(l:H td):H Int:=(O l:Int)::G4 l
def frP(f:Yg):H Int:=f.F::f.at_::f.y::DE f.regs
def AO(s:Yh):H Int:=s.o::s.bC::(O s.i:Int)::(s.i.flatMap frP++(O s.j:Int)::s.j.flatMap DE)
def S1(α:Type):=H Int->B (α×H Int)
def yZ{α:Type}(x:α):S1 α:=λl=>U (x,l)
def jg{α β:Type}(R:S1 α)(f:α->S1 β):S1 β:=λl=>ao (R l) λq=>f q.1 q.2
def Jf:S1 Int:=λl=>match l with
 |[]=>bh
 |x::r=>U (x,r)
def qO(m:Int):S1 Nat:=λl=>match l with
 |[]=>bh
 |x::r=>if 0<=x/\x<=m then U (x.toNat,r)else bh
def jW{α:Type}(R:S1 α):Nat->S1 (H α)
 |0=>yZ []
 |n+1=>jg R λx=>jg (jW R n) λl=>yZ (x::l)
def Fl:S1 td:=jg Jf λk=>jg Jf λn=>yZ ⟨k,n⟩
def Bf(m:Int):S1 (H td):=jg (qO m) λn=>jW Fl n
def Pg:S1 Yg:=jg Jf λp=>jg Jf λa=>jg Jf λt=>jg (Bf 40) λr=>yZ ⟨p,a,r,t⟩
def YW:S1 Yh:=jg Jf λs=>jg Jf λw=>jg (qO 10) λn=>jg (jW Pg n) λf=>jg (qO 24) λk=>jg (jW (Bf 4) k) λc=>yZ ⟨f,c,s,w⟩
theorem R6{α:Type}{R:S1 α}{g:α->H Int}:∀(l:H α) (t:H Int),(∀x∈l,∀t,R (g x++t)=U (x,t))->jW R (O l) (l.flatMap g++t)=U (l,t)
 |[],t,_=>rfl
 |x::l,t,h=>by
  show(R<|g x++l.flatMap g++t).bind _=_;rw[cy,h x C3,cG];show(jW R (O l)<|l.flatMap g++t).bind _=_;rw[R6 l t (λy a=>h y (bo _ a)),cG];rfl
theorem rRow_row{m:Nat}(l:H td)(h:O l<=m)(t:H Int):Bf m (DE l++t)=U (l,t):=by
 unfold Bf jg DE qO;simp only[gf];rw[Z2 V,cG,ba];exact R6 l t λv _ t=>rfl
theorem rFr_fr(f:Yg)(h:O f.regs<=40)(t:H Int):Pg (frP f++t)=U (f,t):=by
 show(ao (Bf (40:Nat)<|DE f.regs++t) λq=>yZ (⟨f.F,f.at_,q.1,f.y⟩:Yg) q.2)=_;rw[rRow_row f.regs h];rfl
theorem rSt_pack{s:Yh}(h:DQ s)(t:H Int):YW (AO s++t)=U (s,t):=by
 have j:=h.i;have k:=h.j;show(ao (qO 10 ((O s.i:Int)::((s.i.flatMap frP++(O s.j:Int)::s.j.flatMap DE)++t))) λq=>ao (jW Pg q.1 q.2) λd=>ao (qO 24 d.2) λa=>ao (jW (Bf 4) a.1 a.2) λb=>yZ (⟨d.1,b.1,s.o,s.bC⟩:Yh) b.2)=_;rw[show qO 10 ((O s.i:Int)::((s.i.flatMap frP++(O s.j:Int)::s.j.flatMap DE)++t))=U (O s.i,(s.i.flatMap frP++(O s.j:Int)::s.j.flatMap DE)++t) by
  show(if _ then _ else _)=_;rw[Z2 V,ba],cG]
 simp only;rw[cy,R6 s.i _ (λf e t=>rFr_fr f (h.regs f e) t),cG];simp only[gf];rw[show qO 24 ((O s.j:Int)::(s.j.flatMap DE++t))=U (O s.j,s.j.flatMap DE++t) by
  show(if _ then _ else _)=_;rw[Z2 V,ba],cG]
 simp only;rw[R6 (R:=Bf 4) (g:=DE) s.j _ (λc i t=>rRow_row (m:=4) c (h.fields c i) t),cG];rfl
theorem FF(l:H td):O (G4 l)=2*O l:=by
 induction l with
 |nil=>rfl
 |cons v l ih=>show O ([v.h,v.n]++G4 l)=_;simp[ih];omega
theorem rows_len(m:Nat):∀l:H (H td),(∀c∈l,O c<=m)->O (l.flatMap DE)<=(2*m+1)*O l
 |[],_=>by simp
 |c::l,h=>by
  have e:=h c C3;have b:=rows_len m l λd a=>h d<|bo _ a;rw[iz,bn];unfold DE;rw[bw,FF,bw,Nat.mul_succ];unfold DE at b;omega
theorem HR:∀l:H Yg,(∀f∈l,O f.regs<=40)->O (l.flatMap frP)<=84*O l
 |[],_=>by simp
 |f::l,h=>by
  have c:=h f C3;have b:=HR l λd a=>h d<|bo _ a;rw[iz,bn];unfold frP DE;simp only[bw,FF];unfold frP DE at b;omega
theorem L3{s:Yh}(h:DQ s):O (AO s)<=1060:=by
 have a:=rows_len 4 s.j h.fields;have c:=HR s.i h.regs;have d:=h.i;have b:=h.j;unfold AO;simp only[bw,bn];omega
def DG(s:Yh):Yh:=if s.o=3 then⟨s.i,s.j,0,0⟩else s
section
variable{α ρ:Type}{body:Int->H Int->(H Int->B ρ)->B ρ}{K:H Int->B ρ}{g:α->H Int}{l:H α}
theorem app_loop{m Ys:Nat}(c:∀x∈l,O (g x)<=m)(b:∀(i:Nat) (h:i<O l) a nx,O a<=Ys+m*i->body (i:Int) a nx=nx (a++g l[i])):
  ∀(k i:Nat) (a:H Int),i+k=O l->O a<=Ys+m*i->zE body K (i:Int) k a=K (a++(l.drop i).flatMap g)
 |0,i,a,h,_=>by rw[cq V];simp[zE]
 |k+1,i,a,h,hl=>by
  have hi:i<O l:=by omega
  rw[QN,b i hi a _ hl,show((i:Int)+1)=((i+1:Nat):Int) by omega,app_loop c b k (i+1) _ V (by
   have:=c _<|cv hi;rw[bn,Nat.mul_add];omega),cp hi,iz,cy]
theorem QU(m Ys:Nat)(c:∀x∈l,O (g x)<=m)(b:∀(i:Nat) (h:i<O l) a nx,O a<=Ys+m*i->body (i:Int) a nx=nx (a++g l[i]))(a:H Int)(d:O a<=Ys):zE body K 0 (O l) a=K (a++l.flatMap g):=by
 have:=app_loop (K:=K) c b (O l) 0 a V V;rw[fg]at this;exact this
theorem FX:∀(l:H td) (a:H Int),O a+2*O l<=50000->Fv a l=U (a++G4 l)
 |[],a,_=>by simp[Fv,lM,Mt,G4]
 |v::l,a,h=>by
  simp only[bw]at h;have b:=FX l (a++[v.h,v.n]) (by simp[-cJ];omega);unfold Fv at b⊢;rw[gq];generalize vh Ms Mt l=K at b⊢;unfold Ms;rw[gJ (AN (by simp[-cJ];omega) tz),b];simp[G4]
theorem row_len{c:H td}{m:Nat}(h:O c<=m):O (DE c)<=2*m+1:=by
 unfold DE;rw[bw,FF];omega
theorem fr_len{f:Yg}(h:O f.regs<=40):O (frP f)<=84:=by
 unfold frP;have:=row_len h;simp only[bw];omega
variable{a:H bN}{s:Yh}
theorem U9(b:pg a)(h:AJ a s):DQ (kv s):=(Fc b h).small b
theorem pack_loop(h:DQ s):zE (Rv s) (Rw s) 0 ((O s.i:Int)).toNat [s.o,s.bC,(O s.i:Int)]=U (AO s,0):=by
 have o:=h.i;have n:=h.j;have hl:=HR s.i h.regs;rw[ba,QU (g:=frP) (l:=s.i) 84 3 (λf d=>fr_len (h.regs f d)) (λi hi b m a=>by
  have k:=h.regs _<|cv hi;unfold Rv;rw[rE hi,vf,gJ (AN (by simp[-cJ];omega) tz),FX _ _ (by simp[-cJ];omega),vf];unfold frP DE;simp) _ C3]
 unfold Rw;rw[gJ (AN (by simp[-cJ];omega) tz),ba,QU (g:=DE) (l:=s.j) 9 1000 (λc j=>row_len (h.fields c j)) (λi hi b m a=>by
  have k:=h.fields _<|cv hi;unfold Z0;rw[rE hi,vf,gJ (AN (by simp[-cJ];omega) tz),FX _ _ (by simp[-cJ];omega),vf];unfold DE;simp) _ (by simp[-cJ];omega)]
 unfold Z4;have J:=L3 h;have e:([s.o,s.bC,(O s.i:Int)]++s.i.flatMap frP++[(O s.j:Int)]++s.j.flatMap DE)=AO s:=by
  unfold AO;simp
 rw[e,dF V,Z1]
variable{N:Nat}
theorem Ew(a:H bN)(s:Yh)(hN:100<=N):II N a s=U (if FY a≠0 then([],FY a)else if S4 a s≠0 then([],S4 a s)else(AO (kv s),0)):=by
  unfold II;rw[Oy,vf];by_cases b:FY a=0
  · rw[Z3 V,Z3 V];by_cases c:S4 a s=0
    · have d:=pQ b;have W:=Kr.1 c;rw[dF V,Z1,I6 hN (W.sw d),vf,Z3 V];exact pack_loop<|U9 d W
    · rw[dT c,ZW,Z2 c]
  · rw[Z2 b,dT b,ZW,Z2 b]
theorem pk_vals{ρ:Type}{body:Int->H Int->(H Int->B ρ)->B ρ}{K:H Int->B ρ}{l:H td}(d:∀(i:Nat) (h:i<O l) a b,O a<=5000->body (i:Int) a b=b (a++[l[i].h,l[i].n]))(hl:O l<=40)(a:H Int)(c:O a<=2000):zE body K 0 (O l) a=K (a++G4 l):=
 QU (g:=λv:td=>[v.h,v.n]) (l:=l) 2 2000 (λ_ _=>cj _) (λi hi a b h=>d i hi a b V) a c
theorem packed_loop(h:DQ s):zE (Bc s) (Bd s) 0 ((O s.i:Int)).toNat [s.o,s.bC,(O s.i:Int)]=U (AO s):=by
 have q:=h.i;have p:=h.j;have hl:=HR s.i h.regs;rw[ba,QU (g:=frP) (l:=s.i) 84 3 (λf m=>fr_len (h.regs f m)) (λi hi a e b=>by
  have k:=h.regs _<|cv hi;unfold Bc;rw[rE hi,vf,gJ (AN (by simp[-cJ];omega) tz),gJ (AN (by simp[-cJ];omega) tz),ba,pk_vals (λj d a e o=>by
   unfold GY;rw[rE d,vf,gJ (AN (by simp[-cJ];omega) tz)]) k _ (by simp[-cJ];omega)]
  unfold GZ frP DE;simp) _ C3]
 unfold Bd;rw[gJ (AN (by simp[-cJ];omega) tz),ba,QU (g:=DE) (l:=s.j) 9 1000 (λc n=>row_len (h.fields c n)) (λi hi a e b=>by
  have k:=h.fields _<|cv hi;unfold G7;rw[rE hi,vf,gJ (AN (by simp[-cJ];omega) tz),ba,pk_vals (λj d a e o=>by
   unfold G5;rw[rE d,vf,gJ (AN (by simp[-cJ];omega) tz)]) V _ (by simp[-cJ];omega)]
  unfold G6 DE;simp) _ (by simp[-cJ];omega)]
 unfold G8;unfold AO;simp
theorem Sp(b:pg a)(h:AJ a s)(hN:100<=N):xO N s=U (AO (kv s)):=by
 unfold xO;rw[IF hN (h.sw b),vf];exact packed_loop<|U9 b h
end
open Go Go.Proofs Go.LX
structure Rel{α:Type}(o:Option (α×List Int))(b:Bool)(x':α)(l':List Int)(b':Bool):Prop where
 stay:b=bd->b'=bd
 ok:b=aw->match o with
  |some (x,r)=>x'=x/\l'=r/\b'=aw
  |none=>b'=bd
theorem Rel.pure{α:Type}(x:α)(l:H Int)(b:Yi):Rel (yZ x l) b x l b:=⟨id,λh=>⟨rfl,rfl,h⟩⟩
theorem Rel.bind{α β:Type}{R:S1 α}{f:α->S1 β}{l g c:H Int}{b b' a:Yi}{k:α}{i:β}(j:Rel (R l) b k g b')(d:Rel (f k g) b' i c a):Rel (jg R f l) b i c a:=by
 refine⟨λh=>d.stay<|j.stay h,λh=>?_⟩;have:=j.ok h;unfold jg;cases e:R l with
 |none=>rw[e]at this;exact d.stay this
 |some q=>
  obtain⟨x,r⟩:=q;rw[e]at this;obtain⟨rfl,rfl,m⟩:=this;exact d.ok m
theorem Rel.marked{α:Type}{o:B (α×H Int)}{b:α}{a:H Int}:Rel o bd b a true:=⟨λ_=>rfl,λh=>by cases h⟩
theorem J4(l:H Int)(b:Yi):∃x c b',l9 ⟨l,b⟩=U (x,⟨c,b'⟩)/\Rel (Jf l) b x c b':=by
 unfold l9;cases l with
 |nil=>exact⟨0,[],bd,rfl,λ_=>rfl,λ_=>rfl⟩
 |cons x l=>
  simp only;rw[dF (by simp;omega),Z1,show vj (x::l) 0=U x from QL x l,vf,show sub? (x::l) 1 (O (x::l):Int)=U l by
   have:=R7 (l:=x::l) (a:=1) (b:=O (x::l)) C3<|cj _;rw[sE]at this;exact this,vf]
  exact⟨x,l,b,Z,id,λh=>⟨Z,Z,h⟩⟩
theorem D2(m:Nat)(l:H Int)(b:Yi):∃(x:Nat) (a:H Int) (b':Yi),tX ⟨l,b⟩ m=U ((x:Int),⟨a,b'⟩)/\x<=m/\Rel (qO m l) b x a b':=by
  unfold tX;obtain⟨x,a,b',h,f⟩:=J4 l b;rw[h,vf];simp only;by_cases d:0<=x/\x<=(m:Int)
  · rw[dF V,dF V,Bool.or_self,Z1];refine⟨x.toNat,a,b',by rw[xo d.1],by omega,f.stay,λe=>?_⟩;have:=f.ok e;cases l with
    |nil=>exact this
    |cons y l=>
      obtain⟨rfl,rfl,c⟩:=this;rw[show qO (m:Int) (x::a)=U (x.toNat,a)from Z2 d];exact⟨Z,Z,c⟩
  · rw[show(G (x<0)||G ((m:Int)<x))=bd by
      rw[dH,decide_eq_true_eq,decide_eq_true_eq];omega,ZW]
    refine⟨0,a,bd,Z,by omega,λ_=>rfl,λe=>?_⟩;have:=f.ok e;cases l with
    |nil=>rfl
    |cons y l=>
      obtain⟨rfl,rfl,c⟩:=this;rw[show qO (m:Int) (x::a)=bh from Z3 d]
theorem WS(n:Nat)(hn:n<=100):∀(m M i:Nat) (a:H td) (l:H Int) (b:Yi),i+m=n->O a=i->m<M->
    ∃vs d b',zy (sZ n) M (a,(i:Int),l,b)=U (a++vs,⟨d,b'⟩)/\O vs=m/\Rel (jW Fl m l) b vs d b'
  |m,0,i,a,l,b,_,_,hM=>by omega
  |0,M+1,i,a,l,b,hi,_,_=>by
    rw[sU];unfold sZ;simp only;rw[dF V,Z1];exact⟨[],l,b,by simp,Z,Rel.pure [] l b⟩
  |m+1,M+1,i,a,l,b,hi,ha,hM=>by
    rw[sU];have c:=WS n hn m M<|i+1;generalize zy (sZ n) M=K at c⊢;unfold sZ;simp only;rw[dT V,ZW];obtain⟨x,g,f,o,s⟩:=J4 l b;rw[o,vf];simp only;obtain⟨y,u,q,p,r⟩:=J4 g f;rw[p,vf];simp only;rw[gJ (AN (by simp;omega) tz),gI V V];obtain⟨vs,e,t,k,hl,j⟩:=c (a++[⟨x,y⟩]) u q V (by simp;omega) V;refine⟨⟨x,y⟩::vs,e,t,?_,by simp[hl],?_⟩
    · rw[show((i:Int)+1)=((i+1:Nat):Int) by omega,k];simp
    · exact Rel.bind (Rel.bind s<|Rel.bind r<|Rel.pure _ _ _)<|Rel.bind j<|Rel.pure _ _ _
theorem MD{N n:Nat}(hn:n<=100)(hN:200<=N)(l:H Int)(b:Yi):∃vs a b',xk N ⟨l,b⟩ n=U (vs,⟨a,b'⟩)/\O vs=n/\Rel (jW Fl n l) b vs a b':=by
 unfold xk;obtain⟨vs,a,b',e,hl,c⟩:=WS n hn n N 0 [] l b V Z V;exact⟨vs,a,b',by simpa using e,hl,c⟩
def DH:Yh:=⟨[],[],0,0⟩
def E3(a:H bN)(s:Yh):Yh×Int:=
 if FY a≠0 then(DH,FY a)else if S4 a s≠0 then(DH,S4 a s)else if kv s=s then(s,0)else(DH,4)
def fP(a:H bN)(l:H Int):Yh×Int:=
 if 1200<O l then(DH,2)else match YW l with
  |some (s,[])=>E3 a s
  |_=>(DH,8)
theorem un_end(a:H bN)(s:Yh){N:Nat}(hN:100<=N):(ao (Jq a s) λb=>bif G ((b:Int)≠0)then U (DH,b)else Option.bind (Md N s) λx=>ao (Vx x s) λy=>bif (!y)then U (DH,4)else U (s,0))=U (E3 a s):=by
  rw[Oy,vf];unfold E3;by_cases d:FY a=0
  · rw[Z3 V,Z3 V];by_cases e:S4 a s=0
    · have f:=pQ d;rw[dF V,Z1,I6 hN ((Kr.1 e).sw f),vf,eqState,vf,Z3 V];by_cases c:kv s=s
      · rw[dT c,Z2 c];rfl
      · rw[dF c,Z3 c];rfl
    · rw[dT e,ZW,Z2 e]
  · rw[Z2 d,dT d,ZW,Z2 d]
theorem Qz{N:Nat}(hN:200<=N)(g:Int×rF)(a:H bN)(d:H Yg)(f e:Int×rF)(n:Nat)(q:g.1=n)(hn:n<=24):
    ∀(m M i:Nat) (c:H (H td)) (l:H Int) (b:Yi),i+m=n->O c=i->m<M->
    ∃cs o b',zy (CJ N g a d f e) M ((i:Int),l,b,c)=(bif (b'||G ((0:Int)<(O o:Int)))then U (DH,8)else U (E3 a ⟨d,c++cs,f.1,e.1⟩))/\Rel (jW (Bf 4) m l) b cs o b'
  |m,0,i,c,l,b,_,_,hM=>by omega
  |0,M+1,i,c,l,b,hi,_,_=>by
    rw[sU];unfold CJ;simp only;rw[dF V,Z1];refine⟨[],l,b,?_,Rel.pure [] l b⟩;rw[kd,<-un_end a ⟨d,c,f.1,e.1⟩ (N:=N) V];rfl
  |m+1,M+1,i,c,l,b,hi,ha,hM=>by
    rw[sU];have k:=Qz hN g a d f e n q hn m M<|i+1;generalize zy (CJ N g a d f e) M=K at k⊢;unfold CJ;simp only;rw[dT V,ZW];obtain⟨x,y,w,j,E,s⟩:=D2 4 l b;rw[show((4:Nat):Int)=4 from rfl]at j;rw[j,vf];simp only;obtain⟨vs,u,r,A,C,Ys⟩:=MD (N:=N) (n:=x) V hN y w;rw[A,vf];simp only;rw[gJ (AN (by simp;omega) tz)];unfold Me;rw[gI V V];obtain⟨cs,v,t,z,p⟩:=k (c++[vs]) u r V (by simp;omega) V;refine⟨vs::cs,v,t,?_,?_⟩
    · rw[show((i:Int)+1)=((i+1:Nat):Int) by omega,z];simp
    · exact Rel.bind (Rel.bind s Ys)<|Rel.bind p<|Rel.pure _ _ _
theorem MM{α β:Type}{R:S1 α}{m:Nat}{al:H α->S1 β}{l:H Int}:jg (jW R (m+1)) al l=jg R (λx=>jg (jW R m) λfs=>al (x::fs)) l:=by
 show((jg R (λx=>jg (jW R m) λl=>yZ<|x::l) l).bind _)=_;unfold jg;cases R l with
 |none=>rfl
 |some q=>
  rw[cG,cG];simp only;cases jW R m q.2 with
  |none=>rfl
  |some q2=>rfl
theorem IC{N:Nat}(hN:200<=N)(e:Int×rF)(a:H bN)(g j:Int×rF)(n:Nat)(X:e.1=n)(hn:n<=10):
    ∀(m M i:Nat) (d:H Yg) (l:H Int) (b:Yi),i+m=n->O d=i->m<M->
    ∃(s:Yh) (F:H Int) (b':Yi),zy (Bq N e a g j) M ((i:Int),l,b,d)=(bif (b'||G ((0:Int)<(O F:Int)))then U (DH,8)else U (E3 a s))/\
      Rel (jg (jW Pg m) (λf=>jg (qO 24) λk=>jg (jW (Bf 4) k) λc=>yZ (⟨d++f,c,g.1,j.1⟩:Yh)) l) b s F b'
  |m,0,i,d,l,b,_,_,hM=>by omega
  |0,M+1,i,d,l,b,hi,_,_=>by
    rw[sU];unfold Bq;simp only;rw[dF V,Z1];obtain⟨x,u,r,o,ry,z⟩:=D2 24 l b;rw[show((24:Nat):Int)=24 from rfl]at o;rw[o,vf];simp only;obtain⟨cs,w,y,A,Ys⟩:=Qz hN ((x:Int),⟨u,r⟩) a d g j x Z ry x N 0 [] u r V Z V;refine⟨⟨d++[],[]++cs,g.1,j.1⟩,w,y,?_,?_⟩
    · rw[kd];exact A
    · exact Rel.bind (Rel.pure [] l b)<|Rel.bind z<|Rel.bind Ys<|Rel.pure _ _ _
  |m+1,M+1,i,d,l,b,hi,ha,hM=>by
    rw[sU];have E:=IC hN e a g j n X hn m M<|i+1;generalize zy (Bq N e a g j) M=K at E⊢;unfold Bq;simp only;rw[dT V,ZW];obtain⟨p,u,r,o,z⟩:=J4 l b;rw[o,vf];simp only;obtain⟨q,w,y,A,Ys⟩:=J4 u r;rw[A,vf];simp only;obtain⟨t,l3,b3,aq,P⟩:=J4 w y;rw[aq,vf];simp only;obtain⟨x,l4,b4,ab,ry,r4⟩:=D2 40 l3 b3;rw[show((40:Nat):Int)=40 from rfl]at ab;rw[ab,vf];simp only;obtain⟨vs,w0,al,T,hv,r5⟩:=MD (N:=N) (n:=x) V hN l4 b4;rw[T,vf];simp only;rw[gJ (AN (by simp;omega) tz),gI V V];obtain⟨s,S,R,e6,C⟩:=E (d++[⟨p,q,vs,t⟩]) w0 al V (by simp;omega) V;refine⟨s,S,R,?_,?_⟩
    · rw[show((i:Int)+1)=((i+1:Nat):Int) by omega,e6]
    · have v:Rel (Pg l) b ⟨p,q,vs,t⟩ w0 al:=Rel.bind z<|Rel.bind Ys<|Rel.bind P<|Rel.bind (Rel.bind r4 r5)<|Rel.pure _ _ _;simp only[cy,gf,ck]at C;rw[MM];exact Rel.bind (f:=λx=>jg (jW Pg m) λfs=>jg (qO 24) λk=>jg (jW (Bf 4) k) λc=>yZ (⟨d++x::fs,c,g.1,j.1⟩:Yh)) v C
theorem end_rel{a:H bN}{l b:H Int}{b':Yi}{s:Yh}{y:B (Yh×Int)}(hl:¬1200<O l)(c:Rel (YW l) aw s b b')(h:y=(bif (b'||G ((0:Int)<(O b:Int)))then U (DH,8)else U (E3 a s))):y=U (fP a l):=by
 rw[h];unfold fP;rw[Z3 hl];have:=c.ok Z;cases e:YW l with
 |none=>rw[e]at this;simp only at this;subst this;rfl
 |some q=>
  obtain⟨d,r⟩:=q;rw[e]at this;obtain⟨rfl,rfl,rfl⟩:=this;cases b with
  |nil=>rfl
  |cons x b=>rw[ml,dT C3,ZW]
theorem Hf(a:H bN)(l:H Int){N:Nat}(hN:200<=N):wP N a l=U (fP a l):=by
  unfold wP;by_cases hl:1200<O l
  · rw[dT V,ZW];unfold fP;rw[Z2 hl];rfl
  · rw[dF V,Z1];obtain⟨st,g,f,k,o⟩:=J4 l aw;rw[k,vf];simp only;obtain⟨wh,d,b,p,q⟩:=J4 g f;rw[p,vf];simp only;obtain⟨x,e,c,i,m,j⟩:=D2 10 d b;rw[show((10:Nat):Int)=10 from rfl]at i;rw[i,vf];simp only;obtain⟨s,u,t,r,n⟩:=IC hN ((x:Int),⟨e,c⟩) a (st,⟨g,f⟩) (wh,⟨d,b⟩) x Z m x N 0 [] e c V Z V;exact end_rel hl (Rel.bind o<|Rel.bind q<|Rel.bind j n) r
section
variable{w0:H Int}(hI:O w0<=1200)
include hI
theorem Nx(p:Nat)(t:Yi)(J:p<=O w0):∃(x:Int) (a:Nat) (b:Yi),EX ⟨(p:Int),t⟩ w0 (-1)=U (x,⟨(a:Int),b⟩)/\a<=O w0/\Rel (Jf (w0.drop p)) t x (w0.drop a) b:=by
  unfold EX;simp only;by_cases h:O w0<=p
  · rw[dT V,ZW];refine⟨0,p,bd,Z,J,λ_=>rfl,λ_=>?_⟩;rw[cq h];rfl
  · have c:p<O w0:=by omega
    rw[dF V,Z1,rE c,vf,gI V V,dF V,ju,Z1];refine⟨w0[p],p+1,t,by push_cast;rfl,by omega,id,λd=>?_⟩;rw[cp c];exact⟨Z,Z,d⟩
theorem manyR(m:Nat)(p:Nat)(t:Yi)(J:p<=O w0):∃(x:Nat) (b:Nat) (d:Yi),EX ⟨(p:Int),t⟩ w0 m=U ((x:Int),⟨(b:Int),d⟩)/\x<=m/\b<=O w0/\Rel (qO m (w0.drop p)) t x (w0.drop b) d:=by
  unfold EX;simp only;by_cases h:O w0<=p
  · rw[dT V,ZW];refine⟨0,p,bd,Z,by omega,J,λ_=>rfl,λ_=>?_⟩;rw[cq h];rfl
  · have e:p<O w0:=by omega
    rw[dF V,Z1,rE e,vf,gI V V,dT V,gk,<-inL];have c:=cp e;generalize g:w0[p]=x at c;by_cases a:0<=x/\x<=(m:Int)
    · rw[dT a.1,dT a.2];refine⟨x.toNat,p+1,t,?_,by omega,by omega,id,λf=>?_⟩
      · simp only[oX,cA,Z1];rw[xo a.1];push_cast;rfl
      · rw[c,show qO (m:Int) (x::w0.drop (p+1))=U (x.toNat,w0.drop (p+1))from Z2 a];exact⟨Z,Z,f⟩
    · rw[show(!(G ((0:Int)<=x)&&G (x<=(m:Int))))=bd by
        rw[ef,cg,decide_eq_false_iff_not,decide_eq_false_iff_not];omega,ZW]
      refine⟨0,p+1,bd,by push_cast;rfl,by omega,by omega,λ_=>rfl,λ_=>?_⟩;rw[c,show qO (m:Int) (x::w0.drop (p+1))=bh from Z3 a]
theorem LN:∀(m M:Nat) (a:H td) (p:Nat) (t:Yi),m<M->O a+m<=100->p<=O w0->
    ∃(vs:H td) (d:Nat) (f:Yi),zy (Le w0) M (a,(m:Int),(p:Int),t)=U (a++vs,⟨(d:Int),f⟩)/\d<=O w0/\Rel (jW Fl m (w0.drop p)) t vs (w0.drop d) f
  |m,0,a,p,t,hM,_,_=>by omega
  |m,M+1,a,p,bd,hM,hl,J=>by
    rw[sU];unfold Le;simp only[cA,qk,Z1];exact⟨[],p,bd,by simp,J,Rel.marked⟩
  |0,M+1,a,p,aw,hM,hl,J=>by
    rw[sU];unfold Le;simp only;rw[dF V,ju,Z1];exact⟨[],p,aw,by simp,J,Rel.pure [] _ _⟩
  |m+1,M+1,a,p,aw,hM,hl,J=>by
    rw[sU];have g:=LN m M;generalize zy (Le w0) M=K at g⊢;unfold Le;simp only;rw[dT V,eb,oX,ZW];obtain⟨x,k,q,j,c,o⟩:=Nx hI p aw J;rw[j,vf];simp only;obtain⟨y,s,t2,u,b,v⟩:=Nx hI k q c;rw[u,vf];simp only;rw[gJ (AN (by simp;omega) tz),gI V V];obtain⟨vs,l,n,r,e,i⟩:=g (a++[⟨x,y⟩]) s t2 V (by simp;omega) b;refine⟨⟨x,y⟩::vs,l,n,?_,e,?_⟩
    · rw[show(((m+1:Nat):Int)-1)=(m:Int) by omega,r];simp
    · exact Rel.bind (Rel.bind o<|Rel.bind v<|Rel.pure _ _ _)<|Rel.bind i<|Rel.pure _ _ _
theorem rowR{N:Nat}(hN:200<=N)(m:Nat)(o:m<=100)(p:Nat)(t:Yi)(J:p<=O w0):∃(vs:H td) (c:Nat) (d:Yi),Nd N ⟨(p:Int),t⟩ w0 m=U (vs,⟨(c:Int),d⟩)/\c<=O w0/\Rel (Bf m (w0.drop p)) t vs (w0.drop c) d:=by
 unfold Nd;obtain⟨x,f,i,e,n,b,g⟩:=manyR hI m p t J;rw[e,vf];simp only;obtain⟨vs,j,t2,k,a,l⟩:=LN hI x N [] f i V (by simp;omega) b;exact⟨vs,j,t2,by simpa using k,a,Rel.bind g l⟩
omit hI in
theorem un_endR{a:H bN}(e:FY a=0)(s:Yh){N:Nat}(hN:100<=N):(ao (mO a s) λb=>bif G ((b:Int)≠0)then U (DH,b)else Option.bind (rX N s) λx=>ao (tF x s) λy=>bif (!y)then U (DH,4)else U (s,0))=U (E3 a s):=by
  rw[ckS_eq2,vf];unfold E3;rw[Z3 V];by_cases d:S4 a s=0
  · have f:=pQ e;rw[dF V,Z1,IF hN ((Kr.1 d).sw f),vf,eqState2,vf,Z3 V];by_cases c:kv s=s
    · rw[dT c,Z2 c];rfl
    · rw[dF c,Z3 c];rfl
  · rw[dT d,ZW,Z2 d]
theorem cellsR{a:H bN}(n:FY a=0){N:Nat}(hN:200<=N)(c:H Yg)(d e:Int×ik):
    ∀(m M:Nat) (b:H (H td)) (p:Nat) (t:Yi),m<M->O b+m<=100->p<=O w0->
    ∃(cs:H (H td)) (g:Nat) (k:Yi),zy (nP N w0 a c d e) M ((m:Int),(p:Int),t,b)=(bif (k||G ((0:Int)<(O (w0.drop g):Int)))then U (DH,8)else U (E3 a ⟨c,b++cs,d.1,e.1⟩))/\g<=O w0/\Rel (jW (Bf 4) m (w0.drop p)) t cs (w0.drop g) k
  |m,0,b,p,t,hM,_,_=>by omega
  |m,M+1,b,p,bd,hM,hl,J=>by
    rw[sU];unfold nP;simp only[cA,qk,Z1];exact⟨[],p,bd,by simp[DH],J,Rel.marked⟩
  |0,M+1,b,p,aw,hM,hl,J=>by
    rw[sU];unfold nP;simp only;rw[dF V,ju,Z1];refine⟨[],p,aw,?_,J,Rel.pure [] _ _⟩;rw[kd,<-un_endR n ⟨c,b,d.1,e.1⟩ (N:=N) V,show G ((0:Int)<(O (w0.drop p):Int))=G ((p:Int)<(O w0:Int)) by
      rw[List.length_drop];by_cases h:p<O w0
      · rw[dT V,dT V]
      · rw[dF V,dF V]]
    rfl
  |m+1,M+1,b,p,aw,hM,hl,J=>by
    rw[sU];have l:=cellsR n hN c d e m M;generalize zy (nP N w0 a c d e) M=K at l⊢;unfold nP;simp only;rw[dT V,eb,oX,ZW];obtain⟨vs,q,v,j,f,u⟩:=rowR hI hN 4 V p aw J;rw[show((4:Nat):Int)=4 from rfl]at j;rw[j,vf];simp only;rw[gJ (AN (by simp;omega) tz)];unfold Al;rw[gI V V];obtain⟨cs,r,s,w,i,o⟩:=l (b++[vs]) q v V (by simp;omega) f;refine⟨vs::cs,r,s,?_,i,?_⟩
    · rw[show(((m+1:Nat):Int)-1)=(m:Int) by omega,w];simp
    · exact Rel.bind u<|Rel.bind o<|Rel.pure _ _ _
theorem framesR{a:H bN}(y:FY a=0){N:Nat}(hN:200<=N)(e g:Int×ik):
    ∀(m M:Nat) (b:H Yg) (p:Nat) (t:Yi),m<M->O b+m<=100->p<=O w0->
    ∃(s:Yh) (aq:Nat) (F:Yi),zy (mZ N w0 a e g) M ((m:Int),(p:Int),t,b)=(bif (F||G ((0:Int)<(O (w0.drop aq):Int)))then U (DH,8)else U (E3 a s))/\
      Rel (jg (jW Pg m) (λf=>jg (qO 24) λk=>jg (jW (Bf 4) k) λc=>yZ (⟨b++f,c,e.1,g.1⟩:Yh)) (w0.drop p)) t s (w0.drop aq) F
  |m,0,b,p,t,hM,_,_=>by omega
  |m,M+1,b,p,bd,hM,hl,J=>by
    rw[sU];unfold mZ;simp only[cA,qk,Z1];obtain⟨x,l,u,i,hx,d,n⟩:=manyR hI 24 p bd J;rw[show((24:Nat):Int)=24 from rfl]at i;rw[i,vf];simp only;have Ys:=n.stay Z;subst Ys;obtain⟨cs,o,t2,q,j,r⟩:=cellsR hI y hN b e g x N [] l bd V (by simp;omega) d;have z:=r.stay Z;subst z;exact⟨⟨b,[]++cs,e.1,g.1⟩,o,bd,q,Rel.marked⟩
  |0,M+1,b,p,aw,hM,hl,J=>by
    rw[sU];unfold mZ;simp only;rw[dF V,ju,Z1];obtain⟨x,l,u,i,hx,d,n⟩:=manyR hI 24 p aw J;rw[show((24:Nat):Int)=24 from rfl]at i;rw[i,vf];simp only;obtain⟨cs,o,t2,q,j,r⟩:=cellsR hI y hN b e g x N [] l u V (by simp;omega) d;refine⟨⟨b++[],[]++cs,e.1,g.1⟩,o,t2,?_,?_⟩
    · rw[kd];exact q
    · exact Rel.bind (Rel.pure [] _ _)<|Rel.bind n<|Rel.bind r<|Rel.pure _ _ _
  |m+1,M+1,b,p,aw,hM,hl,J=>by
    rw[sU];have ry:=framesR y hN e g m M;generalize zy (mZ N w0 a e g) M=K at ry⊢;unfold mZ;simp only;rw[dT V,eb,oX,ZW];obtain⟨ab,l,u,i,d,n⟩:=Nx hI p aw J;rw[i,vf];simp only;obtain⟨R,o,t2,q,j,r⟩:=Nx hI l u d;rw[q,vf];simp only;obtain⟨P,p3,t3,e3,A,r3⟩:=Nx hI o t2 j;rw[e3,vf];simp only;obtain⟨vs,C,S,E,w,r5⟩:=rowR hI hN 40 V p3 t3 A;rw[show((40:Nat):Int)=40 from rfl]at E;rw[E,vf];simp only;rw[gJ (AN (by simp;omega) tz),gI V V];obtain⟨s,X,T,e6,al⟩:=ry (b++[⟨ab,R,vs,P⟩]) C S V (by simp;omega) w;refine⟨s,X,T,?_,?_⟩
    · rw[show(((m+1:Nat):Int)-1)=(m:Int) by omega,e6]
    · have v:Rel (Pg<|w0.drop p) aw ⟨ab,R,vs,P⟩ (w0.drop C) S:=Rel.bind n<|Rel.bind r<|Rel.bind r3<|Rel.bind r5<|Rel.pure _ _ _;simp only[cy,gf,ck]at al;rw[MM];exact Rel.bind (f:=λx=>jg (jW Pg m) λfs=>jg (qO 24) λk=>jg (jW (Bf 4) k) λc=>yZ (⟨b++x::fs,c,e.1,g.1⟩:Yh)) v al
end
theorem Oz{a:H bN}(m:FY a=0)(l:H Int){N:Nat}(hN:200<=N):j6 N a l=U (fP a l):=by
  unfold j6;by_cases hl:1200<O l
  · rw[dT V,ZW];unfold fP;rw[Z2 hl];rfl
  · have hI:O l<=1200:=by omega
    rw[dF V,Z1];obtain⟨st,g,k,f,c,j⟩:=Nx hI 0 aw V;rw[show((0:Nat):Int)=0 from rfl]at f;rw[f,vf];simp only;obtain⟨wh,i,t2,r,b,t⟩:=Nx hI g k c;rw[r,vf];simp only;obtain⟨x,p,u,e,w,d,n⟩:=manyR hI 10 i t2 b;rw[show((10:Nat):Int)=10 from rfl]at e;rw[e,vf];simp only;obtain⟨s,y,v,o,q⟩:=framesR hI m hN (st,⟨(g:Int),k⟩) (wh,⟨(i:Int),t2⟩) x N [] p u V (by simp;omega) d;rw[fg]at j;exact end_rel hl (Rel.bind j<|Rel.bind t<|Rel.bind n q) o
open Go Go.Proofs Go.LX
theorem read_all{s:Yh}(h:DQ s):YW (AO s)=U (s,[]):=by
 have:=rSt_pack h [];rw[kd]at this;exact this
theorem unpack_pack{a:H bN}(c:FY a=0){s:Yh}(h:AJ a s):fP a (AO (kv s))=(kv s,0):=by
 have b:=pQ c;have W:=U9 b h;unfold fP;rw[Z3 (by have:=L3 W;omega),read_all W];simp only;unfold E3;rw[Z3 V,Z3 (by rw[Kr.2 (Fc b h)];omega),Z2 (IB (h.sw b))]
theorem Uu{a:H bN}{s:Yh}(h:AJ a s):AJ a (DG s):=by
  unfold DG;by_cases b:s.o=3
  · rw[Z2 b];refine⟨by simp,by simp,λ_=>rfl,?_,h.many,h.j,h.i⟩;have:=h.ended;constructor
    · intro e;simp at e
    · intro e;have:=h.ended.2 e;omega
  · rw[Z3 b];exact h
theorem wake_eq(s:Yh)(h:s.o=3):DG s=⟨s.i,s.j,0,0⟩:=Z2 h
namespace Dk
open Go Go.Proofs Go.LX
theorem eqInt(a b:H Int):CE a b=U (G (a=b)):=by
  unfold CE;by_cases h:O a=O b
  · rw[dF V];simp only[Z1,ba];rw[Pq (λx y=>G (x=y)) a b h rfl (λi x y f c d=>by
      unfold Ef;rw[kF,kF,c,d];by_cases e:x=y<;>simp[e]),Cb (λ_ _=>rfl)]
  · rw[dT V];have:a≠b:=λe=>h (by rw[e]);rw[dF this];rfl
theorem DS(r:vp):iK r=eH r:=by
  unfold iK eH mF gX dB gZ;have e:(((!(aQ r.s 0 2))||(!(aQ r.k 0 100)))||(!(aQ r.q 0 2)))=(((((G ((r.s:Int)<0)||G ((3:Int)<=r.s))||G ((r.k:Int)<0))||G ((100:Int)<r.k))||G ((r.q:Int)<0))||G ((3:Int)<=r.q)):=by
    unfold aQ;rw[dv];simp;omega
  rw[e];generalize (((((G ((r.s:Int)<0)||G ((3:Int)<=r.s))||G ((r.k:Int)<0))||G ((100:Int)<r.k))||G ((r.q:Int)<0))||G ((3:Int)<=r.q))=C1;generalize (G ((40:Int)<(O r.H:Int))||G ((1200:Int)<(O r.t:Int)))=C2;generalize G ((r.q:Int)≠0)=p0;generalize G ((0:Int)<(O r.H:Int))=s1;generalize G ((0:Int)<(O r.t:Int))=i1;generalize G ((r.k:Int)=0)=e0;have d:∀l:uH,(Ds l 73=bd\/Ds l 73=aw):=λl=>by cases Ds l 73<;>simp
  by_cases k1:r.h=1
  · rw[k1,show Ds ((lk (1:Int) ([(1,[73]),(2,[83,73]),(3,[80]),(4,[73]),(5,[])]:H (Int×uH))).getD []) 80=aw by decide,show Ds ((lk (1:Int) ([(1,[73]),(2,[83,73]),(3,[80]),(4,[73]),(5,[])]:H (Int×uH))).getD []) 83=aw by decide,show Ds ((lk (1:Int) ([(1,[73]),(2,[83,73]),(3,[80]),(4,[73]),(5,[])]:H (Int×uH))).getD []) 73=bd by decide];cases C1<;>cases C2<;>cases p0<;>cases s1<;>cases i1<;>cases e0<;>rfl
  by_cases k2:r.h=2
  · rw[k2,show Ds ((lk (2:Int) ([(1,[73]),(2,[83,73]),(3,[80]),(4,[73]),(5,[])]:H (Int×uH))).getD []) 80=aw by decide,show Ds ((lk (2:Int) ([(1,[73]),(2,[83,73]),(3,[80]),(4,[73]),(5,[])]:H (Int×uH))).getD []) 83=bd by decide,show Ds ((lk (2:Int) ([(1,[73]),(2,[83,73]),(3,[80]),(4,[73]),(5,[])]:H (Int×uH))).getD []) 73=bd by decide];cases C1<;>cases C2<;>cases p0<;>cases s1<;>cases i1<;>cases e0<;>rfl
  by_cases b:r.h=3
  · rw[b,show Ds ((lk (3:Int) ([(1,[73]),(2,[83,73]),(3,[80]),(4,[73]),(5,[])]:H (Int×uH))).getD []) 80=bd by decide,show Ds ((lk (3:Int) ([(1,[73]),(2,[83,73]),(3,[80]),(4,[73]),(5,[])]:H (Int×uH))).getD []) 83=aw by decide,show Ds ((lk (3:Int) ([(1,[73]),(2,[83,73]),(3,[80]),(4,[73]),(5,[])]:H (Int×uH))).getD []) 73=aw by decide];cases C1<;>cases C2<;>cases p0<;>cases s1<;>cases i1<;>cases e0<;>rfl
  by_cases a:r.h=4
  · rw[a,show Ds ((lk (4:Int) ([(1,[73]),(2,[83,73]),(3,[80]),(4,[73]),(5,[])]:H (Int×uH))).getD []) 80=aw by decide,show Ds ((lk (4:Int) ([(1,[73]),(2,[83,73]),(3,[80]),(4,[73]),(5,[])]:H (Int×uH))).getD []) 83=aw by decide,show Ds ((lk (4:Int) ([(1,[73]),(2,[83,73]),(3,[80]),(4,[73]),(5,[])]:H (Int×uH))).getD []) 73=bd by decide];cases C1<;>cases C2<;>cases p0<;>cases s1<;>cases i1<;>cases e0<;>rfl
  by_cases c:r.h=5
  · rw[c,show Ds ((lk (5:Int) ([(1,[73]),(2,[83,73]),(3,[80]),(4,[73]),(5,[])]:H (Int×uH))).getD []) 80=aw by decide,show Ds ((lk (5:Int) ([(1,[73]),(2,[83,73]),(3,[80]),(4,[73]),(5,[])]:H (Int×uH))).getD []) 83=aw by decide,show Ds ((lk (5:Int) ([(1,[73]),(2,[83,73]),(3,[80]),(4,[73]),(5,[])]:H (Int×uH))).getD []) 73=aw by decide];cases C1<;>cases C2<;>cases p0<;>cases s1<;>cases i1<;>cases e0<;>rfl
  rw[show lk r.h ([(1,[73]),(2,[83,73]),(3,[80]),(4,[73]),(5,[])]:H (Int×uH))=bh by simp[lk,k1,k2,b,a,c]];rw[show(G ((r.h:Int)<1)||G ((5:Int)<r.h))=bd by simp;omega];rfl
structure GoodR(r:vp):Prop where
 h:1<=r.h/\r.h<=5
 s:0<=r.s/\r.s<=2
 k:1<=r.k/\r.k<=100
 q:0<=r.q/\r.q<=2
 H:r.H.length<=40
 t:r.t.length<=1200
 has:(r.h=1\/r.h=2\/r.h=4)->1<=r.t.length
theorem JY(r:vp)(h:eH r=0):GoodR r:=by
 rw[<-DS]at h;unfold iK at h;have hn:0<=(O r.t:Int):=by omega
 generalize f:(G ((r.h:Int)<1)||G ((5:Int)<r.h))=A at h;cases A with
 |true=>simp only[ZW]at h;exact ZD h tz
 |false=>
 simp only[Z1]at h;generalize c:(((((G ((r.s:Int)<0)||G ((3:Int)<=r.s))||G ((r.k:Int)<0))||G ((100:Int)<r.k))||G ((r.q:Int)<0))||G ((3:Int)<=r.q))=Ys at h;cases Ys with
 |true=>simp only[ZW]at h;exact ZD h tz
 |false=>
 simp only[Z1]at h;generalize e:(G ((40:Int)<(O r.H:Int))||G ((1200:Int)<(O r.t:Int)))=C at h;cases C with
 |true=>simp only[ZW]at h;exact ZD h tz
 |false=>
 simp only[Z1]at h;generalize b:((((G ((r.h:Int)≠3)&&G ((r.q:Int)≠0))||(G ((r.h:Int)≠2)&&G ((0:Int)<(O r.H:Int))))||(((G ((r.h:Int)=1)||G ((r.h:Int)=2))||G ((r.h:Int)=4)) !=G ((0:Int)<(O r.t:Int))))||G ((r.k:Int)=0))=D at h;cases D with
 |true=>simp only[ZW]at h;exact ZD h tz
 |false=>
 simp only[cV,decide_eq_false_iff_not,bne_eq_false_iff_eq]at f c e b;obtain⟨⟨⟨_,_⟩,a⟩,i⟩:=b;refine⟨by omega,by omega,by omega,by omega,by omega,by omega,λg=>?_⟩;have:((G ((r.h:Int)=1)||G ((r.h:Int)=2))||G ((r.h:Int)=4))=true:=by
  simp;omega
 rw[this]at a;have d:G ((0:Int)<(O r.t:Int))=true:=by
  cases hq:G ((0:Int)<(O r.t:Int))with
  |true=>rfl
  |false=>rw[hq]at a;cases a
 have:=NX d;omega
def Fk(r:vp):Prop:=ky r.h/\ky r.s/\ky r.k/\ky r.q/\(∀x∈r.H,ky x)/\(∀x∈r.t,ky x)
def nl(r:vp):H Int:=[r.h,r.s,r.k,r.q,(O r.H:Int)]++r.H++r.t
def zR:vp:=⟨0,0,0,0,[],[]⟩
def zM(r:vp):uH×Int:=if iK r=0 then(DZ 32 ((nl r).map ey),0)else([],iK r)
def QV(l:H Int)(n:Nat):vp:=⟨l.getD 0 0,l.getD 1 0,l.getD 2 0,l.getD 3 0,(l.take (5+n)).drop 5,l.drop (5+n)⟩
def Va(l:H Int):vp×Int:=
 if O l<5 then(zR,1)else if l.getD 4 0<0\/(O l:Int)-5<l.getD 4 0 then(zR,1)else
 if iK (QV l (l.getD 4 0).toNat)=0 then(QV l (l.getD 4 0).toNat,0)else(zR,iK (QV l (l.getD 4 0).toNat))
def qY(s:uH):vp×Int:=match Zl 32 s with|none=>(zR,1)|some l=>Va l
def EU(s:uH):vp×Int:=if(60000:Int)<(O s:Int)then(zR,2)else qY s
theorem concat5:∀(l:H (H Int)) (a:H Int),O a+(l.map O).sum<=1000000->vh CP CQ l a=U (a++l.flatten)
 |[],a,_=>by simp[lM,CQ]
 |x::l,a,h=>by
  simp only[cF,lX]at h;rw[gq,CP,gJ ⟨by omega,by omega⟩,concat5 l (a++x) (by rw[bn];omega)];simp
theorem concat7(a:H (H Int)):∀(l:H (H Int)) (n:Nat),n+(l.map O).sum<=1000000->vh CR (yM a) l (n:Int)=yM a ((n+(l.map O).sum:Nat):Int)
 |[],n,_=>by simp[lM]
 |x::l,n,h=>by
  simp only[cF,lX]at h⊢;rw[gq,CR,gI,dF V,Z1,show((n:Int)+(O x:Int))=((n+O x:Nat):Int) by omega,concat7 a l (n+O x) V,ki]
theorem concat_eq(a:H (H Int))(h:(a.map O).sum<=1000000):uV a=U a.flatten:=by
 unfold uV;have:=concat7 a a 0 V;rw[show((0:Nat):Int)=0 from rfl]at this;rw[this];unfold yM;rw[show H5 8 ((0+(a.map O).sum:Nat):Int)=U ([]:H Int) by unfold H5;rw[gJ ⟨by omega,by omega⟩],vf,concat5 a [] (by simpa using h)];simp
theorem concat3(a b c:H Int)(h:O a+O b+O c<=1000000):uV [a,b,c]=U (a++b++c):=by
 rw[concat_eq _ (by simp;omega)];simp
theorem nl_len(r:vp):O (nl r)=5+O r.H+O r.t:=by simp[nl];omega
theorem nl_ok{r:vp}(g:GoodR r)(w:Fk r):∀x∈nl r,ky x:=by
  obtain⟨w1,d,c,f,b,e⟩:=w;have W:=g.H;intro x a;simp only[nl,fi,bs,List.not_mem_nil,or_false]at a;rcases a with((rfl|rfl|rfl|rfl|rfl)|a)|a
  · exact w1
  · exact d
  · exact c
  · exact f
  · exact ky.mk V V
  · exact b x a
  · exact e x a
theorem YX{r:vp}(g:GoodR r):O (nl r)<=1245:=by rw[nl_len];have:=g.H;have:=g.t;omega
theorem Mb:∀(l:H Int) (pre:H uH),(∀x∈l,ky x)->ib EL Br (O pre:Int) l (pre++bt (O l) ([]:uH))=Br (pre++l.map ey)
 |[],pre,_=>by simp[Vi]
 |x::l,pre,h=>by
  rw[AP,EL,Zm (h x C3),vf,kF];have d:(pre++bt (O (x::l)) ([]:uH))[O pre]? =U []:=by rw[jt (cj _)];simp
  rw[d,vf,ba];have a:(pre++bt (O (x::l)) ([]:uH)).set (O pre) (ey x)=(pre++[ey x])++bt (O l) ([]:uH):=by
   rw[List.set_append_right _ _ (cj _)];simp[List.replicate_succ]
  have c:((O pre:Int)+1)=(O (pre++[ey x]):Int):=by simp
  rw[a,c,Mb l (pre++[ey x]) (λy b=>h y (bo _ b))];simp
theorem join_ok{l:H Int}(h:∀x∈l,ky x)(hl:O l<=1245):Hw (l.map ey) [32]=U (DZ 32 (l.map ey)):=by
 have a:=Ge 32 21 (l.map ey) (by intro x c;obtain⟨y,b,rfl⟩:=fW.1 c;exact itoa_len (h y b));rw[dr]at a;exact joinS_eq 32 (by rw[dr];omega) V
theorem print_eq(r:vp)(c:iK r=0->Fk r):KR r=U (zM r):=by
  unfold KR zM;by_cases h:iK r=0
  · have g:=JY r (by rw[<-DS];exact h);have W:=g.H;have hi:=g.t;rw[dF V,Z1,Z2 h,concat3 _ _ _ (by simp;omega),vf];have hl:=YX g;have a:=nl_ok g<|c h;show iE _ (ib EL Br 0 (nl r)<|bt (O (nl r):Int).toNat ([]:uH))=_;have b:(r.h::r.s::r.k::r.q::(O r.H:Int)::(r.H++r.t)).length=O (nl r):=by simp[nl]
    rw[gJ (by
      refine⟨by omega,?_⟩;have:([r.h,r.s,r.k,r.q,(O r.H:Int)]++r.H++r.t).length=O (nl r):=rfl;rw[this];omega),ba]
    have:=Mb (nl r) [] a;simp only[iv,ck]at this;rw[show((0:Nat):Int)=0 from rfl]at this;rw[this];unfold Br;rw[join_ok a hl,vf]
  · rw[dT h,ZW,Z3 h]
theorem OK:∀(l:H Int) (a:H uH),(∀x∈l,ky x)->O a+O l<=1000000->vh wF sj l a=sj (a++l.map ey)
 |[],a,_,_=>by simp[lM]
 |x::l,a,h,hl=>by
  simp only[bw]at hl;rw[gq,wF,Zm (h x C3),vf,gJ ⟨by simp;omega,by simp;omega⟩,OK l _ (λy b=>h y (bo _ b)) (by simp;omega)];simp
theorem text_eq(r:vp)(b:iK r=0->Fk r):zK r=U (zM r):=by
  unfold zK zM;rw[<-DS];by_cases h:iK r=0
  · have g:=JY r (by rw[<-DS];exact h);have W:=g.H;have hi:=g.t;rw[dF V,Z1,Z2 h,concat3 _ _ _ (by simp;omega),vf];have hl:=YX g;have a:=nl_ok g<|b h;show vh wF sj (nl r) []=_;rw[OK (nl r) [] a (by simp;omega),ck];unfold sj;rw[join_ok a hl,vf]
  · rw[dT h,ZW,Z3 h]
theorem D4:∀(w:H uH) (a:H Int),(∀x∈w,O x<=60000)->O a+O w<=1000000->
    vh Ag Ah w a=U (match w.mapM numOf with|some v=>(a++v,bd)|none=>([],aw))
  |[],a,_,_=>by simp[lM,Ah]
  |x::w,a,h,hl=>by
    have g:=h x C3;simp only[bw]at hl;have c:=λy=>D4 w (a++[y]) (λz f=>h z (bo _ f)) (by simp;omega);rw[gq,Ag,parseS_eq V,vf,tE];cases e:Lib.atoiAll x with
    |ok v=>
      have d:ky v:=yW e;simp only[Z1];rw[Zm d,vf,uW];by_cases b:ey v=x
      · rw[dF (by simpa using b),Z1,gJ ⟨by simp;omega,by simp;omega⟩,c];have:numOf x=U v:=by simp[numOf,e,b]
        rw[this];cases e2:w.mapM numOf with
        |none=>rfl
        |some m=>simp
      · rw[dT b,ZW];have:numOf x=none:=by simp[numOf,e,b]
        rw[this];rfl
    |range=>
      have:numOf x=none:=by simp[numOf,e]
      rw[this];rfl
    |_=>
      have:numOf x=none:=by simp[numOf,e]
      rw[this];rfl
theorem numbers_eq(s:uH)(h:O s<=60000):zG s=U (match Zl 32 s with|some v=>(v,bd)|none=>([],aw)):=by
 unfold zG Zl;have b:=EN 32 s;rw[Sh 32 V,vf,D4 _ [] (λx a=>by have:=Ct 32 s x a;omega) (by simp;omega)];simp;rfl
theorem MN:∀(w:H uH) (a:H Int),(∀x∈w,O x<=60000)->O a+O w<=1000000->
    vh Ik Aa w a=match w.mapM numOf with|some v=>Aa (a++v)|none=>U (zR,1)
  |[],a,_,_=>by simp[lM]
  |x::w,a,h,hl=>by
    have g:=h x C3;simp only[bw]at hl;have c:=λy=>MN w (a++[y]) (λz f=>h z (bo _ f)) (by simp;omega);rw[gq,Ik,atoiS_eq V,vf,tE];cases e:Lib.atoiAll x with
    |ok v=>
      have d:ky v:=yW e;simp only[Z1];rw[Zm d,vf,Dx];by_cases b:ey v=x
      · rw[dF (by simpa using b),Z1,gJ ⟨by simp;omega,by simp;omega⟩,c];have:numOf x=U v:=by simp[numOf,e,b]
        rw[this];cases e2:w.mapM numOf with
        |none=>rfl
        |some m=>simp
      · rw[dT b,ZW];have:numOf x=none:=by simp[numOf,e,b]
        rw[this];rfl
    |range=>
      have:numOf x=none:=by simp[numOf,e]
      rw[this];rfl
    |_=>
      have:numOf x=none:=by simp[numOf,e]
      rw[this];rfl
theorem five{l:H Int}(h:¬O l<5):∃a b c d n r,l=a::b::c::d::n::r:=by
 match l,h with
 |a::b::c::d::n::r,_=>exact⟨a,b,c,d,n,r,rfl⟩
 |[],h=>simp at h
 |[a],h=>simp at h
 |[a,b],h=>simp at h
 |[a,b,c],h=>simp at h
 |[a,b,c,d],h=>simp at h
theorem parse_k31(l:H Int)(hl:O l<=1000000)(hI:∀x∈l,ky x):Aa l=U (Va l):=by
  unfold Aa Va;by_cases f:O l<5
  · rw[dT V,Z2 f];rfl
  · rw[dF V,Z3 f,Z1];obtain⟨a,b,c,d,n,r,rfl⟩:=five f;have hn:ky n:=hI n C3;have k:vj (a::b::c::d::n::r) 4=U n:=rfl;rw[k,vf];have j:(a::b::c::d::n::r).getD 4 0=n:=rfl;rw[j];by_cases i:n<0
    · rw[dT i,Z2 (.inl i)];rfl
    · rw[dF i,Z1];simp only[bw]at hl⊢;rw[gI];by_cases g:((O r+1+1+1+1+1:Nat):Int)-5<n
      · rw[dT g,Z2 (.inr g)];rfl
      · rw[dF g,Z3 V];unfold z8;obtain⟨m,rfl⟩:=cl (show 0<=n by omega);rw[Z1,show vj (a::b::c::d::(m:Int)::r) 0=U a from rfl,vf,show vj (a::b::c::d::(m:Int)::r) 1=U b from rfl,vf,show vj (a::b::c::d::(m:Int)::r) 2=U c from rfl,vf,show vj (a::b::c::d::(m:Int)::r) 3=U d from rfl,vf,show vj (a::b::c::d::(m:Int)::r) 4=U (m:Int)from rfl,vf,gI];rw[show(5+(m:Int))=((5+m:Nat):Int) by omega,show(5:Int)=((5:Nat):Int)from rfl,R7 V (by simp;omega),vf,gI,R7 (by simp;omega) (cj _),vf,vZ (by simp;omega) (by simp;omega),vf,vZ (by simp;omega) (by simp;omega),vf];have o:((a::b::c::d::(m:Int)::r).take (O (a::b::c::d::(m:Int)::r))).drop (5+m)=(a::b::c::d::(m:Int)::r).drop (5+m):=by rw[sE]
        rw[o];unfold Ij;show(bif G ((iK (QV (a::b::c::d::(m:Int)::r) m):Int)≠0)then U (zR,iK<|QV (a::b::c::d::(m:Int)::r) m)else U (QV (a::b::c::d::(m:Int)::r) m,0))=_;rw[ba];by_cases e:iK (QV (a::b::c::d::(m:Int)::r) m)=0
        · rw[dF V,Z2 e];rfl
        · rw[dT e,Z3 e];rfl
theorem parse_eq(s:uH):KL s=U (EU s):=by
  unfold KL EU;by_cases h:(60000:Int)<(O s:Int)
  · rw[dT h,Z2 h];rfl
  · rw[dF h,Z3 h,Z1];have c:=EN 32 s;rw[Sh 32 V,vf,MN _ [] (λx a=>by have:=Ct 32 s x a;omega) (by simp;omega)];unfold qY;cases e:Zl 32 s with
    |none=>unfold Zl at e;rw[e]
    |some l=>
      have:=IY (show(mH 32 s).mapM numOf=U l from e);unfold Zl at e;rw[e];have hl:O l<=1000000:=by
        have b:=ZS O this.1;rw[dr]at b;omega
      simp only[ck];exact parse_k31 l hl this.2
theorem read_eq(s:uH)(h:O s<=60000):zH s=U (qY s):=by
  unfold zH;rw[numbers_eq s h,vf];unfold qY;cases e:Zl 32 s with
  |none=>rfl
  |some l=>
    have this:=IY (show(mH 32 s).mapM numOf=U l from e);have o:=EN 32 s;have hl:O l<=1000000:=by
      have k:=ZS O this.1;rw[dr]at k;omega
    simp only[cA,ml];unfold Va;by_cases g:O l<5
    · rw[dT V,Z2 g];rfl
    · rw[dF V,Z3 g,Z1];obtain⟨a,b,c,d,n,r,rfl⟩:=five g;have hn:ky n:=this.2 n C3;rw[show vj (a::b::c::d::n::r) 4=U n from rfl,vf,show(a::b::c::d::n::r).getD 4 0=n from rfl];simp only[bw]at hl⊢;rw[gI];by_cases i:n<0\/((O r+1+1+1+1+1:Nat):Int)-5<n
      · rw[Z2 i,show(!(aQ n 0 (((O r+1+1+1+1+1:Nat):Int)-5)))=bd by unfold aQ;simp;omega];rfl
      · rw[Z3 i,show(!(aQ n 0 (((O r+1+1+1+1+1:Nat):Int)-5)))=aw by unfold aQ;simp;omega];unfold wo;obtain⟨m,rfl⟩:=cl (show 0<=n by omega);rw[Z1,show vj (a::b::c::d::(m:Int)::r) 4=U (m:Int)from rfl,vf,gI,show vj (a::b::c::d::(m:Int)::r) 0=U a from rfl,vf,show vj (a::b::c::d::(m:Int)::r) 1=U b from rfl,vf,show vj (a::b::c::d::(m:Int)::r) 2=U c from rfl,vf,show vj (a::b::c::d::(m:Int)::r) 3=U d from rfl,vf];rw[show(5+(m:Int))=((5+m:Nat):Int) by omega,show(5:Int)=((5:Nat):Int)from rfl,R7 V (by simp;omega),vf,R7 (by simp;omega) (cj _),vf];have j:((a::b::c::d::(m:Int)::r).take (O (a::b::c::d::(m:Int)::r))).drop (5+m)=(a::b::c::d::(m:Int)::r).drop (5+m):=by rw[sE]
        rw[j,<-DS];show(bif G ((iK (QV (a::b::c::d::(m:Int)::r) m):Int)≠0)then U (zR,iK<|QV (a::b::c::d::(m:Int)::r) m)else U (QV (a::b::c::d::(m:Int)::r) m,0))=_;rw[ba];by_cases f:iK (QV (a::b::c::d::(m:Int)::r) m)=0
        · rw[dF V,Z2 f];rfl
        · rw[dT f,Z3 f];rfl
theorem nl_mk{l:H Int}{n:Nat}(hl:5+n<=O l)(i:l.getD 4 0=n):nl (QV l n)=l:=by
 obtain⟨a,b,c,d,m,r,rfl⟩:=five (l:=l) V;have e:m=n:=i;subst e;simp only[bw]at hl;have f:((a::b::c::d::(n:Int)::r).take (5+n)).drop 5=r.take n:=by
  rw[show 5+n=n+1+1+1+1+1 by omega];rfl
 have g:(a::b::c::d::(n:Int)::r).drop (5+n)=r.drop n:=by
  rw[show 5+n=n+1+1+1+1+1 by omega];rfl
 show [a,b,c,d,(O (((a::b::c::d::(n:Int)::r).take (5+n)).drop 5):Int)]++((a::b::c::d::(n:Int)::r).take (5+n)).drop 5++(a::b::c::d::(n:Int)::r).drop (5+n)=_;rw[f,g,List.length_take,show min n (O r)=n by omega,cy,List.take_append_drop];rfl
theorem read_ok{s:uH}{r:vp}(h:qY s=(r,0)):iK r=0/\Fk r/\s=DZ 32 ((nl r).map ey):=by
  unfold qY at h;cases e:Zl 32 s with
  |none=>rw[e]at h;cases h
  |some l=>
    rw[e]at h;obtain⟨j,g,p⟩:=join_nums e;simp only at h;unfold Va at h;split at h
    · cases h
    · rename_i o;split at h
      · cases h
      · rename_i i;split at h
        · rename_i c;obtain⟨m,f⟩:=cl (show 0<=l.getD 4 0 by omega);rw[f]at h c i;simp only[ba]at h c;have k:QV l m=r:=by injection h
          have b:=nl_mk (l:=l) (n:=m) V f;rw[k]at b c;refine⟨c,?_,by rw[b];exact j⟩;have a:∀x∈nl r,ky x:=by rw[b];exact g
          refine⟨a _ (by simp[nl]),a _ (by simp[nl]),a _ (by simp[nl]),a _ (by simp[nl]),λx d=>a x (by simp[nl,d]),λx d=>a x (by simp[nl,d])⟩
        · rename_i c;exact ZD (ZS Prod.snd h) c
def r0:vp:=⟨2,1,2,0,[7,-8],[1]⟩
def FH(a:Int):H uH->H vp->Int->H vp×Int×Int
 |[],l,n=>(l,n,0)
 |[x],l,n=>if x=[]then(l,n,0)else(l,n,8)
 |x::y::r,l,n=>if(qY x).2≠0 then(l,n,(qY x).2)else if a<=(O l:Int)then(l,n,2)else FH a (y::r) (l++[(qY x).1]) (n+(O x:Int)+1)
def ln(a:Int)(s:uH):H vp×Int×Int:=FH a (mH 10 s) [] 0
theorem lnP_cons{a:Int}{x:uH}{q:H uH}{l:H vp}{n:Int}(b:q≠[]):FH a (x::q) l n=if(qY x).2≠0 then(l,n,(qY x).2)else if a<=(O l:Int)then(l,n,2)else FH a q (l++[(qY x).1]) (n+(O x:Int)+1):=by
 cases q with
 |nil=>exact ZD Z b
 |cons y r=>rfl
theorem IT(c:UInt8)(x y:uH)(l:H uH):O (DZ c (x::y::l))=O x+1+O (DZ c (y::l)):=by
 rw[Ih,bn,bw];omega
theorem lnP_len(a:Int):∀(p:H uH) (l:H vp) (n:Int),0<=n->n<=(FH a p l n).2.1/\(FH a p l n).2.1<=n+O (DZ 10 p)/\O (FH a p l n).1+0<=O l+O p/\O l<=O (FH a p l n).1/\((O l:Int)<=a->(O (FH a p l n).1:Int)<=a)
  |[],l,n,hn=>by simp[FH];omega
  |[x],l,n,hn=>by
    unfold FH;split<;>simp<;>omega
  |x::y::r,l,n,hn=>by
    have c:=IT 10 x y r;unfold FH;split
    · simp;omega
    · split
      · simp;omega
      · have b:=lnP_len a (y::r) (l++[(qY x).1]) (n+(O x:Int)+1) V;simp only[bn,bw,iv]at b⊢;omega
theorem lines_loop(a:uH)(b:Int)(k:O a<=60000):∀(p:H uH) (s:uH) (l:H vp) (N:Nat),mH 10 s=p->O s<=O a->O p<=N->O l+O p<=60001->(O l:Int)<=b->
    zy (OH a b) N (s,l)=U (FH b p l ((O a:Int)-(O s:Int))):=by
  intro p;induction p with
  |nil=>intro s l N J;exact ZD J (Ie 10 s)
  |cons x q ih=>
    intro s l N J W hN hl m;cases N with
    |zero=>simp at hN
    |succ N=>
    rw[zy,OH];cases q with
    |nil=>
      obtain⟨rfl,e⟩:=N4 J;by_cases d:s=[]
      · subst d;rw[dF C3,Z1];simp[FH]
      · rw[dT d,ZW,cutS_free e V,vf];simp only[eb,ZW];rw[gI];simp[FH,d]
    |cons y r=>
      obtain⟨t,rfl,j,e⟩:=splitC_cons J;have f:O (x++10::t)=O x+1+O t:=by simp;omega
      rw[dT C3,ZW,cutS_hit e V,vf];simp only[cA,Z1];have c:EU x=qY x:=by unfold EU;rw[Z3 V]
      rw[parse_eq,vf,c,lnP_cons C3];by_cases g:(qY x).2=0
      · rw[dF V,Z1,Z3 V];by_cases i:(O l:Int)=b
        · rw[dT i,ZW,gI,Z2 V]
        · rw[dF i,Z1,Z3 V];simp only[bw]at hN hl;rw[gJ ⟨by simp;omega,by simp;omega⟩,ih t (l++[(qY x).1]) N j V (by simp;omega) (by simp;omega) (by simp;omega)];congr 2;omega
      · rw[dT g,ZW,gI,Z2 g]
theorem Kf(N:Nat)(a:uH)(b:Int)(hN:60002<=N)(c:O a<=60000)(d:0<=b):Il N a b=U (ln b a):=by
 unfold Il ln;have e:=EN 10 a;rw[lines_loop a b c (mH 10 a) a [] N rfl (cj _) V (by simp;omega) (by simpa using d)];congr 2;omega
theorem Fo(b:Int):∀(p:H uH) (l:H vp) (n:Int),(∀x∈p,O x<=60000/\(10:UInt8)∉x)->p≠[]->O l+O p<=60001->0<=n->n+O (DZ 10 p)<=60000->
    vh (uX b) FD (addC 10 p) (l,n)=U (FH b p l n)
  |[],l,n,_,h,_,_,_=>ZD Z h
  |[x],l,n,hx,_,hl,h0,hn=>by
    have g:=hx x C3;rw[addC,gq,uX];by_cases h:x=[]
    · rw[dT h,ZW];simp[FH,h,wu]
    · rw[dF h,Z1,hasSuf_free g.2 V,vf];simp[FH,h]
  |x::y::r,l,n,hx,_,hl,h0,hn=>by
    have g:=hx x C3;have j:=IT 10 x y r;simp only[bw]at hl;rw[addC,gq,uX];rw[dF C3,Z1,hasSuf_app x (by simp;omega),vf];simp only[cA,Z1];have a:((O (x++[(10:UInt8)]):Nat):Int)=(O x:Int)+1:=by simp
    rw[a,gI];have c:subs? (x++[(10:UInt8)]) 0 ((O x:Int)+1-1)=U x:=by
      unfold subs?;rw[gJ ⟨by omega,by omega,by rw[a];omega⟩];have e:((O x:Int)+1-1).toNat=O x:=by omega
      simp[cut,e]
    rw[c,vf,read_eq x g.1,vf,lnP_cons C3];by_cases d:(qY x).2=0
    · rw[dT d,Z3 V,gk];by_cases f:b<=(O l:Int)
      · rw[dT f,ZW,Z2 f];simp[nM]
      · rw[dF f,Z1,Z3 f,nM,dF V,Z1,gJ ⟨by simp;omega,by simp;omega⟩,a,gI,
          Fo b (y::r) (l++[(qY x).1]) (n+((O x:Int)+1)) (λz i=>hx z (bo _ i)) C3 (by simp;omega) V V]
        rw[Int.add_assoc]
    · rw[dF d,ju,Z1,Z2 d,nM,dT d,ZW]
theorem YY(a:uH)(b:Int)(e:O a<=60000):sG a b=U (ln b a):=by
 unfold sG ln;have d:=EN 10 a;rw[MO 10 V,vf,Fo b (mH 10 a) [] 0 (λx c=>by have:=Ct 10 a x c;exact⟨by omega,this.2⟩) (Ie 10 a) (by simp;omega) V (by rw[Cs];omega)]
theorem eqByte(a b:uH):si a b=U (G (a=b)):=by
  unfold si;by_cases h:O a=O b
  · rw[dF V];simp only[Z1,ba];rw[Pq (λx y=>G (x=y)) a b h rfl (λi x y f c d=>by
      unfold JS;rw[kF,kF,c,d];by_cases e:x=y
      · subst e;simp
      · have:¬((x.toNat:Int)=(y.toNat:Int)):=λh=>e<|UInt8.toNat_inj.1 V;simp[e,this]),Cb (λ_ _=>rfl)]
  · rw[dT V];have:a≠b:=λe=>h (by rw[e]);rw[dF this];rfl
theorem diskSame(a b:gD):VK a b=U (G (a=b)):=by
 unfold VK;rw[eqByte,eqByte];obtain⟨e,c⟩:=a;obtain⟨d,f⟩:=b;simp only[gD.mk.injEq,vf];by_cases g:e=d<;>by_cases i:c=f<;>simp[g,i]
theorem diskSame2(a b:gD):Dj a b=U (G (a=b)):=by rw[<-diskSame];rfl
theorem bcat5:∀(l:H uH) (a:uH),O a+(l.map O).sum<=1000000->vh BI BJ l a=U (a++l.flatten)
 |[],a,_=>by simp[lM,BJ]
 |x::l,a,h=>by
  simp only[cF,lX]at h;rw[gq,BI,gJ ⟨by omega,by omega⟩,bcat5 l (a++x) (by rw[bn];omega)];simp
theorem bcat7(a:H uH):∀(l:H uH) (n:Nat),n+(l.map O).sum<=1000000->vh BK (xV a) l (n:Int)=xV a ((n+(l.map O).sum:Nat):Int)
 |[],n,_=>by simp[lM]
 |x::l,n,h=>by
  simp only[cF,lX]at h⊢;rw[gq,BK,gI,dF V,Z1,show((n:Int)+(O x:Int))=((n+O x:Nat):Int) by omega,bcat7 a l (n+O x) V,ki]
theorem bcat(a b:uH)(h:O a+O b<=1000000):og [a,b]=U (a++b):=by
 unfold og;have:=bcat7 [a,b] [a,b] 0 (by simp;omega);rw[show((0:Nat):Int)=0 from rfl]at this;rw[this];unfold xV;rw[show H5 1 ((0+([a,b].map O).sum:Nat):Int)=U ([]:uH) by unfold H5;rw[gJ ⟨by omega,by simp;omega⟩],vf,bcat5 [a,b] [] (by simp;omega)];simp
theorem rcat5:∀(l:H (H vp)) (a:H vp),O a+(l.map O).sum<=1000000->vh CW CX l a=U (a++l.flatten)
 |[],a,_=>by simp[lM,CX]
 |x::l,a,h=>by
  simp only[cF,lX]at h;rw[gq,CW,gJ ⟨by omega,by omega⟩,rcat5 l (a++x) (by rw[bn];omega)];simp
theorem rcat7(a:H (H vp)):∀(l:H (H vp)) (n:Nat),n+(l.map O).sum<=1000000->vh CY (yP a) l (n:Int)=yP a ((n+(l.map O).sum:Nat):Int)
 |[],n,_=>by simp[lM]
 |x::l,n,h=>by
  simp only[cF,lX]at h⊢;rw[gq,CY,gI,dF V,Z1,show((n:Int)+(O x:Int))=((n+O x:Nat):Int) by omega,rcat7 a l (n+O x) V,ki]
theorem rcat(a b:H vp)(h:O a+O b<=1000000):Ch [a,b]=U (a++b):=by
 unfold Ch;have:=rcat7 [a,b] [a,b] 0 (by simp;omega);rw[show((0:Nat):Int)=0 from rfl]at this;rw[this];unfold yP;rw[show H5 80 ((0+([a,b].map O).sum:Nat):Int)=U ([]:H vp) by unfold H5;rw[gJ ⟨by omega,by simp;omega⟩],vf,rcat5 [a,b] [] (by simp;omega)];simp
def zD:gD:=⟨[],[]⟩
def lG(d:gD):Int:=if 60000<O d.B\/60000<O d.B+O d.z then 2 else(ln 120 d.B).2.2
theorem JZ(N:Nat)(hN:60002<=N)(d:gD)(b:O d.z<=9223372036854775807):zi N d=U (lG d):=by
  unfold zi lG;by_cases h:60000<O d.B
  · rw[dT V,ZW,Z2 (.inl h)];rfl
  · rw[dF V,Z1,gI];by_cases a:60000<O d.B+O d.z
    · rw[dT V,Z2 (.inr a)];rfl
    · rw[dF V,Z3 V];unfold I8;rw[Z1,Kf N d.B 120 hN V V,vf]
theorem S0(d:gD)(b:O d.z<=9223372036854775807):qb d=U (lG d):=by
  unfold qb lG;by_cases h:60000<O d.B
  · rw[dT V,ZW,Z2 (.inl h)];rfl
  · rw[dF V,Z1,gI];by_cases a:60000<O d.B+O d.z
    · rw[dT V,Z2 (.inr a)];rfl
    · rw[dF V,Z3 V];unfold uj;rw[Z1,YY d.B 120 V,vf]
theorem uO{d:gD}(h:lG d=0):O d.B+O d.z<=60000/\(ln 120 d.B).2.2=0:=by
  unfold lG at h;split at h
  · cases h
  · exact⟨by omega,h⟩
def YZ(d:gD)(r:vp):gD×Int:=
 if(zM r).2≠0 then(zD,(zM r).2)else if 60000<O d.B+O d.z+O (zM r).1+1 then(zD,2)else(⟨d.B,d.z++(zM r).1++[10]⟩,0)
def E8(d:gD)(r:vp):gD×Int:=if lG d≠0 then(zD,lG d)else YZ d r
theorem text_len{r:vp}(w:Fk r):O (zM r).1<=27390:=by
  unfold zM;split
  · rename_i h;have g:=JY r (by rw[<-DS];exact h);have a:=Ge 32 21 ((nl r).map ey) (by intro x c;obtain⟨y,b,rfl⟩:=fW.1 c;exact itoa_len (nl_ok g w y b));have d:=YX g;rw[dr]at a;show O (DZ 32 ((nl r).map ey))<=_;omega
  · simp
theorem put_eq(N:Nat)(hN:60002<=N)(d:gD)(r:vp)(c:O d.z<=9223372036854775807)(w:Fk r):Mo N d r=U (E8 d r):=by
  unfold Mo E8 YZ;rw[JZ N hN d c,vf];by_cases h:lG d=0
  · obtain⟨e,_⟩:=uO h;have f:=text_len w;rw[dF V,Z1,Z3 V,print_eq r (λ_=>w),vf];by_cases a:(zM r).2=0
    · rw[dF V,Z1,Z3 V,gI,gI,gI];by_cases b:60000<O d.B+O d.z+O (zM r).1+1
      · rw[dT V,ZW,Z2 b];rfl
      · rw[dF V,Z1,Z3 b,vZ V V,vf,vZ V V,vf,gJ ⟨by omega,by omega⟩,gJ ⟨by simp;omega,by simp;omega⟩]
    · rw[dT a,ZW,Z2 a];rfl
  · rw[dT h,ZW,Z2 h];rfl
theorem putOn_eq(d:gD)(r:vp)(h:lG d=0)(w:Fk r):su d r=U (YZ d r):=by
  obtain⟨c,_⟩:=uO h;have e:=text_len w;unfold su YZ;rw[text_eq r (λ_=>w),vf];by_cases a:(zM r).2=0
  · rw[dF V,Z1,Z3 V,gI,gI,gI];by_cases b:60000<O d.B+O d.z+O (zM r).1+1
    · rw[dT V,ZW,Z2 b];rfl
    · rw[dF V,Z1,Z3 b,gJ (by simp;omega),gJ (by simp;omega),bcat _ _ (by simp;omega),vf,cy]
  · rw[dT a,ZW,Z2 a];rfl
def P4(d:gD):gD×Int:=if lG ⟨d.B++d.z,[]⟩≠0 then(zD,lG ⟨d.B++d.z,[]⟩)else(⟨d.B++d.z,[]⟩,0)
def Vb(d:gD):gD×Int:=if lG d≠0 then(zD,lG d)else P4 d
theorem sync_eq(N:Nat)(hN:60002<=N)(d:gD)(b:O d.z<=9223372036854775807):PW N d=U (Vb d):=by
  unfold PW Vb P4;rw[JZ N hN d b,vf];by_cases h:lG d=0
  · obtain⟨c,_⟩:=uO h;rw[dF V,Z1,Z3 V,bcat _ _ V,vf,JZ N hN _ C3,vf];by_cases a:lG ⟨d.B++d.z,[]⟩=0
    · rw[dF V,Z1,Z3 V]
    · rw[dT a,ZW,Z2 a];rfl
  · rw[dT h,ZW,Z2 h];rfl
theorem synced_eq(d:gD)(h:lG d=0):xN d=U (P4 d):=by
  obtain⟨b,_⟩:=uO h;unfold xN P4;rw[bcat _ _ V,vf,S0 _ C3,vf];by_cases a:lG ⟨d.B++d.z,[]⟩=0
  · rw[dF V,Z1,Z3 V]
  · rw[dT a,ZW,Z2 a];rfl
def Xz(d:gD)(n:Int):gD×Int:=if lG d≠0 then(zD,lG d)else if n<0\/(O d.z:Int)<n then(zD,3)else(⟨d.B,d.z.take n.toNat⟩,0)
theorem crash_eq(N:Nat)(hN:60002<=N)(d:gD)(n:Int)(b:O d.z<=9223372036854775807):MG N d n=U (Xz d n):=by
  unfold MG Xz;rw[JZ N hN d b,vf];by_cases h:lG d=0
  · obtain⟨c,_⟩:=uO h;rw[dF V,Z1,Z3 V];by_cases a:n<0\/(O d.z:Int)<n
    · rw[show(G (n<0)||G ((O d.z:Int)<n))=bd by simpa using a,ZW,Z2 a];rfl
    · rw[show(G (n<0)||G ((O d.z:Int)<n))=aw by simp;omega,Z1,Z3 a];obtain⟨m,rfl⟩:=cl (show 0<=n by omega);rw[show(0:Int)=((0:Nat):Int)from rfl,R7 V V,vf,vZ V V,vf,vZ (by simp;omega) (by simp;omega),vf,fg,ba]
  · rw[dT h,ZW,Z2 h];rfl
def Wp(d:gD):gD×H vp:=
 (⟨d.B++d.z.take (ln (120-(O (ln 120 d.B).1:Int)) d.z).2.1.toNat,[]⟩,(ln 120 d.B).1++(ln (120-(O (ln 120 d.B).1:Int)) d.z).1)
def IL(d:gD):gD×H vp×Int:=if lG d≠0 then(zD,[],lG d)else((Wp d).1,(Wp d).2,0)
theorem FU(a:Int)(s:uH):0<=(ln a s).2.1/\(ln a s).2.1<=O s/\O (ln a s).1<=O s+1/\(0<=a->(O (ln a s).1:Int)<=a):=by
 have h:=lnP_len a (mH 10 s) [] 0<|Int.le_refl 0;have b:=EN 10 s;rw[Cs]at h;unfold ln;simp only[iv]at h;omega
theorem recover_eq(N:Nat)(hN:60002<=N)(d:gD)(a:O d.z<=9223372036854775807):wm N d=U (IL d):=by
  unfold wm IL Wp;rw[JZ N hN d a,vf];by_cases h:lG d=0
  · obtain⟨c,_⟩:=uO h;have k1:=FU 120 d.B;rw[dF V,Z1,Z3 V,Kf N d.B 120 hN V V,vf,gI,Kf N d.z _ hN V V,vf];have k2:=FU (120-(O (ln 120 d.B).1:Int)) d.z;generalize ln (120-(O (ln 120 d.B).1:Int)) d.z=y at*;obtain⟨f,e,b⟩:=y;simp only at k2⊢;obtain⟨m,rfl⟩:=cl k2.1;rw[show(0:Int)=((0:Nat):Int)from rfl,R7 V V,vf,fg,bcat _ _ (by simp;omega),vf,gJ ⟨by omega,by omega⟩,ba]
  · rw[dT h,ZW,Z2 h];rfl
theorem K4(d:gD)(h:lG d=0):jl d=U (Wp d):=by
 obtain⟨b,_⟩:=uO h;unfold jl Wp;have k1:=FU 120 d.B;rw[YY d.B 120 V,vf,gI,YY d.z _ V,vf];have k2:=FU (120-(O (ln 120 d.B).1:Int)) d.z;generalize ln (120-(O (ln 120 d.B).1:Int)) d.z=y at*;obtain⟨e,c,a⟩:=y;simp only at k2⊢;obtain⟨m,rfl⟩:=cl k2.1;rw[show(0:Int)=((0:Nat):Int)from rfl,R7 V V,vf,fg,bcat _ _ (by simp;omega),vf,rcat _ _ V,vf,ba]
def lineOf(r:vp):uH:=DZ 32 ((nl r).map ey)
def GoodL(l:H vp):Prop:=∀r∈l,iK r=0/\Fk r
def NO:H vp->uH
 |[]=>[]
 |r::l=>lineOf r++10::NO l
theorem Wb:∀(a b:H vp),NO (a++b)=NO a++NO b
 |[],b=>rfl
 |r::a,b=>by simp[NO,Wb a b]
theorem Vd:GoodL []:=λr h=>by cases h
theorem coSame(a b:H Co):L6 a b=U (G (a=b)):=by
  unfold L6;by_cases h:O a=O b
  · rw[dF V];simp only[Z1];rw[Q5 (λx y=>G (x=y)) a b h rfl (λi x y j c=>by
      unfold TC Gl;rw[kF,c];simp only[vf,eqInt];have e:(((G (x.x=y.x)&&G (x.k=y.k))&&G (x.E=y.E))&&G (x.t=y.t))=G (x=y):=by
        cases x;cases y;rw[dv];simp;exact⟨λ⟨⟨⟨f,c⟩,g⟩,d⟩=>⟨f,c,d,g⟩,λ⟨f,c,d,g⟩=>⟨⟨⟨f,c⟩,g⟩,d⟩⟩
      rw[<-e];cases ((G (x.x=y.x)&&G (x.k=y.k))&&G (x.E=y.E))<;>cases G (x.t=y.t)<;>rfl),Cb (λ_ _=>rfl)]
  · rw[dT V];have:a≠b:=λe=>h (by rw[e]);rw[dF this];rfl
def coOk(x:Co):Prop:=0<=x.x/\x.x<=2/\1<=x.k/\x.k<=100/\ -1<=x.E/\x.E<=2/\1<=O x.t/\O x.t<=1200
def rg(x:Co):Yi:=(((((G ((x.x:Int)<0)||G ((3:Int)<=x.x))||G ((x.k:Int)<1))||G ((100:Int)<x.k))||G ((x.E:Int)< -1))||G ((3:Int)<=x.E))
def mn(x:Co):Yi:=(G (((O x.t:Int):Int)=0)||G ((1200:Int)<(O x.t:Int)))
theorem rg_eq(x:Co):(((!(aQ x.x 0 2))||(!(aQ x.k 1 100)))||(!(aQ x.E (-1) 2)))=rg x:=by
 unfold aQ rg;rw[dv];simp;omega
theorem mn_eq(x:Co):(!(aQ (O x.t:Int) 1 1200))=mn x:=by
 have hn:0<=(O x.t:Int):=by omega
 unfold aQ mn;generalize (O x.t:Int)=n at hn⊢;rw[dv];simp;omega
theorem coOk_iff(x:Co):coOk x↔rg x=aw/\mn x=false:=by
 have hn:0<=(O x.t:Int):=by omega
 unfold coOk rg mn;rw[show(1<=O x.t)=(1<=(O x.t:Int)) by simp;omega,show(O x.t<=1200)=((O x.t:Int)<=1200) by simp;omega];generalize (O x.t:Int)=n at hn⊢;simp;omega
theorem chkEq(a:H Co):Ol a=U (gM a):=by
  unfold Ol gM;by_cases h:(3:Int)<(O a:Int)
  · rw[dT h];rfl
  · rw[dF h];simp only[Z1];have f:∀(k:H Co) (i:Nat) (last:Int),(∀j,k[j]? =a[i+j]?)->(i=0->last= -1)->(∀j,i=j+1->∃y,a[j]? =U y/\y.x=last)->i<=O a->ib (Gi a) Kg (i:Int) k ()=U (vh ma nO k last):=by
      intro k;induction k with
      |nil=>intro i last _ _ _ _;rfl
      |cons x k ih=>
        intro i last g p o hi;rw[AP,gq];have d:a[i]? =U x:=by have:=g 0;simpa using this.symm
        have n:i<O a:=by
          rcases cH i (O a) with h|h
          · exact h
          · rw[bG h]at d;cases d
        have b:=ih (i+1) x.x (λj=>by have:=g (j+1);simpa[ki,Nat.add_comm 1 j]using this) V (λj m=>⟨x,by rw[show j=i by omega];exact d,Z⟩) V;rw[show((i+1:Nat):Int)=(i:Int)+1 from rfl]at b;generalize ib (Gi a) Kg ((i:Int)+1) k=nx at b⊢;generalize vh ma nO k=nx2 at b⊢;unfold Gi ma;rw[rg_eq,mn_eq,<-rg,<-mn];cases hr:rg x with
        |true=>rfl
        |false=>
        cases hm:mn x with
        |true=>rfl
        |false=>
        have e:=(coOk_iff x).2 ⟨hr,hm⟩;simp only[Z1];unfold Gh;cases i with
        |zero=>
          rw[p rfl,dF (show¬x.x<= -1 by have:=e.1;omega)];simpa using b
        |succ j=>
          obtain⟨y,l,c⟩:=o j Z;rw[dT (show(0:Int)<((j+1:Nat):Int) by omega),show((j+1:Nat):Int)-1=(j:Int) by omega,gI,kF,l];simp only[ZW,vf,c];cases G (x.x<=last)with
          |true=>rfl
          |false=>exact b
    exact f a 0 (-1) (λj=>by simp) (λ_=>rfl) (λj m=>by omega) V
abbrev Up(l:H Co):Prop:=l.Pairwise (λx y=>x.x<y.x)
theorem each_ok:∀(l:H Co) (last:Int),vh ma nO l last=0↔(∀x∈l,coOk x)/\Up l/\∀x∈l,last<x.x
  |[],last=>by simp[lM,nO]
  |x::r,last=>by
    rw[gq];have f:=each_ok r x.x;generalize vh ma nO r=nx at f⊢;unfold ma;rw[rg_eq,mn_eq];have b:=coOk_iff x;cases hr:rg x with
    |true=>
      simp only[ZW];constructor
      · intro h;exact ZD h tz
      · intro h;have:=(b.1<|h.1 x fo).1;rw[hr]at this;cases this
    |false=>
    cases hm:mn x with
    |true=>
      simp only[ZW,Z1];constructor
      · intro h;exact ZD h tz
      · intro h;have:=(b.1<|h.1 x fo).2;rw[hm]at this;cases this
    |false=>
    have ho:=b.2 ⟨hr,hm⟩;simp only[Z1];by_cases hl:x.x<=last
    · rw[dT hl];simp only[ZW];constructor
      · intro h;exact ZD h tz
      · intro h;have:=h.2.2 x fo;omega
    · rw[dF hl];simp only[Z1];rw[f];show _↔_/\ua _ (x::r)/\_;rw[dK];constructor
      · rintro⟨d,e,c⟩;refine⟨?_,⟨c,e⟩,?_⟩
        · intro y a;rcases bs.1 a with rfl|a
          · exact ho
          · exact d y a
        · intro y a;rcases bs.1 a with rfl|a
          · omega
          · have:=c y a;omega
      · rintro⟨d,⟨e,c⟩,g⟩;exact⟨λy a=>d y<|bo _ a,c,e⟩
structure Good(l:List Co):Prop where
 len:l.length<=3
 ok:∀x∈l,coOk x
 up:Up l
theorem IA(l:H Co):gM l=0↔Good l:=by
  unfold gM;by_cases h:(3:Int)<(O l:Int)
  · rw[dT h];simp only[ZW];exact⟨λh=>ZD h tz,λg=>by have:=g.len;omega⟩
  · rw[dF h];simp only[Z1];rw[each_ok];exact⟨λ⟨a,b,_⟩=>⟨by omega,a,b⟩,λg=>⟨g.ok,g.up,λx c=>by have:=(g.ok x c).1;omega⟩⟩
def Hg(c:Co):H Co->H Co
 |[]=>[c]
 |x::r=>if x.x<c.x then x::Hg c r else c::x::r
def Lp(b:vp)(l:H Co):H Co:=l.filter λx=>G (x.x≠b.s)
def Dq(b:vp)(l:H Co):B Co:=l.find? λx=>G (x.x=b.s)
def oL(a:H Co)(b:vp):H Co×Int:=
 if gM a≠0 then([],gM a)else if eH b≠0 then([],eH b)else
 match Dq b a with
 |none=>if b.h=1\/b.h=4 then(if(G (b.k=1) !=G (b.h=1))=bd then([],7)else(Hg ⟨b.s,b.k,b.t,-1⟩ (Lp b a),0))else([],5)
 |some c=>if b.h=1\/b.h=4 then([],6)else if(G (b.k≠c.k)||(G (c.E≠ -1) !=G (b.h=5)))=bd then([],7)else
  if b.h=5 then(Lp b a,0)else if b.h=2 then(Hg ⟨c.x,c.k,b.t,c.E⟩ (Lp b a),0)else if c.k=100 then([],2)else(Hg ⟨c.x,c.k,c.t,b.q⟩ (Lp b a),0)
theorem oth_len(b:vp)(l:H Co):O (Lp b l)<=O l:=List.length_filter_le _ _
theorem oth_up(b:vp){l:H Co}(h:Up l):Up (Lp b l):=h.filter _
theorem VV{b:vp}{l:H Co}{x:Co}(h:x∈Lp b l):x∈l/\x.x≠b.s:=by
 unfold Lp at h;rw[AK]at h;exact⟨h.1,by simpa using h.2⟩
theorem coCopy{a:H Co}(h:O a<=3)(e:∀x∈a,O x.t<=1200):LY a=U a:=by
 unfold LY;rw[vZ V V];simp only[vf,ba];have c:∀(m i:Nat),i+m=O a->zE BA I9 (i:Int) m a=U a:=by
  intro m;induction m with
  |zero=>intro i _;rfl
  |succ m ih=>
   intro i hi;have d:i<O a:=by omega
   show BA (i:Int) a (zE BA I9 ((i:Int)+1) m)=_;have b:=ih (i+1) V;rw[show((i+1:Nat):Int)=(i:Int)+1 from rfl]at b;generalize zE BA I9 ((i:Int)+1) m=nx at b⊢;unfold BA;rw[rE d];have:=e a[i]<|cv d;simp only[vf];rw[vZ V V];simp only[vf,ba];rw[show({a[i]with t:=a[i].t}:Co)=a[i]from rfl,pA];exact b
 simpa using c (O a) 0 V
theorem findEq(a:H Co)(k:Int):vJ a k=U (match a.findIdx? (λx=>G (x.x=k))with|some n=>(n:Int)|none=> -1):=by
 unfold vJ;simp only[ba];rw[Ps (λx=>G (x.x=k)) (λi=>U i) a (λi x c b=>by
  unfold Wz;rw[kF,b];rfl)]
 cases a.findIdx? (λx=>G (x.x=k))<;>rfl
theorem E7(b:vp):∀(a:H Co),(Dq b a=bh/\a.findIdx? (λx=>G (x.x=b.s))=bh/\Lp b a=a)\/
    ∃n x,Dq b a=U x/\a.findIdx? (λx=>G (x.x=b.s))=U n/\a[n]? =U x/\x.x=b.s
  |[]=>.inl ⟨rfl,rfl,rfl⟩
  |x::r=>by
    unfold Dq Lp;rw[List.find?_cons,sa,hS];by_cases h:x.x=b.s
    · exact .inr ⟨0,x,by simp[h],by simp[h],Z,h⟩
    · simp only[h,decide_false,cL,if_false,ne_eq,not_false_eq_true,decide_true,if_true];rcases E7 b r with⟨h1,h2,h3⟩|⟨n,y,h1,h2,h3,h4⟩
      · exact .inl ⟨h1,by rw[h2];rfl,by unfold Lp at h3;rw[h3]⟩
      · exact .inr ⟨n+1,y,h1,by rw[h2];rfl,by simpa using h3,h4⟩
theorem HH(b:vp):∀(a:H Co) (n:Nat) (x y:Co),Up a->a[n]? =U x->x.x=b.s->y.x=b.s->a.set n y=Hg y (Lp b a)
 |[],n,x,y,_,h,_,_=>by simp at h
 |z::r,0,x,y,hu,h,hx,hy=>by
  simp only[oV,Option.some.injEq]at h;subst h;rw[Up,dK]at hu;have d:Lp b (z::r)=r:=by
   unfold Lp;rw[hS,Z3 (by simp[hx]),rB];intro u c;have:=hu.1 u c;simp;omega
  rw[d,List.set_cons_zero];cases r with
  |nil=>rfl
  |cons u r=>
   have:=hu.1 u fo;simp only[Hg];rw[Z3 V]
 |z::r,n+1,x,y,hu,h,hx,hy=>by
  simp only[ur]at h;rw[Up,dK]at hu;have e:=hu.1 x<|hJ h;have d:Lp b (z::r)=z::Lp b r:=by unfold Lp;rw[hS,Z2 (by simp;omega)]
  rw[d,List.set_cons_succ,HH b r n x y hu.2 h hx hy];simp only[Hg];rw[Z2 V]
theorem Wg(b:vp):∀(a:H Co) (n:Nat) (x:Co),Up a->a[n]? =U x->x.x=b.s->a.take n++a.drop (n+1)=Lp b a
 |[],n,x,_,h,_=>by simp at h
 |z::r,0,x,hu,h,hx=>by
  simp only[oV,Option.some.injEq]at h;subst h;rw[Up,dK]at hu;unfold Lp;rw[hS,Z3 (by simp[hx])];have:r.filter (λx=>decide<|x.x≠b.s)=r:=by
   rw[rB];intro u c;have:=hu.1 u c;simp;omega
  rw[this];simp
 |z::r,n+1,x,hu,h,hx=>by
  simp only[ur]at h;rw[Up,dK]at hu;have e:=hu.1 x<|hJ h;have d:Lp b (z::r)=z::Lp b r:=by unfold Lp;rw[hS,Z2 (by simp;omega)]
  rw[d,<-Wg b r n x hu.2 h hx];simp
theorem ins_loop(b:vp)(a:H Co)(e:O a<=3)(d:O b.t<=1200):∀(k i N:Nat),i+k=O a->k<N->zy (qi a b) N (i:Int)=U (a.take i++Hg ⟨b.s,b.k,b.t,-1⟩ (a.drop i),0)
  |0,i,N+1,h,_=>by
    show qi a b (i:Int) (zy (qi a b) N)=_;generalize zy (qi a b) N=nx;unfold qi Cy;rw[dF V];simp only[Z1];rw[vZ V V];simp only[vf];rw[gJ (Room.mk (by simp;omega) (by simp;omega)),ins1,Z2 ⟨by omega,by omega⟩];rw[cq (show O a<=i by omega)];simp[Hg,show a.drop i=[]from cq V]
  |k+1,i,N+1,h,hN=>by
    have hi:i<O a:=by omega
    have c:=ins_loop b a e d k (i+1) N V V;rw[show((i+1:Nat):Int)=(i:Int)+1 from rfl]at c;show qi a b (i:Int) (zy (qi a b) N)=_;generalize zy (qi a b) N=nx at c⊢;unfold qi Cy;rw[dT V,rE hi];simp only[ZW,vf];by_cases hl:a[i].x<b.s
    · rw[dT hl];simp only[ZW];rw[gI,c,cp hi];simp only[Hg];rw[Z2 hl,List.take_succ_eq_append_getElem hi,cy,vl]
    · rw[dF hl];simp only[Z1];rw[vZ V V];simp only[vf];rw[gJ (Room.mk (by simp;omega) (by simp;omega)),ins1,Z2 ⟨by omega,by omega⟩];simp only[vf,ba];rw[cp hi];simp only[Hg];rw[Z3 hl,cy,vl]
theorem V1(N:Nat)(hN:5<N)(a:H Co)(b:vp):Im N a b=U (oL a b):=by
  unfold Im oL;rw[chkEq];simp only[vf];by_cases f:gM a=0
  · rw[DS];by_cases j:eH b=0
    · have g:=(IA a).1 f;have gr:=JY b j;have gl:=g.len;rw[f,j];simp only[ne_eq,not_true_eq_false,decide_false,Z1,if_false];rw[coCopy g.len (λx r=>(g.ok x r).2.2.2.2.2.2.2)];simp only[vf];rw[findEq];simp only[vf];have p:=gr.h;have e:(G ((b.h:Int)=1)||G ((b.h:Int)=4))=G (b.h=1\/b.h=4):=by simp
      rw[e];rcases E7 b a with⟨e1,e2,e3⟩|⟨n,c,e1,e2,e3,e4⟩
      · rw[e1,e2];simp only;by_cases d:b.h=1\/b.h=4
        · rw[dT d,Z2 d];simp only[ZW];rw[show G ((0:Int)<= -1)=aw by decide];simp only[Z1];have t:((G ((b.h:Int)=1)&&G ((b.k:Int)≠1))||(G ((b.h:Int)=4)&&G ((b.k:Int)=1)))=(G (b.k=1) !=G (b.h=1)):=by
            by_cases q:b.k=1
            · rcases d with k|k<;>simp[q,k]
            · rcases d with k|k<;>simp[q,k]
          rw[t];cases (G (b.k=1) !=G (b.h=1))with
          |true=>rfl
          |false=>
            simp only[Z1,cL,if_false];have:=ins_loop b a g.len gr.t (O a) 0 N V V;simp only[Int.natCast_zero,List.take_zero,fg,ck]at this;rw[this,e3]
        · rw[dF d,Z3 d];simp only[Z1];rw[show G ((-1:Int)<0)=bd by decide];rfl
      · have hn:n<O a:=by
          rcases cH n (O a) with h|h
          · exact h
          · rw[bG h]at e3;cases e3
        have l:=g.ok c<|hJ e3;rw[e1,e2];simp only;by_cases d:b.h=1\/b.h=4
        · rw[dT d,Z2 d];simp only[ZW];rw[dT (show(0:Int)<=(n:Int) by omega)];rfl
        · rw[dF d,Z3 d];simp only[Z1];rw[dF (show¬(n:Int)<0 by omega),kF,e3];simp only[Z1,vf];have ho:G ((0:Int)<=c.E)=G (c.E≠ -1):=by
            rw[decide_eq_decide];have:=l.2.2.2.2.1;omega
          have s:(bif G (c.k≠b.k)then xg b a (n:Int) c bd else xg b a (n:Int) c (G (b.h=5) !=G ((0:Int)<=c.E)))=xg b a (n:Int) c (G (b.k≠c.k)||(G (c.E≠ -1) !=G (b.h=5))):=by
            rw[ho];by_cases q:b.k=c.k
            · rw[q];simp only[ne_eq,not_true_eq_false,decide_false,Z1,ml];cases G (b.h=5)<;>cases G (¬c.E= -1)<;>rfl
            · rw[show G (c.k≠b.k)=bd from dT (λh=>q h.symm),show G (b.k≠c.k)=bd from dT q];rfl
          refine s.trans ?_;unfold xg;cases (G (b.k≠c.k)||(G (c.E≠ -1) !=G (b.h=5)))with
          |true=>rfl
          |false=>
            simp only[Z1,cL,if_false];by_cases k2:b.h=2
            · rw[dT k2,Z3 V,Z2 k2];simp only[ZW];rw[vZ (by have:=gr.t;omega) (by have:=gr.t;omega)];simp only[vf,ba];rw[HH b a n c {c with t:=b.t} g.up e3 e4 e4]
            · rw[dF k2,Z3 k2];simp only[Z1];by_cases o:b.h=3
              · rw[dT o,Z3 V];simp only[ZW];by_cases i:c.k=100
                · rw[dT i,Z2 i];rfl
                · rw[dF i,Z3 i];simp only[Z1,ba];rw[HH b a n c {c with E:=b.q} g.up e3 e4 e4]
              · have m:b.h=5:=by omega
                rw[dF o,dT m,Z2 m];simp only[Z1,ZW];rw[gI,del_s1 hn];simp only[vf];rw[Wg b a n c g.up e3 e4]
    · rw[f];simp only[ne_eq,not_true_eq_false,decide_false,Z1,if_false];rw[show G (¬eH b=0)=bd from dT j,Z2 j];rfl
  · rw[show G (gM a≠0)=bd from dT f,Z2 f];rfl
def ze:H Co->H vp->H Co×Int
 |s,[]=>(s,0)
 |s,r::l=>if(oL s r).2≠0 then([],(oL s r).2)else ze (oL s r).1 l
theorem rep_each(N:Nat)(hN:5<N):∀(l:H vp) (s:H Co),vh (Kh N) Ki l s=U (ze s l)
  |[],s=>by simp[lM,Ki,ze]
  |r::l,s=>by
    rw[gq,Kh,V1 N hN,vf,ze];by_cases h:(oL s r).2=0
    · rw[dF V,Z1,Z3 V,rep_each N hN l]
    · rw[dT h,ZW,Z2 h]
theorem Qy(N:Nat)(hN:5<N)(l:H vp):Gj N l=U (if 120<O l then([],2)else ze [] l):=by
  unfold Gj;by_cases h:120<O l
  · rw[dT V,ZW,Z2 h]
  · rw[dF V,Z1,Z3 h,rep_each N hN]
theorem Ve{c y:Co}:∀{l:H Co},y∈Hg c l↔y=c\/y∈l
  |[]=>by simp[Hg]
  |x::r=>by
    unfold Hg;split
    · rw[bs,Ve,bs];constructor
      · rintro(h|h|h)
        · exact .inr<|.inl h
        · exact .inl h
        · exact .inr<|.inr h
      · rintro(h|h|h)
        · exact .inr<|.inl h
        · exact .inl h
        · exact .inr<|.inr h
    · rw[bs]
theorem J5{c:Co}:∀{l:H Co},O (Hg c l)=O l+1
  |[]=>rfl
  |x::r=>by
    unfold Hg;split
    · rw[bw,J5,bw]
    · rfl
theorem insC_up{c:Co}:∀{l:H Co},Up l->(∀x∈l,x.x≠c.x)->Up (Hg c l)
  |[],_,_=>by simp[Hg,Up]
  |x::r,h,hn=>by
    rw[Up,dK]at h;have b:=hn x fo;unfold Hg;split
    · next hl=>
      show ua _ _;rw[dK];refine⟨λy a=>?_,insC_up h.2 λy a=>hn y<|bo _ a⟩;rcases Ve.1 a with rfl|a
      · exact hl
      · exact h.1 y a
    · next hl=>
      show ua _ _;rw[dK,dK];refine⟨λy a=>?_,h.1,h.2⟩;rcases bs.1 a with rfl|a
      · omega
      · have:=h.1 y a;omega
theorem find_of{l:H Co}(b:Up l){x:Co}(a:x∈l):∃n,l.findIdx? (λy=>G (y.x=x.x))=U n/\l[n]? =U x/\n<O l:=by
  induction l with
  |nil=>cases a
  |cons z r ih=>
    rw[Up,dK]at b;rw[sa];rcases bs.1 a with rfl|a
    · exact⟨0,by simp,Z,by simp⟩
    · have:=b.1 x a;obtain⟨n,c,d,e⟩:=ih b.2 a;exact⟨n+1,by rw[Z3 (by simp;omega),c];rfl,by simpa using d,by simp;omega⟩
theorem next_ok(a:H Co)(b:vp)(h:(oL a b).2=0):Good a/\Good (oL a b).1/\O a<=O (oL a b).1+1/\O (oL a b).1<=O a+1/\(∀x∈a,x.x≠b.s->x∈(oL a b).1)/\(∀x∈a,x.x=b.s->0<=x.E->b.h=5):=by
  unfold oL at h⊢;by_cases s:gM a=0
  · by_cases t:eH b=0
    · have g:=(IA a).1 s;have gr:=JY b t;have gl:=g.len;have C:=gr.s;rw[Z3 (by simpa using s),Z3 (by simpa using t)]at h⊢;have j:∀x∈a,x.x≠b.s->x∈Lp b a:=λx f hn=>by unfold Lp;rw[AK];exact⟨f,by simpa using hn⟩
      have i:∀c:Co,coOk c->c.x=b.s->O (Lp b a)<=2->Good (Hg c (Lp b a)):=λc ry w0 hl=>⟨by rw[J5];omega,λx f=>by
        rcases Ve.1 f with rfl|f
        · exact ry
        · exact g.ok x (VV f).1,insC_up (oth_up b g.up) (λx f=>by have:=(VV f).2;omega)⟩
      rcases E7 b a with⟨e1,e2,e3⟩|⟨n,c,e1,e2,e3,e4⟩
      · rw[e1]at h⊢;simp only at h⊢;have hno:∀x∈a,x.x≠b.s:=λx f e=>by
          unfold Dq at e1;rw[List.find?_eq_none]at e1;exact e1 x f (by simpa using e)
        by_cases q:b.h=1\/b.h=4
        · rw[Z2 q]at h⊢;cases hq:(G (b.k=1) !=G (b.h=1))with
          |true=>rw[hq,Z2 Z]at h;exact ZD h tz
          |false=>
            rw[hq]at h;simp only[cL,if_false]at h⊢;have w:O a<=2:=by
              match a,g,hno with
              |[],_,_=>simp
              |[x],_,_=>simp
              |[x,y],_,_=>simp
              |[x,y,z],g,hno=>
                have K:=g.up;simp[Up]at K;have o1:=g.ok x C3;have o2:=g.ok y C3;have M:=g.ok z C3;have aq:=hno x C3;have N:=hno y C3;have ab:=hno z C3;unfold coOk at o1 o2 M;omega
              |x::y::z::u::r,g,_=>have:=g.len;simp at this
            have hi:=gr.has V;refine⟨g,i _ ⟨C.1,C.2,gr.k.1,gr.k.2,by simp,by simp,hi,gr.t⟩ Z (by rw[e3];exact w),?_,?_,λx f hn=>Ve.2 (.inr (j x f hn)),λx f e=>ZD e (hno x f)⟩
            · rw[J5,e3];omega
            · rw[J5,e3];omega
        · rw[Z3 q]at h;exact ZD h tz
      · rw[e1]at h⊢;simp only at h⊢;have hn:n<O a:=by
          rcases cH n (O a) with h|h
          · exact h
          · rw[bG h]at e3;cases e3
        have al:O (Lp b a)+1=O a:=by
          rw[<-Wg b a n c g.up e3 e4];simp;omega
        have d:=g.ok c<|hJ e3;have o:∀x∈a,x.x=b.s->x=c:=by
          intro x f p;obtain⟨m,E,F,_⟩:=find_of g.up f;rw[p,e2]at E;cases E;rw[e3]at F;exact(osi F).symm
        by_cases q:b.h=1\/b.h=4
        · rw[Z2 q]at h;exact ZD h tz
        · rw[Z3 q]at h⊢;cases hq:(G (b.k≠c.k)||(G (c.E≠ -1) !=G (b.h=5)))with
          |true=>rw[hq,Z2 Z]at h;exact ZD h tz
          |false=>
            rw[hq]at h;simp only[cL,if_false]at h⊢;have k:∀x∈a,x.x=b.s->0<=x.E->b.h=5:=by
              intro x f p P;have:=o x f p;subst this;rw[cV]at hq;have v:=hq.2;rw[show G (x.E≠ -1)=bd from dT V]at v;cases h5:G (b.h=5)with
              |true=>exact NX h5
              |false=>rw[h5]at v;cases v
            have l:∀(A:Co) x,x∈a->x.x≠b.s->x∈Hg A (Lp b a):=λA x f hn=>Ve.2<|.inr<|j x f hn;by_cases Ys:b.h=5
            · rw[Z2 Ys]at h⊢;exact⟨g,⟨by show O (Lp b a)<=3;omega,λx f=>g.ok x (VV f).1,oth_up b g.up⟩,by show O a<=O (Lp b a)+1;omega,by show O (Lp b a)<=O a+1;omega,j,k⟩
            · rw[Z3 Ys]at h⊢;by_cases k2:b.h=2
              · rw[Z2 k2]at h⊢;have hi:=gr.has V;refine⟨g,i _ ⟨d.1,d.2.1,d.2.2.1,d.2.2.2.1,d.2.2.2.2.1,d.2.2.2.2.2.1,hi,gr.t⟩ e4 V,?_,?_,l _,k⟩
                · rw[J5];omega
                · rw[J5];omega
              · rw[Z3 k2]at h⊢;by_cases p:c.k=100
                · rw[Z2 p]at h;exact ZD h tz
                · rw[Z3 p]at h⊢;have J:=gr.q;refine⟨g,i _ ⟨d.1,d.2.1,d.2.2.1,d.2.2.2.1,by show-1<=b.q;omega,J.2,d.2.2.2.2.2.2.1,d.2.2.2.2.2.2.2⟩ e4 V,?_,?_,l _,k⟩
                  · rw[J5];omega
                  · rw[J5];omega
    · rw[Z3 (by simpa using s),Z2 t]at h;exact ZD h t
  · rw[Z2 s]at h;exact ZD h s
theorem mailEq(x y:dW):(((((G (x.from_=y.from_)&&G (x.y=y.y))&&G (x.s=y.s))&&G (x.k=y.k))&&(x.G==y.G))&&G (x.t=y.t))=G (x=y):=by
 cases x;cases y;rw[dv];simp[and_assoc]
theorem wSame(a b:H dW):UF a b=U (G (a=b)):=by
  unfold UF;by_cases h:O a=O b
  · rw[show G (((O a:Int):Int)≠(O b:Int))=aw by simp[h]];simp only[Z1];rw[Q5 (λx y=>G (x=y)) a b h rfl (λi x y d c=>by
      unfold D3 KZ;rw[kF,c,<-mailEq];simp only[vf,eqInt];cases ((((G (x.from_=y.from_)&&G (x.y=y.y))&&G (x.s=y.s))&&G (x.k=y.k))&&(x.G==y.G))<;>cases G (x.t=y.t)<;>rfl),Cb (λ_ _=>rfl)]
  · rw[show G (((O a:Int):Int)≠(O b:Int))=bd by simp;omega];have:a≠b:=λe=>h (by rw[e]);simp[this]
theorem rSame(a b:H dW):yV a b=U (G (a=b)):=by
 have:yV=UF:=rfl;rw[this,wSame]
theorem yB(a:H dW):eG a=tu a:=by
  have h:AR=zl:=by
    funext x s nx;unfold AR zl aQ;have d:(((((((G ((x.from_:Int)<0)||G ((3:Int)<=x.from_))||G ((x.y:Int)<0))||G ((3:Int)<=x.y))||G ((x.s:Int)<0))||G ((3:Int)<=x.s))||G ((x.k:Int)<2))||G ((100:Int)<x.k))=((((!(G ((0:Int)<=x.from_)&&G (x.from_<=2)))||(!(G ((0:Int)<=x.y)&&G (x.y<=2))))||(!(G ((0:Int)<=x.s)&&G (x.s<=2))))||(!(G ((2:Int)<=x.k)&&G (x.k<=100)))):=by
      rw[dv];simp;omega
    rw[d];congr 2;generalize (O x.t)=n;rcases Nat.eq_zero_or_pos n with h0|h0
    · subst h0;cases x.G<;>rfl
    · have f:G ((n:Int)=0)=false:=decide_eq_false V;have c:G ((0:Int)<(n:Int))=true:=decide_eq_true V;have e:G ((1:Int)<=(n:Int))=true:=decide_eq_true V;rw[f,c,e];by_cases b:(n:Int)<=1200
      · rw[decide_eq_true b,decide_eq_false (show¬(1200:Int)<n by omega)];cases x.G<;>rfl
      · rw[decide_eq_false b,decide_eq_true (show(1200:Int)<n by omega)];cases x.G<;>rfl
  unfold eG tu;rw[h];rfl
theorem GC{a:H dW}(h:eG a=0):O a<=40/\∀x∈a,O x.t<=1200:=by
  unfold eG at h;by_cases c:(40:Int)<(O a:Int)
  · rw[decide_eq_true c]at h;cases h
  · rw[decide_eq_false c]at h;refine⟨by omega,?_⟩;simp only[Z1]at h;clear c;induction a with
    |nil=>intro x b;cases b
    |cons y r ih=>
      rw[gq]at h;unfold AR at h;generalize e:(((((((G ((y.from_:Int)<0)||G ((3:Int)<=y.from_))||G ((y.y:Int)<0))||G ((3:Int)<=y.y))||G ((y.s:Int)<0))||G ((3:Int)<=y.s))||G ((y.k:Int)<2))||G ((100:Int)<y.k))=A at h;cases A with
      |true=>cases h
      |false=>
        simp only[Z1]at h;generalize d:((y.G !=G (((O y.t:Int):Int)=0))||G ((1200:Int)<(O y.t:Int)))=Ys at h;cases Ys with
        |true=>cases h
        |false=>
          simp only[Z1]at h;intro x b;rcases bs.1 b with rfl|b
          · simp only[cV,decide_eq_false_iff_not]at d;omega
          · exact ih h x b
theorem wCopy{a:H dW}(h:O a<=40)(d:∀x∈a,O x.t<=1200):Gs a=U a:=by
 unfold Gs;rw[vZ V V];simp only[vf,ba];have b:∀(m i:Nat),i+m=O a->zE Ju TQ (i:Int) m a=U a:=by
  intro m;induction m with
  |zero=>intro i _;rfl
  |succ m ih=>
   intro i hi;have c:i<O a:=by omega
   show Ju (i:Int) a (zE Ju TQ ((i:Int)+1) m)=_;unfold Ju;rw[rE c];have:=d a[i]<|cv c;simp only[vf];rw[vZ V V];simp only[vf,ba];rw[show({a[i]with t:=a[i].t}:dW)=a[i]from rfl,pA];exact ih (i+1) V
 simpa using b (O a) 0 V
theorem b_t{p:Prop} [Decidable p](h:p):decide p=true:=decide_eq_true h
theorem b_f{p:Prop} [Decidable p](h:¬p):decide p=false:=decide_eq_false h
theorem wSend(a:H dW)(b:dW):TW a b=U (if eG a≠0 then([],eG a)else if eG [b]≠0 then([],eG [b])else(if O a<40 then a++[b]else a,0)):=by
  unfold TW;by_cases c:eG a≠0
  · rw[b_t c,Z2 c];rfl
  · rw[b_f c,Z3 c];by_cases d:eG [b]≠0
    · rw[b_t d,Z2 d];rfl
    · rw[b_f d,Z3 d];have c1:=GC<|eR.1 c;have c2:=GC<|eR.1 d;simp only[Z1,wCopy c1.1 c1.2,wCopy c2.1 c2.2,vf];by_cases e:(O a:Int)<40
      · rw[b_t e,Z2 V];simp only[ZW];exact gJ (Room.mk (by simp;omega) (by simp;omega))
      · rw[b_f e,Z3 V];rfl
def zMail:dW:=⟨0,0,0,0,aw,[]⟩
theorem wTake(a:H dW)(k:Int)(t:Yi):Ml a k t=U (if eG a≠0 then([],zMail,eG a)else if k<0\/(O a:Int)<=k then([],zMail,5)else(if t then a else a.take k.toNat++a.drop (k.toNat+1),(a[k.toNat]?).getD zMail,0)):=by
  unfold Ml Oo;by_cases b:eG a≠0
  · rw[b_t b,Z2 b];rfl
  · rw[b_f b,Z3 b];have c1:=GC<|eR.1 b;by_cases c:k<0\/(O a:Int)<=k
    · rw[show(G (k<0)||G ((O a:Int)<=k))=bd by simpa using c,Z2 c];rfl
    · rw[show(G (k<0)||G ((O a:Int)<=k))=aw by simpa using c,Z3 c];obtain⟨n,rfl⟩:=cl (show 0<=k by omega);have hn:n<O a:=by omega
      simp only[Z1,wCopy c1.1 c1.2,vf,ba];have g1:ky ((n:Int)+1):=ky.mk V V;rw[gJ g1];have f:(n:Int)+1=((n+1:Nat):Int):=rfl;rw[f,R7 V V];have e:=one_at hn;rw[e];simp only[vf];rw[wCopy C3 (by intro x d;simp at d;subst d;exact c1.2 _ (cv hn))];simp only[vf];rw[show vj [a[n]] 0=U a[n]from rfl];simp only[vf,List.getElem?_eq_getElem hn,fj];cases t with
      |true=>simp only[cA,Z1,if_true]
      |false=>
        simp only[eb,ZW];rw[gJ (show ky (((n+1:Nat):Int))from ky.mk V V),del_s V V];simp only[vf,cL,if_false]
end Dk
end Go.Proofs.YteijalgmijkphaaGreatDoor