/-
  What the law StorySays needs of our own library and of the walks, no more.
-/
import Derived.Test.YteijalgmijkphaaGreatDoorStorySaysTg
set_option linter.unusedSimpArgs false
set_option linter.unusedVariables false
set_option maxRecDepth 10000
set_option maxHeartbeats 4000000
open Go.LX renaming State->Yq
open Go.LX renaming Frame->Yf
open Bool renaming and_eq_false_iff->cw,and_eq_true->cH,and_false->kO,and_self->jF,cond_eq_ite->cY,eq_iff_iff->dm,false_and->eT,false_eq_true->de,false_or->qu,not_eq_false'->rl,not_eq_true'->er,not_false->eS,not_true->cS,or_eq_false_iff->dp,or_eq_true->dr,true_and->iv,false->ar,true->ba
open Decidable renaming not_not->hS,decide->ab
open Go renaming Calls->bk,Value->aj,World->al,step->oa
open Go.Lib renaming atoiAll_bounds->xv,itoa->fi
open Int renaming eq_ofNat_of_zero_le->cC,toNat_natCast->cc,toNat_of_nonneg->wg
open List renaming Pairwise->tn,all_eq_true->oA,append_assoc->bf,append_nil->ca,cons_append->eL,drop_eq_getElem_cons->cF,drop_eq_nil_of_le->cr,drop_zero->hJ,eq_nil_of_length_eq_zero->cd,exists_of_findSome?_eq_some->sb,filter_cons->fY,filter_eq_self->rb,findIdx?_cons->rm,findSome?_cons->vi,findSome?_eq_none_iff->tb,getElem?_cons_succ->tw,getElem?_cons_zero->od,getElem?_eq_none->bq,getElem?_eq_some_iff->tg,getElem_mem->en,getElem_of_mem->vj,idxOf_append->xt,length->fp,length_append->an,length_cons->bl,length_map->eF,length_nil->cJ,mapM_cons->pH,map_cons->ct,mem_append->db,mem_cons->bp,mem_cons_of_mem->bm,mem_cons_self->fj,mem_filter->mc,mem_flatMap->yd,mem_of_getElem?->eK,nil_append->cf,nodup_append->xr,pairwise_cons->cA,prefix_refl->oe,set_getElem_self->tY,singleton_append->tZ,sum_cons->qv,take_length->sk
open Nat renaming add_assoc->lR,le_refl->cv,lt_or_ge->cE,mul_le_mul->Cl
open Option renaming bind_some->fb,getD_none->we,isNone_iff_eq_none->sY,none->aE,some->ah
namespace Go.Proofs.YteijalgmijkphaaGreatDoor
open Go Go.Proofs Go.LX Tryz
noncomputable section
theorem world_Run_c(N:Nat)(w0:al)(M:BS)(hM:kL M w0)(hT:pI prog 4 w0)(a:aX)(I O B:aj)(c9:fB dJ w0 BE M I a.prog)(b6:fB fK w0 BE M O a.places)(a0:fB gm w0 BE M B a.gM)(vb:aj)(b:Zi uP)(hb:fB rHap w0 BE M vb b)(r:aX×Zi Int×Int)(hs:Sj N a b=ah r):
  bk prog 22 #[(.agg #[I,O,B]),vb] w0 (fun e w'=>Grow w0 w'/\∃ry,∃rH,∃u,∃A,e=.returned (.tuple #[.agg #[ry,rH,u],A,.int .i64 r.2.2])/\bS dJ w' (fun b=>M b\/ob A b) ry r.1.prog/\bS fK w' (fun b=>M b\/ob A b) rH r.1.places/\bS gm w' (fun b=>M b\/ob A b) u r.1.gM/\cz bC 29 w' M A r.2.1/\(∀b,ob A b->w0.heap.size<=b)):=by
 refine cst func22 ntmps22 Z ?_;have h:=SH.init hM;replace h:=((h.bG 1 c9 aC).bG 2 b6<|aF aC).bG 3 a0<|aF<|aF aC;replace h:=h.bG 4 hb<|aF<|aF<|aF aC;have PG:=hb.aO;refine D ?_;refine gD (cs:=[I,O,B]) h 5 Z Z fun w b1 h=>aL h 6 uQ fun w b2 h=>D ?_;obtain⟨y3,e4,hs⟩:=ai hs;refine aS h fo Z Z (Td N _ _ h.lt (hT.go h.keep) a I O B (h.fU 1 Z) (h.fU 2 Z) (h.fU 3 Z) _ e4) fun w h=>D ?_;refine az hs Z (fun c6 hs=>?_) fun c6 hs=>?_;refine D ?_;refine jY V7 Z aD<|mI Z<|bg h 6 uQ Z (dh Z) fun w h=>D ?_;refine VN (vs:=[nS,nS,nS]) (v2:=nS) (v3:=(Y y3)) results22 Z Z Z h 6 Z uQ Z ?_;cases hs;exact⟨h.grown,_,_,_,_,Z,fB.nil,fB.nil,fB.nil,cz.nil,lL⟩;refine D ?_;refine az hs Z (fun c7 hs=>?_) fun c7 hs=>?_;refine D ?_;refine jY V7 Z aD<|bg h 6 uQ Z (dh Z) fun w h=>D ?_;refine VN (vs:=[nS,nS,nS]) (v2:=nS) (v3:=(Y 2)) results22 Z Z Z h 6 Z uQ Z ?_;cases hs;exact⟨h.grown,_,_,_,_,Z,fB.nil,fB.nil,fB.nil,cz.nil,lL⟩;refine D ?_;obtain⟨y8,e9,hs⟩:=ai hs;refine bA fo Z Z (Wx _ _ h.lt a I O B (h.fU 1 Z) (h.fU 2 Z) (h.fU 3 Z) _ e9) ?_;rintro _ w⟨a1,Qe,c0,c3,rfl,a6,b0,d2,a4⟩;refine⟨_,Z,?_⟩;replace h:=((h.xS 7 a1 a6 b0).au 8 d2.Xx).au 9 a4.Xx.up;refine bg h 5 uQ Z (aa (h.aR 8 Z).one<|aa (h.aZ 7 Z).one<|aa (h.aR 9 Z).one aD) fun w h=>D ?_;replace h:=((h.wP (R:=bC) (E:=29) 22).ji 8 23 Z).kU 7 24 Z Z zq1;replace h:=h.ji 9 25 Z;refine cK (σ:=Nat×Int×aj×Zi Int×aj×Zi bX×aj×Zi iI×aj×Zi lI) (inl ([8,10,11,12]++rg 27 16)) (fun⟨y,j,i,f,c,x,d,v,g,z⟩=>[(8,i),(27,(Y j))]) (fun⟨y,j,i,f,c,x,d,v,g,z⟩w=>SH w0 M BE w (hset [(4,.sr rHap vb b),(5,.blk b1 [c,d,g]),(6,.blk b2 [nS,nS,nS]),(22,.own bC 29 i f),(23,.rd dJ c x),(24,.own fK 40 d v),(25,.rd gm g z)])/\j=(y:Int)/\each (H7 N) ME (b.drop y) (f,x,v,z)=ah r) (fun⟨y,j,i,f,c,x,d,v,g,z⟩=>b.length-y) ⟨0,0,nS,[],Qe,y8.prog,c0,y8.places,c3,y8.gM⟩ ⟨Z,Z,U⟩ ?_ ?_;exact⟨h.cn _,Z,hs⟩;rintro⟨y,j,i,f,c,x,d,v,g,z⟩w bD⟨h,hik,hs⟩;refine D ?_;refine dA Z (fun k=>?_) fun k=>?_;refine D ?_;obtain⟨PE,Mo,P,hnx,hs⟩:=gW hik k hs;have d3:=dn ((h.fU 4 Z)).aO hik k;refine D ?_;obtain⟨d7,d8,d4,h,c1,a7⟩:=h.wS 4 26 Z SliceOf56 Z (eU hik)<|bW hik P;obtain rfl:=c1;refine lG a7 Z<|D ?_;refine aL h 27 Many28 fun w d6 h=>bg h 27 Many28 Z (dh Z) fun w h=>D ?_;obtain⟨Uc,a8,hs⟩:=ai hs;refine bA fo Z Z (Wx _ _ h.lt (⟨x,v,z⟩:aX) c d g (h.kK 23 Z) (h.dB 24 Z) (h.kK 25 Z) _ a8) ?_;rintro _ w⟨d1,Q,F,K,rfl,b9,c8,a9,c4⟩;refine⟨_,Z,?_⟩;replace h:=((h.xS 28 d1 b9 c8).au 29 a9.Xx).au 30 c4.Xx.up;refine aL h 31 uQ fun w T h=>bg h 31 uQ Z (aa (h.aR 29 Z).one<|aa (h.aZ 28 Z).one<|aa (h.aR 30 Z).one aD) fun w h=>D ?_
 replace h:=h.pr 31 28;obtain⟨L,X,G⟩:=h.fD 31 ⟨U,U⟩;obtain⟨t,d0,hs⟩:=ai hs;refine bA fo Z Z (world_step_c N _ _ G (hT.go h.keep) T Uc Q F K L X (h.xn 31 29 Z Z) (h.xn 31 30 Z Z) PE (h.DN hT (fun _ h=>h.elim) 31 (C:=(cW T Q F K Uc.places)) Z) _ d0) ?_;rintro _ w⟨b3,a2,a5,b7,rfl,c5,b4,b8,c2⟩;refine⟨_,Z,?_⟩;replace h:=((h.iJ 31 c5 ⟨U,U⟩ b3 b4).au 32<|gB b8).au 33 (gB c2).up;replace h:=h.un 31 28 Z Z;refine aI Z<|nN<|aY (σ:=aj×Zi bX×aj×Zi iI×aj×Zi lI) (inl [35,36,37]) (fun⟨p,s,l,o,q,n⟩=>[]) (fun⟨p,s,l,o,q,n⟩w=>SH w0 M BE w (hset [(4,.sr rHap vb b),(5,.blk b1 [p,l,q]),(6,.blk b2 [nS,nS,nS]),(22,.own bC 29 i f),(34,.rd dJ p s),(35,.own fK 40 l o),(36,.rd gm q n)])/\MC f t Mo s o n=ah r) ?_ ?_;rintro⟨p,s,l,o,q,n⟩w bD⟨h,hs⟩;refine D ?_;refine oC (R:=bC) (vs:=[(Y t.1)]) (xs:=[t.1]) h 37 ElemOf57 Z Z Z ⟨Z,U⟩ Z fun w d5 h=>?_;obtain⟨S,hs⟩:=bO hs;refine jB (R:=bC) (m:=[t.1]) h 22 Z (h.dB 37 Z) ElemOf57 Z Z Z S.1 S.2 fun w b5 h=>D ?_;refine ay ?_;replace h:=((h.ji 34 23 Z).kU 35 24 Z Z zq1).ji 36 25 Z;subst hnx;exact oK ⟨y+1,j+1,b5,(f++[t.1]),p,s,l,o,q,n⟩ ⟨h.cn _,by omega,hs⟩<|Lu hik k;refine D ?_;refine az hs Z (fun a3 hs=>?_) fun a3 hs=>?_;refine D ?_;refine bg h 5 uQ Z (aa (h.aR 32 Z).one<|aa (h.aZ 28 Z).one<|aa (h.aR 33 Z).one aD) fun w h=>ak<|ay ?_;replace h:=((h.ji 32 34 Z).kU 28 35 Z Z zq1).ji 33 36 Z;exact gU (a2,t.2.prog,a5,t.2.places,b7,t.2.gM) ⟨h.cn _,hs⟩;refine bR<|ay ?_;replace h:=((h.ji 23 34 Z).kU 24 35 Z Z zq1).ji 25 36 Z;exact gU (c,x,d,v,g,z) ⟨h.cn _,hs⟩;replace hs:=jW hik k hs;refine D ?_;refine bg h 6 uQ Z (aa (h.aR 23 Z).one<|aa (h.aZ 24 Z).one<|aa (h.aR 25 Z).one aD) fun w h=>D ?_;refine VN (vs:=[c,d,g]) (v2:=i) (v3:=(Y 0)) results22 Z Z Z h 6 Z uQ Z ?_;replace h:=h.freeze 24 Z;cases hs;exact⟨h.grown,_,_,_,_,Z,h.I5 23 22 Z Z,h.I5 24 22 Z Z,h.I5 25 22 Z Z,(h.mq 22 Z).1,(h.mq 22 Z).2⟩
def Gr(a:Zi Int)(b:Zi Int)(c:Int)(s:Unit)(e:Unit->Yw Ys):Yw Ys:=
 (idx a c).bind fun f=>(idx b c).bind fun d=>bif ab (f≠d)then ah ar else e ()
def Gs(s:Unit):Yw Ys:=
 ah ba
def La(a:Zi Int)(b:Zi Int):Yw Ys:=
 bif ab ((a.length:Int)≠(b.length:Int))then ah ar else upto (Gr a b) Gs 0 ((a.length:Int)).toNat ()
theorem Rj(w0:al)(M:BS)(z:kL M w0)(l:aj)(a:Zi Int)(t:fB bC w0 BE M l a)(m:aj)(b:Zi Int)(q:fB bC w0 BE M m b)(r:Ys)(hs:La a b=ah r):
  bk prog 23 #[l,m] w0 (Yd w0 (.bool r)):=by
 refine cst func23 ntmps23 Z ?_;have h:=SH.init z;replace h:=(h.bG 1 t aC).bG 2 q<|aF aC;have E:=t.aO;have G:=q.aO;refine kS fun hs=>?_;refine D ?_;have g:=(h.fU 1 Z).aO;refine cK (σ:=Nat×Int) (inl ([4,5]++rg 13 13)) (fun⟨k2,c⟩=>[(13,(Y c))]) (fun⟨k2,c⟩w=>SH w0 M BE w (hset [(1,.sr bC l a),(2,.sr bC m b)])/\c=(k2:Int)/\upto (Gr a b) Gs c (((a.length:Int)).toNat-k2) ()=ah r) (fun⟨k2,c⟩=>((a.length:Int)).toNat-k2) ⟨0,0⟩ ⟨Z,U⟩ ?_ ?_;exact⟨h.cn _,Z,hs⟩;rintro⟨k2,c⟩w F⟨h,hik,hs⟩;refine D ?_;refine dA Z (fun i=>?_) fun i=>?_;refine D ?_;obtain⟨B,hnx,hs⟩:=rG hik i hs;have A:=yu hik i (by have:=g;omega);refine D ?_;refine uI mixed zq2 h fun w h=>D ?_;obtain⟨I,f,hs⟩:=ai hs;obtain⟨v,u,p,h,j,o⟩:=h.wS 1 3 Z SliceOf57 Z (J f).1 (J f).2;obtain rfl:=j;refine bT (o _ _ _ _ _ _ _ _ _ Z Z)<|D ?_;obtain⟨C,d,hs⟩:=ai hs;obtain⟨x,y,s,h,k,n⟩:=h.wS 2 4 Z SliceOf57 Z (J d).1 (J d).2;obtain rfl:=k;refine bT (n _ _ _ _ _ _ _ _ _ Z Z)<|kS fun hs=>?_;exact le;replace hs:=yt hik i hs;exact lf
def BK(a:Zi T3)(b:Zi T3)(f:Int)(s:Unit)(g:Unit->Yw Ys):Yw Ys:=
 (idx a f).bind fun e=>(idx b f).bind fun d=>bif (!(ab (e.a=d.a)&&(ab (e.b=d.b)&&ab (e.c=d.c))))then ah ar else g ()
def IY(s:Unit):Yw Ys:=
 ah ba
def xO(a:Zi T3)(b:Zi T3):Yw Ys:=
 bif ab ((a.length:Int)≠(b.length:Int))then ah ar else upto (BK a b) IY 0 ((a.length:Int)).toNat ()
theorem Jv(w0:al)(M:BS)(E:kL M w0)(o:aj)(a:Zi T3)(y:fB rT3 w0 BE M o a)(p:aj)(b:Zi T3)(v:fB rT3 w0 BE M p b)(r:Ys)(hs:xO a b=ah r):
  bk prog 20 #[o,p] w0 (Yd w0 (.bool r)):=by
 refine cst func20 ntmps20 Z ?_;have h:=SH.init E;replace h:=(h.bG 1 y aC).bG 2 v<|aF aC;have I:=y.aO;have L:=v.aO;refine kS fun hs=>?_;refine D ?_;have i:=(h.fU 1 Z).aO;refine cK (σ:=Nat×Int) (inl ([4,5]++rg 13 13)) (fun⟨k2,d⟩=>[(13,(Y d))]) (fun⟨k2,d⟩w=>SH w0 M BE w (hset [(1,.sr rT3 o a),(2,.sr rT3 p b)])/\d=(k2:Int)/\upto (BK a b) IY d (((a.length:Int)).toNat-k2) ()=ah r) (fun⟨k2,d⟩=>((a.length:Int)).toNat-k2) ⟨0,0⟩ ⟨Z,U⟩ ?_ ?_;exact⟨h.cn _,Z,hs⟩;rintro⟨k2,d⟩w K⟨h,hik,hs⟩;refine D ?_;refine dA Z (fun j=>?_) fun j=>?_;refine D ?_;obtain⟨G,hnx,hs⟩:=rG hik j hs;have F:=yu hik j (by have:=i;omega);refine D ?_;refine uI mixed zq2 h fun w h=>D ?_;obtain⟨t,g,hs⟩:=ai hs;obtain⟨A,z,u,h,l,s⟩:=h.wS 1 3 Z SliceOf47 Z (J g).1 (J g).2;obtain rfl:=l;refine bT (s _ _ _ _ _ _ _ _ _ Z Z)<|bT (Ot (k:=0) (vs:=[(Y t.a),(Y t.b),(Y t.c)]) h 3 Z Many53 Z Z Z<|gG Z)<|D ?_;obtain⟨m,f,hs⟩:=ai hs;obtain⟨B,C,x,h,n,q⟩:=h.wS 2 4 Z SliceOf47 Z (J f).1 (J f).2;obtain rfl:=n;refine bT (q _ _ _ _ _ _ _ _ _ Z Z)<|bT (Ot (k:=0) (vs:=[(Y m.a),(Y m.b),(Y m.c)]) h 4 Z Many53 Z Z Z<|gG Z)<|bT (r_neq3 Arr353 Z Z)<|kS fun hs=>?_;exact le;replace hs:=yt hik j hs;exact lf
def zg(N:Nat):Yw Ys:=
 (uM N).bind fun f=>(FY N f).bind fun i=>(Yt N i).bind fun b=>(Sj N b.1 [(⟨1,0,0,0⟩:uP),(⟨2,0,0,9⟩:uP),(⟨2,0,0,90⟩:uP),(⟨2,0,0,90⟩:uP),(⟨2,0,0,90⟩:uP),(⟨2,0,0,90⟩:uP),(⟨5,0,0,0⟩:uP),(⟨2,0,0,9⟩:uP),(⟨4,0,0,1⟩:uP),(⟨4,0,0,0⟩:uP),(⟨2,2,0,90⟩:uP)]).bind fun a=>(yf N a.1 0).bind fun d=>(yg N a.1 0).bind fun e=>bif (((ab (b.2=0)&&ab (a.2.2=0))&&ab (d.2=0))&&ab (e.2=0))then(La a.2.1 [0,0,0,0,0,0,0,7,0,0,0]).bind fun g=>bif g then(slices_Equal_int d.1 [9,4]).bind fun c=>bif c then(xO e.1 [(⟨2,2,-1⟩:T3)]).bind fun j=>ah j else ah ar else ah ar else ah ar
theorem Lb(N:Nat)(w0:al)(M:BS)(hM:kL M w0)(l:pI prog 4 w0)(r:Ys)(hs:zg N=ah r):
  bk prog 17 #[] w0 (Yd w0 (.bool r)):=by
 refine cst func17 ntmps17 Z ?_;have h:=SH.init hM;refine D ?_;obtain⟨y1,e2,hs⟩:=ai hs;refine gP h 1 fo Z Z (PQ N _ _ h.lt (l.go h.keep) _ e2) fun w u3 h=>?_;obtain⟨y7,e8,hs⟩:=ai hs;refine gP h 2 fo Z Z (SI N _ _ h.lt u3 y1 (h.dB 1 Z) _ e8) fun w u9 h=>?_;obtain⟨j,F,hs⟩:=ai hs;refine bA fo Z Z (world_New_c N _ _ h.lt u9 y7 (h.dB 2 Z) _ F) ?_;rintro _ w⟨a1,G,S,B,rfl,s,m,y⟩;refine⟨_,Z,?_⟩;replace h:=((h.Cs 3 a1 s).au 4 m.up).au 5 y.up.up;refine D ?_;refine aL h 6 uQ fun w a2 h=>bg h 6 uQ Z (aa (h.aR 3 Z).one<|aa (h.aR 4 Z).one<|aa (h.aR 5 Z).one aD) fun w h=>D ?_;refine jY A7 Z (dh Z)<|jY A7 Z (dh Z)<|jY A7 Z (dh Z)<|jY A7 Z (dh Z)<|jY A7 Z (dh Z)<|jY A7 Z (dh Z)<|jY A7 Z (dh Z)<|jY A7 Z (dh Z)<|jY A7 Z (dh Z)<|jY A7 Z (dh Z)<|jY A7 Z (dh Z)<|oC (R:=rHap) (vs:=[(.agg #[(Y 1),(Y 0),(Y 0),(Y 0)]),(.agg #[(Y 2),(Y 0),(Y 0),(Y 9)]),(.agg #[(Y 2),(Y 0),(Y 0),(Y 90)]),(.agg #[(Y 2),(Y 0),(Y 0),(Y 90)]),(.agg #[(Y 2),(Y 0),(Y 0),(Y 90)]),(.agg #[(Y 2),(Y 0),(Y 0),(Y 90)]),(.agg #[(Y 5),(Y 0),(Y 0),(Y 0)]),(.agg #[(Y 2),(Y 0),(Y 0),(Y 9)]),(.agg #[(Y 4),(Y 0),(Y 0),(Y 1)]),(.agg #[(Y 4),(Y 0),(Y 0),(Y 0)]),(.agg #[(Y 2),(Y 2),(Y 0),(Y 90)])]) (xs:=[(⟨1,0,0,0⟩:uP),(⟨2,0,0,9⟩:uP),(⟨2,0,0,90⟩:uP),(⟨2,0,0,90⟩:uP),(⟨2,0,0,90⟩:uP),(⟨2,0,0,90⟩:uP),(⟨5,0,0,0⟩:uP),(⟨2,0,0,9⟩:uP),(⟨4,0,0,1⟩:uP),(⟨4,0,0,0⟩:uP),(⟨2,2,0,90⟩:uP)]) h 7 ElemOf56 Z Z Z ⟨Z,⟨Z,⟨Z,⟨Z,⟨Z,⟨Z,⟨Z,⟨Z,⟨Z,⟨Z,⟨Z,U⟩⟩⟩⟩⟩⟩⟩⟩⟩⟩⟩ Z fun w T h=>?_;obtain⟨a,X,hs⟩:=ai hs;refine bA fo Z Z (world_Run_c N _ _ h.lt (l.go h.keep) j.1 G S B (h.kK 3 Z) (h.kK 4 Z) (h.kK 5 Z) T [(⟨1,0,0,0⟩:uP),(⟨2,0,0,9⟩:uP),(⟨2,0,0,90⟩:uP),(⟨2,0,0,90⟩:uP),(⟨2,0,0,90⟩:uP),(⟨2,0,0,90⟩:uP),(⟨5,0,0,0⟩:uP),(⟨2,0,0,9⟩:uP),(⟨4,0,0,1⟩:uP),(⟨4,0,0,0⟩:uP),(⟨2,2,0,90⟩:uP)] (h.dB 7 Z) _ X) ?_;rintro _ w⟨I,g,k,d,L,rfl,E,a0,o,O,P⟩;refine⟨_,Z,?_⟩;replace h:=((h.xS 11 I O P).au 8 E.Xx).au 9 a0.Xx.up;replace h:=h.au 10 o.Xx.up.up;refine D ?_;refine bg h 6 uQ Z (aa (h.aR 8 Z).one<|aa (h.aR 9 Z).one<|aa (h.aR 10 Z).one aD) fun w h=>D ?_;obtain⟨uF,C,hs⟩:=ai hs;refine gP h 12 fo Z Z (Wo N _ _ h.lt (l.go h.keep) a.1 g k d (h.kK 8 Z) (h.kK 9 Z) (h.kK 10 Z) 0 _ C) fun w u h=>D ?_;obtain⟨yx,x,hs⟩:=ai hs;refine gP h 13 fo Z Z (Wp N _ _ h.lt (l.go h.keep) a.1 g k d (h.kK 8 Z) (h.kK 9 Z) (h.kK 10 Z) 0 _ x) fun w q h=>D ?_;refine gJ (b:=(((ab (j.2=0)&&ab (a.2.2=0))&&ab (uF.2=0))&&ab (yx.2=0))) hs (fun i hs=>?_) fun i hs=>?_;refine D ?_
 refine oC (R:=bC) (vs:=[(Y 0),(Y 0),(Y 0),(Y 0),(Y 0),(Y 0),(Y 0),(Y 7),(Y 0),(Y 0),(Y 0)]) (xs:=[0,0,0,0,0,0,0,7,0,0,0]) h 14 ElemOf57 Z Z Z ⟨Z,⟨Z,⟨Z,⟨Z,⟨Z,⟨Z,⟨Z,⟨Z,⟨Z,⟨Z,⟨Z,U⟩⟩⟩⟩⟩⟩⟩⟩⟩⟩⟩ Z fun w n h=>oN i Z ?_;obtain⟨Dw,z,hs⟩:=ai hs;refine aS h fo Z Z (Rj _ _ h.lt L a.2.1 (h.dB 11 Z) n [0,0,0,0,0,0,0,7,0,0,0] (h.dB 14 Z) _ z) fun w h=>D ?_;refine gJ (b:=Dw) hs (fun f hs=>?_) fun f hs=>?_;refine D ?_;refine oC (R:=bC) (vs:=[(Y 9),(Y 4)]) (xs:=[9,4]) h 15 ic Z Z Z ⟨Z,⟨Z,U⟩⟩ Z fun w A h=>oN f Z ?_;obtain⟨t,K,hs⟩:=ai hs;refine aS h fo Z Z (zx _ _ h.lt u uF.1 (h.dB 12 Z) A [9,4] (h.dB 15 Z) _ K) fun w h=>D ?_;refine gJ (b:=t) hs (fun c hs=>?_) fun c hs=>?_;refine D ?_;refine aA (r_build3 Arr353 Z Z Z)<|oN c Z<|oC (R:=rT3) (vs:=[(.agg #[(Y 2),(Y 2),(Y (-1))])]) (xs:=[(⟨2,2,-1⟩:T3)]) h 16 Qa Z Z Z ⟨Z,U⟩ Z fun w p h=>oN c Z ?_;obtain⟨GI,Q,hs⟩:=ai hs;refine aS h fo Z Z (Jv _ _ h.lt q yx.1 (h.dB 13 Z) p [(⟨2,2,-1⟩:T3)] (h.dB 16 Z) _ Q) fun w h=>lf;exact lf;refine D ?_;refine aA (jq (b:=ar) (v:=(.bool<|false)) Z Z)<|lf;refine D ?_;refine aA (jq (b:=ar) (v:=(.bool<|false)) Z Z)<|D ?_;refine aA (jq (b:=ar) (v:=(.bool<|false)) Z Z)<|lf
def sN(a:Int)(c:(Zi Rec×Int)->Yw (Zi Rec))(b:Zi Rec):Yw (Zi Rec):=
 fI (iZ (a+1)) (c (b,(a+1)))
def jI(c:Int)(a:Int)(b:Int)(s:Zi Rec×Int)(f:Zi Rec×Int->Yw (Zi Rec)):Yw (Zi Rec):=
 match s with|(x7,x8)=>bif ab (x8<c)then fI (iZ (a+x8)) (fI (iZ (b+x8)) (fI (iZ (b+x8)) ((idx x7 (b+x8)).bind fun e=>fI (iZ (a+x8)) ((idx x7 (a+x8)).bind fun g=>(idx (x7.set ((a+x8)).toNat e) (b+x8)).bind fun d=>sN x8 f ((x7.set ((a+x8)).toNat e).set ((b+x8)).toNat g)))))else ah x7
def jA(N:Nat)(d:Zi Rec)(a:Int)(b:Int)(c:Int):Yw (Zi Rec):=
 again (jI c a b) N (d,0)
theorem uh(N:Nat)(w0:al)(M:BS)(hM:kL M w0)(s:aj)(G:Zi Rec)(hC:CK w0 M (.own iU 106 s G:Chunk))(a1:∀b,Chunk.own' (.own iU 106 s G:Chunk) b->¬M b)(a:Int)(b:Int)(c:Int)(r:Zi Rec)(hs:jA N G a b c=ah r):
  bk prog 276 #[s,(Y a),(Y b),(Y c),(.func (.func 71) #[] #[])] w0 (fun e w'=>bz (Chunk.own' (.own iU 106 s G:Chunk)) w0 w'/\e=.returned (.tuple #[])/\CK w' M (.own iU 106 s r:Chunk)/\(TP (.own iU 106 s r:Chunk) w0 (.own iU 106 s G:Chunk))):=by
 refine cst func276 ntmps276 Z ?_;have h:=SH.vH hM hC a1;generalize oZ:(.own iU 106 s G:Chunk).own'=K0 at h;refine D ?_;refine cK (σ:=Nat×Zi Rec×Int) (inl<|rg 10 28) (fun⟨z,Q,y⟩=>[(10,(Y y))]) (fun⟨z,Q,y⟩w=>SH w0 M K0 w (hset [(1,.own iU 106 s Q)])/\again (jI c a b) z (Q,y)=ah r) (fun⟨z,Q,y⟩=>z) ⟨N,G,0⟩ ⟨Z,U⟩ ?_ ?_;exact⟨h.cn _,hs⟩;rintro⟨z,Q,y⟩w bD⟨h,hs⟩;obtain⟨C,P,a0⟩:=iL hs;subst P;replace hs:=a0;generalize hnx:again (jI c a b) C=lZ at hs;refine D ?_;refine az hs Z (fun a2 hs=>?_) fun a2 hs=>?_;refine bR<|aN<|aY (σ:=Zi Rec) (inl<|rg 16 22) (fun T=>[]) (fun T w=>SH w0 M K0 w (hset [(1,.own iU 106 s T)])/\sN y lZ T=ah r) ?_ ?_;rintro T w bD⟨h,hs⟩;refine sg fun hs=>?_;refine aI Z<|ak<|ay ?_;subst hnx;exact oK ⟨C,T,(y+1)⟩ ⟨h.cn _,hs⟩;refine mF<|iG (L:=(ob s)) mixed h fun w h=>fA 0 kR s Z<|fA 1 kR (Y a) Z<|fA 2 kR (Y y) Z ?_;obtain⟨x,hs⟩:=bO hs;refine aK 3 kR Z (fun w B=>EN Z Z x)<|fA 4 kR s Z<|fA 5 kR (Y b) Z<|fA 6 kR (Y y) Z ?_;obtain⟨v,hs⟩:=bO hs;refine aK 7 kR Z (fun w B=>EN Z Z v)<|fA 8 kR s Z<|fA 9 kR (Y b) Z<|fA 10 kR (Y y) Z ?_;obtain⟨q,hs⟩:=bO hs;refine aK 11 kR Z (fun w B=>EN Z Z q) ?_;obtain⟨i,Sk,hs⟩:=ai hs;obtain⟨I,d,o⟩:=h.oJ 1 Z eZ Z (J Sk).1 (J Sk).2;refine aK 12 kR Z (fun w B=>o _ _ _ _ _ _ _ _ _ Z Z)<|fA 14 kR s Z<|fA 15 kR (Y a) Z<|fA 16 kR (Y y) Z ?_;obtain⟨p,hs⟩:=bO hs;refine aK 17 kR Z (fun w B=>EN Z Z p) ?_;obtain⟨j,A,hs⟩:=ai hs;obtain⟨F,f,t⟩:=h.oJ 1 Z eZ Z (J A).1 (J A).2;refine aK 18 kR Z (fun w B=>t _ _ _ _ _ _ _ _ _ Z Z) ?_;obtain⟨E,K,hs⟩:=ai hs;refine gH fun a3 g=>iH 13 19 zq2 Z aT Z aT ?_ ?_;obtain⟨l,Zv,Zw⟩:=h.rD 1 Z d (J Sk).2;obtain⟨R,S,rfl,Zx,Zy⟩:=iM Zw;replace h:=(h.au 158 Zx).au 159 Zy.up;refine aA (ib (k:=0) (vs:=[(Y i.kind),(Y i.co),(Y i.ax),(Y i.place),R,S]) Zv bJ Z Z Z<|gG Z)<|ak<|ae g<|aM 19 Z ?_;obtain⟨m,Zz,ZA⟩:=h.rD 1 Z f (J A).2;obtain⟨O,X,rfl,ZB,ZC⟩:=iM ZA;replace h:=(h.au 230 ZB).au 231 ZC.up;refine aA (ib (k:=0) (vs:=[(Y j.kind),(Y j.co),(Y j.ax),(Y j.place),O,X]) Zz bJ Z Z Z<|gG Z)<|ak<|ae g ?_;obtain⟨u,ZE,ZF⟩:=h.oJ 1 Z eZ Z (J A).1 (J A).2;refine aK 20 g Z (fun w B=>ZF _ _ _ _ _ _ _ _ _ Z Z)<|aM 21 Z<|qi (a':=i) (vs:=[(Y i.kind),(Y i.co),(Y i.ax),(Y i.place),R,S]) h 1 Z ZE Z (J A).2 bJ Z Z Z Z ⟨_,_,Z,(h.aR 158 Z),(h.aR 159 Z)⟩ fun w h ZG=>?_;replace g:=g.same ZG;refine ak<|ae g ?_;obtain⟨n,ZH,ZI⟩:=h.oJ 1 Z eZ Z (J K).1 (J K).2
 refine aK 22 g Z (fun w B=>ZI _ _ _ _ _ _ _ _ _ Z Z)<|aM 23 Z<|qi (a':=j) (vs:=[(Y j.kind),(Y j.co),(Y j.ax),(Y j.place),O,X]) h 1 Z ZH Z (J K).2 bJ Z Z Z Z ⟨_,_,Z,(h.aR 230 Z),(h.aR 231 Z)⟩ fun w h ZJ=>?_;replace g:=g.same ZJ;refine ak<|ae g<|iq<|je;obtain⟨m,Zz,ZA⟩:=h.rD 1 Z f (J A).2;obtain⟨O,X,rfl,ZB,ZC⟩:=iM ZA;replace h:=(h.au 230 ZB).au 231 ZC.up;refine aA (ib (k:=0) (vs:=[(Y j.kind),(Y j.co),(Y j.ax),(Y j.place),O,X]) Zz bJ Z Z Z<|gG Z)<|ak<|ae g<|aM 13 Z ?_;obtain⟨l,Zv,Zw⟩:=h.rD 1 Z d (J Sk).2;obtain⟨R,S,rfl,Zx,Zy⟩:=iM Zw;replace h:=(h.au 158 Zx).au 159 Zy.up;refine aA (ib (k:=0) (vs:=[(Y i.kind),(Y i.co),(Y i.ax),(Y i.place),R,S]) Zv bJ Z Z Z<|gG Z)<|ak<|ae g ?_;obtain⟨u,ZE,ZF⟩:=h.oJ 1 Z eZ Z (J A).1 (J A).2;refine aK 20 g Z (fun w B=>ZF _ _ _ _ _ _ _ _ _ Z Z)<|aM 21 Z<|qi (a':=i) (vs:=[(Y i.kind),(Y i.co),(Y i.ax),(Y i.place),R,S]) h 1 Z ZE Z (J A).2 bJ Z Z Z Z ⟨_,_,Z,(h.aR 158 Z),(h.aR 159 Z)⟩ fun w h ZG=>?_;replace g:=g.same ZG;refine ak<|ae g ?_;obtain⟨n,ZH,ZI⟩:=h.oJ 1 Z eZ Z (J K).1 (J K).2;refine aK 22 g Z (fun w B=>ZI _ _ _ _ _ _ _ _ _ Z Z)<|aM 23 Z<|qi (a':=j) (vs:=[(Y j.kind),(Y j.co),(Y j.ax),(Y j.place),O,X]) h 1 Z ZH Z (J K).2 bJ Z Z Z Z ⟨_,_,Z,(h.aR 230 Z),(h.aR 231 Z)⟩ fun w h ZJ=>?_;replace g:=g.same ZJ;refine ak<|ae g<|iq<|je;refine D ?_;refine Jp results276 ?_;cases hs;subst oZ;obtain⟨o1,o2,o3⟩:=h.fq 1 U;exact⟨o2,Z,o1,o3⟩
def mQ(N:Nat)(b:Int)(s:Zi Rec×Int×Int)(a:Zi Rec×Int×Int->Yw (Zi Rec)):Yw (Zi Rec):=
 match s with|(pV,CL,AQ)=>bif ab (CL≠AQ)then bif ab (AQ<CL)then fI (iZ (b-CL)) ((jA N pV (b-CL) b AQ).bind fun c=>fI (iZ (CL-AQ)) (a (c,(CL-AQ),AQ)))else fI (iZ (b-CL)) (fI (iZ (b+AQ)) (fI (iZ ((b+AQ)-CL)) ((jA N pV (b-CL) ((b+AQ)-CL) CL).bind fun d=>fI (iZ (AQ-CL)) (a (d,CL,(AQ-CL))))))else fI (iZ (b-CL)) ((jA N pV (b-CL) b CL).bind fun e=>ah e)
def sZ(N:Nat)(d:Zi Rec)(a:Int)(b:Int)(c:Int):Yw (Zi Rec):=
 fI (iZ (b-a)) (fI (iZ (c-b)) (again (mQ N b) N (d,(b-a),(c-b))))
theorem Lc(N:Nat)(w0:al)(M:BS)(T:kL M w0)(f:aj)(l:Zi Rec)(hC:CK w0 M (.own iU 106 f l:Chunk))(F:∀b,Chunk.own' (.own iU 106 f l:Chunk) b->¬M b)(a:Int)(b:Int)(c:Int)(r:Zi Rec)(hs:sZ N l a b c=ah r):
  bk prog 249 #[f,(Y a),(Y b),(Y c),(.func (.func 71) #[] #[])] w0 (fun e w'=>bz (Chunk.own' (.own iU 106 f l:Chunk)) w0 w'/\e=.returned (.tuple #[])/\CK w' M (.own iU 106 f r:Chunk)/\(TP (.own iU 106 f r:Chunk) w0 (.own iU 106 f l:Chunk))):=by
 refine cst func249 ntmps249 Z ?_;have h:=SH.vH T hC F;generalize X:(.own iU 106 f l:Chunk).own'=K0 at h;refine sg fun hs=>?_;refine sg fun hs=>?_;refine D ?_;refine cK (σ:=Nat×Zi Rec×Int×Int) (inl ([10,11]++rg 18 32)) (fun⟨g,k,d,j⟩=>[(10,(Y d)),(11,(Y j))]) (fun⟨g,k,d,j⟩w=>SH w0 M K0 w (hset [(1,.own iU 106 f k)])/\again (mQ N b) g (k,d,j)=ah r) (fun⟨g,k,d,j⟩=>g) ⟨N,l,(b-a),(c-b)⟩ ⟨Z,Z,U⟩ ?_ ?_;exact⟨h.cn _,hs⟩;rintro⟨g,k,d,j⟩w bD⟨h,hs⟩;obtain⟨i,m,n⟩:=iL hs;subst m;replace hs:=n;generalize hnx:again (mQ N b) i=CO at hs;refine D ?_;refine az hs Z (fun I hs=>?_) fun I hs=>?_;refine D ?_;refine az hs Z (fun S hs=>?_) fun S hs=>?_;refine sg fun hs=>?_;refine D ?_;obtain⟨v,p,o⟩:=h.fD 1 U;obtain⟨Ba,P,hs⟩:=ai hs;refine bA fo Z Z (uh N _ _ o f k v p (b-d) b j _ P) ?_;rintro _ w⟨C,rfl,z,A⟩;refine⟨_,Z,?_⟩;replace h:=h.iJ 1 z U C A;refine sg fun hs=>?_;refine D ?_;refine ay ?_;subst hnx;exact oK ⟨i,Ba,(d-j),j⟩ ⟨h.cn _,hs⟩;refine sg fun hs=>?_;refine sg fun hs=>?_;refine sg fun hs=>?_;refine D ?_;obtain⟨t,y,u⟩:=h.fD 1 U;obtain⟨uF,G,hs⟩:=ai hs;refine bA fo Z Z (uh N _ _ u f k t y (b-d) ((b+j)-d) d _ G) ?_;rintro _ w⟨B,rfl,K,R⟩;refine⟨_,Z,?_⟩;replace h:=h.iJ 1 K U B R;refine sg fun hs=>?_;refine D ?_;refine ay ?_;subst hnx;exact oK ⟨i,uF,d,(j-d)⟩ ⟨h.cn _,hs⟩;refine sg fun hs=>?_;refine D ?_;obtain⟨s,x,q⟩:=h.fD 1 U;obtain⟨Fx,E,hs⟩:=ai hs;refine bA fo Z Z (uh N _ _ q f k s x (b-d) b d _ E) ?_;rintro _ w⟨L,rfl,Q,O⟩;refine⟨_,Z,?_⟩;replace h:=h.iJ 1 Q U L O;refine ak<|Jp results249 ?_;cases hs;subst X;obtain⟨o1,o2,o3⟩:=h.fq 1 U;exact⟨o2,Z,o1,o3⟩
def mE(a:Rec)(b:Rec):Yw Int:=
 fI (iZ (a.ax-b.ax)) (ah (a.ax-b.ax))
theorem zh(w0:al)(M:BS)(m:kL M w0)(a:Rec)(k c:aj)(g:fB bC w0 BE M k a.says)(f:fB bC w0 BE M c a.image)(b:Rec)(d j:aj)(l:fB bC w0 BE M d b.says)(i:fB bC w0 BE M j b.image)(r:Int)(hs:mE a b=ah r):
  bk prog 71 #[(.agg #[(Y a.kind),(Y a.co),(Y a.ax),(Y a.place),k,c]),(.agg #[(Y b.kind),(Y b.co),(Y b.ax),(Y b.place),d,j])] w0 (Yd w0 (.int .i64 r)):=by
 refine cst func71 ntmps71 Z ?_;have h:=SH.init m;replace h:=((h.bG 1 g aC).bG 2 f<|aF aC).bG 3 l<|aF<|aF aC;replace h:=h.bG 4 i<|aF<|aF<|aF aC;refine D ?_;refine gD (cs:=[(Y a.kind),(Y a.co),(Y a.ax),(Y a.place),k,c]) h 5 Z Z fun w o h=>gD (cs:=[(Y b.kind),(Y b.co),(Y b.ax),(Y b.place),d,j]) h 6 Z Z fun w n h=>sg fun hs=>?_;exact lf
def pz(b:Int)(a:(Zi Rec×Int)->Yw (Zi Rec))(c:Zi Rec):Yw (Zi Rec):=
 fI (iZ (b-1)) (a (c,(b-1)))
def jG(a:Int)(b:Zi Rec)(d:(Zi Rec×Int)->Yw (Zi Rec))(f:Int)(i:(Zi Rec×Int)->Yw (Zi Rec))(j:Ys):Yw (Zi Rec):=
 bif j then fI (iZ (a-1)) (fI (iZ (a-1)) ((idx b (a-1)).bind fun e=>(idx b a).bind fun g=>(idx (b.set (a).toNat e) (a-1)).bind fun c=>pz a d ((b.set (a).toNat e).set ((a-1)).toNat g)))else fI (iZ (f+1)) (i (b,(f+1)))
def iB(a:Int)(c:Int)(d:(Zi Rec×Int)->Yw (Zi Rec))(s:Zi Rec×Int)(b:Zi Rec×Int->Yw (Zi Rec)):Yw (Zi Rec):=
 match s with|(x24,x25)=>bif ab (a<x25)then(idx x24 x25).bind fun g=>fI (iZ (x25-1)) ((idx x24 (x25-1)).bind fun e=>(mE g e).bind fun f=>jG x25 x24 b c d (ab (f<0)))else jG x25 x24 b c d ar
def fH(N:Nat)(b:Int)(a:Int)(s:Zi Rec×Int)(c:Zi Rec×Int->Yw (Zi Rec)):Yw (Zi Rec):=
 match s with|(x8,x9)=>bif ab (x9<b)then again (iB a x9 c) N (x8,x9)else ah x8
def kN(N:Nat)(c:Zi Rec)(a:Int)(b:Int):Yw (Zi Rec):=
 fI (iZ (a+1)) (again (fH N b a) N (c,(a+1)))
theorem wU(N:Nat)(w0:al)(M:BS)(hM:kL M w0)(x:aj)(sx:Zi Rec)(hC:CK w0 M (.own iU 106 x sx:Chunk))(c5:∀b,Chunk.own' (.own iU 106 x sx:Chunk) b->¬M b)(a:Int)(b:Int)(r:Zi Rec)(hs:kN N sx a b=ah r):
  bk prog 198 #[x,(Y a),(Y b),(.func (.func 71) #[] #[])] w0 (fun e w'=>bz (Chunk.own' (.own iU 106 x sx:Chunk)) w0 w'/\e=.returned (.tuple #[])/\CK w' M (.own iU 106 x r:Chunk)/\(TP (.own iU 106 x r:Chunk) w0 (.own iU 106 x sx:Chunk))):=by
 refine cst func198 ntmps198 Z ?_;have h:=SH.vH hM hC c5;generalize oZ:(.own iU 106 x sx:Chunk).own'=K0 at h;refine sg fun hs=>?_;refine D ?_;refine cK (σ:=Nat×Zi Rec×Int) (inl ([8,9]++rg 12 41)) (fun⟨b0,x8,x9⟩=>[(8,(Y x9))]) (fun⟨b0,x8,x9⟩w=>SH w0 M K0 w (hset [(1,.own iU 106 x x8)])/\again (fH N b a) b0 (x8,x9)=ah r) (fun⟨b0,x8,x9⟩=>b0) ⟨N,sx,(a+1)⟩ ⟨Z,U⟩ ?_ ?_;exact⟨h.cn _,hs⟩;rintro⟨b0,x8,x9⟩w bD⟨h,hs⟩;obtain⟨b3,c3,c4⟩:=iL hs;subst c3;replace hs:=c4;generalize b5:again (fH N b a) b3=DW at hs;refine D ?_;refine az hs Z (fun c6 hs=>?_) fun c6 hs=>?_;refine D ?_;refine cK (σ:=Nat×Zi Rec×Int) (inl ([9]++rg 18 35)) (fun⟨a9,B,c⟩=>[(9,(Y c))]) (fun⟨a9,B,c⟩w=>SH w0 M K0 w (hset [(1,.own iU 106 x B)])/\again (iB a x9 DW) a9 (B,c)=ah r) (fun⟨a9,B,c⟩=>a9) ⟨N,x8,x9⟩ ⟨Z,U⟩ ?_ ?_;exact⟨h.cn _,hs⟩;rintro⟨a9,B,c⟩w bD⟨h,hs⟩;obtain⟨b2,c1,c2⟩:=iL hs;subst c1;replace hs:=c2;generalize hnx:again (iB a x9 DW) b2=nx30 at hs;refine jb<|aY (σ:=Ys) (inl<|rg 18 17) (fun Ej=>[(34,(.bool<|Ej))]) (fun Ej w=>SH w0 M K0 w (hset [(1,.own iU 106 x B)])/\jG c B nx30 x9 DW Ej=ah r) ?_ ?_;rintro Ej w bD⟨h,hs⟩;refine az hs Z (fun c7 hs=>?_) fun c7 hs=>?_;refine bR<|aN<|aY (σ:=Zi Rec) (inl<|rg 37 16) (fun Js=>[]) (fun Js w=>SH w0 M K0 w (hset [(1,.own iU 106 x Js)])/\pz c nx30 Js=ah r) ?_ ?_;rintro Js w bD⟨h,hs⟩;refine sg fun hs=>?_;refine aI Z<|ak<|ay ?_;subst hnx;exact oK ⟨b2,Js,(c-1)⟩ ⟨h.cn _,hs⟩;refine mF<|iG (L:=(ob x)) mixed h fun w h=>fA 0 kR x Z<|fA 1 kR (Y c) Z<|fA 2 kR x Z<|fA 3 kR (Y c) Z ?_;obtain⟨a5,hs⟩:=bO hs;refine aK 4 kR Z (fun w m=>Eb Z Z a5)<|fA 5 kR x Z<|fA 6 kR (Y c) Z ?_;obtain⟨a8,hs⟩:=bO hs;refine aK 7 kR Z (fun w m=>Eb Z Z a8) ?_;obtain⟨y,Xd,hs⟩:=ai hs;obtain⟨b9,t,a2⟩:=h.oJ 1 Z eZ Z (J Xd).1 (J Xd).2;refine aK 8 kR Z (fun w m=>a2 _ _ _ _ _ _ _ _ _ Z Z)<|fA 10 kR x Z<|fA 11 kR (Y c) Z ?_;obtain⟨z,Am,hs⟩:=ai hs;obtain⟨b8,o,R⟩:=h.oJ 1 Z eZ Z (J Am).1 (J Am).2;refine aK 12 kR Z (fun w m=>R _ _ _ _ _ _ _ _ _ Z Z) ?_;obtain⟨b6,J8,hs⟩:=ai hs;refine gH fun c8 q=>iH 9 13 zq2 Z aT Z aT ?_ ?_;obtain⟨Q,j,g⟩:=h.rD 1 Z t (J Xd).2;obtain⟨Rk,Rl,rfl,f,d⟩:=iM g;replace h:=(h.au 110 f).au 111 d.up;refine aA (ib (k:=0) (vs:=[(Y y.kind),(Y y.co),(Y y.ax),(Y y.place),Rk,Rl]) j bJ Z Z Z<|gG Z)<|ak<|ae q<|aM 13 Z ?_;obtain⟨A,ZL,ZM⟩:=h.rD 1 Z o (J Am).2;obtain⟨N8,N9,rfl,ZN,ZO⟩:=iM ZM;replace h:=(h.au 158 ZN).au 159 ZO.up;refine aA (ib (k:=0) (vs:=[(Y z.kind),(Y z.co),(Y z.ax),(Y z.place),N8,N9]) ZL bJ Z Z Z<|gG Z)<|ak<|ae q ?_;obtain⟨P,ZP,ZQ⟩:=h.oJ 1 Z eZ Z (J Am).1 (J Am).2
 refine aK 14 q Z (fun w m=>ZQ _ _ _ _ _ _ _ _ _ Z Z)<|aM 15 Z<|qi (a':=y) (vs:=[(Y y.kind),(Y y.co),(Y y.ax),(Y y.place),Rk,Rl]) h 1 Z ZP Z (J Am).2 bJ Z Z Z Z ⟨_,_,Z,(h.aR 110 Z),(h.aR 111 Z)⟩ fun w h ZR=>?_;replace q:=q.same ZR;refine ak<|ae q ?_;obtain⟨K,ZT,ZU⟩:=h.oJ 1 Z eZ Z (J J8).1 (J J8).2;refine aK 16 q Z (fun w m=>ZU _ _ _ _ _ _ _ _ _ Z Z)<|aM 17 Z<|qi (a':=z) (vs:=[(Y z.kind),(Y z.co),(Y z.ax),(Y z.place),N8,N9]) h 1 Z ZT Z (J J8).2 bJ Z Z Z Z ⟨_,_,Z,(h.aR 158 Z),(h.aR 159 Z)⟩ fun w h ZV=>?_;replace q:=q.same ZV;refine ak<|ae q<|iq<|je;obtain⟨A,ZL,ZM⟩:=h.rD 1 Z o (J Am).2;obtain⟨N8,N9,rfl,ZN,ZO⟩:=iM ZM;replace h:=(h.au 158 ZN).au 159 ZO.up;refine aA (ib (k:=0) (vs:=[(Y z.kind),(Y z.co),(Y z.ax),(Y z.place),N8,N9]) ZL bJ Z Z Z<|gG Z)<|ak<|ae q<|aM 9 Z ?_;obtain⟨Q,j,g⟩:=h.rD 1 Z t (J Xd).2;obtain⟨Rk,Rl,rfl,f,d⟩:=iM g;replace h:=(h.au 110 f).au 111 d.up;refine aA (ib (k:=0) (vs:=[(Y y.kind),(Y y.co),(Y y.ax),(Y y.place),Rk,Rl]) j bJ Z Z Z<|gG Z)<|ak<|ae q ?_;obtain⟨P,ZP,ZQ⟩:=h.oJ 1 Z eZ Z (J Am).1 (J Am).2;refine aK 14 q Z (fun w m=>ZQ _ _ _ _ _ _ _ _ _ Z Z)<|aM 15 Z<|qi (a':=y) (vs:=[(Y y.kind),(Y y.co),(Y y.ax),(Y y.place),Rk,Rl]) h 1 Z ZP Z (J Am).2 bJ Z Z Z Z ⟨_,_,Z,(h.aR 110 Z),(h.aR 111 Z)⟩ fun w h ZR=>?_;replace q:=q.same ZR;refine ak<|ae q ?_;obtain⟨K,ZT,ZU⟩:=h.oJ 1 Z eZ Z (J J8).1 (J J8).2;refine aK 16 q Z (fun w m=>ZU _ _ _ _ _ _ _ _ _ Z Z)<|aM 17 Z<|qi (a':=z) (vs:=[(Y z.kind),(Y z.co),(Y z.ax),(Y z.place),N8,N9]) h 1 Z ZT Z (J J8).2 bJ Z Z Z Z ⟨_,_,Z,(h.aR 158 Z),(h.aR 159 Z)⟩ fun w h ZV=>?_;replace q:=q.same ZV;refine ak<|ae q<|iq<|je;refine sg fun hs=>?_;refine aI Z<|ak<|ay ?_;subst b5;exact oK ⟨b3,B,(x9+1)⟩ ⟨h.cn _,hs⟩;refine qw mixed h fun w h=>lX 0 kR (Y c) Z<|lX 1 kR (Y a) Z<|aW 2 kR Z (fun w m=>zT Z Z)<|lX 3 kR (.bool<|decide<|a<c) Z<|gJ (b:=decide<|a<c) hs (fun i hs=>?_) fun i hs=>?_;refine iP 4 kR Z (dz Z<|cB i) zq2 zq2 zq2 (fun w m=>eu (v:=(.func (.func 71) #[] #[])) Z)<|iP 5 kR Z (dz Z<|cB i) zq2 zq2 zq2 (fun w m=>eu (v:=x) Z)<|iP 6 kR Z (dz Z<|cB i) zq2 zq2 zq2 (fun w m=>eu (v:=(Y c)) Z) ?_;obtain⟨Ld,l,hs⟩:=ai hs;obtain⟨c0,a6,a7⟩:=h.oJ 1 Z eZ Z (J l).1 (J l).2;refine iP 7 kR Z (dz Z<|cB i) zq2 zq2 zq2 (fun w m=>a7 _ _ _ _ _ _ _ _ _ Z Z) ?_;obtain⟨b7,a3,a4⟩:=h.rD 1 Z a6 (J l).2;obtain⟨s,u,rfl,a1,a0⟩:=iM a4;replace h:=(h.au 326 a1).au 327 a0.up
 refine iP 8 kR Z (dz Z (cB i)) zq2 zq2 zq2 (fun w m=>have h:=h.grow m;ib (k:=0) (vs:=[(Y Ld.kind),(Y Ld.co),(Y Ld.ax),(Y Ld.place),s,u]) (a3.grow m) bJ Z Z Z (gG Z)) (iP 9 kR Z (dz Z (cB i)) zq2 zq2 zq2 (fun w m=>eu (v:=x) Z) (iP 10 kR Z (dz Z (cB i)) zq2 zq2 zq2 (fun w m=>eu (v:=(Y c)) Z) ?_));obtain⟨E,hs⟩:=bO hs;refine iP 11 kR Z (dz Z<|cB i) zq2 zq2 zq2 (fun w m=>Eb Z Z E) ?_;obtain⟨Ho,ZW,hs⟩:=ai hs;obtain⟨b4,X,S⟩:=h.oJ 1 Z eZ Z (J ZW).1 (J ZW).2;refine iP 12 kR Z (dz Z<|cB i) zq2 zq2 zq2 (fun w m=>S _ _ _ _ _ _ _ _ _ Z Z) ?_;obtain⟨b1,C,O⟩:=h.rD 1 Z X (J ZW).2;obtain⟨n,p,rfl,F,G⟩:=iM O;replace h:=(h.au 386 F).au 387 G.up;refine iP 13 kR Z (dz Z (cB i)) zq2 zq2 zq2 (fun w m=>have h:=h.grow m;ib (k:=0) (vs:=[(Y Ho.kind),(Y Ho.co),(Y Ho.ax),(Y Ho.place),n,p]) (C.grow m) bJ Z Z Z (gG Z)) (jX fun c9 Cm=>Mf 14 zq2 Z (dz Z (cB i)) ?_);obtain⟨ZK,T,hs⟩:=ai hs;refine oG h fo Z Z (zh _ _ h.lt Ld s u (h.kK 326 Z) (h.kK 327 Z) Ho n p (h.kK 386 Z) (h.kK 387 Z) _ T) fun w I h=>?_;replace Cm:=Cm.trans I;refine ak<|dL Cm<|iP 15 Cm Z (dz Z<|cB i) zq2 zq2 zq2 (fun w m=>Jn Z Z)<|aW 16 Cm Z (fun w m=>jq (b:=ba) (v:=(.bool<|decide<|ZK<0)) (cB i) Z)<|xW<|je;refine dK 4 kR Z (bU (b':=ar) Z (cB i) Z) zq2 zq2 zq2<|dK 5 kR Z (bU (b':=ar) Z (cB i) Z) zq2 zq2 zq2<|dK 6 kR Z (bU (b':=ar) Z (cB i) Z) zq2 zq2 zq2<|dK 7 kR Z (bU (b':=ar) Z (cB i) Z) zq2 zq2 zq2<|dK 8 kR Z (bU (b':=ar) Z (cB i) Z) zq2 zq2 zq2<|dK 9 kR Z (bU (b':=ar) Z (cB i) Z) zq2 zq2 zq2<|dK 10 kR Z (bU (b':=ar) Z (cB i) Z) zq2 zq2 zq2<|dK 11 kR Z (bU (b':=ar) Z (cB i) Z) zq2 zq2 zq2<|dK 12 kR Z (bU (b':=ar) Z (cB i) Z) zq2 zq2 zq2<|dK 13 kR Z (bU (b':=ar) Z (cB i) Z) zq2 zq2 zq2<|dK 14 kR Z (bU (b':=ar) Z (cB i) Z) zq2 zq2 zq2<|dK 15 kR Z (bU (b':=ar) Z (cB i) Z) zq2 zq2 zq2<|aW 16 kR Z (fun w m=>jq (b:=ar) (v:=(.bool<|false)) (cB i) Z)<|xW<|je;refine D ?_;refine Jp results198 ?_;cases hs;subst oZ;obtain⟨o1,o2,o3⟩:=h.fq 1 U;exact⟨o2,Z,o1,o3⟩
def sO(c:Int)(a:(Zi Rec×Int)->Yw (Zi Rec))(b:Zi Rec):Yw (Zi Rec):=
 fI (iZ (c+1)) (a (b,(c+1)))
def iN(d:Int)(s:Zi Rec×Int)(b:Zi Rec×Int->Yw (Zi Rec)):Yw (Zi Rec):=
 match s with|(Ta,C8)=>fI (iZ (d-1)) (bif ab (C8<(d-1))then fI (iZ (C8+1)) (fI (iZ (C8+1)) ((idx Ta (C8+1)).bind fun c=>(idx Ta C8).bind fun e=>(idx (Ta.set (C8).toNat c) (C8+1)).bind fun a=>sO C8 b ((Ta.set (C8).toNat c).set ((C8+1)).toNat e)))else ah Ta)
def jJ(N:Nat)(c:Zi Rec)(a:Int)(s:Int×Int)(d:Int×Int->Yw (Zi Rec)):Yw (Zi Rec):=
 match s with|(x9,pG)=>bif ab (x9<pG)then fI (iZ (x9+pG)) (fI (0<=(x9+pG)/\(x9+pG)<=9223372036854775807) (fI (iZ ((x9+pG) / 2)) ((idx c ((x9+pG) / 2)).bind fun e=>(idx c a).bind fun b=>fI (iZ (e.ax-b.ax)) (bif ab ((e.ax-b.ax)<0)then fI (iZ (((x9+pG) / 2)+1)) (d ((((x9+pG) / 2)+1),pG))else d (x9,((x9+pG) / 2))))))else again (iN x9) N (c,a)
def sP(b:Int)(c:(Zi Rec×Int)->Yw (Zi Rec))(a:Zi Rec):Yw (Zi Rec):=
 fI (iZ (b-1)) (c (a,(b-1)))
def iO(b:Int)(s:Zi Rec×Int)(e:Zi Rec×Int->Yw (Zi Rec)):Yw (Zi Rec):=
 match s with|(Ip,Ch)=>bif ab (b<Ch)then fI (iZ (Ch-1)) (fI (iZ (Ch-1)) ((idx Ip (Ch-1)).bind fun c=>(idx Ip Ch).bind fun d=>(idx (Ip.set (Ch).toNat c) (Ch-1)).bind fun a=>sP Ch e ((Ip.set (Ch).toNat c).set ((Ch-1)).toNat d)))else ah Ip
def jK(N:Nat)(d:Zi Rec)(b:Int)(s:Int×Int)(c:Int×Int->Yw (Zi Rec)):Yw (Zi Rec):=
 match s with|(x86,x87)=>bif ab (x86<x87)then fI (iZ (x86+x87)) (fI (0<=(x86+x87)/\(x86+x87)<=9223372036854775807) (fI (iZ ((x86+x87) / 2)) ((idx d b).bind fun e=>(idx d ((x86+x87) / 2)).bind fun f=>(mE e f).bind fun a=>bif (!decide (a<0))then fI (iZ (((x86+x87) / 2)+1)) (c ((((x86+x87) / 2)+1),x87))else c (x86,((x86+x87) / 2)))))else again (iO x86) N (d,b)
def lD(g:Zi Rec->Int->Int->Int->Yw (Zi Rec))(a:Int)(c:Int)(b:Int)(f:Int)(d:Zi Rec):Yw (Zi Rec):=
 bif (ab (((a+c) / 2)<((((a+c) / 2)+b)-f))&&ab (((((a+c) / 2)+b)-f)<c))then(g d ((a+c) / 2) ((((a+c) / 2)+b)-f) c).bind fun e=>ah e else ah d
def ou(g:Zi Rec->Int->Int->Int->Yw (Zi Rec))(a:Int)(e:Int)(c:Int)(b:Int)(d:Zi Rec):Yw (Zi Rec):=
 bif (ab (a<e)&&ab (e<((a+c) / 2)))then(g d a e ((a+c) / 2)).bind fun f=>lD g a c b e f else lD g a c b e d
def gT(N:Nat)(i:Zi Rec->Int->Int->Int->Yw (Zi Rec))(a:Int)(c:Int)(b:Int)(g:Zi Rec)(s:Int×Int)(e:Int×Int->Yw (Zi Rec)):Yw (Zi Rec):=
 match s with|(wR,Lg)=>bif ab (wR<Lg)then fI (iZ (wR+Lg)) (fI (0<=(wR+Lg)/\(wR+Lg)<=9223372036854775807) (fI (iZ ((wR+Lg) / 2)) (fI (iZ (((((a+c) / 2)+b)-1)-((wR+Lg) / 2))) ((idx g (((((a+c) / 2)+b)-1)-((wR+Lg) / 2))).bind fun j=>(idx g ((wR+Lg) / 2)).bind fun k=>(mE j k).bind fun d=>bif (!decide (d<0))then fI (iZ (((wR+Lg) / 2)+1)) (e ((((wR+Lg) / 2)+1),Lg))else e (wR,((wR+Lg) / 2))))))else fI (iZ ((((a+c) / 2)+b)-wR)) (bif (ab (wR<b)&&ab (b<((((a+c) / 2)+b)-wR)))then(sZ N g wR b ((((a+c) / 2)+b)-wR)).bind fun f=>ou i a wR c b f else ou i a wR c b g)
def lF(N:Nat)(f:Zi Rec->Int->Int->Int->Yw (Zi Rec))(a:Int)(c:Int)(b:Int)(d:Zi Rec)(e:Int)(g:Int):Yw (Zi Rec):=
 fI (iZ ((((a+c) / 2)+b)-1)) (again (gT N f a c b d) N (e,g))
def pJ(N:Nat)(e:Zi Rec->Int->Int->Int->Yw (Zi Rec))(d:Zi Rec)(a:Int)(b:Int)(c:Int):Yw (Zi Rec):=
 fI (iZ (b-a)) (bif ab ((b-a)=1)then again (jJ N d a) N (b,c)else fI (iZ (c-b)) (bif ab ((c-b)=1)then again (jK N d b) N (a,b)else fI (iZ (a+c)) (fI (0<=(a+c)/\(a+c)<=9223372036854775807) (fI (iZ ((a+c) / 2)) (fI (iZ (((a+c) / 2)+b)) (bif ab (((a+c) / 2)<b)then fI (iZ ((((a+c) / 2)+b)-c)) (lF N e a c b d ((((a+c) / 2)+b)-c) ((a+c) / 2))else lF N e a c b d a b))))))
def il:Nat->Zi Rec->Int->Int->Int->Yw (Zi Rec)
 |0=>fun _ _ _ _=>aE
 |N+1=>pJ N (il N)
theorem Aa:∀(N:Nat) (w0:al) (M:BS) (hM:kL M w0) (d:aj) (y:Zi Rec) (hC:CK w0 M (.own iU 106 d y:Chunk)) (h9:∀b,Chunk.own' (.own iU 106 d y:Chunk) b->¬M b) (a:Int) (b:Int) (c:Int) (r:Zi Rec) (hs:il N y a b c=ah r),
  bk prog 199 #[d,(Y a),(Y b),(Y c),(.func (.func 71) #[] #[])] w0 (fun e w'=>bz (Chunk.own' (.own iU 106 d y:Chunk)) w0 w'/\e=.returned (.tuple #[])/\CK w' M (.own iU 106 d r:Chunk)/\(TP (.own iU 106 d r:Chunk) w0 (.own iU 106 d y:Chunk))):=by
 intro N;induction N with
 |zero=>intro w0 M hM d y hC h9 a b c r hs;cases hs
 |succ N ih=>
 intro w0 M hM d y hC h9 a b c r hs;replace hs:pJ N (il N) y a b c=ah r:=hs;generalize il N=F0 at hs ih;refine cst func199 ntmps199 Z ?_;have h:=SH.vH hM hC h9;generalize oZ:(.own iU 106 d y:Chunk).own'=K0 at h;refine sg fun hs=>?_;refine D ?_;refine az hs Z (fun c2 hs=>?_) fun c2 hs=>?_;refine D ?_;refine cK (σ:=Nat×Int×Int) (inl ([10,11,12]++rg 31 23)) (fun⟨f2,x9,pG⟩=>[(10,(Y x9)),(11,(Y pG))]) (fun⟨f2,x9,pG⟩w=>SH w0 M K0 w (hset [(1,.own iU 106 d y)])/\again (jJ N y a) f2 (x9,pG)=ah r) (fun⟨f2,x9,pG⟩=>f2) ⟨N,b,c⟩ ⟨Z,Z,U⟩ ?_ ?_;exact⟨h.cn _,hs⟩;rintro⟨f2,x9,pG⟩w bD⟨h,hs⟩;obtain⟨f3,l1,l7⟩:=iL hs;subst l1;replace hs:=l7;generalize hnx:again (jJ N y a) f3=TS at hs;refine D ?_;refine az hs Z (fun m9 hs=>?_) fun m9 hs=>?_;refine sg fun hs=>?_;obtain⟨p3,hs⟩:=bO hs;refine aA (r_toU underlying3 underlying249 Z p3)<|aA (r_shr1 Z Z) ?_;obtain⟨o8,hs⟩:=bO hs;refine aA (r_ofU underlying249 underlying3 Z o8)<|D ?_;refine wF 9 mixed zq2 h fun w h=>D ?_;obtain⟨Nj,g3,hs⟩:=ai hs;obtain⟨q2,p1,o7⟩:=h.oJ 1 Z eZ Z (J g3).1 (J g3).2;refine bT (o7 _ _ _ _ _ _ _ _ _ Z Z) ?_;obtain⟨p9,n5,p2⟩:=h.rD 1 Z p1 (J g3).2;obtain⟨i5,j2,rfl,n0,o4⟩:=iM p2;replace h:=(h.au 2 n0).au 3 o4.up;refine bT (ib (k:=0) (vs:=[(Y Nj.kind),(Y Nj.co),(Y Nj.ax),(Y Nj.place),i5,j2]) n5 bJ Z Z Z<|gG Z)<|D ?_;obtain⟨s,j1,hs⟩:=ai hs;obtain⟨q3,o6,p0⟩:=h.oJ 1 Z eZ Z (J j1).1 (J j1).2;refine bT (p0 _ _ _ _ _ _ _ _ _ Z Z) ?_;obtain⟨q0,n3,n7⟩:=h.rD 1 Z o6 (J j1).2;obtain⟨h1,h8,rfl,n4,o0⟩:=iM n7;replace h:=(h.au 4 n4).au 5 o0.up;refine bT (ib (k:=0) (vs:=[(Y s.kind),(Y s.co),(Y s.ax),(Y s.place),h1,h8]) n3 bJ Z Z Z<|gG Z)<|Ct<|gX (args:=[(.agg #[(Y Nj.kind),(Y Nj.co),(Y Nj.ax),(Y Nj.place),i5,j2]),(.agg #[(Y s.kind),(Y s.co),(Y s.ax),(Y s.place),h1,h8])]) fo Z Z<|cst func71 ntmps71 Z<|D ?_;refine gD (cs:=[(Y Nj.kind),(Y Nj.co),(Y Nj.ax),(Y Nj.place),i5,j2]) h 6 Z Z fun w q4 h=>gD (cs:=[(Y s.kind),(Y s.co),(Y s.ax),(Y s.place),h1,h8]) h 7 Z Z fun w q5 h=>sg fun hs=>?_;refine D ?_;refine ek results71 Z (⟨_,Z,?_⟩);refine D ?_;refine az hs Z (fun o5 hs=>?_) fun o5 hs=>?_;refine sg fun hs=>?_;refine D ?_;refine ay ?_;subst hnx;exact oK ⟨f3,(((x9+pG) / 2)+1),pG⟩ ⟨h.cn _,hs⟩;refine D ?_;refine ay ?_;subst hnx;exact oK ⟨f3,x9,((x9+pG) / 2)⟩ ⟨h.cn _,hs⟩;refine D ?_;refine cK (σ:=Nat×Zi Rec×Int) (inl ([13]++rg 55 22)) (fun⟨f6,Ta,C8⟩=>[(13,(Y C8))]) (fun⟨f6,Ta,C8⟩w=>SH w0 M K0 w (hset [(1,.own iU 106 d Ta)])/\again (iN x9) f6 (Ta,C8)=ah r) (fun⟨f6,Ta,C8⟩=>f6) ⟨N,y,a⟩ ⟨Z,U⟩ ?_ ?_;exact⟨h.cn _,hs⟩;rintro⟨f6,Ta,C8⟩w bD⟨h,hs⟩;obtain⟨f9,l8,m1⟩:=iL hs;subst l8;replace hs:=m1
 generalize hnx:again (iN x9) f9=nx63 at hs;refine sg fun hs=>?_;refine D ?_;refine az hs Z (fun n1 hs=>?_) fun n1 hs=>?_;refine bR<|aN<|aY (σ:=Zi Rec) (inl<|rg 61 16) (fun f5=>[]) (fun f5 w=>SH w0 M K0 w (hset [(1,.own iU 106 d f5)])/\sO C8 nx63 f5=ah r) ?_ ?_;rintro f5 w bD⟨h,hs⟩;refine sg fun hs=>?_;refine aI Z<|ak<|ay ?_;subst hnx;exact oK ⟨f9,f5,(C8+1)⟩ ⟨h.cn _,hs⟩;refine mF<|iG (L:=(ob d)) mixed h fun w h=>fA 0 kR d Z<|fA 1 kR (Y C8) Z<|fA 2 kR d Z<|fA 3 kR (Y C8) Z ?_;obtain⟨e3,hs⟩:=bO hs;refine aK 4 kR Z (fun w f=>EN Z Z e3)<|fA 5 kR d Z<|fA 6 kR (Y C8) Z ?_;obtain⟨e5,hs⟩:=bO hs;refine aK 7 kR Z (fun w f=>EN Z Z e5) ?_;obtain⟨S,Xe,hs⟩:=ai hs;obtain⟨j7,B,e0⟩:=h.oJ 1 Z eZ Z (J Xe).1 (J Xe).2;refine aK 8 kR Z (fun w f=>e0 _ _ _ _ _ _ _ _ _ Z Z)<|fA 10 kR d Z<|fA 11 kR (Y C8) Z ?_;obtain⟨R,Ao,hs⟩:=ai hs;obtain⟨g5,v,c3⟩:=h.oJ 1 Z eZ Z (J Ao).1 (J Ao).2;refine aK 12 kR Z (fun w f=>c3 _ _ _ _ _ _ _ _ _ Z Z) ?_;obtain⟨j4,J9,hs⟩:=ai hs;refine gH fun p6 K=>iH 9 13 zq2 Z aT Z aT ?_ ?_;obtain⟨b9,g,m⟩:=h.rD 1 Z B (J Xe).2;obtain⟨Rm,Rn,rfl,n,i⟩:=iM m;replace h:=(h.au 116 n).au 117 i.up;refine aA (ib (k:=0) (vs:=[(Y S.kind),(Y S.co),(Y S.ax),(Y S.place),Rm,Rn]) g bJ Z Z Z<|gG Z)<|ak<|ae K<|aM 13 Z ?_;obtain⟨a1,ZX,ZY⟩:=h.rD 1 Z v (J Ao).2;obtain⟨Ob,Oc,rfl,ZZ,Z0⟩:=iM ZY;replace h:=(h.au 164 ZZ).au 165 Z0.up;refine aA (ib (k:=0) (vs:=[(Y R.kind),(Y R.co),(Y R.ax),(Y R.place),Ob,Oc]) ZX bJ Z Z Z<|gG Z)<|ak<|ae K ?_;obtain⟨d1,Z4,Z5⟩:=h.oJ 1 Z eZ Z (J Ao).1 (J Ao).2;refine aK 14 K Z (fun w f=>Z5 _ _ _ _ _ _ _ _ _ Z Z)<|aM 15 Z<|qi (a':=S) (vs:=[(Y S.kind),(Y S.co),(Y S.ax),(Y S.place),Rm,Rn]) h 1 Z Z4 Z (J Ao).2 bJ Z Z Z Z ⟨_,_,Z,(h.aR 116 Z),(h.aR 117 Z)⟩ fun w h Z6=>?_;replace K:=K.same Z6;refine ak<|ae K ?_;obtain⟨c8,Z7,Z8⟩:=h.oJ 1 Z eZ Z (J J9).1 (J J9).2;refine aK 16 K Z (fun w f=>Z8 _ _ _ _ _ _ _ _ _ Z Z)<|aM 17 Z<|qi (a':=R) (vs:=[(Y R.kind),(Y R.co),(Y R.ax),(Y R.place),Ob,Oc]) h 1 Z Z7 Z (J J9).2 bJ Z Z Z Z ⟨_,_,Z,(h.aR 164 Z),(h.aR 165 Z)⟩ fun w h Z9=>?_;replace K:=K.same Z9;refine ak<|ae K<|iq<|je;obtain⟨a1,ZX,ZY⟩:=h.rD 1 Z v (J Ao).2;obtain⟨Ob,Oc,rfl,ZZ,Z0⟩:=iM ZY;replace h:=(h.au 164 ZZ).au 165 Z0.up;refine aA (ib (k:=0) (vs:=[(Y R.kind),(Y R.co),(Y R.ax),(Y R.place),Ob,Oc]) ZX bJ Z Z Z<|gG Z)<|ak<|ae K<|aM 9 Z ?_;obtain⟨b9,g,m⟩:=h.rD 1 Z B (J Xe).2;obtain⟨Rm,Rn,rfl,n,i⟩:=iM m;replace h:=(h.au 116 n).au 117 i.up;refine aA (ib (k:=0) (vs:=[(Y S.kind),(Y S.co),(Y S.ax),(Y S.place),Rm,Rn]) g bJ Z Z Z<|gG Z)<|ak<|ae K ?_;obtain⟨d1,Z4,Z5⟩:=h.oJ 1 Z eZ Z (J Ao).1 (J Ao).2
 refine aK 14 K Z (fun w f=>Z5 _ _ _ _ _ _ _ _ _ Z Z)<|aM 15 Z<|qi (a':=S) (vs:=[(Y S.kind),(Y S.co),(Y S.ax),(Y S.place),Rm,Rn]) h 1 Z Z4 Z (J Ao).2 bJ Z Z Z Z ⟨_,_,Z,(h.aR 116 Z),(h.aR 117 Z)⟩ fun w h Z6=>?_;replace K:=K.same Z6;refine ak<|ae K ?_;obtain⟨c8,Z7,Z8⟩:=h.oJ 1 Z eZ Z (J J9).1 (J J9).2;refine aK 16 K Z (fun w f=>Z8 _ _ _ _ _ _ _ _ _ Z Z)<|aM 17 Z<|qi (a':=R) (vs:=[(Y R.kind),(Y R.co),(Y R.ax),(Y R.place),Ob,Oc]) h 1 Z Z7 Z (J J9).2 bJ Z Z Z Z ⟨_,_,Z,(h.aR 164 Z),(h.aR 165 Z)⟩ fun w h Z9=>?_;replace K:=K.same Z9;refine ak<|ae K<|iq<|je;refine D ?_;refine fin0 results199 ?_;cases hs;subst oZ;obtain⟨o1,o2,o3⟩:=h.fq 1 U;exact⟨o2,Z,o1,o3⟩;refine sg fun hs=>?_;refine D ?_;refine az hs Z (fun p4 hs=>?_) fun p4 hs=>?_;refine D ?_;refine cK (σ:=Nat×Int×Int) (inl ([14,15,16]++rg 83 24)) (fun⟨f4,u,O⟩=>[(14,(Y u)),(15,(Y O))]) (fun⟨f4,u,O⟩w=>SH w0 M K0 w (hset [(1,.own iU 106 d y)])/\again (jK N y b) f4 (u,O)=ah r) (fun⟨f4,u,O⟩=>f4) ⟨N,a,b⟩ ⟨Z,Z,U⟩ ?_ ?_;exact⟨h.cn _,hs⟩;rintro⟨f4,u,O⟩w bD⟨h,hs⟩;obtain⟨f0,m7,l9⟩:=iL hs;subst m7;replace hs:=l9;generalize hnx:again (jK N y b) f0=nx92 at hs;refine D ?_;refine az hs Z (fun o9 hs=>?_) fun o9 hs=>?_;refine sg fun hs=>?_;obtain⟨p5,hs⟩:=bO hs;refine aA (r_toU underlying3 underlying249 Z p5)<|aA (r_shr1 Z Z) ?_;obtain⟨n8,hs⟩:=bO hs;refine aA (r_ofU underlying249 underlying3 Z n8)<|D ?_;refine qw mixed h fun w h=>lX 0 kR (.func (.func 71) #[] #[]) Z<|lX 1 kR d Z<|lX 2 kR (Y b) Z ?_;obtain⟨Le,l,hs⟩:=ai hs;obtain⟨j9,e8,e4⟩:=h.oJ 1 Z eZ Z (J l).1 (J l).2;refine aW 3 kR Z (fun w f=>e4 _ _ _ _ _ _ _ _ _ Z Z) ?_;obtain⟨h2,e2,e1⟩:=h.rD 1 Z e8 (J l).2;obtain⟨C,I,rfl,d3,d6⟩:=iM e1;replace h:=(h.au 284 d3).au 285 d6.up;refine aW 4 kR Z (fun w f=>have h:=h.grow f;ib (k:=0) (vs:=[(Y Le.kind),(Y Le.co),(Y Le.ax),(Y Le.place),C,I]) (e2.grow f) bJ Z Z Z (gG Z)) (lX 5 kR d Z (lX 6 kR (Y (((u+O) / 2))) Z ?_));obtain⟨Lf,j,hs⟩:=ai hs;obtain⟨j6,d5,d9⟩:=h.oJ 1 Z eZ Z (J j).1 (J j).2;refine aW 7 kR Z (fun w f=>d9 _ _ _ _ _ _ _ _ _ Z Z) ?_;obtain⟨i0,d8,e6⟩:=h.rD 1 Z d5 (J j).2;obtain⟨E,G,rfl,e7,d7⟩:=iM e6;replace h:=(h.au 332 e7).au 333 d7.up;refine aW 8 kR Z (fun w f=>have h:=h.grow f;ib (k:=0) (vs:=[(Y Lf.kind),(Y Lf.co),(Y Lf.ax),(Y Lf.place),E,G]) (d8.grow f) bJ Z Z Z (gG Z)) (jX fun n6 CE=>uB 9 Z ?_);obtain⟨j8,e9,hs⟩:=ai hs;refine oG h fo Z Z (zh _ _ h.lt Le C I (h.kK 284 Z) (h.kK 285 Z) Lf E G (h.kK 332 Z) (h.kK 333 Z) _ e9) fun w d4 h=>?_;replace CE:=CE.trans d4
 refine ak<|dL CE<|aW 10 CE Z (fun w f=>Jn Z Z)<|aW 11 CE Z (fun w f=>rC Z)<|xW<|aN<|az hs Z (fun m6 hs=>?_) fun m6 hs=>?_;refine sg fun hs=>?_;refine D ?_;refine ay ?_;subst hnx;exact oK ⟨f0,(((u+O) / 2)+1),O⟩ ⟨h.cn _,hs⟩;refine D ?_;refine ay ?_;subst hnx;exact oK ⟨f0,u,((u+O) / 2)⟩ ⟨h.cn _,hs⟩;refine D ?_;refine cK (σ:=Nat×Zi Rec×Int) (inl ([17]++rg 108 21)) (fun⟨b4,Ip,Ch⟩=>[(17,(Y Ch))]) (fun⟨b4,Ip,Ch⟩w=>SH w0 M K0 w (hset [(1,.own iU 106 d Ip)])/\again (iO u) b4 (Ip,Ch)=ah r) (fun⟨b4,Ip,Ch⟩=>b4) ⟨N,y,b⟩ ⟨Z,U⟩ ?_ ?_;exact⟨h.cn _,hs⟩;rintro⟨b4,Ip,Ch⟩w bD⟨h,hs⟩;obtain⟨f1,i2,g7⟩:=iL hs;subst i2;replace hs:=g7;generalize hnx:again (iO u) f1=QB at hs;refine D ?_;refine az hs Z (fun k7 hs=>?_) fun k7 hs=>?_;refine bR<|aN<|aY (σ:=Zi Rec) (inl<|rg 113 16) (fun a8=>[]) (fun a8 w=>SH w0 M K0 w (hset [(1,.own iU 106 d a8)])/\sP Ch QB a8=ah r) ?_ ?_;rintro a8 w bD⟨h,hs⟩;refine sg fun hs=>?_;refine aI Z<|ak<|ay ?_;subst hnx;exact oK ⟨f1,a8,(Ch-1)⟩ ⟨h.cn _,hs⟩;refine mF<|iG (L:=(ob d)) mixed h fun w h=>fA 0 kR d Z<|fA 1 kR (Y Ch) Z<|fA 2 kR d Z<|fA 3 kR (Y Ch) Z ?_;obtain⟨c5,hs⟩:=bO hs;refine aK 4 kR Z (fun w f=>Eb Z Z c5)<|fA 5 kR d Z<|fA 6 kR (Y Ch) Z ?_;obtain⟨c0,hs⟩:=bO hs;refine aK 7 kR Z (fun w f=>Eb Z Z c0) ?_;obtain⟨Q,Sl,hs⟩:=ai hs;obtain⟨i4,x,c6⟩:=h.oJ 1 Z eZ Z (J Sl).1 (J Sl).2;refine aK 8 kR Z (fun w f=>c6 _ _ _ _ _ _ _ _ _ Z Z)<|fA 10 kR d Z<|fA 11 kR (Y Ch) Z ?_;obtain⟨T,ym,hs⟩:=ai hs;obtain⟨g2,q,b3⟩:=h.oJ 1 Z eZ Z (J ym).1 (J ym).2;refine aK 12 kR Z (fun w f=>b3 _ _ _ _ _ _ _ _ _ Z Z) ?_;obtain⟨g1,Ht,hs⟩:=ai hs;refine gH fun n2 F=>iH 9 13 zq2 Z aT Z aT ?_ ?_;obtain⟨a0,g4,i8⟩:=h.rD 1 Z x (J Sl).2;obtain⟨Od,Oe,rfl,i9,i6⟩:=iM i8;replace h:=(h.au 500 i9).au 501 i6.up;refine aA (ib (k:=0) (vs:=[(Y Q.kind),(Y Q.co),(Y Q.ax),(Y Q.place),Od,Oe]) g4 bJ Z Z Z<|gG Z)<|ak<|ae F<|aM 13 Z ?_;obtain⟨P,Vj,Vk⟩:=h.rD 1 Z q (J ym).2;obtain⟨Lh,Li,rfl,Vl,Vm⟩:=iM Vk;replace h:=(h.au 548 Vl).au 549 Vm.up;refine aA (ib (k:=0) (vs:=[(Y T.kind),(Y T.co),(Y T.ax),(Y T.place),Lh,Li]) Vj bJ Z Z Z<|gG Z)<|ak<|ae F ?_;obtain⟨X,Vn,Vo⟩:=h.oJ 1 Z eZ Z (J ym).1 (J ym).2;refine aK 14 F Z (fun w f=>Vo _ _ _ _ _ _ _ _ _ Z Z)<|aM 15 Z<|qi (a':=Q) (vs:=[(Y Q.kind),(Y Q.co),(Y Q.ax),(Y Q.place),Od,Oe]) h 1 Z Vn Z (J ym).2 bJ Z Z Z Z ⟨_,_,Z,(h.aR 500 Z),(h.aR 501 Z)⟩ fun w h Vp=>?_;replace F:=F.same Vp;refine ak<|ae F ?_;obtain⟨a9,Vq,Vr⟩:=h.oJ 1 Z eZ Z (J Ht).1 (J Ht).2
 refine aK 16 F Z (fun w f=>Vr _ _ _ _ _ _ _ _ _ Z Z)<|aM 17 Z<|qi (a':=T) (vs:=[(Y T.kind),(Y T.co),(Y T.ax),(Y T.place),Lh,Li]) h 1 Z Vq Z (J Ht).2 bJ Z Z Z Z ⟨_,_,Z,(h.aR 548 Z),(h.aR 549 Z)⟩ fun w h Vs=>?_;replace F:=F.same Vs;refine ak<|ae F<|iq<|je;obtain⟨P,Vj,Vk⟩:=h.rD 1 Z q (J ym).2;obtain⟨Lh,Li,rfl,Vl,Vm⟩:=iM Vk;replace h:=(h.au 548 Vl).au 549 Vm.up;refine aA (ib (k:=0) (vs:=[(Y T.kind),(Y T.co),(Y T.ax),(Y T.place),Lh,Li]) Vj bJ Z Z Z<|gG Z)<|ak<|ae F<|aM 9 Z ?_;obtain⟨a0,g4,i8⟩:=h.rD 1 Z x (J Sl).2;obtain⟨Od,Oe,rfl,i9,i6⟩:=iM i8;replace h:=(h.au 500 i9).au 501 i6.up;refine aA (ib (k:=0) (vs:=[(Y Q.kind),(Y Q.co),(Y Q.ax),(Y Q.place),Od,Oe]) g4 bJ Z Z Z<|gG Z)<|ak<|ae F ?_;obtain⟨X,Vn,Vo⟩:=h.oJ 1 Z eZ Z (J ym).1 (J ym).2;refine aK 14 F Z (fun w f=>Vo _ _ _ _ _ _ _ _ _ Z Z)<|aM 15 Z<|qi (a':=Q) (vs:=[(Y Q.kind),(Y Q.co),(Y Q.ax),(Y Q.place),Od,Oe]) h 1 Z Vn Z (J ym).2 bJ Z Z Z Z ⟨_,_,Z,(h.aR 500 Z),(h.aR 501 Z)⟩ fun w h Vp=>?_;replace F:=F.same Vp;refine ak<|ae F ?_;obtain⟨a9,Vq,Vr⟩:=h.oJ 1 Z eZ Z (J Ht).1 (J Ht).2;refine aK 16 F Z (fun w f=>Vr _ _ _ _ _ _ _ _ _ Z Z)<|aM 17 Z<|qi (a':=T) (vs:=[(Y T.kind),(Y T.co),(Y T.ax),(Y T.place),Lh,Li]) h 1 Z Vq Z (J Ht).2 bJ Z Z Z Z ⟨_,_,Z,(h.aR 548 Z),(h.aR 549 Z)⟩ fun w h Vs=>?_;replace F:=F.same Vs;refine ak<|ae F<|iq<|je;refine D ?_;refine fin0 results199 ?_;cases hs;subst oZ;obtain⟨o1,o2,o3⟩:=h.fq 1 U;exact⟨o2,Z,o1,o3⟩;refine sg fun hs=>?_;obtain⟨l0,hs⟩:=bO hs;refine aA (r_toU underlying3 underlying249 Z l0)<|aA (r_shr1 Z Z) ?_;obtain⟨m5,hs⟩:=bO hs;refine aA (r_ofU underlying249 underlying3 Z m5)<|sg fun hs=>?_;refine aI Z<|nJ<|aI Z<|aI Z<|nN<|aY (σ:=Int×Int) (inl ([20,21]++rg 138 9)) (fun⟨Mi,D8⟩=>[(20,(Y Mi)),(21,(Y D8))]) (fun⟨Mi,D8⟩w=>SH w0 M K0 w (hset [(1,.own iU 106 d y)])/\lF N F0 a c b y Mi D8=ah r) ?_ ?_;rintro⟨Mi,D8⟩w bD⟨h,hs⟩;refine sg fun hs=>?_;refine D ?_;refine cK (σ:=Nat×Int×Int) (inl ([20,21,23]++rg 149 26)) (fun⟨a6,wR,Lg⟩=>[(20,(Y wR)),(21,(Y Lg))]) (fun⟨a6,wR,Lg⟩w=>SH w0 M K0 w (hset [(1,.own iU 106 d y)])/\again (gT N F0 a c b y) a6 (wR,Lg)=ah r) (fun⟨a6,wR,Lg⟩=>a6) ⟨N,Mi,D8⟩ ⟨Z,Z,U⟩ ?_ ?_;exact⟨h.cn _,hs⟩;rintro⟨a6,wR,Lg⟩w bD⟨h,hs⟩;obtain⟨c4,h6,j3⟩:=iL hs;subst h6;replace hs:=j3;generalize hnx:again (gT N F0 a c b y) c4=nx149 at hs;refine D ?_;refine az hs Z (fun c152 hs=>?_) fun c152 hs=>?_;refine sg fun hs=>?_;obtain⟨m3,hs⟩:=bO hs;refine aA (r_toU underlying3 underlying249 Z m3)<|aA (r_shr1 Z Z) ?_;obtain⟨l3,hs⟩:=bO hs;refine aA (r_ofU underlying249 underlying3 Z l3)<|D ?_
 refine qw mixed h fun w h=>lX 0 kR (.func (.func 71) #[] #[]) Z<|lX 1 kR d Z<|lX 2 kR (Y (((((a+c) / 2)+b)-1))) Z<|lX 3 kR (Y (((wR+Lg) / 2))) Z ?_;obtain⟨c1,hs⟩:=bO hs;refine aW 4 kR Z (fun w f=>Eb Z Z c1) ?_;obtain⟨Hq,i1,hs⟩:=ai hs;obtain⟨h5,b8,b5⟩:=h.oJ 1 Z eZ Z (J i1).1 (J i1).2;refine aW 5 kR Z (fun w f=>b5 _ _ _ _ _ _ _ _ _ Z Z) ?_;obtain⟨f8,c9,d2⟩:=h.rD 1 Z b8 (J i1).2;obtain⟨t,A,rfl,d0,c7⟩:=iM d2;replace h:=(h.au 692 d0).au 693 c7.up;refine aW 6 kR Z (fun w f=>have h:=h.grow f;ib (k:=0) (vs:=[(Y Hq.kind),(Y Hq.co),(Y Hq.ax),(Y Hq.place),t,A]) (c9.grow f) bJ Z Z Z (gG Z)) (lX 7 kR d Z (lX 8 kR (Y (((wR+Lg) / 2))) Z ?_));obtain⟨Hr,h0,hs⟩:=ai hs;obtain⟨g6,b6,b7⟩:=h.oJ 1 Z eZ Z (J h0).1 (J h0).2;refine aW 9 kR Z (fun w f=>b7 _ _ _ _ _ _ _ _ _ Z Z) ?_;obtain⟨f7,a3,a5⟩:=h.rD 1 Z b6 (J h0).2;obtain⟨p,o,rfl,b2,b1⟩:=iM a5;replace h:=(h.au 740 b2).au 741 b1.up;refine aW 10 kR Z (fun w f=>have h:=h.grow f;ib (k:=0) (vs:=[(Y Hr.kind),(Y Hr.co),(Y Hr.ax),(Y Hr.place),p,o]) (a3.grow f) bJ Z Z Z (gG Z)) (jX fun n9 z=>uB 11 Z ?_);obtain⟨g0,a7,hs⟩:=ai hs;refine oG h fo Z Z (zh _ _ h.lt Hq t A (h.kK 692 Z) (h.kK 693 Z) Hr p o (h.kK 740 Z) (h.kK 741 Z) _ a7) fun w a2 h=>?_;replace z:=z.trans a2;refine ak<|dL z<|aW 12 z Z (fun w f=>Jn Z Z)<|aW 13 z Z (fun w f=>rC Z)<|xW<|aN<|az hs Z (fun k1 hs=>?_) fun k1 hs=>?_;refine sg fun hs=>?_;refine D ?_;refine ay ?_;subst hnx;exact oK ⟨c4,(((wR+Lg) / 2)+1),Lg⟩ ⟨h.cn _,hs⟩;refine D ?_;refine ay ?_;subst hnx;exact oK ⟨c4,wR,((wR+Lg) / 2)⟩ ⟨h.cn _,hs⟩;refine sg fun hs=>?_;refine aI Z<|nN<|aY (σ:=Zi Rec) (inl<|rg 178 14) (fun a4=>[]) (fun a4 w=>SH w0 M K0 w (hset [(1,.own iU 106 d a4)])/\ou F0 a wR c b a4=ah r) ?_ ?_;rintro a4 w bD⟨h,hs⟩;refine aY (σ:=Zi Rec) (inl<|rg 192 14) (fun b0=>[]) (fun b0 w=>SH w0 M K0 w (hset [(1,.own iU 106 d b0)])/\lD F0 a c b wR b0=ah r) ?_ ?_;rintro b0 w bD⟨h,hs⟩;refine D ?_;refine az hs Z (fun k2 hs=>?_) fun k2 hs=>?_;refine D ?_;obtain⟨i3,i7,g8⟩:=h.fD 1 U;obtain⟨p7,k3,hs⟩:=ai hs;refine bA fo Z Z (ih _ _ g8 d b0 i3 i7 ((a+c) / 2) ((((a+c) / 2)+b)-wR) c _ k3) ?_;rintro _ w⟨l5,rfl,l6,m4⟩;refine⟨_,Z,?_⟩;replace h:=h.iJ 1 l6 U l5 m4;refine ak<|Jp results199 ?_;cases hs;subst oZ;obtain⟨o1,o2,o3⟩:=h.fq 1 U;exact⟨o2,Z,o1,o3⟩;refine bR<|Jp results199 ?_;cases hs;subst oZ;obtain⟨o1,o2,o3⟩:=h.fq 1 U;exact⟨o2,Z,o1,o3⟩;refine D ?_;refine az hs Z (fun k9 hs=>?_) fun k9 hs=>?_;refine D ?_;obtain⟨j0,h3,j5⟩:=h.fD 1 U;obtain⟨p8,m2,hs⟩:=ai hs;refine bA fo Z Z (ih _ _ j5 d a4 j0 h3 a wR ((a+c) / 2) _ m2) ?_;rintro _ w⟨l2,rfl,k5,k4⟩;refine⟨_,Z,?_⟩;replace h:=h.iJ 1 k5 U l2 k4;exact je
 exact je;refine D ?_;refine az hs Z (fun m0 hs=>?_) fun m0 hs=>?_;refine D ?_;obtain⟨h7,g9,h4⟩:=h.fD 1 U;obtain⟨q1,k8,hs⟩:=ai hs;refine bA fo Z Z (Lc N _ _ h4 d y h7 g9 wR b ((((a+c) / 2)+b)-wR) _ k8) ?_;rintro _ w⟨l4,rfl,m8,k0⟩;refine⟨_,Z,?_⟩;replace h:=h.iJ 1 m8 U l4 k0;exact je;exact je;refine D ?_;refine az hs Z (fun k6 hs=>?_) fun k6 hs=>?_;refine sg fun hs=>?_;exact je;exact je
def mR(a:Int)(c:(Zi Rec×Int)->Yw (Zi Rec))(b:Zi Rec):Yw (Zi Rec):=
 fI (iZ (a*2)) (c (b,(a*2)))
def j4(N:Nat)(a:Int)(b:Int)(e:(Zi Rec×Int)->Yw (Zi Rec))(s:Zi Rec×Int×Int)(c:Zi Rec×Int×Int->Yw (Zi Rec)):Yw (Zi Rec):=
 match s with|(Qy,x61,Je)=>bif ab (Je<=a)then fI (iZ (x61+b)) ((il N Qy x61 (x61+b) Je).bind fun f=>fI (iZ (2*b)) (fI (iZ (Je+(2*b))) (c (f,Je,(Je+(2*b))))))else fI (iZ (x61+b)) (bif ab ((x61+b)<a)then(il N Qy x61 (x61+b) a).bind fun d=>mR b e d else mR b e Qy)
def gL(N:Nat)(a:Int)(s:Zi Rec×Int)(b:Zi Rec×Int->Yw (Zi Rec)):Yw (Zi Rec):=
 match s with|(x40,x41)=>bif ab (x41<a)then fI (iZ (2*x41)) (again (j4 N a x41 b) N (x40,0,(2*x41)))else ah x40
def iy(N:Nat)(a:Int)(s:Zi Rec×Int×Int)(d:Zi Rec×Int×Int->Yw (Zi Rec)):Yw (Zi Rec):=
 match s with|(pG,iD,pV)=>bif ab (pV<=a)then(kN N pG iD pV).bind fun b=>fI (iZ (pV+20)) (d (b,pV,(pV+20)))else(kN N pG iD a).bind fun c=>again (gL N a) N (c,20)
def yn(N:Nat)(b:Zi Rec)(a:Int):Yw (Zi Rec):=
 again (iy N a) N (b,0,20)
theorem Lj(N:Nat)(w0:al)(M:BS)(hM:kL M w0)(f:aj)(u:Zi Rec)(hC:CK w0 M (.own iU 106 f u:Chunk))(a6:∀b,Chunk.own' (.own iU 106 f u:Chunk) b->¬M b)(a:Int)(r:Zi Rec)(hs:yn N u a=ah r):
  bk prog 133 #[f,(Y a),(.func (.func 71) #[] #[])] w0 (fun e w'=>bz (Chunk.own' (.own iU 106 f u:Chunk)) w0 w'/\e=.returned (.tuple #[])/\CK w' M (.own iU 106 f r:Chunk)/\(TP (.own iU 106 f r:Chunk) w0 (.own iU 106 f u:Chunk))):=by
 refine cst func133 ntmps133 Z ?_;have h:=SH.vH hM hC a6;generalize oZ:(.own iU 106 f u:Chunk).own'=K0 at h;refine D ?_;refine cK (σ:=Nat×Zi Rec×Int×Int) (inl ([7,8]++rg 11 12)) (fun⟨j,v,x,p⟩=>[(7,(Y x)),(8,(Y p))]) (fun⟨j,v,x,p⟩w=>SH w0 M K0 w (hset [(1,.own iU 106 f v)])/\again (iy N a) j (v,x,p)=ah r) (fun⟨j,v,x,p⟩=>j) ⟨N,u,0,20⟩ ⟨Z,Z,U⟩ ?_ ?_;exact⟨h.cn _,hs⟩;rintro⟨j,v,x,p⟩w bD⟨h,hs⟩;obtain⟨n,C,R⟩:=iL hs;subst C;replace hs:=R;generalize hnx:again (iy N a) n=GG at hs;refine D ?_;refine az hs Z (fun b8 hs=>?_) fun b8 hs=>?_;refine D ?_;obtain⟨z,A,L⟩:=h.fD 1 U;obtain⟨a1,a5,hs⟩:=ai hs;refine bA fo Z Z (wU N _ _ L f v z A x p _ a5) ?_;rintro _ w⟨a9,rfl,a4,a8⟩;refine⟨_,Z,?_⟩;replace h:=h.iJ 1 a4 U a9 a8;refine sg fun hs=>?_;refine D ?_;refine ay ?_;subst hnx;exact oK ⟨n,a1,p,(p+20)⟩ ⟨h.cn _,hs⟩;refine D ?_;obtain⟨O,T,S⟩:=h.fD 1 U;obtain⟨a7,b7,hs⟩:=ai hs;refine bA fo Z Z (wU N _ _ S f v O T x a _ b7) ?_;rintro _ w⟨c5,rfl,b3,b0⟩;refine⟨_,Z,?_⟩;replace h:=h.iJ 1 b3 U c5 b0;refine D ?_;refine cK (σ:=Nat×Zi Rec×Int) (inl ([6,7,8,9]++rg 28 35)) (fun⟨k,g,c⟩=>[(6,(Y c))]) (fun⟨k,g,c⟩w=>SH w0 M K0 w (hset [(1,.own iU 106 f g)])/\again (gL N a) k (g,c)=ah r) (fun⟨k,g,c⟩=>k) ⟨N,a7,20⟩ ⟨Z,U⟩ ?_ ?_;exact⟨h.cn _,hs⟩;rintro⟨k,g,c⟩w bD⟨h,hs⟩;obtain⟨q,G,y⟩:=iL hs;subst G;replace hs:=y;generalize t:again (gL N a) q=Sy at hs;refine D ?_;refine az hs Z (fun a2 hs=>?_) fun a2 hs=>?_;refine D ?_;obtain⟨c4,hs⟩:=bO hs;refine aA (r_mul Z Z c4)<|D ?_;refine cK (σ:=Nat×Zi Rec×Int×Int) (inl ([7,8]++rg 33 16)) (fun⟨l,s,d,m⟩=>[(7,(Y d)),(8,(Y m))]) (fun⟨l,s,d,m⟩w=>SH w0 M K0 w (hset [(1,.own iU 106 f s)])/\again (j4 N a c Sy) l (s,d,m)=ah r) (fun⟨l,s,d,m⟩=>l) ⟨N,g,0,(2*c)⟩ ⟨Z,Z,U⟩ ?_ ?_;exact⟨h.cn _,hs⟩;rintro⟨l,s,d,m⟩w bD⟨h,hs⟩;obtain⟨o,B,P⟩:=iL hs;subst B;replace hs:=P;generalize hnx:again (j4 N a c Sy) o=nx67 at hs;refine D ?_;refine az hs Z (fun c1 hs=>?_) fun c1 hs=>?_;refine sg fun hs=>?_;refine D ?_;obtain⟨K,Q,I⟩:=h.fD 1 U;obtain⟨R7,b2,hs⟩:=ai hs;refine bA fo Z Z (Aa N _ _ I f s K Q d (d+c) m _ b2) ?_;rintro _ w⟨b5,rfl,a0,c0⟩;refine⟨_,Z,?_⟩;replace h:=h.iJ 1 a0 U b5 c0;refine D ?_;obtain⟨b6,hs⟩:=bO hs;refine aA (r_mul Z Z b6)<|sg fun hs=>?_;refine D ?_;refine ay ?_;subst hnx;exact oK ⟨o,R7,m,(m+(2*c))⟩ ⟨h.cn _,hs⟩;refine Jw<|sj<|sj<|AR<|aN<|aY (σ:=Zi Rec) (inl ([9]++rg 49 12)) (fun i=>[]) (fun i w=>SH w0 M K0 w (hset [(1,.own iU 106 f i)])/\mR c Sy i=ah r) ?_ ?_;rintro i w bD⟨h,hs⟩;refine D ?_;obtain⟨b1,hs⟩:=bO hs;refine aA (r_mul Z Z b1)<|D ?_;refine ay ?_;subst t;exact oK ⟨q,i,(c*2)⟩ ⟨h.cn _,hs⟩
 refine sg fun hs=>?_;refine D ?_;refine az hs Z (fun c3 hs=>?_) fun c3 hs=>?_;refine D ?_;obtain⟨X,E,F⟩:=h.fD 1 U;obtain⟨c6,b9,hs⟩:=ai hs;refine bA fo Z Z (Aa N _ _ F f s X E d (d+c) a _ b9) ?_;rintro _ w⟨c2,rfl,b4,a3⟩;refine⟨_,Z,?_⟩;replace h:=h.iJ 1 b4 U c2 a3;exact je;exact je;refine D ?_;refine Jp results133 ?_;cases hs;subst oZ;obtain⟨o1,o2,o3⟩:=h.fq 1 U;exact⟨o2,Z,o1,o3⟩
def rP(N:Nat)(a:Zi Rec):Yw (Zi Rec):=
 (yn N a (a.length:Int)).bind fun b=>ah b
theorem JN(N:Nat)(w0:al)(M:BS)(n:kL M w0)(a:aj)(c:Zi Rec)(k:CK w0 M (.own iU 106 a c:Chunk))(f:∀b,Chunk.own' (.own iU 106 a c:Chunk) b->¬M b)(r:Zi Rec)(hs:rP N c=ah r):
  bk prog 70 #[a,(.func (.func 71) #[] #[])] w0 (fun e w'=>bz (Chunk.own' (.own iU 106 a c:Chunk)) w0 w'/\e=.returned (.tuple #[])/\CK w' M (.own iU 106 a r:Chunk)/\(TP (.own iU 106 a r:Chunk) w0 (.own iU 106 a c:Chunk))):=by
 refine cst func70 ntmps70 Z ?_;have h:=SH.vH n k f;generalize o:(.own iU 106 a c:Chunk).own'=K0 at h;refine D ?_;obtain⟨i,d,g⟩:=h.fD 1 U;obtain⟨s,j,hs⟩:=ai hs;refine bA fo Z Z (Lj N _ _ g a c i d (c.length:Int) _ j) ?_;rintro _ w⟨m,rfl,p,l⟩;refine⟨_,Z,?_⟩;replace h:=h.iJ 1 p U m l;refine ak<|Jp results70 ?_;cases hs;subst o;obtain⟨o1,o2,q⟩:=h.fq 1 U;exact⟨o2,Z,o1,q⟩
def uZ(a:Zi Rec->Yw (Zi Int))(b:Zi Rec):Yw (Zi Int):=
 a b
def qR(b:Int)(a:Rec)(d:Zi Rec)(c:Zi Rec->Yw (Zi Int)):Yw (Zi Int):=
 bif (ab (a.co=b)&&ab (a.kind=2))then fI (Room 80 d [a]) (uZ c (d++[a]))else uZ c d
def qU(b:Zi Rec->Yw (Zi Int))(a:Zi Rec):Yw (Zi Int):=
 b a
def vg(c:Rec)(b:Zi Int)(a:Zi Int->Yw (Zi Int)):Yw (Zi Int):=
 fI (Room 8 b c.says) (a (b++c.says))
def vk(a:Zi Int):Yw (Zi Int):=
 ah a
def qV(b:Int)(c:iI)(d:Zi Rec)(e:Zi Rec->Yw (Zi Int)):Yw (Zi Int):=
 (mo c.safe 120).bind fun a=>each (qR b) (qU e) a.1 d
def vo(N:Nat)(b:Zi Rec):Yw (Zi Int):=
 (rP N b).bind fun a=>each vg vk a []
def zN(N:Nat)(a:aX)(b:Int):Yw (Zi Int):=
 each (qV b) (vo N) a.places []
theorem Ro(N:Nat)(w0:al)(M:BS)(hM:kL M w0)(hT:pI prog 4 w0)(a:aX)(jS A ql:aj)(b6:fB dJ w0 BE M jS a.prog)(a6:fB fK w0 BE M A a.places)(X:fB gm w0 BE M ql a.gM)(b:Int)(r:Zi Int)(hs:zN N a b=ah r):
  bk prog 19 #[(.agg #[jS,A,ql]),(Y b)] w0 (fun e w'=>Grow w0 w'/\∃u0,e=.returned (u0)/\cz bC 3 w' M u0 r/\(∀b,ob u0 b->w0.heap.size<=b)):=by
 refine cst func19 ntmps19 Z ?_;have h:=SH.init hM;replace h:=((h.bG 1 b6 aC).bG 2 a6<|aF aC).bG 3 X<|aF<|aF aC;refine D ?_;refine gD (cs:=[jS,A,ql]) h 4 Z Z fun w b1 h=>D ?_;replace h:=h.wP (R:=iU) (E:=106) 8;refine cK (σ:=Nat×Int×aj×Zi Rec) (inl ([5,7,8,9,10,12]++rg 19 34)) (fun⟨c,i,v,y⟩=>[(5,v),(19,(Y i))]) (fun⟨c,i,v,y⟩w=>SH w0 M BE w (hset [(2,.sr fK A a.places),(8,.own iU 106 v y)])/\i=(c:Int)/\each (qV b) (vo N) (a.places.drop c) y=ah r) (fun⟨c,i,v,y⟩=>a.places.length-c) ⟨0,0,nS,[]⟩ ⟨Z,Z,U⟩ ?_ ?_;exact⟨h.cn _,Z,hs⟩;rintro⟨c,i,v,y⟩w bD⟨h,hik,hs⟩;refine D ?_;refine dA Z (fun n=>?_) fun n=>?_;refine D ?_;obtain⟨pV,DW,O,x,hs⟩:=gW hik n hs;have c5:=dn ((h.fU 2 Z)).aO hik n;refine D ?_;obtain⟨e1,d2,c9,h,a2,c0⟩:=h.wS 2 9 Z kY Z (eU hik)<|bW hik O;obtain⟨d3,e5,e0,rfl,c2,T,b5⟩:=gZ a2;replace h:=((h.au 10 c2.up).au 11 T.up.up).au 12 b5.up.up.up;refine lG c0 Z<|D ?_;refine aL h 13 xX fun w d6 h=>bg h 13 xX Z (aa (h.aR 10 Z).one<|aa (h.aR 11 Z).one<|aa (h.aR 12 Z).one<|aa Z aD) fun w h=>D ?_;refine aA (r_b2s underlying36 underlying5 underlying9 Z<|h.kK 11 Z) ?_;obtain⟨s,a5,hs⟩:=ai hs;refine gP h 14 fo Z Z (wK _ _ h.lt (hT.go h.keep) pV.safe 120 _ a5) fun w C h=>D ?_;replace h:=h.freeze 14 Z;refine cK (σ:=Nat×Int×aj×Zi Rec) (inl ([5,12]++rg 34 18)) (fun⟨g,p,j,z⟩=>[(5,j),(34,(Y p))]) (fun⟨g,p,j,z⟩w=>SH w0 M BE w (hset [(2,.sr fK A a.places),(8,.own iU 106 j z),(14,.rd iU C s.1)])/\p=(g:Int)/\each (qR b) (qU DW) (s.1.drop g) z=ah r) (fun⟨g,p,j,z⟩=>s.1.length-g) ⟨0,0,v,y⟩ ⟨Z,Z,U⟩ ?_ ?_;exact⟨h.cn _,Z,hs⟩;rintro⟨g,p,j,z⟩w bD⟨h,hik,hs⟩;refine D ?_;refine dA Z (fun q=>?_) fun q=>?_;refine bR<|aN ?_;obtain⟨f,Q,G,hnx,hs⟩:=gW hik q hs;have c7:=dn ((h.kK 14 Z)).aO hik q;refine aY (σ:=aj×Zi Rec) (inl ([5,12]++rg 36 15)) (fun⟨t,S⟩=>[(5,t)]) (fun⟨t,S⟩w=>SH w0 M BE w (hset [(2,.sr fK A a.places),(8,.own iU 106 t S),(14,.rd iU C s.1)])/\uZ Q S=ah r) ?_ ?_;rintro⟨t,S⟩w bD⟨h,hs⟩;exact le;refine D ?_;obtain⟨e4,d7,c6,h,c3,b7⟩:=h.Ic 14 15 Z eZ Z (eU hik)<|bW hik G;obtain⟨a1,b0,rfl,a7,b8⟩:=iM c3;replace h:=(h.au 16 a7.up).au 17 b8.up.up;refine lG b7 Z<|D ?_;refine aL h 18 bJ fun w d9 h=>bg h 18 bJ Z (aa Z<|aa Z<|aa Z<|aa Z<|aa (h.aR 16 Z).one<|aa (h.aR 17 Z).one aD) fun w h=>D ?_;refine az hs Z (fun a9 hs=>?_) fun a9 hs=>?_;refine D ?_;refine oC (R:=iU) (vs:=[(.agg #[(Y f.kind),(Y f.co),(Y f.ax),(Y f.place),a1,b0])]) (xs:=[f]) h 19 EX Z Z Z ⟨⟨_,_,Z,(h.aR 16 Z),(h.aR 17 Z)⟩,U⟩ Z fun w d8 h=>?_;obtain⟨F,hs⟩:=bO hs;refine jB (R:=iU) (m:=[f]) h 8 Z (h.dB 19 Z) EX Z Z Z F.1 F.2 fun w e2 h=>je;exact je
 replace hs:=jW hik q hs;refine D ?_;refine ay ?_;subst x;exact oK ⟨c+1,i+1,j,z⟩ ⟨h.cn _,by omega,hs⟩ (by have:=P9 n;dsimp only;omega);replace hs:=jW hik n hs;refine D ?_;obtain⟨I,K,B⟩:=h.fD 8 U;obtain⟨Gh,b4,hs⟩:=ai hs;refine bA fo Z Z (JN N _ _ B v y I K _ b4) ?_;rintro _ w⟨c1,rfl,b2,b3⟩;refine⟨_,Z,?_⟩;replace h:=h.iJ 8 b2 U c1 b3;refine D ?_;replace h:=(h.freeze 8 Z).wP (R:=bC) (E:=3) 23;refine cK (σ:=Nat×Int×aj×Zi Int) (inl ([13,15]++rg 57 9)) (fun⟨d,l,o,k⟩=>[(13,o),(57,(Y l))]) (fun⟨d,l,o,k⟩w=>SH w0 M BE w (hset [(8,.rd iU v Gh),(23,.own bC 3 o k)])/\l=(d:Int)/\each vg vk (Gh.drop d) k=ah r) (fun⟨d,l,o,k⟩=>Gh.length-d) ⟨0,0,nS,[]⟩ ⟨Z,Z,U⟩ ?_ ?_;exact⟨h.cn _,Z,hs⟩;rintro⟨d,l,o,k⟩w bD⟨h,hik,hs⟩;refine D ?_;refine dA Z (fun u=>?_) fun u=>?_;refine D ?_;obtain⟨a0,d0,L,hnx,hs⟩:=gW hik u hs;have c4:=dn ((h.kK 8 Z)).aO hik u;refine D ?_;obtain⟨d4,d1,c8,h,a8,a3⟩:=h.Ic 8 24 Z eZ Z (eU hik)<|bW hik L;obtain⟨e7,d5,rfl,b9,a4⟩:=iM a8;replace h:=(h.au 25 b9.up).au 26 a4.up.up;refine lG a3 Z<|D ?_;refine aL h 27 bJ fun w e3 h=>bg h 27 bJ Z (aa Z<|aa Z<|aa Z<|aa Z<|aa (h.aR 25 Z).one<|aa (h.aR 26 Z).one aD) fun w h=>D ?_;obtain⟨P,hs⟩:=bO hs;refine jB (R:=bC) (m:=a0.says) h 23 Z (h.kK 25 Z) ic Z Z Z P.1 P.2 fun w e6 h=>le;replace hs:=jW hik u hs;exact lf
def vv(a:Zi T3->Yw (Zi T3))(b:Zi T3):Yw (Zi T3):=
 a b
def qW(f:Zi Co×Int)(b:Int)(d:Int)(e:Co)(c:Zi T3)(a:Zi T3->Yw (Zi T3)):Yw (Zi T3):=
 bif (ab (f.2=0)&&ab (e.jL=b))then fI (Room 24 c [(⟨d,e.ax,e.offered⟩:T3)]) (vv a (c++[(⟨d,e.ax,e.offered⟩:T3)]))else vv a c
def qX(b:Zi T3->Yw (Zi T3))(a:Zi T3):Yw (Zi T3):=
 b a
def qY(b:Int)(d:Int)(e:iI)(f:Zi T3)(g:Zi T3->Yw (Zi T3)):Yw (Zi T3):=
 (mD (⟨e.safe,e.wait⟩:jr)).bind fun c=>(tO c.2).bind fun a=>each (qW a b d) (qX g) a.1 f
def zO(a:Zi T3):Yw (Zi T3):=
 ah a
def zQ(a:aX)(b:Int):Yw (Zi T3):=
 fG (qY b) zO 0 a.places []
theorem Rp(w0:al)(M:BS)(hM:kL M w0)(hT:pI prog 4 w0)(a:aX)(O q K:aj)(a6:fB dJ w0 BE M O a.prog)(Q:fB fK w0 BE M q a.places)(F:fB gm w0 BE M K a.gM)(b:Int)(r:Zi T3)(hs:zQ a b=ah r):
  bk prog 21 #[(.agg #[O,q,K]),(Y b)] w0 (fun e w'=>Grow w0 w'/\∃u0,e=.returned (u0)/\cz rT3 53 w' M u0 r/\(∀b,ob u0 b->w0.heap.size<=b)):=by
 refine cst func21 ntmps21 Z ?_;have h:=SH.init hM;replace h:=((h.bG 1 a6 aC).bG 2 Q<|aF aC).bG 3 F<|aF<|aF aC;refine D ?_;refine gD (cs:=[O,q,K]) h 4 Z Z fun w b1 h=>D ?_;replace h:=h.wP (R:=rT3) (E:=53) 8;refine cK (σ:=Nat×Int×aj×Zi T3) (inl<|rg 5 7++[13]++rg 17 41) (fun⟨d,c,t,u⟩=>[(5,t),(17,(Y c))]) (fun⟨d,c,t,u⟩w=>SH w0 M BE w (hset [(2,.sr fK q a.places),(8,.own rT3 53 t u)])/\c=(d:Int)/\fG (qY b) zO c (a.places.drop d) u=ah r) (fun⟨d,c,t,u⟩=>a.places.length-d) ⟨0,0,nS,[]⟩ ⟨Z,Z,U⟩ ?_ ?_;exact⟨h.cn _,Z,hs⟩;rintro⟨d,c,t,u⟩w bD⟨h,hik,hs⟩;refine D ?_;refine dA Z (fun k=>?_) fun k=>?_;refine D ?_;obtain⟨pV,DW,y,p,hs⟩:=xV hik k hs;have b3:=dn ((h.fU 2 Z)).aO hik k;refine D ?_;obtain⟨c5,b7,b5,h,I,a8⟩:=h.wS 2 9 Z kY Z (eU hik)<|bW hik y;obtain⟨c0,a7,a2,rfl,b0,C,a4⟩:=gZ I;replace h:=((h.au 10 b0.up).au 11 C.up.up).au 12 a4.up.up.up;refine lG a8 Z<|D ?_;refine aL h 13 xX fun w c3 h=>aI Z<|bg h 13 xX Z (aa (h.aR 10 Z).one<|aa (h.aR 11 Z).one<|aa (h.aR 12 Z).one<|aa Z aD) fun w h=>D ?_;obtain⟨a1,P,hs⟩:=ai hs;refine bA fo Z Z (Eu _ _ h.lt (hT.go h.keep) (⟨pV.safe,pV.wait⟩:jr) a7 a2 (h.aR 11 Z) (h.aR 12 Z) _ P) ?_;rintro _ w⟨G,c2,b8,a9,rfl,L,S,b2,N⟩;refine⟨_,Z,?_⟩;replace h:=((h.xS 16 G b2 N).au 14 L.Xx).au 15 S.Xx.up;refine D ?_;refine aL h 17 gu fun w b9 h=>bg h 17 gu Z (aa (h.aR 14 Z).one<|aa (h.aR 15 Z).one aD) fun w h=>D ?_;obtain⟨i,T,hs⟩:=ai hs;refine gP h 18 fo Z Z (Fw _ _ h.lt a9 a1.2 (h.dB 16 Z) _ T) fun w v h=>D ?_;replace h:=h.freeze 18 Z;refine cK (σ:=Nat×Int×aj×Zi T3) (inl ([5,13]++rg 35 22)) (fun⟨j,l,f,g⟩=>[(5,f),(35,(Y l))]) (fun⟨j,l,f,g⟩w=>SH w0 M BE w (hset [(2,.sr fK q a.places),(8,.own rT3 53 f g),(18,.rd xR v i.1)])/\l=(j:Int)/\each (qW i b c) (qX DW) (i.1.drop j) g=ah r) (fun⟨j,l,f,g⟩=>i.1.length-j) ⟨0,0,t,u⟩ ⟨Z,Z,U⟩ ?_ ?_;exact⟨h.cn _,Z,hs⟩;rintro⟨j,l,f,g⟩w bD⟨h,hik,hs⟩;refine D ?_;refine dA Z (fun o=>?_) fun o=>?_;refine bR<|aN ?_;obtain⟨s,x,A,hnx,hs⟩:=gW hik o hs;have b4:=dn ((h.kK 18 Z)).aO hik o;refine aY (σ:=aj×Zi T3) (inl ([5,13]++rg 37 19)) (fun⟨n,B⟩=>[(5,n),(44,(gv (ab (i.2=0)==ba)<|Y b))]) (fun⟨n,B⟩w=>SH w0 M BE w (hset [(2,.sr fK q a.places),(8,.own rT3 53 n B),(18,.rd xR v i.1)])/\vv x B=ah r) ?_ ?_;rintro⟨n,B⟩w bD⟨h,hs⟩;exact le;refine D ?_;obtain⟨c8,c9,b6,h,a0,a3⟩:=h.Ic 18 19 Z eG Z (eU hik)<|bW hik A;obtain⟨c4,rfl,a5⟩:=jC a0;replace h:=h.au 20 a5.up;refine lG a3 Z<|D ?_;refine aL h 21 oL fun w c1 h=>bg h 21 oL Z (aa Z<|aa Z<|aa (h.aR 20 Z).one<|aa Z aD) fun w h=>D ?_;refine az hs Z (fun X hs=>?_) fun X hs=>?_;refine D ?_
 refine aA (r_build3 Arr353 Z Z Z)<|oC (R:=rT3) (vs:=[(.agg #[(Y c),(Y s.ax),(Y s.offered)])]) (xs:=[(⟨c,s.ax,s.offered⟩:T3)]) h 22 Qa Z Z Z ⟨Z,U⟩ Z fun w c7 h=>?_;obtain⟨z,hs⟩:=bO hs;refine jB (R:=rT3) (m:=[(⟨c,s.ax,s.offered⟩:T3)]) h 8 Z (h.dB 22 Z) Qa Z Z Z z.1 z.2 fun w c6 h=>je;exact je;replace hs:=jW hik o hs;refine D ?_;refine ay ?_;subst p;exact oK ⟨d+1,c+1,f,g⟩ ⟨h.cn _,by omega,hs⟩ (by have:=P9 k;dsimp only;omega);replace hs:=CS hik k hs;exact lf
def mg(N:Nat)(d:Zi Int×Int)(c:Zi T3×Int)(a:aX)(b:Int)(g:Int):Yw Ys:=
 (zg N).bind fun l=>bif ((!l)||ab (g≠0))then(zg N).bind fun e=>bif ((e&&ab (d.2=g))&&ab (c.2=g))then fI (iZ ((d.1.length:Int)+(c.1.length:Int))) (ah (ab (((d.1.length:Int)+(c.1.length:Int))=0)))else ah ar else bif (ab (d.2=0)&&ab (c.2=0))then(zN N a b).bind fun f=>(slices_Equal_int d.1 f).bind fun i=>bif i then(zQ a b).bind fun j=>(xO c.1 j).bind fun k=>ah k else ah ar else ah ar
def Ay(N:Nat)(a:aX)(b:Int):Yw Ys:=
 (yf N a b).bind fun e=>(yg N a b).bind fun c=>(uX N a).bind fun d=>bif (ab (d=0)&&(ab (b<0)||ab (2<b)))then mg N e c a b 5 else mg N e c a b d
theorem Og(N:Nat)(w0:al)(M:BS)(hM:kL M w0)(g:pI prog 4 w0)(a:aX)(c d f:aj)(s:fB dJ w0 BE M c a.prog)(C:fB fK w0 BE M d a.places)(t:fB gm w0 BE M f a.gM)(b:Int)(r:Ys)(hs:Ay N a b=ah r):
  bk prog 4 #[(.agg #[c,d,f]),(Y b)] w0 (Yd w0 (.bool r)):=by
 refine cst func4 ntmps4 Z ?_;have h:=SH.init hM;replace h:=((h.bG 1 s aC).bG 2 C<|aF aC).bG 3 t<|aF<|aF aC;refine D ?_;refine gD (cs:=[c,d,f]) h 4 Z Z fun w S h=>D ?_;obtain⟨k,R,hs⟩:=ai hs;refine gP h 5 fo Z Z (Wo N _ _ h.lt (g.go h.keep) a c d f (h.fU 1 Z) (h.fU 2 Z) (h.fU 3 Z) b _ R) fun w Q h=>D ?_;obtain⟨l,T,hs⟩:=ai hs;refine gP h 6 fo Z Z (Wp N _ _ h.lt (g.go h.keep) a c d f (h.fU 1 Z) (h.fU 2 Z) (h.fU 3 Z) b _ T) fun w P h=>D ?_;obtain⟨O,I,hs⟩:=ai hs;refine aS h fo Z Z (Mq N _ _ h.lt (g.go h.keep) a c d f (h.fU 1 Z) (h.fU 2 Z) (h.fU 3 Z) _ I) fun w h=>aI Z<|nN<|aY (σ:=Int) (inl ([9]++rg 24 10)) (fun i=>[(9,(Y i))]) (fun i w=>SH w0 M BE w (hset [(1,.sr dJ c a.prog),(2,.sr fK d a.places),(3,.sr gm f a.gM),(4,.blk S [c,d,f]),(5,.own bC 3 Q k.1),(6,.own rT3 53 P l.1)])/\mg N k l a b i=ah r) ?_ ?_;rintro i w bD⟨h,hs⟩;refine D ?_;obtain⟨KO,y,hs⟩:=ai hs;refine aS h fo Z Z (Lb N _ _ h.lt (g.go h.keep) _ y) fun w h=>D ?_;refine az hs Z (fun F hs=>?_) fun F hs=>?_;refine D ?_;obtain⟨n,z,hs⟩:=ai hs;refine aS h fo Z Z (Lb N _ _ h.lt (g.go h.keep) _ z) fun w h=>D ?_;refine gJ (b:=((n&&ab (k.2=i))&&ab (l.2=i))) hs (fun x hs=>?_) fun x hs=>?_;refine sg fun hs=>?_;exact lf;exact lf;refine D ?_;refine gJ (b:=(ab (k.2=0)&&ab (l.2=0))) hs (fun m hs=>?_) fun m hs=>?_;refine D ?_;obtain⟨E,L,hs⟩:=ai hs;refine gP h 7 fo Z Z (Ro N _ _ h.lt (g.go h.keep) a c d f (h.fU 1 Z) (h.fU 2 Z) (h.fU 3 Z) b _ L) fun w o h=>oN m Z ?_;obtain⟨G,A,hs⟩:=ai hs;refine aS h fo Z Z (zx _ _ h.lt Q k.1 (h.dB 5 Z) o E (h.dB 7 Z) _ A) fun w h=>D ?_;refine gJ (b:=G) hs (fun j hs=>?_) fun j hs=>?_;refine D ?_;obtain⟨u,K,hs⟩:=ai hs;refine gP h 8 fo Z Z (Rp _ _ h.lt (g.go h.keep) a c d f (h.fU 1 Z) (h.fU 2 Z) (h.fU 3 Z) b _ K) fun w p h=>oN j Z ?_;obtain⟨Fx,B,hs⟩:=ai hs;refine aS h fo Z Z (Jv _ _ h.lt P l.1 (h.dB 6 Z) p u (h.dB 8 Z) _ B) fun w h=>lf;exact lf;refine D ?_;refine aA (jq (b:=ar) (v:=(.bool<|false)) Z Z)<|lf;refine D ?_;refine bV Z Z (fun q=>eu (v:=(.bool<|decide<|b<0))<|iR q)<|kC (ab (O=0)==ba) Z Z (fun q=>eu (v:=(Y b)) Z)<|kC (ab (O=0)==ba) Z Z (fun q=>zT (iR q) Z)<|D ?_;refine az hs Z (fun X hs=>?_) fun X hs=>?_;exact je;exact je
end
open Go Go.Proofs Go.LX
noncomputable section
abbrev preL:Zi (Int×Str):=[(2,[118]),(4,[46]),(5,[110,101,119]),(6,[102]),(1,[])]
theorem bnd{α β:Type}(a:α)(f:α->Yw β):(ah a).bind f=f a:=rfl
theorem find_uniq{α σ:Type}{g:α->Yw σ}{l:Zi α}(b:∀p∈l,∀q∈l,g p≠aE->g q≠aE->p=q){p:α}(hp:p∈l){t:σ}(h:g p=ah t):l.findSome? g=ah t:=by
 cases e:l.findSome? g with
 |none=>
  rw[tb]at e;rw[e p hp]at h;cases h
 |some u=>
  obtain⟨q,c,a⟩:=sb e;have:=b p hp q c (by rw[h];simp) (by rw[a];simp);subst this;rw[h]at a;exact a.symm
theorem fold_none{α σ:Type}{oa:α->σ->Yw σ}{g:α->Yw σ}:∀{l:Zi α},(∀p∈l,∀s,oa p s=ah ((g p).getD s))->(∀p∈l,g p=aE)->∀s,foldO oa l s=ah s
 |[],_,_,s=>rfl
 |p::l,h,hn,s=>by
  unfold foldO;rw[h p zq3,hn p zq3,we,bnd];exact fold_none (fun q a=>h q<|bm _ a) (fun q a=>hn q<|bm _ a) s
theorem fold_find{α σ:Type}{oa:α->σ->Yw σ}{g:α->Yw σ}:∀{l:Zi α},(∀p∈l,∀s,oa p s=ah ((g p).getD s))->(∀p∈l,∀q∈l,g p≠aE->g q≠aE->p=q)->l.Nodup->∀s,foldO oa l s=ah ((l.findSome? g).getD s)
  |[],_,_,_,s=>rfl
  |p::l,h,hu,hn,s=>by
    unfold foldO;rw[h p zq3,bnd];have d:=List.nodup_cons.1 hn;cases e:g p with
    |none=>
      rw[we,fold_find (fun q c=>h q (bm _ c)) (fun a i b f=>hu a (bm _ i) b (bm _ f)) d.2 s,vi,e]
    |some t=>
      rw[Option.getD_some,fold_none (fun q c=>h q (bm _ c)) (fun q c=>?_) t,vi,e]
      · rfl
      · cases e2:g q with
        |none=>rfl
        |some u=>
          have:=hu p zq3 q (bm _ c) (by rw[e];simp) (by rw[e2];simp);subst this;exact Zs c d.1
theorem folds_one{α σ:Type}{oa:α->σ->Yw σ}{g:α->Yw σ}{L:Zi α}(h:∀p∈L,∀s,oa p s=ah ((g p).getD s))(b:∀p∈L,∀q∈L,g p≠aE->g q≠aE->p=q)(hn:L.Nodup)(s:σ):Dt oa L s ((L.findSome? g).getD s):=by
 intro l hl;rw[fold_find (fun p hp=>h p (hl.mem_iff.1 hp)) (fun p hp q a=>b p (hl.mem_iff.1 hp) q (hl.mem_iff.1 a)) (hl.nodup_iff.2 hn) s];congr 2;cases e:L.findSome? g with
 |none=>
  rw[tb]at e⊢;exact fun x c=>e x<|hl.mem_iff.1 c
 |some t=>
  obtain⟨p,hp,d⟩:=sb e;exact find_uniq (fun p hp q a=>b p (hl.mem_iff.1 hp) q<|hl.mem_iff.1 a) (hl.mem_iff.2 hp) d
def joO(a:Int×Str)(y:Int×Ys)(x:Ys):Yw (Int×Int):=bif x then ah (a.1,y.1)else aE
def stepO(s:Str)(b:Int×Str):Yw (Yw (Int×Int)):=
 (strings_TrimPrefix s b.2).bind fun c=>(LJ c).bind fun a=>bif (!a.2)then(rq (⟨b.1,a.1⟩:Tok)).bind fun d=>ah (joO b a (ab ((d:Str)=s)))else ah (joO b a ar)
theorem j227_eq(c:Int×Str)(y:Int×Ys)(a b:Int)(x:Ys):FN c y a b x=ah ((joO c y x).getD (a,b)):=by
 unfold FN joO;cases x<;>rfl
theorem b228_eq(s:Str)(c:Int×Str)(d:Int×Int):zJ s c d=(stepO s c).bind fun o=>ah (o.getD d):=by
 obtain⟨a,b⟩:=d;unfold zJ stepO;simp only[j227_eq];cases strings_TrimPrefix s c.2 with
 |none=>rfl
 |some y=>
  simp only[bnd];cases LJ y with
  |none=>rfl
  |some z=>
   simp only[bnd];cases z.2 with
   |true=>rfl
   |false=>
    simp only[eS,ZS];cases rq (⟨c.1,z.1⟩:Tok)<;>rfl
def gO(s:Str)(p:Int×Str):Yw (Int×Int):=(stepO s p).join
def okW(s:Str):Ys:=preL.all (fun p=>(stepO s p).isSome)&&preL.all (fun p=>preL.all fun q=>(gO s p).isNone||(gO s q).isNone||ab (p=q))
def preC(s:Str):Int×Int:=(preL.findSome? (gO s)).getD (0,0)
theorem fold_ok{s:Str}(h:okW s=ba):LM (zJ s) preL (0,0)=ah (preC s):=by
  unfold okW at h;rw[cH,oA,oA]at h;refine foldAny_eq<|folds_one (g:=gO s) (fun p hp d=>?_) (fun p hp q b a c=>?_) zq1 (0,0)
  · have a:=h.1 p hp;rw[b228_eq];unfold gO;cases e:stepO s p with
    |none=>rw[e]at a;cases a
    |some o=>cases o<;>rfl
  · have:=oA.1 (h.2 p hp) q b;rw[dr,dr]at this;rcases this with(e|e)|e
    · exact Zs (sY.1 e) a
    · exact Zs (sY.1 e) c
    · exact P9 e
def foldC(s:Str):Yw (Int×Int):=bif okW s then ah (preC s)else LM (zJ s) preL (0,0)
theorem foldC_eq(s:Str):foldC s=LM (zJ s) preL (0,0):=by
 unfold foldC;cases e:okW s with
 |false=>rfl
 |true=>exact(fold_ok e).symm
def H8(N:Nat)(e:Zi Tok)(F:Zi j5)(g:Int)(d:(Zi Tok×Int×Ys×Int)->Yw (Zi Tok×fT))(b:Str)(f:Ys)(c:Int):Yw (Zi Tok×fT):=
 (foldC b).bind fun a=>(Wu N b e F c g d f) a
theorem srdExpr_j211_p: @H8= @FO:=by
 funext a b c d e f g h;unfold H8 FO;rw[foldC_eq]
def MF(N:Nat)(a:Zi Str)(F:Zi j5)(s:Zi Tok×Int×Ys×Int)(c:Zi Tok×Int×Ys×Int->Yw (Zi Tok×fT)):Yw (Zi Tok×fT):=
 match s with|(mZ,A9,y19,y20)=>bif (ab ((0:Int)<A9)&&y19)then bif ab (((a.length:Int):Int)<=y20)then H8 N mZ F A9 c [] ar y20 else fI (iZ (y20+1)) (fI (iZ ((y20+1)-1)) ((idx a ((y20+1)-1)).bind fun b=>H8 N mZ F A9 c b y19 (y20+1)))else ah (mZ,(⟨y20,y19⟩:fT))
theorem srdExpr_b230_p: @MF= @FP:=by
 unfold MF FP;rw[srdExpr_j211_p]
def Xf(N:Nat)(b:fT)(a:Zi Str)(F:Zi j5):Yw (Zi Tok×fT):=
 again (MF N a F) N ([],1,b.ok,b.at_)
theorem srdExpr_p: @Xf= @Wv:=by
 unfold Xf Wv;rw[srdExpr_b230_p]
def H9(N:Nat)(f:fT->Zi Str->Zi j5->Int->Yw (Zi cZ×fT))(d:Int)(b:Zi Str)(F:Zi j5)(a:Int)(l:Zi cZ)(i:Int)(g:(Zi cZ×Int×Ys)->Yw (Zi cZ×fT))(e:Int)(j:Ys)(k:Zi Tok):Yw (Zi cZ×fT):=
 bif ab (((d+1):Int)=2)then(Xf N (⟨e,j⟩:fT) b F).bind fun c=>FQ f d a b F l i k g c.2.at_ c.2.ok c.1 else FQ f d a b F l i k g e j []
theorem srdBlock_j36_p: @H9= @FR:=by
 unfold H9 FR;rw[srdExpr_p]
def Dl(N:Nat)(f:fT->Zi Str->Zi j5->Int->Yw (Zi cZ×fT))(d:Int)(b:Zi Str)(F:Zi j5)(a:Int)(k:Zi cZ)(g:(Zi cZ×Int×Ys)->Yw (Zi cZ×fT))(j:Int)(e:Ys)(i:Int):Yw (Zi cZ×fT):=
 bif ab (((d+1):Int)≠4)then(Xf N (⟨j,e⟩:fT) b F).bind fun c=>H9 N f d b F a k i g c.2.at_ c.2.ok c.1 else H9 N f d b F a k i g j e []
theorem srdBlock_j35_p: @Dl= @Cj:=by
 unfold Dl Cj;rw[srdExpr_p,srdBlock_j36_p]
def Ia(N:Nat)(k:fT->Zi Str->Zi j5->Int->Yw (Zi cZ×fT))(j:Zi cZ)(b:Zi Str)(F:Zi j5)(a:Int)(m:(Zi cZ×Int×Ys)->Yw (Zi cZ×fT))(g:Str)(c:Int)(d:Ys):Yw (Zi cZ×fT):=
 bif ab ((g:Str)=[125])then ah (j,(⟨c,d⟩:fT))else(VR [115,101,116,32,112,117,116,32,115,97,121,32,112,97,117,115,101,32,103,111,32,105,102,32,119,104,105,108,101,32,114,101,116,117,114,110]).bind fun l=>(slices_Index_string l g).bind fun e=>fI (iZ (e+1)) (bif (!(d&&ab ((0:Int)<(e+1))))then ah ([],(⟨c,(d&&ab ((0:Int)<(e+1)))⟩:fT))else bif ab (((e+1):Int)<=2)then bif ab (((b.length:Int):Int)<=c)then(LJ []).bind fun i=>Dl N k e b F a j m c ar i.1 else fI (iZ (c+1)) (fI (iZ ((c+1)-1)) ((idx b ((c+1)-1)).bind fun n=>(LJ n).bind fun f=>Dl N k e b F a j m (c+1) (d&&ab ((0:Int)<(e+1))) f.1))else Dl N k e b F a j m c (d&&ab ((0:Int)<(e+1))) 0)
theorem srdBlock_j34_p: @Ia= @FT:=by
 unfold Ia FT;rw[srdBlock_j35_p]
def MG(N:Nat)(d:fT->Zi Str->Zi j5->Int->Yw (Zi cZ×fT))(b:Zi Str)(F:Zi j5)(a:Int)(s:Zi cZ×Int×Ys)(e:Zi cZ×Int×Ys->Yw (Zi cZ×fT)):Yw (Zi cZ×fT):=
 match s with|(uk,SG,KO)=>bif KO then bif ab (((b.length:Int):Int)<=SG)then Ia N d uk b F a e [] SG ar else fI (iZ (SG+1)) (fI (iZ ((SG+1)-1)) ((idx b ((SG+1)-1)).bind fun c=>Ia N d uk b F a e c (SG+1) KO))else ah ([],(⟨SG,KO⟩:fT))
theorem srdBlock_b40_p: @MG= @FU:=by
 unfold MG FU;rw[srdBlock_j34_p]
def JO(N:Nat)(e:fT->Zi Str->Zi j5->Int->Yw (Zi cZ×fT))(b:Zi Str)(F:Zi j5)(a:Int)(d:Int)(c:Ys):Yw (Zi cZ×fT):=
 again (MG N e b F a) N ([],d,c)
theorem srdBlock_j2_p: @JO= @IE:=by
 unfold JO IE;rw[srdBlock_b40_p]
def Ib(N:Nat)(e:fT->Zi Str->Zi j5->Int->Yw (Zi cZ×fT))(b:Zi Str)(F:Zi j5)(a:Int)(f:Ys)(c:Int)(d:Ys):Yw (Zi cZ×fT):=
 bif f then JO N e b F a c ar else JO N e b F a c d
theorem srdBlock_j41_p: @Ib= @FV:=by
 unfold Ib FV;rw[srdBlock_j2_p]
def Ma(N:Nat)(e:fT->Zi Str->Zi j5->Int->Yw (Zi cZ×fT))(c:fT)(b:Zi Str)(F:Zi j5)(a:Int):Yw (Zi cZ×fT):=
 bif ab (((b.length:Int):Int)<=c.at_)then Ib N e b F a ba c.at_ ar else fI (iZ (c.at_+1)) (fI (iZ ((c.at_+1)-1)) ((idx b ((c.at_+1)-1)).bind fun d=>Ib N e b F a (ab ((d:Str)≠[123])||ab ((6:Int)<a)) (c.at_+1) c.ok))
theorem srdBlock_r_p: @Ma= @KS:=by
 unfold Ma KS;rw[srdBlock_j41_p]
def Oh:Nat->fT->Zi Str->Zi j5->Int->Yw (Zi cZ×fT)
 |0=>fun _ _ _ _=>aE
 |N+1=>Ma N (Oh N)
theorem srdBlock_p:∀N,Oh N=IG N
 |0=>rfl
 |N+1=>by show Ma N (Oh N)=KS N (IG N);rw[srdBlock_r_p,srdBlock_p N]
def qc(N:Nat)(e:Zi Str)(c:Zi j5)(a:Int)(i:(Zi j5×Int×Ys)->Yw (Zi j5×Int))(g:Int)(b:Ys):Yw (Zi j5×Int):=
 (Oh N (⟨g,b⟩:fT) e c 1).bind fun d=>(idx c a).bind fun f=>i ((c.set (a).toNat {f with body:=d.1}),d.2.at_,d.2.ok)
theorem Jg: @qc= @nP:=by
 unfold qc nP;rw[show @Oh= @IG from funext srdBlock_p]
def qd(N:Nat)(d:Zi Str)(f:Zi j5)(a:Int)(g:(Zi j5×Int×Ys)->Yw (Zi j5×Int))(b:Int)(c:Ys):Yw (Zi j5×Int):=
 bif ab (((d.length:Int):Int)<=b)then qc N d f a g b ar else fI (iZ (b+1)) (fI (iZ ((b+1)-1)) ((idx d ((b+1)-1)).bind fun e=>qc N d f a g (b+1) c))
theorem Jh: @qd= @nQ:=by
 unfold qd nQ;rw[Jg]
def qf(N:Nat)(c:Zi Str)(d:Zi j5)(a:Int)(e:(Zi j5×Int×Ys)->Yw (Zi j5×Int))(b:Int)(f:Ys):Yw (Zi j5×Int):=
 bif ab (((c.length:Int):Int)<=b)then qd N c d a e b ar else fI (iZ (b+1)) (fI (iZ ((b+1)-1)) ((idx c ((b+1)-1)).bind fun g=>qd N c d a e (b+1) f))
theorem Ji: @qf= @nT:=by
 unfold qf nT;rw[Jh]
def qg(N:Nat)(e:Zi Str)(f:Zi j5)(b:Int)(g:(Zi j5×Int×Ys)->Yw (Zi j5×Int))(c:Ys)(a:Int)(d:Ys):Yw (Zi j5×Int):=
 bif c then qf N e f b g a ar else qf N e f b g a d
theorem Jj: @qg= @nU:=by
 unfold qg nU;rw[Ji]
def vw(N:Nat)(c:Zi Str)(a:Int)(s:Zi j5×Int×Ys)(d:Zi j5×Int×Ys->Yw (Zi j5×Int)):Yw (Zi j5×Int):=
 match s with|(DI,y98,y99)=>bif ab (((c.length:Int):Int)<=y98)then qg N c DI a d ba y98 ar else fI (iZ (y98+1)) (fI (iZ ((y98+1)-1)) ((idx c ((y98+1)-1)).bind fun b=>qg N c DI a d (ab ((b:Str)≠[102,117,110])) (y98+1) y99))
theorem Jk: @vw= @qO:=by
 unfold vw qO;rw[Jj]
def vz(N:Nat)(c:Zi Str)(a:Str)(b:Zi j5)(s:Unit):Yw (Zi j5×Int):=
 upto (vw N c) (wy N c a) 0 ((b.length:Int)).toNat (b,0,ba)
theorem Jl: @vz= @qP:=by
 unfold vz qP;rw[Jk]
def vB(N:Nat)(c:Zi Str)(a:Str)(b:Zi j5):Yw (Zi j5×Int):=
 bif (ab (((b.length:Int):Int)=0)||ab ((4:Int)<(b.length:Int)))then ah ([],1)else upto (wz b) (vz N c a b) 0 ((b.length:Int)).toNat ()
theorem Jm: @vB= @qQ:=by
 unfold vB qQ;rw[Jl]
def zi(N:Nat)(a:Str):Yw (Zi j5×Int):=
 (PY a [32]).bind fun b=>fG (wB b) (vB N b a) 0 b []
theorem MH: @zi= @uY:=by
 unfold zi uY;rw[Jm]
def xP(N:Nat):Yw (Zi j5):=
 (zi N [102,117,110,32,48,32,49,32,123,32,115,101,116,32,48,32,51,32,119,104,105,108,101,32,118,48,32,123,32,115,97,121,32,102,49,32,118,48,32,118,48,32,103,111,32,118,48,32,112,97,117,115,101,32,115,101,116,32,48,32,45,32,118,48,32,49,32,125,32,125,32,102,117,110,32,50,32,50,32,123,32,114,101,116,117,114,110,32,42,32,118,48,32,118,49,32,125]).bind fun a=>ah a.1
theorem PR: @xP= @uM:=by
 unfold xP uM;rw[MH]
abbrev NN:Nat:=70000
theorem program_p:uM NN=xP NN:=by rw[PR]
end
open Go Go.Proofs Go.LX
theorem eqInt(a b:Zi Int):slices_Equal_int a b=ah (ab (a=b)):=by
  unfold slices_Equal_int;by_cases h:a.length=b.length
  · rw[dF V];simp only[Z1,cc];rw[MM (fun x y=>ab (x=y)) a b h rfl (fun i x y nx c d=>by
      unfold yC;rw[nX,nX,c,d];by_cases e:x=y<;>simp[e]),JA (fun _ _=>rfl)]
  · rw[dT V];have:a≠b:=fun e=>h (by rw[e]);rw[dF this];rfl
theorem F7(a b:Int):(ab (0<=a)&&ab (a<b))=aG a b:=rfl
theorem inL(a b c:Int):(ab (b<=a)&&ab (a<=c))=aH a b c:=rfl
theorem rZ(a b:Int):(ab (a<0)||ab (b<=a))= !aG a b:=by
 unfold aG;rw[dm];simp;try omega
theorem Oi(a:Int):lg a=aH a (-1000000000) 1000000000:=rfl
theorem F8(a:Int):aG a 4=aH a 0 3:=by
 unfold aG aH;rw[dm];simp;omega
theorem Rq{α:Type}(x:α)(l:Zi α):idx (x::l) 0=ah x:=by simp[idx]
theorem Mc{α:Type}(x y:α)(l:Zi α):idx (x::y::l) 1=ah y:=by simp[idx]
theorem Xg{α:Type}(x y z:α)(l:Zi α):idx (x::y::z::l) 2=ah z:=by simp[idx]
theorem args_each(op a b c:Int)(x:bX)(n:Int)(hn:n=x.regs)(d:Zi Int)(h:op=7):∀l:Zi Int,each (sU n) xY l ()=each (l9 ⟨op,a,b,c,d⟩ x) bZ l ()
 |[]=>rfl
 |y::l=>by
  subst hn h;have f:each (sU x.regs) xY (y::l) ()=bif (!aG y x.regs)then ah 3 else each (sU x.regs) xY l ():=rfl;have e:each (l9 ⟨7,a,b,c,d⟩ x) bZ (y::l) ()=bif (!aG y x.regs)then ah 3 else each (l9 ⟨7,a,b,c,d⟩ x) bZ l ():=rfl;rw[f,e,args_each 7 a b c x x.regs rfl d rfl l]
theorem len_one{l:Zi Int}:l.length=1↔∃x,l=[x]:=by
 match l with
 |[]=>simp
 |[x]=>simp
 |x::y::r=>simp
set_option maxHeartbeats 2000000 in
theorem ins_eq(c:Ins)(i:Int)(x:bX)(g:Zi bX):gy c i g x.regs (x.code.length:Int)=eH c x g:=by
  obtain⟨op,a,b,c,args⟩:=c;by_cases t:op=1
  · subst t;simp[gy,dU,dS,eY,fw,eO,bQ,dV,dG,dE,dw,eH,dQ,dR,bI,dO,dP,dI,dH,lk,fG,Rq,Mc,Xg,F7,inL,rZ,Oi,F8];cases ha:aG a x.regs<;>cases hf:aH b (-1000000000) 1000000000<;>by_cases d:c=0<;>by_cases f:args=[]<;>simp_all[each,bZ]
  by_cases z:op=2
  · subst z;simp[gy,dU,dS,eY,fw,eO,bQ,dV,dG,dE,dw,eH,dQ,dR,bI,dO,dP,dI,dH,lk,fG,Rq,Mc,Xg,F7,inL,rZ,Oi,F8];cases ha:aG a x.regs<;>cases hb:aG b x.regs<;>by_cases d:c=0<;>by_cases f:args=[]<;>simp_all[each,bZ]
  by_cases p:op=3
  · subst p;simp[gy,dU,dS,eY,fw,eO,bQ,dV,dG,dE,dw,eH,dQ,dR,bI,dO,dP,dI,dH,lk,fG,Rq,Mc,Xg,F7,inL,rZ,Oi,F8];cases ha:aG a x.regs<;>cases hb:aG b x.regs<;>cases hc:aG c x.regs<;>simp_all[each,bZ];by_cases e:args.length=1
    · obtain⟨y,rfl⟩:=len_one.1 e;cases hy:aH y 1 5<;>simp_all[gy,dU,dS,eY,fw,eO,bQ,dV,dG,dE,dw,eH,dQ,dR,bI,dO,dP,dI,dH,lk,fG,Rq,Mc,Xg,F7,inL,rZ,Oi,F8,each,l9,bZ]
    · rw[dF (show¬((args.length:Int)=1) by omega)];rfl
  by_cases v:op=4
  · subst v;simp[gy,dU,dS,eY,fw,eO,bQ,dV,dG,dE,dw,eH,dQ,dR,bI,dO,dP,dI,dH,lk,fG,Rq,Mc,Xg,F7,inL,rZ,Oi,F8];cases ha:aG a x.regs<;>cases hb:aG b x.regs<;>cases hf:aH c 0 3<;>by_cases f:args=[]<;>simp_all[each,bZ]
  by_cases w:op=5
  · subst w;simp[gy,dU,dS,eY,fw,eO,bQ,dV,dG,dE,dw,eH,dQ,dR,bI,dO,dP,dI,dH,lk,fG,Rq,Mc,Xg,F7,inL,rZ,Oi,F8];cases ha:aG a x.regs<;>cases hf:aH b 1 4<;>by_cases d:c=0<;>by_cases f:args=[]<;>simp_all[each,bZ]
  by_cases u:op=6
  · subst u;simp[gy,dU,dS,eY,fw,eO,bQ,dV,dG,dE,dw,eH,dQ,dR,bI,dO,dP,dI,dH,lk,fG,Rq,Mc,Xg,F7,inL,rZ,Oi,F8];cases ha:aG a x.regs<;>cases hb:aG b x.regs<;>by_cases d:c=0<;>by_cases f:args=[]<;>simp_all[each,bZ]
  by_cases r:op=7
  · subst r;simp[gy,dU,dS,eY,fw,eO,bQ,dV,dG,dE,dw,eH,dQ,dR,bI,dO,dP,dI,dH,lk,fG,Rq,Mc,Xg,F7,inL,rZ,Oi,F8];cases ha:aG a x.regs<;>cases hf:aG b (g.length:Int)<;>simp_all[each,bZ];cases hp:idx g b with
    |none=>rfl
    |some y=>
      by_cases d:c=0<;>by_cases o:(args.length:Int)=y.params<;>simp_all;exact args_each 7 a b 0 x x.regs Z args Z args
  by_cases s:op=8
  · subst s;simp[gy,dU,dS,eY,fw,eO,bQ,dV,dG,dE,dw,eH,dQ,dR,bI,dO,dP,dI,dH,lk,fG,Rq,Mc,Xg,F7,inL,rZ,Oi,F8];cases ha:aG a x.regs<;>by_cases m:b=0<;>by_cases d:c=0<;>by_cases f:args=[]<;>simp_all[each,bZ]
  by_cases q:op=9
  · subst q;simp[gy,dU,dS,eY,fw,eO,bQ,dV,dG,dE,dw,eH,dQ,dR,bI,dO,dP,dI,dH,lk,fG,Rq,Mc,Xg,F7,inL,rZ,Oi,F8];cases ha:aG a x.regs<;>by_cases m:b=0<;>by_cases d:c=0<;>by_cases f:args=[]<;>simp_all[each,bZ]
  by_cases k:op=10
  · subst k;simp[gy,dU,dS,eY,fw,eO,bQ,dV,dG,dE,dw,eH,dQ,dR,bI,dO,dP,dI,dH,lk,fG,Rq,Mc,Xg,F7,inL,rZ,Oi,F8];by_cases o:a=0<;>by_cases m:b=0<;>by_cases d:c=0<;>by_cases f:args=[]<;>simp_all[each,bZ]
  by_cases l:op=11
  · subst l;simp[gy,dU,dS,eY,fw,eO,bQ,dV,dG,dE,dw,eH,dQ,dR,bI,dO,dP,dI,dH,lk,fG,Rq,Mc,Xg,F7,inL,rZ,Oi,F8];cases ha:aG a x.regs<;>by_cases m:b=0<;>by_cases d:c=0<;>by_cases f:args=[]<;>simp_all[each,bZ]
  by_cases j:op=12
  · subst j;simp[gy,dU,dS,eY,fw,eO,bQ,dV,dG,dE,dw,eH,dQ,dR,bI,dO,dP,dI,dH,lk,fG,Rq,Mc,Xg,F7,inL,rZ,Oi,F8];by_cases o:a=0<;>cases hf:aG b (x.code.length:Int)<;>by_cases d:c=0<;>by_cases f:args=[]<;>simp_all[each,bZ]
  by_cases n:op=13
  · subst n;simp[gy,dU,dS,eY,fw,eO,bQ,dV,dG,dE,dw,eH,dQ,dR,bI,dO,dP,dI,dH,lk,fG,Rq,Mc,Xg,F7,inL,rZ,Oi,F8];cases ha:aG a x.regs<;>cases hf:aG b (x.code.length:Int)<;>by_cases d:c=0<;>by_cases f:args=[]<;>simp_all[each,bZ]
  · simp[gy,dU,dS,eY,fw,eH,lk, *]
def F9(i:Nat)(x:bX):Int:=
 if(0<=x.params/\x.params<=3)/\(1<=x.regs/\x.params<=x.regs/\x.regs<=40)/\¬(i=0/\x.params≠0)then(if 1<=x.code.length/\x.code.length<=2000 then 0 else 2)else 3
theorem b39_eq(i:Nat)(x:bX)(nx:Unit->Yw Int):o8 (i:Int) x () nx=if F9 i x≠0 then ah (F9 i x)else nx ():=by
  unfold o8 F9;by_cases a:(0<=x.params/\x.params<=3)/\(1<=x.regs/\x.params<=x.regs/\x.regs<=40)/\¬(i=0/\x.params≠0)
  · have e:(((((ab ((x.params:Int)<0)||ab ((3:Int)<x.params))||ab ((x.regs:Int)<1))||ab ((x.regs:Int)<x.params))||ab ((40:Int)<x.regs))||(ab ((i:Int)=0)&&ab ((0:Int)<x.params)))=false:=by
      simp only[dp,cw,decide_eq_false_iff_not];omega
    rw[e,Z2 a];simp only[Z1];by_cases b:1<=x.code.length/\x.code.length<=2000
    · rw[Z2 b,show(ab (((x.code.length:Int):Int)=0)||ab ((2000:Int)<(x.code.length:Int)))=ar by simp only[dp,decide_eq_false_iff_not];omega];rfl
    · rw[Z3 b,show(ab (((x.code.length:Int):Int)=0)||ab ((2000:Int)<(x.code.length:Int)))=ba by simp only[dr,decide_eq_true_eq];omega];rfl
  · have e:(((((ab ((x.params:Int)<0)||ab ((3:Int)<x.params))||ab ((x.regs:Int)<1))||ab ((x.regs:Int)<x.params))||ab ((40:Int)<x.regs))||(ab ((i:Int)=0)&&ab ((0:Int)<x.params)))=true:=by
      simp only[dr,cH,decide_eq_true_eq];omega
    rw[e,Z3 a];rfl
theorem r39_eq(i:Nat)(x:bX)(nx:Unit->Yw Int):jk (i:Int) x () nx=if F9 i x≠0 then ah (F9 i x)else nx ():=by
  unfold jk F9 aH;by_cases a:(0<=x.params/\x.params<=3)/\(1<=x.regs/\x.params<=x.regs/\x.regs<=40)/\¬(i=0/\x.params≠0)
  · have e:(((!(ab ((0:Int)<=x.params)&&ab (x.params<=(3:Int))))||(!(ab (max 1 x.params<=x.regs)&&ab (x.regs<=(40:Int)))))||(ab ((i:Int)=0)&&ab ((x.params:Int)≠0)))=false:=by
      simp only[dp,cw,rl,cH,decide_eq_true_eq,decide_eq_false_iff_not];omega
    rw[e,Z2 a];simp only[Z1];by_cases b:1<=x.code.length/\x.code.length<=2000
    · rw[Z2 b,show(!(ab ((1:Int)<=(x.code.length:Int))&&ab ((x.code.length:Int)<=(2000:Int))))=ar by simp only[rl,cH,decide_eq_true_eq];omega];rfl
    · rw[Z3 b,show(!(ab ((1:Int)<=(x.code.length:Int))&&ab ((x.code.length:Int)<=(2000:Int))))=ba by simp only[er,cw,decide_eq_false_iff_not];omega];rfl
  · have e:(((!(ab ((0:Int)<=x.params)&&ab (x.params<=(3:Int))))||(!(ab (max 1 x.params<=x.regs)&&ab (x.regs<=(40:Int)))))||(ab ((i:Int)=0)&&ab ((x.params:Int)≠0)))=true:=by
      simp only[dr,cH,er,cw,decide_eq_true_eq,decide_eq_false_iff_not];omega
    rw[e,Z3 a];rfl
def heads:Nat->Zi bX->Int
 |_,[]=>0
 |i,x::p=>if F9 i x≠0 then F9 i x else heads (i+1) p
theorem Xh(k:Unit->Yw Int):∀(p:Zi bX) (i:Nat),fG o8 k (i:Int) p ()=if heads i p≠0 then ah (heads i p)else k ()
 |[],i=>by simp[heads,fG]
 |x::p,i=>by
  show o8 (i:Int) x () (fG o8 k ((i:Int)+1) p)=_;rw[b39_eq,show((i:Int)+1)=((i+1:Nat):Int) by omega,Xh k p (i+1),heads];by_cases h:F9 i x=0<;>simp[h]
theorem heads_eq2(k:Unit->Yw Int):∀(p:Zi bX) (i:Nat),fG jk k (i:Int) p ()=if heads i p≠0 then ah (heads i p)else k ()
 |[],i=>by simp[heads,fG]
 |x::p,i=>by
  show jk (i:Int) x () (fG jk k ((i:Int)+1) p)=_;rw[r39_eq,show((i:Int)+1)=((i+1:Nat):Int) by omega,heads_eq2 k p (i+1),heads];by_cases h:F9 i x=0<;>simp[h]
theorem b35_eq(a:Zi bX)(x:bX)(i:Int)(c:Ins)(nx:Unit->Yw Int):ig a x i c () nx=iE x a c () nx:=by
 unfold ig iE;rw[ins_eq]
theorem check_loop(a:Zi bX)(x:bX)(k:Unit->Yw Int):∀(l:Zi Ins) (i:Int),fG (ig a x) k i l ()=each (iE x a) k l ()
 |[],i=>rfl
 |c::l,i=>by
  have d:fG (ig a x) k (i+1) l=each (iE x a) k l:=by funext u;exact check_loop a x k l (i+1)
  have b:fG (ig a x) k i (c::l) ()=ig a x i c () (fG (ig a x) k (i+1) l):=rfl;have e:each (iE x a) k (c::l) ()=iE x a c () (each (iE x a) k l):=rfl;rw[b,e,b35_eq,d]
theorem b37_eq(a:Zi bX)(x:bX)(nx:Unit->Yw Int):ko a x () nx=iF a x () nx:=by
 unfold ko iF;rw[check_loop];rfl
theorem Xi(a:Zi bX):sF a=o7 a:=by
 unfold sF o7;have e:(ab (((a.length:Int):Int)=0)||ab ((4:Int)<(a.length:Int)))= !(aH (a.length:Int) 1 4):=by
  unfold aH;rw[dm];simp only[dr,er,cw,decide_eq_true_eq,decide_eq_false_iff_not];omega
 rw[e];have k1:∀l:Zi bX,each (ko a) qB l ()=each (iF a) lM l ():=by
  intro l;induction l with
  |nil=>rfl
  |cons x l ih=>
   have g:each (ko a) qB (x::l) ()=ko a x () (each (ko a) qB l):=rfl;have d:each (iF a) lM (x::l) ()=iF a x () (each (iF a) lM l):=rfl;have:(each (ko a) qB l)=(each (iF a) lM l):=by funext u;exact ih
   rw[g,d,b37_eq,this]
 have f:=Xh (qC a) a 0;have i:=heads_eq2 (oH a) a 0;have b:fG o8 (qC a) 0 a ()=_:=f;have c:fG jk (oH a) 0 a ()=_:=i;have k2:qC a ()=oH a ():=k1 a;rw[b,c,k2]
def JQ(x:bX):Prop:=1<=x.code.length/\x.code.length<=2000
theorem eQ{α σ ρ:Type}{body:α->σ->(σ->ρ)->ρ}{k:σ->ρ}(x:α)(l:Zi α)(s:σ):each body k (x::l) s=body x s (each body k l):=rfl
theorem kW{α σ ρ:Type}{body:α->σ->(σ->ρ)->ρ}{k:σ->ρ}(s:σ):each body k [] s=k s:=rfl
theorem b8_tot(d:Int):∀l:Zi Int,∃y,each (sU d) xY l ()=ah y
 |[]=>⟨0,rfl⟩
 |x::l=>by
  obtain⟨y,a⟩:=b8_tot d l;rw[eQ];unfold sU;cases (!(ab ((0:Int)<=x)&&ab ((x:Int)<d)))with
  |true=>exact⟨3,rfl⟩
  |false=>exact⟨y,a⟩
theorem j5_tot(k:Ys)(a:Ins)(b f:Int)(c:Zi bX)(e i d j:Int):∃y,dV k a b f c e i d j=ah y/\(y=0->(a.args.length:Int)=i):=by
 unfold dV;cases k with
 |false=>exact⟨3,rfl,fun h=>Zs h zq1⟩
 |true=>
  simp only[cS,Z1];generalize g:(((ab ((a.a:Int)≠j)||ab ((a.b:Int)≠f))||ab ((a.c:Int)≠e))||ab (((a.args.length:Int):Int)≠i))=C;cases C with
  |true=>exact⟨4,rfl,fun h=>Zs h zq1⟩
  |false=>
   simp only[dp,decide_eq_false_iff_not,hS]at g;simp only[Z1];cases ab ((a.op:Int)=7)with
   |true=>obtain⟨y,l⟩:=b8_tot d a.args;exact⟨y,l,fun _=>g.2⟩
   |false=>exact⟨0,rfl,fun _=>g.2⟩
theorem j4_tot(a:Ins)(b:Int)(c:Zi bX)(d:Int)(i:Ys)(g j f e:Int):∃y,bQ a b c d i g j f e=ah y/\(y=0->(a.args.length:Int)=g):=by
 unfold bQ;cases ab ((a.op:Int)=12)with
 |true=>exact j5_tot i a b f c e g d 0
 |false=>exact j5_tot i a b f c e g d j
def InsT(a:Ins)(r:Yw Int):Prop:=∃y,r=ah y/\(y=0->a.args.length<=3)
theorem j4_t(a:Ins)(b:Int)(c:Zi bX)(d:Int)(j:Ys){g:Int}(i f e:Int)(h:g<=3):InsT a (bQ a b c d j g i f e):=by
 obtain⟨y,l,m⟩:=j4_tot a b c d j g i f e;exact⟨y,l,fun k=>by have:=m k;omega⟩
theorem Ab{a:Ins}{c:Ys}{x y:Yw Int}(b:InsT a x)(d:InsT a y):InsT a (bif c then x else y):=by
  cases c
  · exact d
  · exact b
theorem insT_err{a:Ins}{e:Int}(h:e≠0):InsT a (ah e):=⟨e,rfl,fun b=>Zs b h⟩
theorem check_ins(a:Ins)(b:Int)(c:Zi bX)(d e:Int)(hp:∀x∈c,x.params<=3):InsT a (gy a b c d e):=by
  unfold gy;refine Ab (insT_err zq1)<|Ab (insT_err zq1)<|Ab (j4_t _ _ _ _ _ _ _ _ zq1)<|Ab (j4_t _ _ _ _ _ _ _ _ zq1) ?_;have f:∀x,InsT a (dw a b c d x):=fun x=>by
    unfold dw;exact Ab (j4_t _ _ _ _ _ _ _ _ zq1)<|Ab (j4_t _ _ _ _ _ _ _ _ zq1)<|j4_t _ _ _ _ _ _ _ _ zq1
  have i:∀x,InsT a (dE a b c d e x):=fun x=>by
    unfold dE;refine Ab (j4_t _ _ _ _ _ _ _ _ zq1) ?_;cases ab ((a.op:Int)=7)with
    |false=>
      rw[Z1];exact Ab (f _)<|Ab (f _)<|f _
    |true=>
      simp only[ZS];rw[rZ];cases hb:aG a.b (c.length:Int)with
      |false=>exact insT_err zq1
      |true=>
        simp only[cS,Z1];unfold aG at hb;simp only[cH,decide_eq_true_eq]at hb;obtain⟨n,hn⟩:=cC hb.1;rw[hn,DL V,fb];exact j4_t _ _ _ _ _ _ _ _<|hp _<|en _
  have g:∀x,InsT a (dG a b c d e x):=fun x=>by
    unfold dG;refine Ab (j4_t _ _ _ _ _ _ _ _ zq1) ?_;cases ab ((a.op:Int)=3)with
    |false=>
      rw[Z1];exact Ab (i _)<|i _
    |true=>
      simp only[ZS];by_cases j:a.args.length=1
      · rw[dT (show((a.args.length:Int):Int)=1 by omega)];obtain⟨y,k⟩:=len_one.1 j;simp only[ZS];rw[show idx a.args 0=ah y by rw[k,Rq],fb];exact j4_t _ _ _ _ _ _ _ _ zq1
      · rw[dF (show¬((a.args.length:Int):Int)=1 by omega)];exact j4_t _ _ _ _ _ _ _ _ zq1
  exact Ab (g _)<|g _
def Good(a:Zi bX):Prop:=a.length<=4/\∀x∈a,JQ x/\∀c∈x.code,c.args.length<=3
theorem headOk_zero{i:Nat}{x:bX}(h:F9 i x=0):x.params<=3/\JQ x:=by
  unfold F9 at h;split at h
  · split at h
    · exact⟨by omega,by unfold JQ;omega⟩
    · cases h
  · cases h
theorem heads_zero:∀(p:Zi bX) (i:Nat),heads i p=0->∀x∈p,x.params<=3/\JQ x
  |[],_,_,x,hx=>by cases hx
  |y::p,i,h,x,hx=>by
    unfold heads at h;split at h
    · rename_i a;exact Zs h a
    · rename_i a;rcases bp.1 hx with rfl|hx
      · exact headOk_zero<|hS.1 a
      · exact heads_zero p (i+1) h x hx
theorem b35_tot(a:Zi bX)(x:bX)(k:Unit->Yw Int)(hp:∀x∈a,x.params<=3)(Q:Prop)(j:∃y,k ()=ah y/\(y=0->Q)):∀(l:Zi Ins) (i:Int),∃y,fG (ig a x) k i l ()=ah y/\(y=0->Q/\∀c∈l,c.args.length<=3)
  |[],i=>by
    obtain⟨y,g,b⟩:=j;exact⟨y,g,fun h=>⟨b h,by intro c m;cases m⟩⟩
  |c::l,i=>by
    obtain⟨y,g,b⟩:=b35_tot a x k hp Q j l<|i+1;have n:fG (ig a x) k i (c::l) ()=ig a x i c () (fG (ig a x) k (i+1) l):=rfl;rw[n];unfold ig;obtain⟨z,g1,g2⟩:=check_ins c i a x.regs (x.code.length:Int) hp;rw[g1,fb];by_cases f:z=0
    · rw[dF V,Z1];refine⟨y,g,fun h=>⟨(b h).1,fun d e=>?_⟩⟩;rcases bp.1 e with rfl|e
      · exact g2 f
      · exact(b h).2 d e
    · rw[dT f,ZS];exact⟨z,Z,fun h=>Zs h f⟩
theorem b37_tot(a:Zi bX)(hp:∀x∈a,x.params<=3/\JQ x):∀l:Zi bX,(∀x∈l,x.params<=3/\JQ x)->∃y,each (ko a) qB l ()=ah y/\(y=0->∀x∈l,∀c∈x.code,c.args.length<=3)
  |[],_=>⟨0,rfl,fun _ x b=>by cases b⟩
  |x::l,hl=>by
    obtain⟨y,f,g⟩:=b37_tot a hp l fun z i=>hl z<|bm _ i;rw[eQ];unfold ko;have b:=hl x zq3;obtain⟨z,g1,g2⟩:=b35_tot a x (A8 x (each (ko a) qB l)) (fun x b=>(hp x b).1) (∀x∈l,∀c∈x.code,c.args.length<=3) (by
      unfold A8;have e:=b.2;unfold JQ at e;rw[gI,show((x.code.length:Int)-1)=((x.code.length-1:Nat):Int) by omega,DL V,fb];cases (ab ((x.code[x.code.length-1].op:Int)≠8)&&ab ((x.code[x.code.length-1].op:Int)≠12))with
      |true=>exact⟨4,rfl,fun h=>Zs h zq1⟩
      |false=>exact⟨y,f,g⟩) x.code 0
    refine⟨z,g1,fun h=>?_⟩;intro w d;rcases bp.1 d with rfl|d
    · exact(g2 h).2
    · exact(g2 h).1 w d
theorem check_tot(a:Zi bX):∃y,sF a=ah y/\(y=0->Good a):=by
  unfold sF;generalize d:(ab (((a.length:Int):Int)=0)||ab ((4:Int)<(a.length:Int)))=C;cases C with
  |true=>exact⟨2,rfl,fun h=>Zs h zq1⟩
  |false=>
    simp only[dp,decide_eq_false_iff_not]at d;have e:fG o8 (qC a) 0 a ()=_:=Xh (qC a) a 0;rw[Z1,e];by_cases b:heads 0 a=0
    · rw[Z3 V];have hp:=heads_zero a 0 b;obtain⟨y,g1,g2⟩:=b37_tot a hp a hp;exact⟨y,g1,fun h=>⟨by omega,fun x c=>⟨(hp x c).2,g2 h x c⟩⟩⟩
    · rw[Z2 b];exact⟨_,Z,fun h=>Zs h b⟩
def Xz(a:Zi bX):Int:=(sF a).getD 0
theorem chk_eq(a:Zi bX):sF a=ah (Xz a):=by
 obtain⟨y,h,_⟩:=check_tot a;unfold Xz;rw[h];rfl
theorem chk_eq2(a:Zi bX):o7 a=ah (Xz a):=by rw[<-Xi,chk_eq]
def Reg(R x:Int):Prop:=0<=x/\x<R
def Rs(a:Zi bX)(R L:Int)(c:Ins):Prop:=
 (c.op=1/\Reg R c.a/\(-1000000000<=c.b/\c.b<=1000000000))\/
 (c.op=2/\Reg R c.a/\Reg R c.b)\/
 (c.op=3/\Reg R c.a/\Reg R c.b/\Reg R c.c/\∃n,c.args=[n]/\1<=n/\n<=5)\/
 ((c.op=4\/c.op=6)/\Reg R c.a/\Reg R c.b/\(0<=c.c/\c.c<4))\/
 (c.op=5/\Reg R c.a/\(1<=c.b/\c.b<=4))\/
 (c.op=7/\Reg R c.a/\(∃p,idx a c.b=ah p/\(c.args.length:Int)=p.params)/\∀x∈c.args,Reg R x)\/
 ((c.op=8\/c.op=9\/c.op=11)/\Reg R c.a)\/
 c.op=10\/
 (c.op=12/\(0<=c.b/\c.b<L))\/
 (c.op=13/\Reg R c.a/\(0<=c.b/\c.b<L))
theorem each_b8(R:Int):∀l:Zi Int,each (sU R) xY l ()=ah 0->∀x∈l,Reg R x
  |[],_,x,hx=>by cases hx
  |y::l,h,x,hx=>by
    rw[eQ]at h;unfold sU at h;cases e:(!(ab ((0:Int)<=y)&&ab ((y:Int)<R)))with
    |true=>rw[e,ZS]at h;cases h
    |false=>
      rw[e,Z1]at h;rcases bp.1 hx with rfl|hx
      · simp at e;exact e
      · exact each_b8 R l h x hx
theorem insG_of{c:Ins}{i:Int}{a:Zi bX}{R L:Int}(h:gy c i a R L=ah 0):Rs a R L c:=by
  obtain⟨op,v,t,u,args⟩:=c;by_cases j:op=1
  · subst j;simp[gy,dU,dS,eY,fw,eO,bQ,dV,dG,dE,dw,cY]at h;simp[Rs,Reg]
    (repeat (split at h;·simp at h))
    omega
  by_cases s:op=2
  · subst s;simp[gy,dU,dS,eY,fw,eO,bQ,dV,dG,dE,dw,cY]at h;simp[Rs,Reg]
    (repeat (split at h;·simp at h))
    omega
  by_cases g:op=3
  · subst g;simp[gy,dU,dS,eY,fw,eO,bQ,dV,dG,dE,dw,cY]at h;simp[Rs,Reg];by_cases hl:args.length=1
    · obtain⟨y,rfl⟩:=len_one.1 hl;simp[Rq]at h;split at h
      · simp at h
      split at h
      · simp at h
      refine⟨by omega,by omega,by omega,y,Z,by omega,by omega⟩
    · exfalso;rw[Z3 (show¬((args.length:Int)=1) by omega)]at h;split at h<;>simp at h
  by_cases q:op=4
  · subst q;simp[gy,dU,dS,eY,fw,eO,bQ,dV,dG,dE,dw,cY]at h;simp[Rs,Reg]
    (repeat (split at h;·simp at h))
    omega
  by_cases r:op=5
  · subst r;simp[gy,dU,dS,eY,fw,eO,bQ,dV,dG,dE,dw,cY]at h;simp[Rs,Reg]
    (repeat (split at h;·simp at h))
    omega
  by_cases m:op=6
  · subst m;simp[gy,dU,dS,eY,fw,eO,bQ,dV,dG,dE,dw,cY]at h;simp[Rs,Reg]
    (repeat (split at h;·simp at h))
    omega
  by_cases n:op=7
  · subst n;simp[gy,dU,dS,eY,fw,eO,bQ,dV,dG,dE,dw,cY]at h;simp[Rs,Reg];split at h
    · simp at h
    split at h
    · simp at h
    obtain⟨p,hp,h⟩:=ai h
    (repeat (split at h;·simp at h))
    refine⟨by omega,⟨p,hp,by omega⟩,fun x l=>each_b8 R args h x l⟩
  by_cases o:op=8
  · subst o;simp[gy,dU,dS,eY,fw,eO,bQ,dV,dG,dE,dw,cY]at h;simp[Rs,Reg]
    (repeat (split at h;·simp at h))
    omega
  by_cases k:op=9
  · subst k;simp[gy,dU,dS,eY,fw,eO,bQ,dV,dG,dE,dw,cY]at h;simp[Rs,Reg]
    (repeat (split at h;·simp at h))
    omega
  by_cases d:op=10
  · subst d;simp[Rs,Reg]
  by_cases e:op=11
  · subst e;simp[gy,dU,dS,eY,fw,eO,bQ,dV,dG,dE,dw,cY]at h;simp[Rs,Reg]
    (repeat (split at h;·simp at h))
    omega
  by_cases b:op=12
  · subst b;simp[gy,dU,dS,eY,fw,eO,bQ,dV,dG,dE,dw,cY]at h;simp[Rs,Reg]
    (repeat (split at h;·simp at h))
    omega
  by_cases f:op=13
  · subst f;simp[gy,dU,dS,eY,fw,eO,bQ,dV,dG,dE,dw,cY]at h;simp[Rs,Reg]
    (repeat (split at h;·simp at h))
    omega
  · exfalso;simp[gy,dU,dS,eY,fw,eO,bQ,dV,dG,dE,dw,cY, *]at h
structure CodeOk(a:List bX):Prop where
 many:1<=a.length/\a.length<=4
 head:∀(i:Nat) x,a[i]? =ah x->(0<=x.params/\x.params<=3)/\(1<=x.regs/\x.params<=x.regs/\x.regs<=40)/\¬(i=0/\x.params≠0)/\JQ x
 last:∀x∈a,∃c,idx x.code ((x.code.length:Int)-1)=ah c/\(c.op=8\/c.op=12)
 ins:∀x∈a,∀c∈x.code,Rs a x.regs x.code.length c
theorem heads_all:∀(p:Zi bX) (j:Nat),heads j p=0->∀(i:Nat) x,p[i]? =ah x->F9 (j+i) x=0
  |[],j,_,i,x,hx=>by simp at hx
  |y::p,j,h,i,x,hx=>by
    unfold heads at h;split at h
    · rename_i a;exact Zs h a
    · rename_i a;cases i with
      |zero=>simp at hx;subst hx;exact hS.1 a
      |succ i=>rw[show j+(i+1)=(j+1)+i by omega];exact heads_all p (j+1) h i x (by simpa using hx)
theorem b35_ins(a:Zi bX)(x:bX)(k:Unit->Yw Int):∀(l:Zi Ins) (i:Int),fG (ig a x) k i l ()=ah 0->k ()=ah 0/\∀c∈l,Rs a x.regs x.code.length c
  |[],i,h=>⟨h,fun c b=>by cases b⟩
  |y::l,i,h=>by
    have e:fG (ig a x) k i (y::l) ()=ig a x i y () (fG (ig a x) k (i+1) l):=rfl;rw[e]at h;unfold ig at h;obtain⟨z,f,h⟩:=ai h;by_cases z0:z=0
    · subst z0;rw[dF zq3,Z1]at h;obtain⟨d,g⟩:=b35_ins a x k l (i+1) h;refine⟨d,fun c b=>?_⟩;rcases bp.1 b with rfl|b
      · exact insG_of f
      · exact g c b
    · rw[dT z0,ZS]at h;exact Zs (osi h) z0
theorem b37_ins(a:Zi bX):∀l:Zi bX,each (ko a) qB l ()=ah 0->∀x∈l,(∃c,idx x.code ((x.code.length:Int)-1)=ah c/\(c.op=8\/c.op=12))/\∀c∈x.code,Rs a x.regs x.code.length c
  |[],_,x,hx=>by cases hx
  |y::l,h,x,hx=>by
    rw[eQ]at h;unfold ko at h;obtain⟨b,f⟩:=b35_ins a y _ y.code 0 h;unfold A8 at b;obtain⟨_,b⟩:=bO b;obtain⟨c,d,b⟩:=ai b;cases e:(ab ((c.op:Int)≠8)&&ab ((c.op:Int)≠12))with
    |true=>rw[e,ZS]at b;cases b
    |false=>
      rw[e,Z1]at b;rcases bp.1 hx with rfl|hx
      · exact⟨⟨c,d,by simp only[cw,decide_eq_false_iff_not,hS]at e;exact e⟩,f⟩
      · exact b37_ins a l b x hx
theorem chk_code{a:Zi bX}(h:Xz a=0):CodeOk a:=by
  have b:=chk_eq a;rw[h]at b;unfold sF at b;generalize f:(ab (((a.length:Int):Int)=0)||ab ((4:Int)<(a.length:Int)))=C at b;cases C with
  |true=>cases b
  |false=>
    simp only[dp,decide_eq_false_iff_not]at f;have j:fG o8 (qC a) 0 a ()=_:=Xh (qC a) a 0;rw[Z1,j]at b;by_cases d:heads 0 a=0
    · rw[Z3 V]at b;have e:=b37_ins a a b;refine⟨by omega,fun i x c=>?_,fun x c=>(e x c).1,fun x c=>(e x c).2⟩;have:=heads_all a 0 d i x c;rw[Nat.zero_add]at this;unfold F9 at this;split at this
      · rename_i g;split at this
        · rename_i g2;exact⟨g.1,g.2.1,g.2.2,g2⟩
        · cases this
      · cases this
    · rw[Z2 d]at b;exact Zs (osi b) d
theorem vG{α σ ρ:Type}{body:Int->α->σ->(σ->ρ)->ρ}{k:σ->ρ}(i:Int)(x:α)(l:Zi α)(s:σ):fG body k i (x::l) s=body i x s (fG body k (i+1) l):=rfl
theorem Sm{σ ρ:Type}{body:Int->σ->(σ->ρ)->ρ}{k:σ->ρ}(i:Int)(m:Nat)(s:σ):upto body k i (m+1) s=body i s (upto body k (i+1) m):=rfl
theorem wO{σ β:Type}{body:σ->(σ->Yw β)->Yw β}{m:Nat}{s:σ}:again body (m+1) s=body s (again body m):=rfl
def CF(n:Nat)(v:Val):Prop:=(v.kind=0/\v.n=0)\/(v.kind=1/\ -1000000000<=v.n/\v.n<=1000000000)\/(v.kind=2/\0<=v.n/\v.n<n)
instance (n:Nat) (v:Val):Decidable (CF n v):=inferInstanceAs (Decidable (_\/_))
theorem Dm(n:Nat)(v:Val):kG v (n:Int)=0↔CF n v:=by
  obtain⟨k,m⟩:=v;simp only[kG,CF,cY,dr,decide_eq_true_eq];constructor
  · intro h
    (repeat' split at h)<;>first|omega|(exfalso;omega)
  · intro h;rcases h with⟨h1,h2⟩|⟨h1,h2⟩|⟨h1,h2⟩
    · rw[Z2 h1,Z3 V]
    · rw[Z3 V,Z2 h1,Z3 V]
    · rw[Z3 V,Z3 V,Z2 h1,Z3 V]
theorem value_eq(v:Val)(n:Int):ik v n=kG v n:=by
 obtain⟨k,m⟩:=v;simp only[kG,ik,rO,aH,lg,aG,cY,dr,cH,er,decide_eq_true_eq,decide_eq_false_iff_not,cw]
 (repeat' split)<;>first|rfl|(exfalso;omega)
def zS(l:Zi (Zi Val)):Prop:=l.length<=24/\∀c∈l,(1<=c.length/\c.length<=4)/\∀v∈c,CF l.length v
theorem cells_eq(a:Zi (Zi Val)):qI a=qo a:=by
 unfold qI qo;have k1:∀(l:Zi Val) (f:Unit->Int),each (nH a) (nI f) l ()=each (oV a) (mJ f) l ():=by
  intro l f;induction l with
  |nil=>rfl
  |cons x l ih=>
   show(bif ab ((ik x (a.length:Int):Int)≠0)then ik x (a.length:Int)else each (nH a) (nI f) l ())=(bif ab ((kG x (a.length:Int):Int)≠0)then kG x (a.length:Int)else each (oV a) (mJ f) l ());rw[value_eq,ih]
 have k2:∀l:Zi (Zi Val),each (nL a) nM l ()=each (qF a) oW l ():=by
  intro l;induction l with
  |nil=>rfl
  |cons x l ih=>
   show(bif (!(aH (x.length:Int) 1 4))then 2 else each (nH a) (nI<|each (nL a) nM l) x ())=(bif (ab (((x.length:Int):Int)=0)||ab ((4:Int)<(x.length:Int)))then 2 else each (oV a) (mJ<|each (qF a) oW l) x ());have e:(!(aH (x.length:Int) 1 4))=(ab (((x.length:Int):Int)=0)||ab ((4:Int)<(x.length:Int))):=by
    unfold aH;rw[dm];simp only[dr,er,cw,decide_eq_true_eq,decide_eq_false_iff_not];omega
   rw[e,k1];have:each (nL a) nM l=each (qF a) oW l:=by funext u;exact ih
   rw[this]
 rw[k2]
theorem all_ok(a:Zi (Zi Val)):qo a=0↔zS a:=by
  have k1:∀(l:Zi Val) (f:Unit->Int),each (oV a) (mJ f) l ()=0↔(∀v∈l,CF a.length v)/\f ()=0:=by
    intro l f;induction l with
    |nil=>simp[kW,mJ]
    |cons x l ih=>
      show(bif ab ((kG x (a.length:Int):Int)≠0)then kG x (a.length:Int)else each (oV a) (mJ f) l ())=0↔_;by_cases h:kG x (a.length:Int)=0
      · rw[dF V,Z1,ih];have:=(Dm _ _).1 h;simp[this]
      · rw[dT h,ZS];have b:¬CF a.length x:=fun e=>h ((Dm _ _).2 e);simp[h,b]
  have k2:∀l:Zi (Zi Val),each (qF a) oW l ()=0↔∀c∈l,(1<=c.length/\c.length<=4)/\∀v∈c,CF a.length v:=by
    intro l;induction l with
    |nil=>simp[kW,oW]
    |cons x l ih=>
      show(bif (ab (((x.length:Int):Int)=0)||ab ((4:Int)<(x.length:Int)))then 2 else each (oV a) (mJ<|each (qF a) oW l) x ())=0↔_;by_cases h:1<=x.length/\x.length<=4
      · rw[show(ab (((x.length:Int):Int)=0)||ab ((4:Int)<(x.length:Int)))=ar by simp only[dp,decide_eq_false_iff_not];omega,Z1,k1,ih];simp[h]
      · rw[show(ab (((x.length:Int):Int)=0)||ab ((4:Int)<(x.length:Int)))=ba by simp only[dr,decide_eq_true_eq];omega,ZS];simp[h]
  unfold qo zS;by_cases h:a.length<=24
  · rw[dF V,Z1,k2];simp[h]
  · rw[dT V,ZS];simp[h]
structure FrOk(a:List bX)(n:Nat)(f:Yf)(x:bX):Prop where
 proc:idx a f.proc=ah x
 at_:0<=f.at_/\f.at_<x.code.length
 regs:(f.regs.length:Int)=x.regs
 vals:∀v∈f.regs,CF n v
def Ga(a:Zi bX)(n:Nat):Int->Zi Yf->Prop
 |_,[]=>True
 |ahead,f::l=>(∃x,FrOk a n f x)/\(0<=f.ru/\f.ru<ahead)/\Ga a n f.regs.length l
structure StOk(a:List bX)(s:Yq):Prop where
 status:0<=s.status/\s.status<=3
 bF: -1000000000<=s.bF/\s.bF<=1000000000
 stay:s.status≠3->s.bF=0
 ended:s.status=1↔s.frames=[]
 many:s.frames.length<=10
 cells:zS s.cells
 frames:Ga a s.cells.length 1 s.frames
def ahead(pre:Zi Yf):Int:=match pre.getLast? with|none=>1|some f=>f.regs.length
theorem ahead_nil:ahead []=1:=rfl
theorem ahead_snoc(pre:Zi Yf)(f:Yf):ahead (pre++[f])=f.regs.length:=by simp[ahead]
theorem vals_loop(b:Yq)(f:Yf)(a:Unit->Yw Int)(c:Int->Yw Int)(hn:a ()=c f.regs.length):∀l:Zi Val,each (zy b) (zA a) l ()=each (qJ b) (qK c f) l ()
 |[]=>hn
 |x::l=>by
  show(bif ab ((kG x (b.cells.length:Int):Int)≠0)then ah (kG x (b.cells.length:Int))else each (zy b) (zA a) l ())=(bif ab ((ik x (b.cells.length:Int):Int)≠0)then ah (ik x (b.cells.length:Int))else each (qJ b) (qK c f) l ());rw[value_eq,vals_loop b f a c hn l]
theorem vals_tot(b:Yq)(a:Unit->Yw Int)(Q:Prop)(hn:∃y,a ()=ah y/\(y=0↔Q)):∀l:Zi Val,∃y,each (zy b) (zA a) l ()=ah y/\(y=0↔(∀v∈l,CF b.cells.length v)/\Q)
  |[]=>by obtain⟨y,c,d⟩:=hn;exact⟨y,c,by simp[d]⟩
  |x::l=>by
    obtain⟨y,c,d⟩:=vals_tot b a Q hn l;have e:each (zy b) (zA a) (x::l) ()=(bif ab ((kG x (b.cells.length:Int):Int)≠0)then ah (kG x (b.cells.length:Int))else each (zy b) (zA a) l ()):=rfl;rw[e];by_cases h:kG x (b.cells.length:Int)=0
    · rw[dF V,Z1];have:=(Dm _ _).1 h;exact⟨y,c,by rw[d];simp[this]⟩
    · rw[dT h,ZS];refine⟨_,Z,?_⟩;have f:¬CF b.cells.length x:=fun e=>h ((Dm _ _).2 e);simp[h,f]
theorem frames_loop(a:Zi bX)(b:Yq)(k:b.frames.length<=10):∀(l pre:Zi Yf),b.frames=pre++l->
    fG (E9 a b) JG (pre.length:Int) l ()=each (iX a b) ll l (ahead pre)
  |[],pre,h=>rfl
  |f::l,pre,h=>by
    have d:=frames_loop a b k l (pre++[f]) (by simpa using h);rw[ahead_snoc]at d;have hi:(((pre++[f]).length:Nat):Int)=(pre.length:Int)+1:=by simp
    rw[hi]at d;rw[vG,eQ];generalize fG (E9 a b) JG ((pre.length:Int)+1) l=K1 at d⊢;generalize each (iX a b) ll l=K2 at d⊢;unfold E9 iX;have hl:pre.length<=10:=by have:=ZD fp h;simp at this;omega
    have m:(ab ((f.proc:Int)<0)||ab (((a.length:Int):Int)<=f.proc))= !aG f.proc (a.length:Int):=rZ _ _;rw[m];cases hp:aG f.proc (a.length:Int)with
    |false=>rfl
    |true=>
      simp only[cS,Z1];cases hx:idx a f.proc with
      |none=>rfl
      |some x=>
        simp only[bnd];cases ha:aG f.at_ (x.code.length:Int)with
        |false=>
          rw[show(((ab ((f.at_:Int)<0)||ab (((x.code.length:Int):Int)<=f.at_))||ab ((f.ru:Int)<0))||(ab ((pre.length:Int)=0)&&ab ((f.ru:Int)≠0)))=ba by
            have:=rZ f.at_ (x.code.length:Int);rw[ha]at this;rw[this];rfl]
          rfl
        |true=>
          have j:=rZ f.at_ (x.code.length:Int);rw[ha]at j;rw[j];simp only[cS,qu,Z1];have i:∀t,Cc f x b K1 t=jQ a f b K2 t:=by
            intro t;unfold Cc jQ;rw[hx,bnd,vals_loop b f _ _ d]
          simp only[i];rcases List.eq_nil_or_concat pre with rfl|⟨q,g,rfl⟩
          · rw[ahead_nil];by_cases c:f.ru=0
            · rw[show(ab ((f.ru:Int)<0)||(ab ((([]:Zi Yf).length:Int)=0)&&ab ((f.ru:Int)≠0)))=ar by simp[c],Z1,dF zq3,Z1,show(!aG f.ru 1)=ar by simp[c,aG]]
            · rw[show(ab ((f.ru:Int)<0)||(ab ((([]:Zi Yf).length:Int)=0)&&ab ((f.ru:Int)≠0)))=ba by simp[c],ZS,show(!aG f.ru 1)=ba by simp[aG];omega]
          · rw[List.concat_eq_append]at*;rw[ahead_snoc];have e:((q++[g]).length:Int)=(q.length:Int)+1:=by simp
            rw[e,show(ab ((q.length:Int)+1=0))=ar from dF V,eT,Bool.or_false];by_cases c:f.ru<0
            · rw[dT c,ZS,show(!aG f.ru (g.regs.length:Int))=ba by simp[aG];omega]
            · rw[dF c,Z1,dT V,ZS,gI V (by simp at hl;omega),show(q.length:Int)+1-1=((q.length:Nat):Int) by omega,nX,h];simp only[bf,List.getElem?_append_right (cv _),Nat.sub_self,eL,cf,od,bnd];congr 1;rw[dm];simp[aG];omega
theorem Rt(a:Zi bX)(b:Yq):Ku a b=lT a b:=by
  unfold Ku lT;have g:(((ab ((b.status:Int)<0)||ab ((3:Int)<b.status))||ab ((b.bF:Int)< -1000000000))||ab ((1000000000:Int)<b.bF))=((!(aH b.status 0 3))||(!(lg b.bF))):=by
    unfold lg aH;rw[dm];simp only[dr,er,cw,decide_eq_true_eq,decide_eq_false_iff_not];omega
  have d:((ab ((b.status:Int)≠3)&&ab ((b.bF:Int)≠0))||(ab ((b.status:Int)=1) !=ab (((b.frames.length:Int):Int)=0)))=(((ab ((b.bF:Int)≠0)&&ab ((b.status:Int)≠3))||(ab ((b.status:Int)=1)&&ab ((0:Int)<(b.frames.length:Int))))||(ab ((b.status:Int)≠1)&&ab (((b.frames.length:Int):Int)=0))):=by
    by_cases e:b.status=1<;>by_cases i:b.frames.length=0<;>by_cases c:b.status=3<;>by_cases f:b.bF=0<;>simp[e,i,c,f]<;>omega
  rw[g,d,cells_eq];by_cases h:b.frames.length<=10
  · have:=frames_loop a b h b.frames [] Z;rw[ahead_nil]at this;rw[<-this];rfl
  · rw[show(ab ((10:Int)<(b.frames.length:Int)))=ba from dT V];rfl
theorem frames_tot(a:Zi bX)(b:Yq):∀(l:Zi Yf) (t:Int),∃y,each (iX a b) ll l t=ah y/\(y=0↔Ga a b.cells.length t l)
  |[],t=>⟨0,rfl,by simp[Ga]⟩
  |f::l,t=>by
    obtain⟨y,j,m⟩:=frames_tot a b l f.regs.length;rw[eQ];generalize each (iX a b) ll l=K2 at j⊢;unfold iX;cases hp:aG f.proc (a.length:Int)with
    |false=>
      refine⟨5,Z,?_⟩;have:¬Ga a b.cells.length t (f::l):=by
        rintro⟨⟨x,g⟩,-,-⟩;have:=J g.proc;have e:=(tg.1 this.2).1;unfold aG at hp;simp only[cw,decide_eq_false_iff_not]at hp;omega
      simp[this]
    |true=>
      unfold aG at hp;simp only[cH,decide_eq_true_eq]at hp;simp only[cS,Z1];obtain⟨n,hn⟩:=cC hp.1;have d:idx a f.proc=ah (a[n]'V):=by rw[hn,DL V]
      generalize a[n]'V=x at d;rw[d,bnd];have kB:∃y,jQ a f b K2 ba=ah y/\y≠0:=⟨3,Z,by decide⟩;have c:∀z,FrOk a b.cells.length f z->z=x:=fun z g=>by have:=g.proc;rw[d]at this;exact(osi this).symm
      cases ha:aG f.at_ (x.code.length:Int)with
      |false=>
        obtain⟨y,g1,g2⟩:=kB;refine⟨y,g1,?_⟩;have:¬Ga a b.cells.length t (f::l):=by
          rintro⟨⟨z,g⟩,-,-⟩;have:=c z g;subst this;have:=g.at_;unfold aG at ha;simp only[cw,decide_eq_false_iff_not]at ha;omega
        simp[this,g2]
      |true=>
        simp only[cS,Z1];cases ht:aG f.ru t with
        |false=>
          obtain⟨y,g1,g2⟩:=kB;refine⟨y,g1,?_⟩;have:¬Ga a b.cells.length t (f::l):=by
            rintro⟨⟨z,g⟩,e,-⟩;unfold aG at ht;simp only[cw,decide_eq_false_iff_not]at ht;omega
          simp[this,g2]
        |true=>
          simp only[cS];unfold jQ;rw[d,Z1,bnd];unfold aG at ha ht;simp only[cH,decide_eq_true_eq]at ha ht;by_cases i:(f.regs.length:Int)=x.regs
          · rw[dF V,Z1,<-vals_loop b f (fun _=>K2 f.regs.length) _ rfl];obtain⟨z,g1,g2⟩:=vals_tot b (fun _=>K2 f.regs.length) _ ⟨y,j,m⟩ f.regs;refine⟨z,g1,g2.trans ⟨fun h=>⟨⟨x,d,ha,i,h.1⟩,ht,h.2⟩,?_⟩⟩;rintro⟨⟨z,g⟩,e,k⟩;exact⟨g.vals,k⟩
          · rw[dT V,ZS];refine⟨4,Z,?_⟩;have:¬Ga a b.cells.length t (f::l):=by
              rintro⟨⟨z,g⟩,-,-⟩;have:=c z g;subst this;exact i g.regs
            simp[this]
theorem check_tot2(a:Zi bX)(b:Yq):∃y,Ku a b=ah y/\(y=0↔StOk a b):=by
  rw[Rt];unfold lT;cases c1:((!(aH b.status 0 3))||(!(lg b.bF)))with
  |true=>
    refine⟨3,Z,⟨fun h=>Zs h zq1,fun h=>?_⟩⟩;unfold lg aH at c1;simp only[dr,er,cw,decide_eq_false_iff_not]at c1;have:=h.status;have:=h.bF;omega
  |false=>
    unfold lg aH at c1;simp only[dp,rl,cH,decide_eq_true_eq]at c1;rw[Z1];cases c2:(((ab ((b.bF:Int)≠0)&&ab ((b.status:Int)≠3))||(ab ((b.status:Int)=1)&&ab ((0:Int)<(b.frames.length:Int))))||(ab ((b.status:Int)≠1)&&ab (((b.frames.length:Int):Int)=0)))with
    |true=>
      refine⟨4,Z,⟨fun h=>Zs h zq1,fun h=>?_⟩⟩;simp only[dr,cH,decide_eq_true_eq]at c2;rcases c2 with(c2|c2)|c2
      · exact Zs (h.stay c2.2) c2.1
      · have:=h.ended.1 c2.1;rw[this]at c2;simp at c2
      · exact Zs (h.ended.2<|cd V) c2.1
    |false=>
      simp only[dp,cw,decide_eq_false_iff_not]at c2;rw[Z1];by_cases e:b.frames.length<=10
      · rw[dF V,Z1,cells_eq];by_cases c:qo b.cells=0
        · rw[dF V,Z1];obtain⟨y,f,g⟩:=frames_tot a b b.frames 1;refine⟨y,f,g.trans ⟨fun h=>⟨by omega,by omega,fun d=>by omega,⟨fun d=>?_,fun d=>?_⟩,e,(all_ok _).1 c,h⟩,fun h=>h.frames⟩⟩
          · exact cd V
          · rw[d]at c2;simp at c2;omega
        · rw[dT c,ZS];exact⟨_,Z,⟨fun h=>Zs h c,fun h=>Zs ((all_ok _).2 h.cells) c⟩⟩
      · rw[dT V,ZS];exact⟨2,Z,⟨fun h=>Zs h zq1,fun h=>Zs h.many e⟩⟩
def ckS(a:Zi bX)(s:Yq):Int:=(Ku a s).getD 0
theorem ckS_eq(a:Zi bX)(s:Yq):Ku a s=ah (ckS a s):=by obtain⟨y,h,-⟩:=check_tot2 a s;unfold ckS;rw[h];rfl
theorem ckS_eq2(a:Zi bX)(s:Yq):lT a s=ah (ckS a s):=by rw[<-Rt,ckS_eq]
theorem ckS_ok{a:Zi bX}{s:Yq}:ckS a s=0↔StOk a s:=by obtain⟨y,h,b⟩:=check_tot2 a s;unfold ckS;rw[h];exact b
theorem vm_Check_eq(a:Zi bX)(s:Yq):Io a s=ah (if Xz a≠0 then Xz a else ckS a s):=by
  unfold Io;rw[chk_eq,bnd];by_cases h:Xz a=0
  · rw[dF V,Z1,ckS_eq,bnd,Z3 V]
  · rw[dT h,ZS,Z2 h]
theorem eqVals(a b:Zi Val):nD a b=ah (ab (a=b)):=by
  unfold nD;by_cases h:a.length=b.length
  · rw[dF V];simp only[Z1,cc];rw[MM (fun x y=>ab (x=y)) a b h rfl (fun i x y nx d g=>by
      unfold Aq;rw[nX,nX,d,g];obtain⟨k,n⟩:=x;obtain⟨k2,f⟩:=y;by_cases e:k=k2<;>by_cases c:n=f<;>simp[e,c]),JA (fun _ _=>rfl)]
  · rw[dT V];have:a≠b:=fun e=>h (by rw[e]);rw[dF this];rfl
theorem eqCells(a b:Zi (Zi Val)):RZ a b=ah (ab (a=b)):=by
  unfold RZ;by_cases h:a.length=b.length
  · rw[dF V,Z1,TK (fun x y=>ab (x=y)) a b h rfl (fun i x y nx c=>by
      unfold OW;rw[nX,c,bnd,eqVals,bnd];by_cases e:x=y<;>simp[e]),JA (fun _ _=>rfl)]
  · rw[dT V];have:a≠b:=fun e=>h (by rw[e]);rw[dF this];rfl
theorem eqCells2(a b:Zi (Zi Val)):wN a b=ah (ab (a=b)):=by
  unfold wN;by_cases h:a.length=b.length
  · rw[dF V];simp only[Z1,cc];rw[MM (fun x y=>ab (x=y)) a b h rfl (fun i x y nx c d=>by
      unfold yh;rw[nX,nX,c,d,bnd,bnd,eqVals,bnd];by_cases e:x=y<;>simp[e]),JA (fun _ _=>rfl)]
  · rw[dT V];have:a≠b:=fun e=>h (by rw[e]);rw[dF this];rfl
theorem fr_eq(x y:Yf)(nx:Unit->Yw Ys):(bif ((ab ((x.proc:Int)=y.proc)&&ab ((x.at_:Int)=y.at_))&&ab ((x.ru:Int)=y.ru))then(nD x.regs y.regs).bind fun a=>En nx (!a)else En nx ba)=bif ab (x=y)then nx ()else ah false:=by
 obtain⟨p,t,r,o⟩:=x;obtain⟨f,c,i,o2⟩:=y;simp only[eqVals,bnd,En];by_cases g:p=f<;>by_cases b:t=c<;>by_cases e:r=i<;>by_cases d:o=o2<;>simp[g,b,e,d]
theorem st_eq(a b:Yq):ab (a=b)=((ab (a.status=b.status)&&ab (a.bF=b.bF))&&(ab (a.cells=b.cells)&&ab (a.frames=b.frames))):=by
 obtain⟨f,c,s,w⟩:=a;obtain⟨d,c2,e,g⟩:=b;rw[dm];simp;constructor<;>(intro h;simp[h])
theorem eqState(a b:Yq):R3 a b=ah (ab (a=b)):=by
  rw[st_eq];unfold R3;cases (ab ((a.status:Int)=b.status)&&ab ((a.bF:Int)=b.bF))with
  |false=>rfl
  |true=>
    rw[ZS,eqCells,bnd];cases ab (a.cells=b.cells)with
    |false=>rfl
    |true=>
      rw[ZS];by_cases h:a.frames.length=b.frames.length
      · rw[dF V,Z1,TK (fun x y=>ab (x=y)) a.frames b.frames h rfl (fun i x y nx c=>by
          unfold Qp;rw[nX,c,bnd];exact fr_eq x y nx),JA (fun _ _=>rfl)];rfl
      · rw[dT V];have:a.frames≠b.frames:=fun e=>h (by rw[e]);rw[dF this];rfl
theorem eqState2(a b:Yq):rW a b=ah (ab (a=b)):=by
 rw[<-eqState];unfold rW R3;rw[eqCells,eqCells2];rfl
structure Small(s:Yq):Prop where
 frames:s.frames.length<=10
 regs:∀f∈s.frames,f.regs.length<=40
 cells:s.cells.length<=24
 fields:∀c∈s.cells,c.length<=4
theorem Pg{a:Zi bX}{n:Nat}:∀{l:Zi Yf} {t:Int},Ga a n t l->∀f∈l,∃x,FrOk a n f x
  |[],_,_,f,hf=>by cases hf
  |g::l,t,h,f,hf=>by
    rcases bp.1 hf with rfl|hf
    · exact h.1
    · exact Pg h.2.2 f hf
theorem CodeOk.mem{a:Zi bX}(h:CodeOk a){k:Int}{x:bX}(c:idx a k=ah x):x∈a/\(0<=x.params/\x.params<=3)/\(1<=x.regs/\x.params<=x.regs/\x.regs<=40)/\JQ x:=by
 have b:=(J c).2;have:=h.head _ x b;exact⟨eK b,this.1,this.2.1,this.2.2.2⟩
theorem StOk.small{a:Zi bX}{s:Yq}(h:StOk a s)(ha:CodeOk a):Small s where
 frames:=h.many
 regs f hf:=by
  obtain⟨x,g⟩:=Pg h.frames f hf;have:=(ha.mem g.proc).2.2.1;have:=g.regs;omega
 cells:=h.cells.1
 fields c hc:=(h.cells.2 c hc).1.2
theorem Xj{α:Type}{b:Nat}{a:Zi α}(h:a.length<=400)(c:b<=48):clone b a=ah a:=by
 have:a.length*b<=400*48:=Cl h c;unfold clone;exact jV ⟨by simp;omega,by simp;omega⟩
theorem upto_skip{ρ:Type}{body:Int->Unit->(Unit->ρ)->ρ}{k:Unit->ρ}:∀(m:Nat) (i:Nat),(∀j:Nat,i<=j->j<i+m->∀nx,body (j:Int) () nx=nx ())->upto body k (i:Int) m ()=k ()
 |0,i,_=>rfl
 |m+1,i,h=>by
  rw[Sm,h i (cv _) V,show((i:Int)+1)=((i+1:Nat):Int) by omega];exact upto_skip m (i+1) fun j a b=>h j V V
theorem cellCopy_eq{l:Zi (Zi Val)}(h:l.length<=24)(a:∀c∈l,c.length<=4):RV l=ah l:=by
 unfold RV;rw[Xj V zq1,bnd,cc];exact upto_skip (k:=OO l) l.length 0 (fun j b d nx=>by
  unfold OM;rw[DL V,bnd,Xj (by have:=a _ (en (by omega:j<l.length));omega) zq1,bnd])
theorem copy_eq{s:Yq}(h:Small s):OP s=ah s:=by
 unfold OP;rw[Xj (by have:=h.frames;omega) zq1,bnd,cellCopy_eq h.cells h.fields,bnd];unfold TZ;rw[cc];exact upto_skip (k:=TY s s.cells) s.frames.length 0 (fun j a b nx=>by
  unfold TW;rw[DL V,bnd,Xj (by have:=h.regs _ (en (by omega:j<s.frames.length));omega) zq1,bnd])
theorem room_le{α:Type}{a:Nat}{l m:Zi α}(h:l.length+m.length<=100000)(b:a<=48):Room a l m:=by
 have:(l.length+m.length)*a<=100000*48:=Cl h b;exact⟨by omega,by omega⟩
theorem own_cells(b:Zi Yf)(s:Yq):∀(l a:Zi (Zi Val)),(∀c∈l,c.length<=4)->a.length+l.length<=24->each pX (uw b s) l a=ah ⟨b,a++l,s.status,s.bF⟩
 |[],a,_,_=>by simp[kW,uw]
 |x::l,a,h,hl=>by
  rw[eQ];unfold pX;have:=h x zq3;simp only[bl]at hl;rw[jV (room_le (by simp;omega) zq1),jV (room_le (by simp;omega) zq1)];have i:=own_cells b s l (a++[([]:Zi Val)++x]) (fun c g=>h c (bm _ g)) (by simp;omega);have e:pX=fun d f j=>fI (Room 16 ([]:Zi Val) d) (fI (Room 24 f [(([]:Zi Val)++d)])<|j<|f++[(([]:Zi Val)++d)]):=rfl;rw[<-e,i];simp
theorem own_frames(s:Yq)(b:s.cells.length<=24/\∀c∈s.cells,c.length<=4):∀(l a:Zi Yf),(∀f∈l,f.regs.length<=40)->a.length+l.length<=10->each pY (p8 s) l a=ah ⟨a++l,s.cells,s.status,s.bF⟩
 |[],a,_,_=>by
  rw[kW,p8,own_cells _ _ _ _ b.2 (by simp;omega)];simp
 |x::l,a,h,hl=>by
  rw[eQ];have:=h x zq3;simp only[bl]at hl;have d:=own_frames s b l (a++[⟨x.proc,x.at_,([]:Zi Val)++x.regs,x.ru⟩]) (fun c b=>h c (bm _ b)) (by simp;omega);generalize each pY (p8 s) l=K at d⊢;unfold pY;rw[jV (room_le (by simp;omega) zq1),jV (room_le (by simp;omega) zq1),d];simp
theorem own_eq{s:Yq}(h:Small s):xG s=ah s:=by
 unfold xG;rw[own_frames s ⟨h.cells,h.fields⟩ s.frames [] h.regs (by simpa using h.frames)];simp
def metV(l:Zi Int)(v:Val):Zi Int:=if v.kind=2/\v.n∉l then l++[v.n]else l
def metL(l:Zi Int)(vs:Zi Val):Zi Int:=vs.foldl metV l
def cellAt(cells:Zi (Zi Val))(k:Int):Zi Val:=(idx cells k).getD []
def bfs(cells:Zi (Zi Val)):Nat->Nat->Zi Int->Zi Int
 |0,_,l=>l
 |m+1,k,l=>if h:k<l.length then bfs cells m (k+1) (metL l (cellAt cells l[k]))else l
def Ph(cells:Zi (Zi Val))(vs:Zi Val):Zi Int:=bfs cells 25 0 (metL [] vs)
theorem metL_cons(l:Zi Int)(v:Val)(vs:Zi Val):metL l (v::vs)=metL (metV l v) vs:=rfl
theorem metV_pre(l:Zi Int)(v:Val):l<+:metV l v:=by
  unfold metV;split
  · exact List.prefix_append _ _
  · exact oe _
theorem Oj:∀(vs:Zi Val) (l:Zi Int),l<+:metL l vs
 |[],l=>oe _
 |v::vs,l=>(metV_pre l v).trans (Oj vs _)
theorem bfs_pre(cells:Zi (Zi Val)):∀(m k:Nat) (l:Zi Int),l<+:bfs cells m k l
  |0,_,l=>oe _
  |m+1,k,l=>by
    unfold bfs;split
    · exact(Oj _ _).trans<|bfs_pre cells m _ _
    · exact oe _
theorem nodup_len:∀(n:Nat) (l:Zi Int),l.Nodup->(∀x∈l,0<=x/\x<n)->l.length<=n
  |0,l,_,h=>by
    cases l with
    |nil=>simp
    |cons x l=>have:=h x zq3;omega
  |n+1,l,hn,h=>by
    have d:=nodup_len n (l.erase (n:Int)) (hn.erase _) (fun x b=>by
      have a:=(hn.mem_erase_iff).1 b;have:=h x a.2;have c:=a.1;constructor
      · omega
      · push_cast at this;omega)
    have e:l.length<=(l.erase (n:Int)).length+1:=by rw[List.length_erase];split<;>omega
    omega
def zl(n:Nat)(l:Zi Int):Prop:=l.Nodup/\∀x∈l,0<=x/\x<n
theorem zl.len{n:Nat}{l:Zi Int}(h:zl n l):l.length<=n:=nodup_len n l h.1 h.2
theorem zl.nil{n:Nat}:zl n []:=⟨List.nodup_nil,fun x a=>by cases a⟩
theorem CF.ref{n:Nat}{v:Val}(h:CF n v)(a:v.kind=2):0<=v.n/\v.n<n:=by unfold CF at h;omega
theorem zl.v{n:Nat}{l:Zi Int}(h:zl n l){v:Val}(g:CF n v):zl n (metV l v):=by
  unfold metV;split
  · rename_i f;refine⟨xr.2 ⟨h.1,by simp,fun a i b d=>?_⟩,fun x c=>?_⟩
    · simp at d;subst d;intro e;subst e;exact f.2 i
    · rcases db.1 c with c|c
      · exact h.2 x c
      · simp at c;subst c;exact g.ref f.1
  · exact h
theorem zl.l{n:Nat}:∀{vs:Zi Val} {l:Zi Int},zl n l->(∀v∈vs,CF n v)->zl n (metL l vs)
 |[],l,h,_=>h
 |v::vs,l,h,hv=>zl.l (vs:=vs) (l:=metV l v) (h.v (hv v zq3)) (fun w a=>hv w (bm _ a))
theorem Ll{cells:Zi (Zi Val)}{k:Int}(h:0<=k/\k<cells.length):idx cells k=ah (cellAt cells k)/\cellAt cells k∈cells:=by
 obtain⟨n,rfl⟩:=cC h.1;unfold cellAt;rw[DL V];exact⟨Z,en _⟩
theorem zS.at{cells:Zi (Zi Val)}(h:zS cells){k:Int}(a:0<=k/\k<cells.length):(1<=(cellAt cells k).length/\(cellAt cells k).length<=4)/\∀v∈cellAt cells k,CF cells.length v:=h.2 _ (Ll a).2
theorem zl.bfs{cells:Zi (Zi Val)}(a:zS cells):∀{m k:Nat} {l:Zi Int},zl cells.length l->zl cells.length (bfs cells m k l)
  |0,_,l,h=>h
  |m+1,k,l,h=>by
    unfold Proofs.YteijalgmijkphaaGreatDoor.bfs;split
    · rename_i b;exact zl.bfs a<|h.l (a.at<|h.2 _<|en b).2
    · exact h
def xe(vs:Zi Val)(l:Zi Int):Prop:=∀v∈vs,v.kind=2->v.n∈l
theorem xe.pre{vs:Zi Val}{l m:Zi Int}(h:xe vs l)(hp:l<+:m):xe vs m:=fun v a b=>hp.subset (h v a b)
theorem metV_in(l:Zi Int)(v:Val)(b:v.kind=2):v.n∈metV l v:=by
  unfold metV;split
  · simp
  · rename_i a;exact hS.1 fun h=>a ⟨b,h⟩
theorem metL_in:∀(vs:Zi Val) (l:Zi Int),xe vs (metL l vs)
  |[],l,v,hv,_=>by cases hv
  |w::vs,l,v,hv,hk=>by
    rw[metL_cons];rcases bp.1 hv with rfl|hv
    · exact(Oj vs _).subset<|metV_in l v hk
    · exact metL_in vs _ v hv hk
theorem bfs_in{cells:Zi (Zi Val)}(d:zS cells):∀{m k:Nat} {l:Zi Int},zl cells.length l->cells.length<k+m->(∀j (b:j<l.length),j<k->xe (cellAt cells l[j]) l)->∀x∈bfs cells m k l,xe (cellAt cells x) (bfs cells m k l)
  |0,k,l,h,hm,b,x,hx=>by
    have:=h.len;obtain⟨j,a,rfl⟩:=vj hx;exact b j a (by have n:j<l.length:=a;omega)
  |m+1,k,l,h,hm,b,x,hx=>by
    unfold Proofs.YteijalgmijkphaaGreatDoor.bfs at hx⊢;split at hx
    · rename_i c;rw[dif_pos c];have i:=(d.at<|h.2 _<|en c).2;have hp:=Oj (cellAt cells l[k]) l;refine bfs_in d (h.l i) V (fun j a o=>?_) x hx;by_cases e:j<l.length
      · have g:(metL l<|cellAt cells l[k])[j]=l[j]:=(hp.getElem e).symm;rw[g];by_cases f:j<k
        · exact(b j e f).pre hp
        · have:j=k:=by omega
          subst this;exact metL_in _ _
      · omega
    · rename_i c;rw[dif_neg c];obtain⟨j,a,rfl⟩:=vj hx;exact b j a V
theorem reach_ok{cells:Zi (Zi Val)}(a:zS cells){vs:Zi Val}(c:∀v∈vs,CF cells.length v):zl cells.length (Ph cells vs)/\xe vs (Ph cells vs)/\∀x∈Ph cells vs,xe (cellAt cells x) (Ph cells vs):=by
 have b:zl cells.length (metL [] vs):=zl.nil.l c;refine⟨zl.bfs a b,(metL_in vs []).pre (bfs_pre _ _ _ _),bfs_in a b (by have:=a.1;omega) (fun j e d=>Zs d (Nat.not_lt_zero _))⟩
theorem Sn{α:Type}(k a:Int)(v:α):∀l:Zi (Int×α),lk k (CJ a v l)=if k=a then ah v else lk k l
  |[]=>by unfold CJ lk;by_cases h:k=a<;>simp[h,lk]
  |p::l=>by
    unfold CJ;by_cases h:a=p.1
    · rw[Z2 h];show(if k=p.1 then ah v else lk k l)=if k=a then ah v else(if k=p.1 then ah p.2 else lk k l)
      by_cases e:k=p.1
      · rw[Z2 e,Z2 V]
      · rw[Z3 e,Z3 V,Z3 e]
    · rw[Z3 h];show(if k=p.1 then ah p.2 else lk k (CJ a v l))=if k=a then ah v else(if k=p.1 then ah p.2 else lk k l)
      by_cases e:k=p.1
      · rw[Z2 e,Z2 e,Z3 V]
      · rw[Z3 e,Z3 e,Sn k a v l]
def Seen(l:Zi Int)(m:Zi (Int×Ys)):Prop:=∀k,(lk k m).getD ar=ab (k∈l)
theorem Seen.nil:Seen [] []:=fun k=>rfl
theorem Seen.put{l:Zi Int}{m:Zi (Int×Ys)}(h:Seen l m)(n:Int):Seen (l++[n]) (CJ n ba m):=by
  intro k;rw[Sn];by_cases e:k=n
  · simp[e]
  · rw[Z3 e,h k,dm];simp[e]
theorem Xk{ρ:Type}{body:Val->Zi Int×Zi (Int×Ys)->(Zi Int×Zi (Int×Ys)->Yw ρ)->Yw ρ}{K:Zi Int×Zi (Int×Ys)->Yw ρ}
    (b:∀x l m nx,l.length<=1000->body x (l,m) nx=bif (ab (x.kind=2)&&(!((lk x.n m).getD ar)))then nx (l++[x.n],CJ x.n ba m)else nx (l,m)):
    ∀(vs:Zi Val) (l:Zi Int) (m:Zi (Int×Ys)),Seen l m->l.length+vs.length<=1000->∃c,Seen (metL l vs) c/\each body K vs (l,m)=K (metL l vs,c)
  |[],l,m,h,_=>⟨m,h,rfl⟩
  |v::vs,l,m,h,hl=>by
    simp only[bl]at hl;rw[eQ,b v l m _ V,h v.n,metL_cons];unfold metV;by_cases a:v.kind=2/\v.n∉l
    · rw[Z2 a,dT a.1,dF a.2,iv,eS,ZS];exact Xk b vs _ _ (h.put v.n) (by simp;omega)
    · rw[Z3 a,show(ab (v.kind=2)&& !decide (v.n∈l))=ar by rw[cw];simp;simp only[not_and,hS]at a;by_cases e:v.kind=2<;>simp[e,a],Z1];exact Xk b vs _ _ h V
theorem bfs_loop{cells:Zi (Zi Val)}(f:zS cells):∀(m N k:Nat) (l:Zi Int) (s:Zi (Int×Ys)),zl cells.length l->Seen l s->cells.length<k+m->m<N->k<=l.length->again (vN cells) N ((k:Int),l,s)=ah (bfs cells m k l,0)
  |m,0,k,l,s,h,hs,hm,hN,hk=>by omega
  |0,N+1,k,l,s,h,hs,hm,hN,hk=>by have:=h.len;omega
  |m+1,N+1,k,l,s,h,hs,hm,hN,hk=>by
    rw[wO];unfold vN Proofs.YteijalgmijkphaaGreatDoor.bfs;simp only;have hl:=h.len;have hn:=f.1;by_cases a:k<l.length
    · rw[dT V,ZS,DL a,bnd,dif_pos a];have g:=h.2 _<|en a;have i:=f.at g;rw[(Ll g).1,bnd];have q:(fun(s:Int×Zi Int×Zi (Int×Ys))(c:Int×Zi Int×Zi (Int×Ys)->Yw (Zi Int×Int))=>match s with|(b,Ls,JW)=>bif ab ((b:Int)<(Ls.length:Int))then(idx Ls b).bind fun d=>(idx cells d).bind fun e=>each Bd (Be b c) e (Ls,JW)else ah (Ls,0))=vN cells:=rfl;rw[q];obtain⟨p,j,o⟩:=Xk (body:=Bd) (K:=Be (k:Int) (again (vN cells) N)) (fun x l m nx hl=>by
        unfold Bd;simp only[Fb];cases (ab (x.kind=2)&&(!((lk x.n m).getD ar)))with
        |false=>rfl
        |true=>rw[ZS,ZS,jV (room_le (by simp;omega) zq1)]) (cellAt cells l[k]) l s hs (by have:=i.1.2;omega)
      rw[o];unfold Be;simp only;rw[gI V V];have hp:=(Oj (cellAt cells l[k]) l).length_le;exact bfs_loop f m N (k+1) _ p (h.l i.2) j V V V
    · rw[dF V,Z1,dif_neg a]
theorem reach_eq{N:Nat}(f:100<=N){cells:Zi (Zi Val)}(b:zS cells){vs:Zi Val}(a:∀v∈vs,CF cells.length v)(hl:vs.length<=400):OL N cells vs=ah (Ph cells vs,0):=by
 unfold OL;rw[(all_ok cells).2 b,dF zq3,Z1,dF V,Z1];have k1:∀l:Zi Val,(∀v∈l,CF cells.length v)->each (Ff cells) (Bf N cells vs) l ()=Bf N cells vs ():=by
  intro l;induction l with
  |nil=>intro _;rfl
  |cons x l ih=>
   intro h;rw[eQ];unfold Ff;rw[(Dm _ _).2 (h x zq3),dF zq3,Z1];exact ih fun v a=>h v<|bm _ a
 rw[k1 vs a];unfold Bf;obtain⟨d,c,e⟩:=Xk (body:=Fe) (K:=Kv N cells) (fun x l m nx hl=>by
  unfold Fe;simp only[Fa];cases (ab (x.kind=2)&&(!((lk x.n m).getD ar)))with
  |false=>rfl
  |true=>rw[ZS,ZS,jV (room_le (by simp;omega) zq1)]) vs [] [] Seen.nil (by simp;omega)
 rw[e];exact bfs_loop b 25 N 0 _ d (zl.nil.l a) c (by have:=b.1;omega) V V
theorem Vt(a:Zi Int)(b:Int):∀(m i:Nat),i+m=a.length->upto (rf a b) yF (i:Int) m ()=ah (match (a.drop i).findIdx? (fun x=>ab (b=x))with|some j=>((i+j:Nat):Int)|none=> -1)
  |0,i,h=>by
    rw[show a.drop i=[]from cr V];rfl
  |m+1,i,h=>by
    rw[Sm];have f:=Vt a b m (i+1) V;unfold rf;rw[DL V,bnd,cF (by omega:i<a.length),rm];by_cases e:b=a[i]
    · rw[dT e,ZS];simp
    · rw[dF e,Z1];have k:(fun(d:Int)(s:Unit)(c:Unit->Yw Int)=>(idx a d).bind fun g=>bif ab ((b:Int)=g)then ah d else c ())=rf a b:=rfl;rw[k,show((i:Int)+1)=((i+1:Nat):Int) by omega,f];cases (a.drop (i+1)).findIdx? (fun x=>ab (b=x))with
      |none=>rfl
      |some j=>simp only[dF e,de,if_false,Option.map_some];rw[show i+1+j=i+(j+1) by omega]
theorem index_mem{a:Zi Int}{b:Int}(h:b∈a):slices_Index_int a b=ah (a.idxOf b:Int):=by
 unfold slices_Index_int;rw[cc];have:=Vt a b a.length 0 V;rw[hJ]at this;have e:a.findIdx? (fun x=>decide<|b=x)=ah (a.idxOf b):=by
  rw[List.findIdx?_eq_some_iff_findIdx_eq];have c:a.findIdx (fun x=>decide<|b=x)=a.idxOf b:=by
   unfold List.idxOf;congr 1;funext x;rw[dm];simp;exact⟨fun h=>h.symm,fun h=>h.symm⟩
  exact⟨List.idxOf_lt_length_of_mem h,c⟩
 rw[e]at this;simpa using this
theorem contains_eq(a:Zi Int)(b:Int):slices_Contains_int a b=ah (ab (b∈a)):=by
  unfold slices_Contains_int;by_cases h:b∈a
  · rw[index_mem h,bnd,dT V,dT h]
  · unfold slices_Index_int;have:=Vt a b a.length 0 V;rw[hJ]at this;have e:a.findIdx? (fun x=>decide<|b=x)=none:=by
      rw[List.findIdx?_eq_none_iff];intro x d;simp;intro e;subst e;exact h d
    rw[e]at this;rw[cc];have c:upto (rf a b) yF 0 a.length ()=ah (-1):=this;rw[c,bnd,dF V,dF h]
theorem Ru{ρ:Type}{K:Zi Int->Yw (Zi Int)}:∀(vs:Zi Val) (l:Zi Int),l.length+vs.length<=1000->each tQ K vs l=K (metL l vs)
  |[],l,_=>rfl
  |v::vs,l,hl=>by
    simp only[bl]at hl;rw[eQ,metL_cons];generalize c:each tQ K vs=K1;unfold tQ metV;simp only[xD,xC,contains_eq,bnd];by_cases b:v.kind=2
    · rw[dT b,ZS];by_cases a:v.n∈l
      · rw[dT a,cS,Z1,Z3 (fun h=>h.2 a),<-c];exact Ru (ρ:=ρ) vs l V
      · rw[dF a,eS,ZS,Z2 ⟨b,a⟩,jV (room_le (by simp;omega) zq1),<-c];exact Ru (ρ:=ρ) vs _ (by simp;omega)
    · rw[dF b,Z1,Z1,Z3 (fun h=>b h.1),<-c];exact Ru (ρ:=ρ) vs l V
theorem metbfs_loop{cells:Zi (Zi Val)}(b:zS cells):∀(m N k:Nat) (l:Zi Int) (w:Zi Val),zl cells.length l->cells.length<k+m->m<N->k<=l.length->again (lK cells) N (l,w,(k:Int))=ah (bfs cells m k l)
  |m,0,k,l,w,h,hm,hN,hk=>by omega
  |0,N+1,k,l,w,h,hm,hN,hk=>by have:=h.len;omega
  |m+1,N+1,k,l,w,h,hm,hN,hk=>by
    rw[wO];generalize e:again (lK cells) N=K;unfold lK Proofs.YteijalgmijkphaaGreatDoor.bfs;simp only;have hl:=h.len;have hn:=b.1;by_cases a:k<l.length
    · rw[dT V,ZS,dT V,ZS,DL a,bnd,dif_pos a];have c:=h.2 _<|en a;have d:=b.at c;rw[(Ll c).1,bnd];unfold tT;rw[Ru (ρ:=Unit) _ _ (by have:=d.1.2;omega)];unfold xE;rw[gI V V,<-e];have hp:=(Oj (cellAt cells l[k]) l).length_le;exact metbfs_loop b m N (k+1) _ _ (h.l d.2) V V V
    · rw[dF V,Z1,dif_neg a]
theorem met_eq{N:Nat}(d:100<=N){cells:Zi (Zi Val)}(a:zS cells){vs:Zi Val}(c:∀v∈vs,CF cells.length v)(hl:vs.length<=400):DF N cells vs=ah (Ph cells vs):=by
 unfold DF;obtain⟨M,rfl⟩:∃M,N=M+1:=⟨N-1,by omega⟩;rw[wO];generalize b:again (lK cells) M=K;unfold lK;simp only;rw[dT zq3,ZS,dF zq3,Z1];unfold tT;rw[Ru (ρ:=Unit) _ _ (by simp;omega)];unfold xE;rw[gI V V,<-b];exact metbfs_loop a 25 M 0 _ _ (zl.nil.l c) (by have:=a.1;omega) V V
def ren(l:Zi Int)(v:Val):Val:=if v.kind=2 then⟨v.kind,(l.idxOf v.n:Nat)⟩else v
def renF(l:Zi Int)(f:Yf):Yf:={f with regs:=f.regs.map (ren l)}
def roots(a:Zi Yf):Zi Val:=a.flatMap (·.regs)
def CR(s:Yq):Zi Int:=Ph s.cells (roots s.frames)
def sweepP(s:Yq):Yq:=⟨s.frames.map (renF (CR s)),(CR s).map (fun k=>(cellAt s.cells k).map (ren (CR s))),s.status,s.bF⟩
structure SwOk(s:Yq):Prop where
 small:Small s
 cells:zS s.cells
 vals:∀f∈s.frames,∀v∈f.regs,CF s.cells.length v
theorem StOk.sw{a:Zi bX}{s:Yq}(h:StOk a s)(ha:CodeOk a):SwOk s where
 small:=h.small ha
 cells:=h.cells
 vals f hf:=by obtain⟨x,g⟩:=Pg h.frames f hf;exact g.vals
theorem SwOk.roots{s:Yq}(h:SwOk s):∀v∈roots s.frames,CF s.cells.length v:=by
 intro v a;unfold YteijalgmijkphaaGreatDoor.roots at a;obtain⟨f,b,a⟩:=yd.1 a;exact h.vals f b v a
theorem roots_len(a:Zi Yf)(h:∀f∈a,f.regs.length<=40):(roots a).length<=40*a.length:=by
 induction a with
 |nil=>simp[roots]
 |cons f l ih=>
  have:=h f zq3;have:=ih fun g b=>h g<|bm _ b;unfold roots at*;rw[List.flatMap_cons,an,bl];omega
theorem SwOk.rlen{s:Yq}(h:SwOk s):(YteijalgmijkphaaGreatDoor.roots s.frames).length<=400:=by
 have:=roots_len s.frames h.small.regs;have:=h.small.frames;omega
theorem SwOk.reach{s:Yq}(h:SwOk s):zl s.cells.length (CR s)/\xe (YteijalgmijkphaaGreatDoor.roots s.frames) (CR s)/\∀x∈CR s,xe (cellAt s.cells x) (CR s):=reach_ok h.cells h.roots
theorem map_loop{α ρ:Type}{body:Int->Zi α->(Zi α->Yw ρ)->Yw ρ}{K:Zi α->Yw ρ}{g:α->α}{P:α->Prop}
  (e:∀(i:Nat) (x:Zi α) a nx,x[i]? =ah a->P a->body (i:Int) x nx=nx (x.set i (g a))):
  ∀(d c:Zi α),(∀a∈d,P a)->upto body K (c.length:Int) d.length (c++d)=K (c++d.map g)
 |[],c,_=>by simp[upto]
 |a::d,c,h=>by
  rw[bl,Sm,e c.length (c++a::d) a _ zq3 (h a zq3)];have:=map_loop (K:=K) e d (c++[g a]) fun b e=>h b<|bm _ e;rw[show(c++a::d).set c.length (g a)=(c++[g a])++d by simp,show((c.length:Int)+1)=((c++[g a]).length:Nat) by simp,this];simp
theorem Ol{α ρ:Type}{body:Int->Zi α->(Zi α->Yw ρ)->Yw ρ}{K:Zi α->Yw ρ}{g:α->α}{P:α->Prop}
  (b:∀(i:Nat) (x:Zi α) a nx,x[i]? =ah a->P a->body (i:Int) x nx=nx (x.set i (g a))) (l:Zi α) (hp:∀a∈l,P a):upto body K 0 l.length l=K (l.map g):=by
 have:=map_loop (K:=K) b l [] hp;simpa using this
def Places(l:Zi Int)(m:Zi (Int×Int)):Prop:=∀k,lk k m=if k∈l then ah ((l.idxOf k:Nat):Int)else aE
theorem turn_eq{l:Zi Int}{m:Zi (Int×Int)}(h:Places l m)(vs:Zi Val)(e:xe vs l):vmTurn vs m=ah (vs.map (ren l)):=by
  unfold vmTurn;rw[cc];refine Ol (P:=fun v=>v.kind=2->v.n∈l) (fun i x a nx c hp=>?_) vs fun v f=>e v f;unfold X0 RY;rw[nX,c,bnd];by_cases b:a.kind=2
  · rw[dT b,ZS,h a.n,Z2 (hp b)];simp[ren,b]
  · rw[dF b,Z1];have:x.set i a=x:=by
      obtain⟨d,rfl⟩:=tg.1 c;exact tY d
    simp[ren,b,this]
theorem place_loop{s:Yq}(j:zS s.cells){K:Zi (Zi Val)×Zi Int×Zi (Int×Int)->Yw Yq}:∀(b a:Zi Int) (m:Zi (Int×Int)),zl s.cells.length (a++b)->Places a m->
    ∃f,Places (a++b) f/\fG (Cf s) K (a.length:Int) b (a.map (cellAt s.cells),a,m)=K ((a++b).map (cellAt s.cells),a++b,f)
  |[],a,m,_,h=>⟨m,by simpa using h,by simp[fG]⟩
  |k::b,a,m,hm,h=>by
    have i:a++k::b=(a++[k])++b:=by simp
    have g:k∉a:=by
      intro g;exact(xr.1 hm.1).2.2 k g k zq3 Z
    have hl:=hm.len;have hn:=j.1;simp only[an,bl]at hl;have o:=hm.2 k zq3;rw[vG];obtain⟨f,n,l⟩:=place_loop j (K:=K) b (a++[k]) (CJ k (a.length:Int) m) (by rw[<-i];exact hm) (fun q=>by
      rw[Sn];by_cases e:q=k
      · subst e;rw[Z2 rfl,Z2 zq3,xt,Z3 g];simp
      · rw[Z3 e,h q];by_cases c:q∈a
        · rw[Z2 c,Z2 (by simp[c]),xt,Z2 c]
        · rw[Z3 c,Z3 (by simp[c,e])])
    refine⟨f,by rw[i];exact n,?_⟩;have d:(((a++[k]).length:Nat):Int)=(a.length:Int)+1:=by simp
    rw[d]at l;rw[i,<-l];generalize fG (Cf s) K ((a.length:Int)+1) b=K1;unfold Cf;simp only;rw[(Ll o).1,bnd,jV g,jV (room_le (by simp;omega) zq1),List.map_append];rfl
theorem frames_sweep{l:Zi Int}{m:Zi (Int×Int)}(h:Places l m)(K:Zi Yf->Yw Yq)(b:Zi Yf)(c:∀f∈b,xe f.regs l):upto (JI m) K 0 b.length b=K (b.map (renF l)):=
 Ol (P:=fun f=>xe f.regs l) (fun i x a nx d hp=>by
  unfold JI;rw[nX,d,bnd,turn_eq h a.regs hp,bnd];simp[renF]) b c
theorem cells_sweep{l:Zi Int}{m:Zi (Int×Int)}(h:Places l m)(K:Zi (Zi Val)->Yw Yq)(cs:Zi (Zi Val))(b:∀c∈cs,xe c l):upto (L6 m) K 0 cs.length cs=K (cs.map (fun c=>c.map (ren l))):=
 Ol (P:=fun c=>xe c l) (fun i x a nx d hp=>by
  unfold L6;rw[nX,d,bnd,turn_eq h a hp,bnd];simp) cs b
theorem root_loop{K:Zi Val->Yw Yq}:∀(b:Zi Yf) (a:Zi Val),a.length+(roots b).length<=1000->each Fh K b a=K (a++roots b)
 |[],a,_=>by simp[kW,roots]
 |f::b,a,h=>by
  have e:roots (f::b)=f.regs++roots b:=rfl;rw[e,an]at h;rw[eQ];have c:=root_loop (K:=K) b (a++f.regs) (by simp;omega);generalize each Fh K b=K1 at c⊢;unfold Fh;rw[jV (room_le V zq1),c,e,bf]
theorem roots_in{a:Zi Yf}{l:Zi Int}(h:xe (roots a) l):∀f∈a,xe f.regs l:=fun f c v b d=>h v (yd.2 ⟨f,c,b⟩) d
theorem sweep_eq{N:Nat}(i:100<=N){s:Yq}(h:SwOk s):Kw N s=ah (sweepP s):=by
 have b:=h.reach;unfold Kw;rw[root_loop s.frames [] (by have:=h.rlen;simp;omega),cf];unfold OV;rw[reach_eq i h.cells h.roots h.rlen,bnd,dF zq3,Z1,copy_eq h.small,bnd];have e:Ph s.cells (roots s.frames)=CR s:=rfl;simp only[e];obtain⟨l,a,j⟩:=place_loop h.cells (K:=Fg s) (CR s) [] [] (by simpa using b.1) (fun k=>by simp[lk]);have d:fG (Cf s) (Fg s) 0 (CR s) ([],([]:Zi Int),([]:Zi (Int×Int)))=_:=j;rw[d];simp only[cf]at a⊢;unfold Fg;simp only[cc];rw[frames_sweep a _ _ (roots_in b.2.1)];unfold OU;rw[cc,cells_sweep a _ _ (fun c f=>by
  obtain⟨k,g,rfl⟩:=List.mem_map.1 f;exact b.2.2 k g)]
 unfold OT sweepP;rw[List.map_map];rfl
theorem ren_ref{l:Zi Int}{v:Val}(h:v.kind=2->v.n∈l):xH v l=ah (ren l v):=by
  unfold xH uy ren;by_cases a:v.kind=2
  · rw[dT a,ZS,index_mem (h a),bnd,Z2 a]
  · rw[dF a,Z1,Z3 a]
theorem regs_ref{l:Zi Int}(K:Zi Val->Yw Yq)(vs:Zi Val)(c:xe vs l):upto (wM l) K 0 vs.length vs=K (vs.map (ren l)):=
 Ol (P:=fun v=>v.kind=2->v.n∈l) (fun i x a nx d hp=>by
  unfold wM;rw[nX,d,bnd,ren_ref hp,bnd];simp) vs (fun v b=>c v b)
theorem frames_ref{l:Zi Int}(K:Zi Yf->Yw Yq)(b:Zi Yf)(c:∀f∈b,xe f.regs l):upto (uV l) K 0 b.length b=K (b.map (renF l)):=
 Ol (P:=fun f=>xe f.regs l) (fun i x a nx d hp=>by
  unfold uV;rw[nX,d,bnd,cc,regs_ref _ _ hp];unfold Ar;simp[renF]) b c
theorem cell_ref{l:Zi Int}(K:Zi Val->Yw Yq):∀(vs a:Zi Val),xe vs l->a.length+vs.length<=1000->each (om l) K vs a=K (a++vs.map (ren l))
  |[],a,_,_=>by simp[kW]
  |v::vs,a,hr,hl=>by
    simp only[bl]at hl;rw[eQ];have c:=cell_ref K vs (a++[ren l v]) (fun w d=>hr w (bm _ d)) (by simp;omega);generalize each (om l) K vs=K1 at c⊢;have e:om l v a K1=K1 (a++[ren l v]):=by
      unfold om uT ren;by_cases b:v.kind=2
      · rw[dT b,ZS,index_mem (hr v zq3 b),bnd,Z2 b,jV (room_le (by simp;omega) zq1)]
      · rw[dF b,Z1,Z3 b,jV (room_le (by simp;omega) zq1)]
    rw[e,c];simp
theorem cells_ref{s:Yq}(b:zS s.cells){l:Zi Int}(hl:zl s.cells.length l)(e:∀x∈l,xe (cellAt s.cells x) l)(K:Zi (Zi Val)->Yw Yq):
  ∀(m i:Nat) (a:Zi (Zi Val)),i+m=l.length->a.length=i->upto (oo l s) K (i:Int) m a=K (a++(l.drop i).map (fun k=>(cellAt s.cells k).map (ren l)))
 |0,i,a,h,_=>by rw[show l.drop i=[]from cr V];simp[upto]
 |m+1,i,a,h,ha=>by
  rw[Sm];have hi:i<l.length:=by omega
  have d:=hl.2 _<|en hi;have c:=cells_ref b hl e K m (i+1) (a++[(cellAt s.cells l[i]).map (ren l)]) V (by simp;omega);rw[show(((i+1:Nat)):Int)=(i:Int)+1 by omega]at c;generalize upto (oo l s) K ((i:Int)+1) m=K1 at c⊢;unfold oo;have g:=(b.at d).1.2;have j:=hl.len;have f:=b.1;rw[DL hi,bnd,(Ll d).1,bnd,cell_ref _ _ _ (e _ (en hi)) (by simp;omega)];unfold zF;rw[cf,jV (room_le (by simp;omega) zq1),c,cF hi,ct];simp only[bf,eL,cf]
theorem root_ref{K:Zi Val->Yw Yq}:∀(b:Zi Yf) (a:Zi Val),a.length+(roots b).length<=1000->each qL K b a=K (a++roots b)
 |[],a,_=>by simp[kW,roots]
 |f::b,a,h=>by
  have e:roots (f::b)=f.regs++roots b:=rfl;rw[e,an]at h;rw[eQ];have c:=root_ref (K:=K) b (a++f.regs) (by simp;omega);generalize each qL K b=K1 at c⊢;unfold qL;rw[jV (room_le V zq1),c,e,bf]
theorem swept_eq{N:Nat}(b:100<=N){s:Yq}(h:SwOk s):xI N s=ah (sweepP s):=by
 have a:=h.reach;unfold xI;rw[root_ref s.frames [] (by have:=h.rlen;simp;omega),cf];unfold zH;rw[met_eq b h.cells h.roots h.rlen,bnd,own_eq h.small,bnd];have e:Ph s.cells (roots s.frames)=CR s:=rfl;rw[e,cc,frames_ref _ _ (roots_in a.2.1)];unfold zG;rw[cc];have:=cells_ref h.cells a.1 a.2.2 (uU (s.frames.map<|renF<|CR s) s) (CR s).length 0 [] V Z;have c:upto (oo (CR s) s) (uU (s.frames.map<|renF<|CR s) s) 0 (CR s).length []=_:=this;rw[c];rfl
def Rdr(α:Type):=Zi Int->Yw (α×Zi Int)
def BL{α:Type}(x:α):Rdr α:=fun l=>ah (x,l)
def iY{α β:Type}(R:Rdr α)(f:α->Rdr β):Rdr β:=fun l=>(R l).bind fun q=>f q.1 q.2
def JR:Rdr Int:=fun l=>match l with
 |[]=>aE
 |x::r=>ah (x,r)
def zm(m:Int):Rdr Nat:=fun l=>match l with
 |[]=>aE
 |x::r=>if 0<=x/\x<=m then ah (x.toNat,r)else aE
def mh{α:Type}(R:Rdr α):Nat->Rdr (Zi α)
 |0=>BL []
 |n+1=>iY R fun x=>iY (mh R n) fun l=>BL (x::l)
def rd_rVal:Rdr Val:=iY JR fun k=>iY JR fun n=>BL ⟨k,n⟩
def JS(m:Int):Rdr (Zi Val):=iY (zm m) fun n=>mh rd_rVal n
def Vu:Rdr Yf:=iY JR fun p=>iY JR fun a=>iY JR fun t=>iY (JS 40) fun r=>BL ⟨p,a,r,t⟩
def rd_rSt:Rdr Yq:=iY JR fun s=>iY JR fun w=>iY (zm 10) fun n=>iY (mh Vu n) fun f=>iY (zm 24) fun k=>iY (mh (JS 4) k) fun c=>BL ⟨f,c,s,w⟩
structure Rel{α:Type}(o:Option (α×List Int))(b:Bool)(x':α)(l':List Int)(b':Bool):Prop where
 stay:b=ba->b'=ba
 ok:b=ar->match o with
  |some (x,r)=>x'=x/\l'=r/\b'=ar
  |none=>b'=ba
theorem Rel.pure{α:Type}(x:α)(l:Zi Int)(b:Ys):Rel (BL x l) b x l b:=⟨id,fun h=>⟨rfl,rfl,h⟩⟩
theorem Rel.bind{α β:Type}{R:Rdr α}{f:α->Rdr β}{l k a:Zi Int}{b b' c:Ys}{j:α}{g:β}(i:Rel (R l) b j k b')(d:Rel (f j k) b' g a c):Rel (iY R f l) b g a c:=by
 refine⟨fun h=>d.stay<|i.stay h,fun h=>?_⟩;have:=i.ok h;unfold iY;cases e:R l with
 |none=>rw[e]at this;exact d.stay this
 |some q=>
  obtain⟨x,r⟩:=q;rw[e]at this;obtain⟨rfl,rfl,m⟩:=this;exact d.ok m
theorem Rel.marked{α:Type}{o:Yw (α×Zi Int)}{b:α}{a:Zi Int}:Rel o ba b a true:=⟨fun _=>rfl,fun h=>by cases h⟩
theorem IZ(l:Zi Int)(b:Ys):∃x c b',kZ ⟨l,b⟩=ah (x,⟨c,b'⟩)/\Rel (JR l) b x c b':=by
 unfold kZ;cases l with
 |nil=>exact⟨0,[],ba,rfl,fun _=>rfl,fun _=>rfl⟩
 |cons x l=>
  simp only;rw[dF (by simp;omega),Z1,show idx (x::l) 0=ah x from Rq x l,bnd,show sub? (x::l) 1 ((x::l).length:Int)=ah l by
   have:=sub_s (l:=x::l) (a:=1) (b:=(x::l).length) zq3<|cv _;rw[sk]at this;exact this,bnd]
  exact⟨x,l,b,Z,id,fun h=>⟨Z,Z,h⟩⟩
theorem Xl(m:Nat)(l:Zi Int)(b:Ys):∃(x:Nat) (a:Zi Int) (b':Ys),sH ⟨l,b⟩ m=ah ((x:Int),⟨a,b'⟩)/\x<=m/\Rel (zm m l) b x a b':=by
  unfold sH;obtain⟨x,a,b',h,e⟩:=IZ l b;rw[h,bnd];simp only;by_cases f:0<=x/\x<=(m:Int)
  · rw[dF V,dF V,Bool.or_self,Z1];refine⟨x.toNat,a,b',by rw[wg f.1],by omega,e.stay,fun d=>?_⟩;have:=e.ok d;cases l with
    |nil=>exact this
    |cons y l=>
      obtain⟨rfl,rfl,c⟩:=this;rw[show zm (m:Int) (x::a)=ah (x.toNat,a)from Z2 f];exact⟨Z,Z,c⟩
  · rw[show(ab (x<0)||ab ((m:Int)<x))=ba by
      rw[dr,decide_eq_true_eq,decide_eq_true_eq];omega,ZS]
    refine⟨0,a,ba,Z,by omega,fun _=>rfl,fun d=>?_⟩;have:=e.ok d;cases l with
    |nil=>rfl
    |cons y l=>
      obtain⟨rfl,rfl,c⟩:=this;rw[show zm (m:Int) (x::a)=aE from Z3 f]
theorem TD(n:Nat)(hn:n<=100):∀(m M i:Nat) (a:Zi Val) (l:Zi Int) (b:Ys),i+m=n->a.length=i->m<M->
    ∃vs d b',again (mr n) M (a,(i:Int),l,b)=ah (a++vs,⟨d,b'⟩)/\vs.length=m/\Rel (mh rd_rVal m l) b vs d b'
  |m,0,i,a,l,b,_,_,hM=>by omega
  |0,M+1,i,a,l,b,hi,_,_=>by
    rw[wO];unfold mr;simp only;rw[dF V,Z1];exact⟨[],l,b,by simp,Z,Rel.pure [] l b⟩
  |m+1,M+1,i,a,l,b,hi,ha,hM=>by
    rw[wO];have c:=TD n hn m M<|i+1;generalize again (mr n) M=K at c⊢;unfold mr;simp only;rw[dT V,ZS];obtain⟨x,f,r,j,q⟩:=IZ l b;rw[j,bnd];simp only;obtain⟨y,t,k,e,u⟩:=IZ f r;rw[e,bnd];simp only;rw[jV (room_le (by simp;omega) zq1),gI V V];obtain⟨vs,s,o,g,hl,p⟩:=c (a++[⟨x,y⟩]) t k V (by simp;omega) V;refine⟨⟨x,y⟩::vs,s,o,?_,by simp[hl],?_⟩
    · rw[show((i:Int)+1)=((i+1:Nat):Int) by omega,g];simp
    · exact Rel.bind (Rel.bind q<|Rel.bind u<|Rel.pure _ _ _)<|Rel.bind p<|Rel.pure _ _ _
theorem values_rel{N n:Nat}(hn:n<=100)(d:200<=N)(l:Zi Int)(b:Ys):∃vs a b',vM N ⟨l,b⟩ n=ah (vs,⟨a,b'⟩)/\vs.length=n/\Rel (mh rd_rVal n l) b vs a b':=by
 unfold vM;obtain⟨vs,a,b',e,hl,c⟩:=TD n hn n N 0 [] l b V Z V;exact⟨vs,a,b',by simpa using e,hl,c⟩
def none0:Yq:=⟨[],[],0,0⟩
def endP(a:Zi bX)(s:Yq):Yq×Int:=
 if Xz a≠0 then(none0,Xz a)else if ckS a s≠0 then(none0,ckS a s)else if sweepP s=s then(s,0)else(none0,4)
def qZ(a:Zi bX)(l:Zi Int):Yq×Int:=
 if 1200<l.length then(none0,2)else match rd_rSt l with
  |some (s,[])=>endP a s
  |_=>(none0,8)
theorem un_end(a:Zi bX)(s:Yq){N:Nat}(f:100<=N):((Io a s).bind fun b=>bif ab ((b:Int)≠0)then ah (none0,b)else(Kw N s).bind fun x=>(R3 x s).bind fun y=>bif (!y)then ah (none0,4)else ah (s,0))=ah (endP a s):=by
  rw[vm_Check_eq,bnd];unfold endP;by_cases d:Xz a=0
  · rw[Z3 V,Z3 V];by_cases e:ckS a s=0
    · have g:=chk_code d;rw[dF V,Z1,sweep_eq f ((ckS_ok.1 e).sw g),bnd,eqState,bnd,Z3 V];by_cases c:sweepP s=s
      · rw[dT c,Z2 c];rfl
      · rw[dF c,Z3 c];rfl
    · rw[dT e,ZS,Z2 e]
  · rw[Z2 d,dT d,ZS,Z2 d]
theorem cells_rel{N:Nat}(j:200<=N)(g:Int×qy)(a:Zi bX)(d:Zi Yf)(e f:Int×qy)(n:Nat)(C:g.1=n)(hn:n<=24):
    ∀(m M i:Nat) (c:Zi (Zi Val)) (l:Zi Int) (b:Ys),i+m=n->c.length=i->m<M->
    ∃cs k b',again (vP N g a d e f) M ((i:Int),l,b,c)=(bif (b'||ab ((0:Int)<(k.length:Int)))then ah (none0,8)else ah (endP a ⟨d,c++cs,e.1,f.1⟩))/\Rel (mh (JS 4) m l) b cs k b'
  |m,0,i,c,l,b,_,_,hM=>by omega
  |0,M+1,i,c,l,b,hi,_,_=>by
    rw[wO];unfold vP;simp only;rw[dF V,Z1];refine⟨[],l,b,?_,Rel.pure [] l b⟩;rw[ca,<-un_end a ⟨d,c,e.1,f.1⟩ (N:=N) V];rfl
  |m+1,M+1,i,c,l,b,hi,ha,hM=>by
    rw[wO];have o:=cells_rel j g a d e f n C hn m M<|i+1;generalize again (vP N g a d e f) M=K at o⊢;unfold vP;simp only;rw[dT V,ZS];obtain⟨x,z,u,p,E,t⟩:=Xl 4 l b;rw[show((4:Nat):Int)=4 from rfl]at p;rw[p,bnd];simp only;obtain⟨vs,w,s,q,F,y⟩:=values_rel (N:=N) (n:=x) V j z u;rw[q,bnd];simp only;rw[jV (room_le (by simp;omega) zq1)];unfold Kz;rw[gI V V];obtain⟨cs,v,A,r,B⟩:=o (c++[vs]) w s V (by simp;omega) V;refine⟨vs::cs,v,A,?_,?_⟩
    · rw[show((i:Int)+1)=((i+1:Nat):Int) by omega,r];simp
    · exact Rel.bind (Rel.bind t y)<|Rel.bind B<|Rel.pure _ _ _
theorem times_bind{α β:Type}{R:Rdr α}{m:Nat}{G:Zi α->Rdr β}{l:Zi Int}:iY (mh R (m+1)) G l=iY R (fun x=>iY (mh R m) fun a=>G (x::a)) l:=by
 show((iY R (fun x=>iY (mh R m) fun l=>BL<|x::l) l).bind _)=_;unfold iY;cases R l with
 |none=>rfl
 |some q=>
  rw[fb,fb];simp only;cases mh R m q.2 with
  |none=>rfl
  |some q2=>rfl
theorem frames_rel{N:Nat}(v:200<=N)(e:Int×qy)(a:Zi bX)(g j:Int×qy)(n:Nat)(hy:e.1=n)(hn:n<=10):
    ∀(m M i:Nat) (d:Zi Yf) (l:Zi Int) (b:Ys),i+m=n->d.length=i->m<M->
    ∃(s:Yq) (L:Zi Int) (b':Ys),again (uD N e a g j) M ((i:Int),l,b,d)=(bif (b'||ab ((0:Int)<(L.length:Int)))then ah (none0,8)else ah (endP a s))/\
      Rel (iY (mh Vu m) (fun f=>iY (zm 24) fun k=>iY (mh (JS 4) k) fun c=>BL (⟨d++f,c,g.1,j.1⟩:Yq)) l) b s L b'
  |m,0,i,d,l,b,_,_,hM=>by omega
  |0,M+1,i,d,l,b,hi,_,_=>by
    rw[wO];unfold uD;simp only;rw[dF V,Z1];obtain⟨x,r,o,u,O,B⟩:=Xl 24 l b;rw[show((24:Nat):Int)=24 from rfl]at u;rw[u,bnd];simp only;obtain⟨cs,w,A,z,C⟩:=cells_rel v ((x:Int),⟨r,o⟩) a d g j x Z O x N 0 [] r o V Z V;refine⟨⟨d++[],[]++cs,g.1,j.1⟩,w,A,?_,?_⟩
    · rw[ca];exact z
    · exact Rel.bind (Rel.pure [] l b)<|Rel.bind B<|Rel.bind C<|Rel.pure _ _ _
  |m+1,M+1,i,d,l,b,hi,ha,hM=>by
    rw[wO];have G:=frames_rel v e a g j n hy hn m M<|i+1;generalize again (uD N e a g j) M=K at G⊢;unfold uD;simp only;rw[dT V,ZS];obtain⟨p,r,o,u,B⟩:=IZ l b;rw[u,bnd];simp only;obtain⟨q,w,A,z,C⟩:=IZ r o;rw[z,bnd];simp only;obtain⟨t,l3,b3,Q,T⟩:=IZ w A;rw[Q,bnd];simp only;obtain⟨x,R,b4,I,O,r4⟩:=Xl 40 l3 b3;rw[show((40:Nat):Int)=40 from rfl]at I;rw[I,bnd];simp only;obtain⟨vs,P,F,e5,hv,r5⟩:=values_rel (N:=N) (n:=x) V v R b4;rw[e5,bnd];simp only;rw[jV (room_le (by simp;omega) zq1),gI V V];obtain⟨s,X,b6,e6,E⟩:=G (d++[⟨p,q,vs,t⟩]) P F V (by simp;omega) V;refine⟨s,X,b6,?_,?_⟩
    · rw[show((i:Int)+1)=((i+1:Nat):Int) by omega,e6]
    · have y:Rel (Vu l) b ⟨p,q,vs,t⟩ P F:=Rel.bind B<|Rel.bind C<|Rel.bind T<|Rel.bind (Rel.bind r4 r5)<|Rel.pure _ _ _;simp only[bf,eL,cf]at E;rw[times_bind];exact Rel.bind (f:=fun x=>iY (mh Vu m) fun S=>iY (zm 24) fun k=>iY (mh (JS 4) k) fun c=>BL (⟨d++x::S,c,g.1,j.1⟩:Yq)) y E
theorem end_rel{a:Zi bX}{l b:Zi Int}{b':Ys}{s:Yq}{y:Yw (Yq×Int)}(hl:¬1200<l.length)(c:Rel (rd_rSt l) ar s b b')(h:y=(bif (b'||ab ((0:Int)<(b.length:Int)))then ah (none0,8)else ah (endP a s))):y=ah (qZ a l):=by
 rw[h];unfold qZ;rw[Z3 hl];have:=c.ok Z;cases e:rd_rSt l with
 |none=>rw[e]at this;simp only at this;subst this;rfl
 |some q=>
  obtain⟨d,r⟩:=q;rw[e]at this;obtain⟨rfl,rfl,rfl⟩:=this;cases b with
  |nil=>rfl
  |cons x b=>rw[qu,dT zq3,ZS]
theorem Rv(a:Zi bX)(l:Zi Int){N:Nat}(m:200<=N):Bl N a l=ah (qZ a l):=by
  unfold Bl;by_cases hl:1200<l.length
  · rw[dT V,ZS];unfold qZ;rw[Z2 hl];rfl
  · rw[dF V,Z1];obtain⟨v,g,d,t,p⟩:=IZ l ar;rw[t,bnd];simp only;obtain⟨n,f,c,j,q⟩:=IZ g d;rw[j,bnd];simp only;obtain⟨x,e,i,b,o,u⟩:=Xl 10 f c;rw[show((10:Nat):Int)=10 from rfl]at b;rw[b,bnd];simp only;obtain⟨s,w,y,r,k⟩:=frames_rel m ((x:Int),⟨e,i⟩) a (v,⟨g,d⟩) (n,⟨f,c⟩) x Z o x N 0 [] e i V Z V;exact end_rel hl (Rel.bind p<|Rel.bind q<|Rel.bind u k) r
section
variable{I:Zi Int}(hI:I.length<=1200)
include hI
theorem nextR(p:Nat)(t:Ys)(hp:p<=I.length):∃(x:Int) (a:Nat) (c:Ys),D9 ⟨(p:Int),t⟩ I (-1)=ah (x,⟨(a:Int),c⟩)/\a<=I.length/\Rel (JR (I.drop p)) t x (I.drop a) c:=by
  unfold D9;simp only;by_cases h:I.length<=p
  · rw[dT V,ZS];refine⟨0,p,ba,Z,hp,fun _=>rfl,fun _=>?_⟩;rw[cr h];rfl
  · have b:p<I.length:=by omega
    rw[dF V,Z1,DL b,bnd,gI V V,dF V,eT,Z1];refine⟨I[p],p+1,t,by push_cast;rfl,by omega,id,fun d=>?_⟩;rw[cF b];exact⟨Z,Z,d⟩
theorem manyR(m:Nat)(p:Nat)(t:Ys)(hp:p<=I.length):∃(x:Nat) (c:Nat) (e:Ys),D9 ⟨(p:Int),t⟩ I m=ah ((x:Int),⟨(c:Int),e⟩)/\x<=m/\c<=I.length/\Rel (zm m (I.drop p)) t x (I.drop c) e:=by
  unfold D9;simp only;by_cases h:I.length<=p
  · rw[dT V,ZS];refine⟨0,p,ba,Z,by omega,hp,fun _=>rfl,fun _=>?_⟩;rw[cr h];rfl
  · have d:p<I.length:=by omega
    rw[dF V,Z1,DL d,bnd,gI V V,dT V,iv,<-inL];have b:=cF d;generalize g:I[p]=x at b;by_cases a:0<=x/\x<=(m:Int)
    · rw[dT a.1,dT a.2];refine⟨x.toNat,p+1,t,?_,by omega,by omega,id,fun f=>?_⟩
      · simp only[jF,cS,Z1];rw[wg a.1];push_cast;rfl
      · rw[b,show zm (m:Int) (x::I.drop (p+1))=ah (x.toNat,I.drop (p+1))from Z2 a];exact⟨Z,Z,f⟩
    · rw[show(!(ab ((0:Int)<=x)&&ab (x<=(m:Int))))=ba by
        rw[er,cw,decide_eq_false_iff_not,decide_eq_false_iff_not];omega,ZS]
      refine⟨0,p+1,ba,by push_cast;rfl,by omega,by omega,fun _=>rfl,fun _=>?_⟩;rw[b,show zm (m:Int) (x::I.drop (p+1))=aE from Z3 a]
theorem valsR_loop:∀(m M:Nat) (a:Zi Val) (p:Nat) (t:Ys),m<M->a.length+m<=100->p<=I.length->
    ∃(vs:Zi Val) (c:Nat) (g:Ys),again (Ey I) M (a,(m:Int),(p:Int),t)=ah (a++vs,⟨(c:Int),g⟩)/\c<=I.length/\Rel (mh rd_rVal m (I.drop p)) t vs (I.drop c) g
  |m,0,a,p,t,hM,_,_=>by omega
  |m,M+1,a,p,ba,hM,hl,hp=>by
    rw[wO];unfold Ey;simp only[cS,kO,Z1];exact⟨[],p,ba,by simp,hp,Rel.marked⟩
  |0,M+1,a,p,ar,hM,hl,hp=>by
    rw[wO];unfold Ey;simp only;rw[dF V,eT,Z1];exact⟨[],p,ar,by simp,hp,Rel.pure [] _ _⟩
  |m+1,M+1,a,p,ar,hM,hl,hp=>by
    rw[wO];have f:=valsR_loop m M;generalize again (Ey I) M=K at f⊢;unfold Ey;simp only;rw[dT V,eS,jF,ZS];obtain⟨x,u,v,r,b,l⟩:=nextR hI p ar hp;rw[r,bnd];simp only;obtain⟨y,o,n,i,d,q⟩:=nextR hI u v b;rw[i,bnd];simp only;rw[jV (room_le (by simp;omega) zq1),gI V V];obtain⟨vs,w,k,j,e,s⟩:=f (a++[⟨x,y⟩]) o n V (by simp;omega) d;refine⟨⟨x,y⟩::vs,w,k,?_,e,?_⟩
    · rw[show(((m+1:Nat):Int)-1)=(m:Int) by omega,j];simp
    · exact Rel.bind (Rel.bind l<|Rel.bind q<|Rel.pure _ _ _)<|Rel.bind s<|Rel.pure _ _ _
theorem rowR{N:Nat}(o:200<=N)(m:Nat)(r:m<=100)(p:Nat)(t:Ys)(hp:p<=I.length):∃(vs:Zi Val) (b:Nat) (d:Ys),unVals N ⟨(p:Int),t⟩ I m=ah (vs,⟨(b:Int),d⟩)/\b<=I.length/\Rel (JS m (I.drop p)) t vs (I.drop b) d:=by
 unfold unVals;obtain⟨x,l,n,k,q,a,f⟩:=manyR hI m p t hp;rw[k,bnd];simp only;obtain⟨vs,i,g,e,c,j⟩:=valsR_loop hI x N [] l n V (by simp;omega) a;exact⟨vs,i,g,by simpa using e,c,Rel.bind f j⟩
omit hI in
theorem un_endR{a:Zi bX}(f:Xz a=0)(s:Yq){N:Nat}(e:100<=N):((lT a s).bind fun b=>bif ab ((b:Int)≠0)then ah (none0,b)else(xI N s).bind fun x=>(rW x s).bind fun y=>bif (!y)then ah (none0,4)else ah (s,0))=ah (endP a s):=by
  rw[ckS_eq2,bnd];unfold endP;rw[Z3 V];by_cases d:ckS a s=0
  · have g:=chk_code f;rw[dF V,Z1,swept_eq e ((ckS_ok.1 d).sw g),bnd,eqState2,bnd,Z3 V];by_cases c:sweepP s=s
    · rw[dT c,Z2 c];rfl
    · rw[dF c,Z3 c];rfl
  · rw[dT d,ZS,Z2 d]
theorem cellsR{a:Zi bX}(k:Xz a=0){N:Nat}(j:200<=N)(c:Zi Yf)(d e:Int×fT):
    ∀(m M:Nat) (b:Zi (Zi Val)) (p:Nat) (t:Ys),m<M->b.length+m<=100->p<=I.length->
    ∃(cs:Zi (Zi Val)) (g:Nat) (o:Ys),again (jU N I a c d e) M ((m:Int),(p:Int),t,b)=(bif (o||ab ((0:Int)<((I.drop g).length:Int)))then ah (none0,8)else ah (endP a ⟨c,b++cs,d.1,e.1⟩))/\g<=I.length/\Rel (mh (JS 4) m (I.drop p)) t cs (I.drop g) o
  |m,0,b,p,t,hM,_,_=>by omega
  |m,M+1,b,p,ba,hM,hl,hp=>by
    rw[wO];unfold jU;simp only[cS,kO,Z1];exact⟨[],p,ba,by simp[none0],hp,Rel.marked⟩
  |0,M+1,b,p,ar,hM,hl,hp=>by
    rw[wO];unfold jU;simp only;rw[dF V,eT,Z1];refine⟨[],p,ar,?_,hp,Rel.pure [] _ _⟩;rw[ca,<-un_endR k ⟨c,b,d.1,e.1⟩ (N:=N) V,show ab ((0:Int)<((I.drop p).length:Int))=ab ((p:Int)<(I.length:Int)) by
      rw[List.length_drop];by_cases h:p<I.length
      · rw[dT V,dT V]
      · rw[dF V,dF V]]
    rfl
  |m+1,M+1,b,p,ar,hM,hl,hp=>by
    rw[wO];have l:=cellsR k j c d e m M;generalize again (jU N I a c d e) M=K at l⊢;unfold jU;simp only;rw[dT V,eS,jF,ZS];obtain⟨vs,v,w,n,f,s⟩:=rowR hI j 4 V p ar hp;rw[show((4:Nat):Int)=4 from rfl]at n;rw[n,bnd];simp only;rw[jV (room_le (by simp;omega) zq1)];unfold yX;rw[gI V V];obtain⟨cs,x,r,q,i,u⟩:=l (b++[vs]) v w V (by simp;omega) f;refine⟨vs::cs,x,r,?_,i,?_⟩
    · rw[show(((m+1:Nat):Int)-1)=(m:Int) by omega,q];simp
    · exact Rel.bind s<|Rel.bind u<|Rel.pure _ _ _
theorem framesR{a:Zi bX}(z:Xz a=0){N:Nat}(u:200<=N)(e g:Int×fT):
    ∀(m M:Nat) (b:Zi Yf) (p:Nat) (t:Ys),m<M->b.length+m<=100->p<=I.length->
    ∃(s:Yq) (L:Nat) (T:Ys),again (jE N I a e g) M ((m:Int),(p:Int),t,b)=(bif (T||ab ((0:Int)<((I.drop L).length:Int)))then ah (none0,8)else ah (endP a s))/\
      Rel (iY (mh Vu m) (fun f=>iY (zm 24) fun k=>iY (mh (JS 4) k) fun c=>BL (⟨b++f,c,e.1,g.1⟩:Yq)) (I.drop p)) t s (I.drop L) T
  |m,0,b,p,t,hM,_,_=>by omega
  |m,M+1,b,p,ba,hM,hl,hp=>by
    rw[wO];unfold jE;simp only[cS,kO,Z1];obtain⟨x,r,w,i,hx,d,n⟩:=manyR hI 24 p ba hp;rw[show((24:Nat):Int)=24 from rfl]at i;rw[i,bnd];simp only;have B:=n.stay Z;subst B;obtain⟨cs,o,v,l,j,q⟩:=cellsR hI z u b e g x N [] r ba V (by simp;omega) d;have y:=q.stay Z;subst y;exact⟨⟨b,[]++cs,e.1,g.1⟩,o,ba,l,Rel.marked⟩
  |0,M+1,b,p,ar,hM,hl,hp=>by
    rw[wO];unfold jE;simp only;rw[dF V,eT,Z1];obtain⟨x,r,w,i,hx,d,n⟩:=manyR hI 24 p ar hp;rw[show((24:Nat):Int)=24 from rfl]at i;rw[i,bnd];simp only;obtain⟨cs,o,v,l,j,q⟩:=cellsR hI z u b e g x N [] r w V (by simp;omega) d;refine⟨⟨b++[],[]++cs,e.1,g.1⟩,o,v,?_,?_⟩
    · rw[ca];exact l
    · exact Rel.bind (Rel.pure [] _ _)<|Rel.bind n<|Rel.bind q<|Rel.pure _ _ _
  |m+1,M+1,b,p,ar,hM,hl,hp=>by
    rw[wO];have Q:=framesR z u e g m M;generalize again (jE N I a e g) M=K at Q⊢;unfold jE;simp only;rw[dT V,eS,jF,ZS];obtain⟨P,r,w,i,d,n⟩:=nextR hI p ar hp;rw[i,bnd];simp only;obtain⟨R,o,v,l,j,q⟩:=nextR hI r w d;rw[l,bnd];simp only;obtain⟨F,p3,t3,e3,C,r3⟩:=nextR hI o v j;rw[e3,bnd];simp only;obtain⟨vs,p5,S,O,E,r5⟩:=rowR hI u 40 V p3 t3 C;rw[show((40:Nat):Int)=40 from rfl]at O;rw[O,bnd];simp only;rw[jV (room_le (by simp;omega) zq1),gI V V];obtain⟨s,X,t6,e6,G⟩:=Q (b++[⟨P,R,vs,F⟩]) p5 S V (by simp;omega) E;refine⟨s,X,t6,?_,?_⟩
    · rw[show(((m+1:Nat):Int)-1)=(m:Int) by omega,e6]
    · have A:Rel (Vu<|I.drop p) ar ⟨P,R,vs,F⟩ (I.drop p5) S:=Rel.bind n<|Rel.bind q<|Rel.bind r3<|Rel.bind r5<|Rel.pure _ _ _;simp only[bf,eL,cf]at G;rw[times_bind];exact Rel.bind (f:=fun x=>iY (mh Vu m) fun fs=>iY (zm 24) fun k=>iY (mh (JS 4) k) fun c=>BL (⟨b++x::fs,c,e.1,g.1⟩:Yq)) A G
end
theorem unpacked_eq{a:Zi bX}(t:Xz a=0)(l:Zi Int){N:Nat}(q:200<=N):tV N a l=ah (qZ a l):=by
  unfold tV;by_cases hl:1200<l.length
  · rw[dT V,ZS];unfold qZ;rw[Z2 hl];rfl
  · have hI:l.length<=1200:=by omega
    rw[dF V,Z1];obtain⟨w,j,k,f,b,g⟩:=nextR hI 0 ar V;rw[show((0:Nat):Int)=0 from rfl]at f;rw[f,bnd];simp only;obtain⟨r,m,i,n,c,z⟩:=nextR hI j k b;rw[n,bnd];simp only;obtain⟨x,y,u,e,A,d,v⟩:=manyR hI 10 m i c;rw[show((10:Nat):Int)=10 from rfl]at e;rw[e,bnd];simp only;obtain⟨s,C,B,o,p⟩:=framesR hI t q (w,⟨(j:Int),k⟩) (r,⟨(m:Int),i⟩) x N [] y u V (by simp;omega) d;rw[hJ]at g;exact end_rel hl (Rel.bind g<|Rel.bind z<|Rel.bind v p) o
namespace Dk
open Go Go.Proofs Go.LX
theorem eqInt(a b:Zi Int):slices_Equal_int a b=ah (ab (a=b)):=by
  unfold slices_Equal_int;by_cases h:a.length=b.length
  · rw[dF V];simp only[Z1,cc];rw[MM (fun x y=>ab (x=y)) a b h rfl (fun i x y nx c d=>by
      unfold yC;rw[nX,nX,c,d];by_cases e:x=y<;>simp[e]),JA (fun _ _=>rfl)]
  · rw[dT V];have:a≠b:=fun e=>h (by rw[e]);rw[dF this];rfl
theorem rec_eq(r:Rec):iC r=fu r:=by
  unfold iC fu lN fF cu fJ;have d:(((!(aH r.co 0 2))||(!(aH r.ax 0 100)))||(!(aH r.place 0 2)))=(((((ab ((r.co:Int)<0)||ab ((3:Int)<=r.co))||ab ((r.ax:Int)<0))||ab ((100:Int)<r.ax))||ab ((r.place:Int)<0))||ab ((3:Int)<=r.place)):=by
    unfold aH;rw[dm];simp;omega
  rw[d];generalize (((((ab ((r.co:Int)<0)||ab ((3:Int)<=r.co))||ab ((r.ax:Int)<0))||ab ((100:Int)<r.ax))||ab ((r.place:Int)<0))||ab ((3:Int)<=r.place))=C1;generalize (ab ((40:Int)<(r.says.length:Int))||ab ((1200:Int)<(r.image.length:Int)))=C2;generalize ab ((r.place:Int)≠0)=p0;generalize ab ((0:Int)<(r.says.length:Int))=s1;generalize ab ((0:Int)<(r.image.length:Int))=i1;generalize ab ((r.ax:Int)=0)=e0;have e:∀l:Str,(hasB l 73=ba\/hasB l 73=ar):=fun l=>by cases hasB l 73<;>simp
  by_cases k1:r.kind=1
  · rw[k1,show hasB ((lk (1:Int) ([(1,[73]),(2,[83,73]),(3,[80]),(4,[73]),(5,[])]:Zi (Int×Str))).getD []) 80=ar by decide,show hasB ((lk (1:Int) ([(1,[73]),(2,[83,73]),(3,[80]),(4,[73]),(5,[])]:Zi (Int×Str))).getD []) 83=ar by decide,show hasB ((lk (1:Int) ([(1,[73]),(2,[83,73]),(3,[80]),(4,[73]),(5,[])]:Zi (Int×Str))).getD []) 73=ba by decide];cases C1<;>cases C2<;>cases p0<;>cases s1<;>cases i1<;>cases e0<;>rfl
  by_cases k2:r.kind=2
  · rw[k2,show hasB ((lk (2:Int) ([(1,[73]),(2,[83,73]),(3,[80]),(4,[73]),(5,[])]:Zi (Int×Str))).getD []) 80=ar by decide,show hasB ((lk (2:Int) ([(1,[73]),(2,[83,73]),(3,[80]),(4,[73]),(5,[])]:Zi (Int×Str))).getD []) 83=ba by decide,show hasB ((lk (2:Int) ([(1,[73]),(2,[83,73]),(3,[80]),(4,[73]),(5,[])]:Zi (Int×Str))).getD []) 73=ba by decide];cases C1<;>cases C2<;>cases p0<;>cases s1<;>cases i1<;>cases e0<;>rfl
  by_cases c:r.kind=3
  · rw[c,show hasB ((lk (3:Int) ([(1,[73]),(2,[83,73]),(3,[80]),(4,[73]),(5,[])]:Zi (Int×Str))).getD []) 80=ba by decide,show hasB ((lk (3:Int) ([(1,[73]),(2,[83,73]),(3,[80]),(4,[73]),(5,[])]:Zi (Int×Str))).getD []) 83=ar by decide,show hasB ((lk (3:Int) ([(1,[73]),(2,[83,73]),(3,[80]),(4,[73]),(5,[])]:Zi (Int×Str))).getD []) 73=ar by decide];cases C1<;>cases C2<;>cases p0<;>cases s1<;>cases i1<;>cases e0<;>rfl
  by_cases b:r.kind=4
  · rw[b,show hasB ((lk (4:Int) ([(1,[73]),(2,[83,73]),(3,[80]),(4,[73]),(5,[])]:Zi (Int×Str))).getD []) 80=ar by decide,show hasB ((lk (4:Int) ([(1,[73]),(2,[83,73]),(3,[80]),(4,[73]),(5,[])]:Zi (Int×Str))).getD []) 83=ar by decide,show hasB ((lk (4:Int) ([(1,[73]),(2,[83,73]),(3,[80]),(4,[73]),(5,[])]:Zi (Int×Str))).getD []) 73=ba by decide];cases C1<;>cases C2<;>cases p0<;>cases s1<;>cases i1<;>cases e0<;>rfl
  by_cases a:r.kind=5
  · rw[a,show hasB ((lk (5:Int) ([(1,[73]),(2,[83,73]),(3,[80]),(4,[73]),(5,[])]:Zi (Int×Str))).getD []) 80=ar by decide,show hasB ((lk (5:Int) ([(1,[73]),(2,[83,73]),(3,[80]),(4,[73]),(5,[])]:Zi (Int×Str))).getD []) 83=ar by decide,show hasB ((lk (5:Int) ([(1,[73]),(2,[83,73]),(3,[80]),(4,[73]),(5,[])]:Zi (Int×Str))).getD []) 73=ar by decide];cases C1<;>cases C2<;>cases p0<;>cases s1<;>cases i1<;>cases e0<;>rfl
  rw[show lk r.kind ([(1,[73]),(2,[83,73]),(3,[80]),(4,[73]),(5,[])]:Zi (Int×Str))=aE by simp[lk,k1,k2,c,b,a]];rw[show(ab ((r.kind:Int)<1)||ab ((5:Int)<r.kind))=ba by simp;omega];rfl
structure GoodR(r:Rec):Prop where
 kind:1<=r.kind/\r.kind<=5
 co:0<=r.co/\r.co<=2
 ax:1<=r.ax/\r.ax<=100
 place:0<=r.place/\r.place<=2
 says:r.says.length<=40
 image:r.image.length<=1200
 has:(r.kind=1\/r.kind=2\/r.kind=4)->1<=r.image.length
theorem goodR(r:Rec)(h:fu r=0):GoodR r:=by
 rw[<-rec_eq]at h;unfold iC at h;have hn:0<=(r.image.length:Int):=by omega
 generalize hA:(ab ((r.kind:Int)<1)||ab ((5:Int)<r.kind))=A at h;cases A with
 |true=>simp only[ZS]at h;exact Zs h zq1
 |false=>
 simp only[Z1]at h;generalize hB:(((((ab ((r.co:Int)<0)||ab ((3:Int)<=r.co))||ab ((r.ax:Int)<0))||ab ((100:Int)<r.ax))||ab ((r.place:Int)<0))||ab ((3:Int)<=r.place))=B at h;cases B with
 |true=>simp only[ZS]at h;exact Zs h zq1
 |false=>
 simp only[Z1]at h;generalize d:(ab ((40:Int)<(r.says.length:Int))||ab ((1200:Int)<(r.image.length:Int)))=C at h;cases C with
 |true=>simp only[ZS]at h;exact Zs h zq1
 |false=>
 simp only[Z1]at h;generalize b:((((ab ((r.kind:Int)≠3)&&ab ((r.place:Int)≠0))||(ab ((r.kind:Int)≠2)&&ab ((0:Int)<(r.says.length:Int))))||(((ab ((r.kind:Int)=1)||ab ((r.kind:Int)=2))||ab ((r.kind:Int)=4)) !=ab ((0:Int)<(r.image.length:Int))))||ab ((r.ax:Int)=0))=D at h;cases D with
 |true=>simp only[ZS]at h;exact Zs h zq1
 |false=>
 simp only[dp,decide_eq_false_iff_not,bne_eq_false_iff_eq]at hA hB d b;obtain⟨⟨⟨_,_⟩,a⟩,f⟩:=b;refine⟨by omega,by omega,by omega,by omega,by omega,by omega,fun e=>?_⟩;have:((ab ((r.kind:Int)=1)||ab ((r.kind:Int)=2))||ab ((r.kind:Int)=4))=true:=by
  simp;omega
 rw[this]at a;have c:ab ((0:Int)<(r.image.length:Int))=true:=by
  cases hq:ab ((0:Int)<(r.image.length:Int))with
  |true=>rfl
  |false=>rw[hq]at a;cases a
 have:=P9 c;omega
def RecW(r:Rec):Prop:=iZ r.kind/\iZ r.co/\iZ r.ax/\iZ r.place/\(∀x∈r.says,iZ x)/\(∀x∈r.image,iZ x)
def nl(r:Rec):Zi Int:=[r.kind,r.co,r.ax,r.place,(r.says.length:Int)]++r.says++r.image
def zR:Rec:=⟨0,0,0,0,[],[]⟩
def Lm(l:Zi Int)(n:Nat):Rec:=⟨l.getD 0 0,l.getD 1 0,l.getD 2 0,l.getD 3 0,(l.take (5+n)).drop 5,l.drop (5+n)⟩
def Lp(l:Zi Int):Rec×Int:=
 if l.length<5 then(zR,1)else if l.getD 4 0<0\/(l.length:Int)-5<l.getD 4 0 then(zR,1)else
 if iC (Lm l (l.getD 4 0).toNat)=0 then(Lm l (l.getD 4 0).toNat,0)else(zR,iC (Lm l (l.getD 4 0).toNat))
def ow(s:Str):Rec×Int:=match PZ 32 s with|none=>(zR,1)|some l=>Lp l
def Xm(s:Str):Rec×Int:=if(60000:Int)<(s.length:Int)then(zR,2)else ow s
theorem nl_len(r:Rec):(nl r).length=5+r.says.length+r.image.length:=by simp[nl];omega
theorem nl_ok{r:Rec}(g:GoodR r)(w:RecW r):∀x∈nl r,iZ x:=by
  obtain⟨f,e,c,d,i,b⟩:=w;have hs:=g.says;intro x a;simp only[nl,db,bp,List.not_mem_nil,or_false]at a;rcases a with((rfl|rfl|rfl|rfl|rfl)|a)|a
  · exact f
  · exact e
  · exact c
  · exact d
  · exact iZ.mk V V
  · exact i x a
  · exact b x a
theorem nl_ne(r:Rec):nl r≠[]:=by simp[nl]
theorem Xn:∀(w:Zi Str) (a:Zi Int),(∀x∈w,x.length<=60000)->a.length+w.length<=1000000->
    each uo uq w a=ah (match w.mapM numOf with|some v=>(a++v,ba)|none=>([],ar))
  |[],a,_,_=>by simp[kW,uq]
  |x::w,a,h,hl=>by
    have g:=h x zq3;simp only[bl]at hl;have c:=fun y=>Xn w (a++[y]) (fun z f=>h z (bm _ f)) (by simp;omega);rw[eQ,uo,parseS_eq V,bnd,pH];cases e:Lib.atoiAll x with
    |ok v=>
      have d:iZ v:=xv e;simp only[Z1];rw[itoaS_eq d,bnd,um];by_cases b:fi v=x
      · rw[dF (by simpa using b),Z1,jV ⟨by simp;omega,by simp;omega⟩,c];have:numOf x=ah v:=by simp[numOf,e,b]
        rw[this];cases e2:w.mapM numOf with
        |none=>rfl
        |some m=>simp
      · rw[dT b,ZS];have:numOf x=none:=by simp[numOf,e,b]
        rw[this];rfl
    |range=>
      have:numOf x=none:=by simp[numOf,e]
      rw[this];rfl
    |_=>
      have:numOf x=none:=by simp[numOf,e]
      rw[this];rfl
theorem numbers_eq(s:Str)(h:s.length<=60000):yD s=ah (match PZ 32 s with|some v=>(v,ba)|none=>([],ar)):=by
 unfold yD PZ;have b:=DT 32 s;rw[splitS_eq 32 V,bnd,Xn _ [] (fun x a=>by have:=AZ 32 s x a;omega) (by simp;omega)];simp<;>rfl
theorem parse_each:∀(w:Zi Str) (a:Zi Int),(∀x∈w,x.length<=60000)->a.length+w.length<=1000000->
    each BZ vE w a=match w.mapM numOf with|some v=>vE (a++v)|none=>ah (zR,1)
  |[],a,_,_=>by simp[kW]
  |x::w,a,h,hl=>by
    have g:=h x zq3;simp only[bl]at hl;have c:=fun y=>parse_each w (a++[y]) (fun z f=>h z (bm _ f)) (by simp;omega);rw[eQ,BZ,atoiS_eq V,bnd,pH];cases e:Lib.atoiAll x with
    |ok v=>
      have d:iZ v:=xv e;simp only[Z1];rw[itoaS_eq d,bnd,BX];by_cases b:fi v=x
      · rw[dF (by simpa using b),Z1,jV ⟨by simp;omega,by simp;omega⟩,c];have:numOf x=ah v:=by simp[numOf,e,b]
        rw[this];cases e2:w.mapM numOf with
        |none=>rfl
        |some m=>simp
      · rw[dT b,ZS];have:numOf x=none:=by simp[numOf,e,b]
        rw[this];rfl
    |range=>
      have:numOf x=none:=by simp[numOf,e]
      rw[this];rfl
    |_=>
      have:numOf x=none:=by simp[numOf,e]
      rw[this];rfl
theorem five{l:Zi Int}(h:¬l.length<5):∃a b c d n r,l=a::b::c::d::n::r:=by
 match l,h with
 |a::b::c::d::n::r,_=>exact⟨a,b,c,d,n,r,rfl⟩
 |[],h=>simp at h
 |[a],h=>simp at h
 |[a,b],h=>simp at h
 |[a,b,c],h=>simp at h
 |[a,b,c,d],h=>simp at h
theorem parse_k31(l:Zi Int)(hl:l.length<=1000000)(hI:∀x∈l,iZ x):vE l=ah (Lp l):=by
  unfold vE Lp;by_cases i:l.length<5
  · rw[dT V,Z2 i];rfl
  · rw[dF V,Z3 i,Z1];obtain⟨a,b,c,d,n,r,rfl⟩:=five i;have hn:iZ n:=hI n zq3;have o:idx (a::b::c::d::n::r) 4=ah n:=rfl;rw[o,bnd];have k:(a::b::c::d::n::r).getD 4 0=n:=rfl;rw[k];by_cases f:n<0
    · rw[dT f,Z2 (.inl f)];rfl
    · rw[dF f,Z1];simp only[bl]at hl⊢;rw[gI];by_cases e:((r.length+1+1+1+1+1:Nat):Int)-5<n
      · rw[dT e,Z2 (.inr e)];rfl
      · rw[dF e,Z3 V];unfold yO;obtain⟨m,rfl⟩:=cC (show 0<=n by omega);rw[Z1,show idx (a::b::c::d::(m:Int)::r) 0=ah a from rfl,bnd,show idx (a::b::c::d::(m:Int)::r) 1=ah b from rfl,bnd,show idx (a::b::c::d::(m:Int)::r) 2=ah c from rfl,bnd,show idx (a::b::c::d::(m:Int)::r) 3=ah d from rfl,bnd,show idx (a::b::c::d::(m:Int)::r) 4=ah (m:Int)from rfl,bnd,gI];rw[show(5+(m:Int))=((5+m:Nat):Int) by omega,show(5:Int)=((5:Nat):Int)from rfl,sub_s V (by simp;omega),bnd,gI,sub_s (by simp;omega) (cv _),bnd,Ow (by simp;omega) (by simp;omega),bnd,Ow (by simp;omega) (by simp;omega),bnd];have j:((a::b::c::d::(m:Int)::r).take (a::b::c::d::(m:Int)::r).length).drop (5+m)=(a::b::c::d::(m:Int)::r).drop (5+m):=by rw[sk]
        rw[j];unfold GD;show(bif ab ((iC (Lm (a::b::c::d::(m:Int)::r) m):Int)≠0)then ah (zR,iC<|Lm (a::b::c::d::(m:Int)::r) m)else ah (Lm (a::b::c::d::(m:Int)::r) m,0))=_;rw[cc];by_cases g:iC (Lm (a::b::c::d::(m:Int)::r) m)=0
        · rw[dF V,Z2 g];rfl
        · rw[dT g,Z3 g];rfl
theorem parse_eq(s:Str):JE s=ah (Xm s):=by
  unfold JE Xm;by_cases h:(60000:Int)<(s.length:Int)
  · rw[dT h,Z2 h];rfl
  · rw[dF h,Z3 h,Z1];have c:=DT 32 s;rw[splitS_eq 32 V,bnd,parse_each _ [] (fun x b=>by have:=AZ 32 s x b;omega) (by simp;omega)];unfold ow;cases e:PZ 32 s with
    |none=>unfold PZ at e;rw[e]
    |some l=>
      have:=Hz (show(kg 32 s).mapM numOf=ah l from e);unfold PZ at e;rw[e];have hl:l.length<=1000000:=by
        have a:=ZD fp this.1;rw[eF]at a;omega
      simp only[cf];exact parse_k31 l hl this.2
theorem read_eq(s:Str)(h:s.length<=60000):yE s=ah (ow s):=by
  unfold yE;rw[numbers_eq s h,bnd];unfold ow;cases e:PZ 32 s with
  |none=>rfl
  |some l=>
    have this:=Hz (show(kg 32 s).mapM numOf=ah l from e);have o:=DT 32 s;have hl:l.length<=1000000:=by
      have k:=ZD fp this.1;rw[eF]at k;omega
    simp only[cS,qu];unfold Lp;by_cases g:l.length<5
    · rw[dT V,Z2 g];rfl
    · rw[dF V,Z3 g,Z1];obtain⟨a,b,c,d,n,r,rfl⟩:=five g;have hn:iZ n:=this.2 n zq3;rw[show idx (a::b::c::d::n::r) 4=ah n from rfl,bnd,show(a::b::c::d::n::r).getD 4 0=n from rfl];simp only[bl]at hl⊢;rw[gI];by_cases i:n<0\/((r.length+1+1+1+1+1:Nat):Int)-5<n
      · rw[Z2 i,show(!(aH n 0 (((r.length+1+1+1+1+1:Nat):Int)-5)))=ba by unfold aH;simp;omega];rfl
      · rw[Z3 i,show(!(aH n 0 (((r.length+1+1+1+1+1:Nat):Int)-5)))=ar by unfold aH;simp;omega];unfold uR;obtain⟨m,rfl⟩:=cC (show 0<=n by omega);rw[Z1,show idx (a::b::c::d::(m:Int)::r) 4=ah (m:Int)from rfl,bnd,gI,show idx (a::b::c::d::(m:Int)::r) 0=ah a from rfl,bnd,show idx (a::b::c::d::(m:Int)::r) 1=ah b from rfl,bnd,show idx (a::b::c::d::(m:Int)::r) 2=ah c from rfl,bnd,show idx (a::b::c::d::(m:Int)::r) 3=ah d from rfl,bnd];rw[show(5+(m:Int))=((5+m:Nat):Int) by omega,show(5:Int)=((5:Nat):Int)from rfl,sub_s V (by simp;omega),bnd,sub_s (by simp;omega) (cv _),bnd];have j:((a::b::c::d::(m:Int)::r).take (a::b::c::d::(m:Int)::r).length).drop (5+m)=(a::b::c::d::(m:Int)::r).drop (5+m):=by rw[sk]
        rw[j,<-rec_eq];show(bif ab ((iC (Lm (a::b::c::d::(m:Int)::r) m):Int)≠0)then ah (zR,iC<|Lm (a::b::c::d::(m:Int)::r) m)else ah (Lm (a::b::c::d::(m:Int)::r) m,0))=_;rw[cc];by_cases f:iC (Lm (a::b::c::d::(m:Int)::r) m)=0
        · rw[dF V,Z2 f];rfl
        · rw[dT f,Z3 f];rfl
theorem mkRec_nl(r:Rec):Lm (nl r) r.says.length=r:=by
 obtain⟨k,c,e,p,s,i⟩:=r;unfold Lm nl;have a:((([k,c,e,p,(s.length:Int)]++s++i).take (5+s.length)).drop 5)=s:=by
  rw[bf,show 5+s.length=([k,c,e,p,(s.length:Int)]).length+s.length from rfl,List.take_length_add_append,List.take_left];rfl
 have b:([k,c,e,p,(s.length:Int)]++s++i).drop (5+s.length)=i:=by
  rw[show 5+s.length=([k,c,e,p,(s.length:Int)]++s).length by simp;omega,List.drop_left]
 simp only[a,b];rfl
theorem fromNums_nl{r:Rec}(h:iC r=0):Lp (nl r)=(r,0):=by
 have hl:=nl_len r;unfold Lp;rw[Z3 V,show(nl r).getD 4 0=(r.says.length:Int)from rfl,Z3 V,cc,mkRec_nl,Z2 h]
theorem read_print{r:Rec}(h:iC r=0)(w:RecW r):ow (Ee 32 ((nl r).map fi))=(r,0):=by
 unfold ow;rw[nums_join zq1 (nl_ne r) (nl_ok (goodR r (by rw[<-rec_eq];exact h)) w)];exact fromNums_nl h
theorem nl_mk{l:Zi Int}{n:Nat}(hl:5+n<=l.length)(i:l.getD 4 0=n):nl (Lm l n)=l:=by
 obtain⟨a,b,c,d,m,r,rfl⟩:=five (l:=l) V;have f:m=n:=i;subst f;simp only[bl]at hl;have e:((a::b::c::d::(n:Int)::r).take (5+n)).drop 5=r.take n:=by
  rw[show 5+n=n+1+1+1+1+1 by omega];rfl
 have g:(a::b::c::d::(n:Int)::r).drop (5+n)=r.drop n:=by
  rw[show 5+n=n+1+1+1+1+1 by omega];rfl
 show [a,b,c,d,((((a::b::c::d::(n:Int)::r).take (5+n)).drop 5).length:Int)]++((a::b::c::d::(n:Int)::r).take (5+n)).drop 5++(a::b::c::d::(n:Int)::r).drop (5+n)=_;rw[e,g,List.length_take,show min n r.length=n by omega,bf,List.take_append_drop];rfl
theorem read_ok{s:Str}{r:Rec}(h:ow s=(r,0)):iC r=0/\RecW r/\s=Ee 32 ((nl r).map fi):=by
  unfold ow at h;cases e:PZ 32 s with
  |none=>rw[e]at h;cases h
  |some l=>
    rw[e]at h;obtain⟨j,g,o⟩:=join_nums e;simp only at h;unfold Lp at h;split at h
    · cases h
    · rename_i p;split at h
      · cases h
      · rename_i i;split at h
        · rename_i c;obtain⟨m,f⟩:=cC (show 0<=l.getD 4 0 by omega);rw[f]at h c i;simp only[cc]at h c;have k:Lm l m=r:=by injection h
          have b:=nl_mk (l:=l) (n:=m) V f;rw[k]at b c;refine⟨c,?_,by rw[b];exact j⟩;have a:∀x∈nl r,iZ x:=by rw[b];exact g
          refine⟨a _ (by simp[nl]),a _ (by simp[nl]),a _ (by simp[nl]),a _ (by simp[nl]),fun x d=>a x (by simp[nl,d]),fun x d=>a x (by simp[nl,d])⟩
        · rename_i c;exact Zs (ZD Prod.snd h) c
def r0:Rec:=⟨2,1,2,0,[7,-8],[1]⟩
def Vv(most:Int):Zi Str->Zi Rec->Int->Zi Rec×Int×Int
 |[],l,n=>(l,n,0)
 |[x],l,n=>if x=[]then(l,n,0)else(l,n,8)
 |x::y::r,l,n=>if(ow x).2≠0 then(l,n,(ow x).2)else if most<=(l.length:Int)then(l,n,2)else Vv most (y::r) (l++[(ow x).1]) (n+(x.length:Int)+1)
def ln(most:Int)(s:Str):Zi Rec×Int×Int:=Vv most (kg 10 s) [] 0
theorem lnP_cons{most:Int}{x:Str}{q:Zi Str}{l:Zi Rec}{n:Int}(a:q≠[]):Vv most (x::q) l n=if(ow x).2≠0 then(l,n,(ow x).2)else if most<=(l.length:Int)then(l,n,2)else Vv most q (l++[(ow x).1]) (n+(x.length:Int)+1):=by
 cases q with
 |nil=>exact Zs Z a
 |cons y r=>rfl
theorem joinC_len2(c:UInt8)(x y:Str)(l:Zi Str):(Ee c (x::y::l)).length=x.length+1+(Ee c (y::l)).length:=by
 rw[DR,an,bl];omega
theorem lnP_len(most:Int):∀(p:Zi Str) (l:Zi Rec) (n:Int),0<=n->n<=(Vv most p l n).2.1/\(Vv most p l n).2.1<=n+(Ee 10 p).length/\(Vv most p l n).1.length+0<=l.length+p.length/\l.length<=(Vv most p l n).1.length/\((l.length:Int)<=most->((Vv most p l n).1.length:Int)<=most)
  |[],l,n,hn=>by simp[Vv];omega
  |[x],l,n,hn=>by
    unfold Vv;split<;>simp<;>omega
  |x::y::r,l,n,hn=>by
    have b:=joinC_len2 10 x y r;unfold Vv;split
    · simp;omega
    · split
      · simp;omega
      · have a:=lnP_len most (y::r) (l++[(ow x).1]) (n+(x.length:Int)+1) V;simp only[an,bl,cJ]at a⊢;omega
theorem lines_loop(a:Str)(b:Int)(n:a.length<=60000):∀(p:Zi Str) (s:Str) (l:Zi Rec) (N:Nat),kg 10 s=p->s.length<=a.length->p.length<=N->l.length+p.length<=60001->(l.length:Int)<=b->
    again (CY a b) N (s,l)=ah (Vv b p l ((a.length:Int)-(s.length:Int))):=by
  intro p;induction p with
  |nil=>intro s l N hp;exact Zs hp (Ed 10 s)
  |cons x q ih=>
    intro s l N hp hs g hl m;cases N with
    |zero=>simp at g
    |succ N=>
    rw[again,CY];cases q with
    |nil=>
      obtain⟨rfl,c⟩:=splitC_single hp;by_cases d:s=[]
      · subst d;rw[dF zq3,Z1];simp[Vv]
      · rw[dT d,ZS,cutS_free c V,bnd];simp only[eS,ZS];rw[gI];simp[Vv,d]
    |cons y r=>
      obtain⟨t,rfl,k,c⟩:=splitC_cons hp;have i:(x++10::t).length=x.length+1+t.length:=by simp;omega
      rw[dT zq3,ZS,cutS_hit c V,bnd];simp only[cS,Z1];have e:Xm x=ow x:=by unfold Xm;rw[Z3 V]
      rw[parse_eq,bnd,e,lnP_cons zq3];by_cases f:(ow x).2=0
      · rw[dF V,Z1,Z3 V];by_cases j:(l.length:Int)=b
        · rw[dT j,ZS,gI,Z2 V]
        · rw[dF j,Z1,Z3 V];simp only[bl]at g hl;rw[jV ⟨by simp;omega,by simp;omega⟩,ih t (l++[(ow x).1]) N k V (by simp;omega) (by simp;omega) (by simp;omega)];congr 2;omega
      · rw[dT f,ZS,gI,Z2 f]
theorem lines_eq(N:Nat)(a:Str)(b:Int)(e:60002<=N)(d:a.length<=60000)(c:0<=b):GH N a b=ah (ln b a):=by
 unfold GH ln;have f:=DT 10 a;rw[lines_loop a b d (kg 10 a) a [] N rfl (cv _) V (by simp;omega) (by simpa using c)];congr 2;omega
theorem Xo(b:Int):∀(p:Zi Str) (l:Zi Rec) (n:Int),(∀x∈p,x.length<=60000/\(10:UInt8)∉x)->p≠[]->l.length+p.length<=60001->0<=n->n+(Ee 10 p).length<=60000->
    each (pW b) yT (addC 10 p) (l,n)=ah (Vv b p l n)
  |[],l,n,_,h,_,_,_=>Zs Z h
  |[x],l,n,hx,_,hl,h0,hn=>by
    have g:=hx x zq3;rw[addC,eQ,pW];by_cases h:x=[]
    · rw[dT h,ZS];simp[Vv,h,uS]
    · rw[dF h,Z1,hasSuf_free g.2 V,bnd];simp[Vv,h]
  |x::y::r,l,n,hx,_,hl,h0,hn=>by
    have g:=hx x zq3;have j:=joinC_len2 10 x y r;simp only[bl]at hl;rw[addC,eQ,pW];rw[dF zq3,Z1,hasSuf_app x (by simp;omega),bnd];simp only[cS,Z1];have a:(((x++[(10:UInt8)]).length:Nat):Int)=(x.length:Int)+1:=by simp
    rw[a,gI];have c:subs? (x++[(10:UInt8)]) 0 ((x.length:Int)+1-1)=ah x:=by
      unfold subs?;rw[jV ⟨by omega,by omega,by rw[a];omega⟩];have e:((x.length:Int)+1-1).toNat=x.length:=by omega
      simp[cut,e]
    rw[c,bnd,read_eq x g.1,bnd,lnP_cons zq3];by_cases f:(ow x).2=0
    · rw[dT f,Z3 V,iv];by_cases d:b<=(l.length:Int)
      · rw[dT d,ZS,Z2 d];simp[ng]
      · rw[dF d,Z1,Z3 d,ng,dF V,Z1,jV ⟨by simp;omega,by simp;omega⟩,a,gI,
          Xo b (y::r) (l++[(ow x).1]) (n+((x.length:Int)+1)) (fun z i=>hx z (bm _ i)) zq3 (by simp;omega) V V]
        rw[Int.add_assoc]
    · rw[dF f,eT,Z1,Z2 f,ng,dT f,ZS]
theorem Pj(a:Str)(b:Int)(e:a.length<=60000):mo a b=ah (ln b a):=by
 unfold mo ln;have d:=DT 10 a;rw[splitAfterS_eq 10 V,bnd,Xo b (kg 10 a) [] 0 (fun x c=>by have:=AZ 10 a x c;exact⟨by omega,this.2⟩) (Ed 10 a) (by simp;omega) V (by rw[AY];omega)]
theorem bcat5:∀(l:Zi Str) (a:Str),a.length+(l.map fp).sum<=1000000->each wH wI l a=ah (a++l.flatten)
 |[],a,_=>by simp[kW,wI]
 |x::l,a,h=>by
  simp only[ct,qv]at h;rw[eQ,wH,jV ⟨by omega,by omega⟩,bcat5 l (a++x) (by rw[an];omega)];simp
theorem bcat7(a:Zi Str):∀(l:Zi Str) (n:Nat),n+(l.map fp).sum<=1000000->each wJ (rR a) l (n:Int)=rR a ((n+(l.map fp).sum:Nat):Int)
 |[],n,_=>by simp[kW]
 |x::l,n,h=>by
  simp only[ct,qv]at h⊢;rw[eQ,wJ,gI,dF V,Z1,show((n:Int)+(x.length:Int))=((n+x.length:Nat):Int) by omega,bcat7 a l (n+x.length) V,lR]
theorem bcat(a b:Str)(h:a.length+b.length<=1000000):sG [a,b]=ah (a++b):=by
 unfold sG;have:=bcat7 [a,b] [a,b] 0 (by simp;omega);rw[show((0:Nat):Int)=0 from rfl]at this;rw[this];unfold rR;rw[show MN 1 ((0+([a,b].map fp).sum:Nat):Int)=ah ([]:Str) by unfold MN;rw[jV ⟨by omega,by simp;omega⟩],bnd,bcat5 [a,b] [] (by simp;omega)];simp
theorem rcat5:∀(l:Zi (Zi Rec)) (a:Zi Rec),a.length+(l.map fp).sum<=1000000->each xz xA l a=ah (a++l.flatten)
 |[],a,_=>by simp[kW,xA]
 |x::l,a,h=>by
  simp only[ct,qv]at h;rw[eQ,xz,jV ⟨by omega,by omega⟩,rcat5 l (a++x) (by rw[an];omega)];simp
theorem rcat7(a:Zi (Zi Rec)):∀(l:Zi (Zi Rec)) (n:Nat),n+(l.map fp).sum<=1000000->each xB (tL a) l (n:Int)=tL a ((n+(l.map fp).sum:Nat):Int)
 |[],n,_=>by simp[kW]
 |x::l,n,h=>by
  simp only[ct,qv]at h⊢;rw[eQ,xB,gI,dF V,Z1,show((n:Int)+(x.length:Int))=((n+x.length:Nat):Int) by omega,rcat7 a l (n+x.length) V,lR]
theorem rcat(a b:Zi Rec)(h:a.length+b.length<=1000000):AO [a,b]=ah (a++b):=by
 unfold AO;have:=rcat7 [a,b] [a,b] 0 (by simp;omega);rw[show((0:Nat):Int)=0 from rfl]at this;rw[this];unfold tL;rw[show MN 80 ((0+([a,b].map fp).sum:Nat):Int)=ah ([]:Zi Rec) by unfold MN;rw[jV ⟨by omega,by simp;omega⟩],bnd,rcat5 [a,b] [] (by simp;omega)];simp
def zD:jr:=⟨[],[]⟩
def oz(d:jr):Int:=if 60000<d.safe.length\/60000<d.safe.length+d.wait.length then 2 else(ln 120 d.safe).2.2
theorem Xi(N:Nat)(a:60002<=N)(d:jr)(c:d.wait.length<=9223372036854775807):xZ N d=ah (oz d):=by
  unfold xZ oz;by_cases h:60000<d.safe.length
  · rw[dT V,ZS,Z2 (.inl h)];rfl
  · rw[dF V,Z1,gI];by_cases b:60000<d.safe.length+d.wait.length
    · rw[dT V,Z2 (.inr b)];rfl
    · rw[dF V,Z3 V];unfold H5;rw[Z1,lines_eq N d.safe 120 a V V,bnd]
theorem check_eq2(d:jr)(b:d.wait.length<=9223372036854775807):rV d=ah (oz d):=by
  unfold rV oz;by_cases h:60000<d.safe.length
  · rw[dT V,ZS,Z2 (.inl h)];rfl
  · rw[dF V,Z1,gI];by_cases a:60000<d.safe.length+d.wait.length
    · rw[dT V,Z2 (.inr a)];rfl
    · rw[dF V,Z3 V];unfold sW;rw[Z1,Pj d.safe 120 V,bnd]
theorem Dm{d:jr}(h:oz d=0):d.safe.length+d.wait.length<=60000/\(ln 120 d.safe).2.2=0:=by
  unfold oz at h;split at h
  · cases h
  · exact⟨by omega,h⟩
def recT(d:jr):jr×Zi Rec:=
 (⟨d.safe++d.wait.take (ln (120-((ln 120 d.safe).1.length:Int)) d.wait).2.1.toNat,[]⟩,(ln 120 d.safe).1++(ln (120-((ln 120 d.safe).1.length:Int)) d.wait).1)
def Xp(d:jr):jr×Zi Rec×Int:=if oz d≠0 then(zD,[],oz d)else((recT d).1,(recT d).2,0)
theorem ln_len(most:Int)(s:Str):0<=(ln most s).2.1/\(ln most s).2.1<=s.length/\(ln most s).1.length<=s.length+1/\(0<=most->((ln most s).1.length:Int)<=most):=by
 have h:=lnP_len most (kg 10 s) [] 0<|Int.le_refl 0;have a:=DT 10 s;rw[AY]at h;unfold ln;simp only[cJ]at h;omega
theorem recover_eq(N:Nat)(a:60002<=N)(d:jr)(b:d.wait.length<=9223372036854775807):qE N d=ah (Xp d):=by
  unfold qE Xp recT;rw[Xi N a d b,bnd];by_cases h:oz d=0
  · obtain⟨c,_⟩:=Dm h;have k1:=ln_len 120 d.safe;rw[dF V,Z1,Z3 V,lines_eq N d.safe 120 a V V,bnd,gI,lines_eq N d.wait _ a V V,bnd];have k2:=ln_len (120-((ln 120 d.safe).1.length:Int)) d.wait;generalize ln (120-((ln 120 d.safe).1.length:Int)) d.wait=y at*;obtain⟨e,g,f⟩:=y;simp only at k2⊢;obtain⟨m,rfl⟩:=cC k2.1;rw[show(0:Int)=((0:Nat):Int)from rfl,sub_s V V,bnd,hJ,bcat _ _ (by simp;omega),bnd,jV ⟨by omega,by omega⟩,cc]
  · rw[dT h,ZS,Z2 h];rfl
theorem Xq(d:jr)(h:oz d=0):mD d=ah (recT d):=by
 obtain⟨a,_⟩:=Dm h;unfold mD recT;have k1:=ln_len 120 d.safe;rw[Pj d.safe 120 V,bnd,gI,Pj d.wait _ V,bnd];have k2:=ln_len (120-((ln 120 d.safe).1.length:Int)) d.wait;generalize ln (120-((ln 120 d.safe).1.length:Int)) d.wait=y at*;obtain⟨b,e,c⟩:=y;simp only at k2⊢;obtain⟨m,rfl⟩:=cC k2.1;rw[show(0:Int)=((0:Nat):Int)from rfl,sub_s V V,bnd,hJ,bcat _ _ (by simp;omega),bnd,rcat _ _ V,bnd,cc]
def Vw(r:Rec):Str:=Ee 32 ((nl r).map fi)
def TE(l:Zi Rec):Prop:=∀r∈l,iC r=0/\RecW r
def txt:Zi Rec->Str
 |[]=>[]
 |r::l=>Vw r++10::txt l
theorem txt_app:∀(a b:Zi Rec),txt (a++b)=txt a++txt b
 |[],b=>rfl
 |r::a,b=>by simp[txt,txt_app a b]
theorem mem_joinC(c:UInt8):∀(l:Zi Str) (x:UInt8),x∈Ee c l->x=c\/∃w∈l,x∈w
  |[],x,h=>by simp[Ee,Lib.join_nil]at h
  |[y],x,h=>by rw[Gy]at h;exact .inr ⟨y,by simp,h⟩
  |y::z::l,x,h=>by
    rw[DR]at h;rcases db.1 h with h|h
    · exact .inr ⟨y,by simp,h⟩
    · rcases bp.1 h with h|h
      · exact .inl h
      · rcases mem_joinC c (z::l) x h with h|⟨w,hw,h⟩
        · exact .inl h
        · exact .inr ⟨w,bm _ hw,h⟩
theorem line_free(r:Rec):(10:UInt8)∉Vw r:=by
  intro h;rcases mem_joinC 32 _ _ h with h|⟨w,hw,h⟩
  · exact Zs h zq1
  · obtain⟨n,_,rfl⟩:=List.mem_map.1 hw;exact itoa_free zq1 h
theorem split_txt:∀(l:Zi Rec) (t:Str),kg 10 (txt l++t)=l.map Vw++kg 10 t
 |[],t=>rfl
 |r::l,t=>by
  rw[txt,bf,eL,AX (line_free r),split_txt l t];rfl
theorem lnP_txt(most:Int):∀(a:Zi Rec) (q:Zi Str) (l:Zi Rec) (n:Int),TE a->q≠[]->((l.length+a.length:Nat):Int)<=most->Vv most (a.map Vw++q) l n=Vv most q (l++a) (n+((txt a).length:Int))
 |[],q,l,n,_,_,_=>by simp[txt]
 |r::a,q,l,n,h,hq,hl=>by
  obtain⟨b,e⟩:=h r zq3;simp only[bl]at hl;have c:ow (Vw r)=(r,0):=read_print b e;rw[ct,eL,lnP_cons (by simp[hq]),c,Z3 zq3,Z3 V,lnP_txt most a q (l++[r]) _ (fun x d=>h x (bm _ d)) hq (by simp;omega)];simp only[txt,an,bl,bf,eL,cf];congr 1;omega
theorem ln_txt{most:Int}{a:Zi Rec}(t:Str)(h:TE a)(hl:(a.length:Int)<=most):ln most (txt a++t)=Vv most (kg 10 t) a ((txt a).length:Int):=by
 unfold ln;rw[split_txt,lnP_txt most a _ [] 0 h (Ed 10 t) (by simpa using hl)];simp
theorem ln_all{most:Int}{a:Zi Rec}(h:TE a)(hl:(a.length:Int)<=most):ln most (txt a)=(a,((txt a).length:Int),0):=by
 have:=ln_txt (most:=most) [] h hl;rw[ca]at this;rw[this];simp[kg,Vv]
theorem check_txt{a:Zi Rec}{w:Str}(h:TE a)(hl:a.length<=120)(b:(txt a).length+w.length<=60000):oz ⟨txt a,w⟩=0:=by
 unfold oz;show(if 60000<(txt a).length\/60000<(txt a).length+w.length then(2:Int)else(ln 120<|txt a).2.2)=0;rw[Z3 V,ln_all h V]
theorem Rw:TE []:=fun r h=>by cases h
theorem coSame(a b:Zi Co):OH a b=ah (ab (a=b)):=by
  unfold OH;by_cases h:a.length=b.length
  · rw[dF V];simp only[Z1];rw[TK (fun x y=>ab (x=y)) a b h rfl (fun i x y nx c=>by
      unfold Kt E8;rw[nX,c];simp only[bnd,eqInt];have e:(((ab (x.jL=y.jL)&&ab (x.ax=y.ax))&&ab (x.offered=y.offered))&&ab (x.image=y.image))=ab (x=y):=by
        cases x;cases y;rw[dm];simp;exact⟨fun⟨⟨⟨f,c⟩,d⟩,g⟩=>⟨f,c,g,d⟩,fun⟨f,c,g,d⟩=>⟨⟨⟨f,c⟩,d⟩,g⟩⟩
      rw[<-e];cases ((ab (x.jL=y.jL)&&ab (x.ax=y.ax))&&ab (x.offered=y.offered))<;>cases ab (x.image=y.image)<;>rfl),JA (fun _ _=>rfl)]
  · rw[dT V];have:a≠b:=fun e=>h (by rw[e]);rw[dF this];rfl
def coOk(x:Co):Prop:=0<=x.jL/\x.jL<=2/\1<=x.ax/\x.ax<=100/\ -1<=x.offered/\x.offered<=2/\1<=x.image.length/\x.image.length<=1200
def rg(x:Co):Ys:=(((((ab ((x.jL:Int)<0)||ab ((3:Int)<=x.jL))||ab ((x.ax:Int)<1))||ab ((100:Int)<x.ax))||ab ((x.offered:Int)< -1))||ab ((3:Int)<=x.offered))
def mn(x:Co):Ys:=(ab (((x.image.length:Int):Int)=0)||ab ((1200:Int)<(x.image.length:Int)))
theorem rg_eq(x:Co):(((!(aH x.jL 0 2))||(!(aH x.ax 1 100)))||(!(aH x.offered (-1) 2)))=rg x:=by
 unfold aH rg;rw[dm];simp;omega
theorem mn_eq(x:Co):(!(aH (x.image.length:Int) 1 1200))=mn x:=by
 have hn:0<=(x.image.length:Int):=by omega
 unfold aH mn;generalize (x.image.length:Int)=n at hn⊢;rw[dm];simp;omega
theorem coOk_iff(x:Co):coOk x↔rg x=ar/\mn x=false:=by
 have hn:0<=(x.image.length:Int):=by omega
 unfold coOk rg mn;rw[show(1<=x.image.length)=(1<=(x.image.length:Int)) by simp;omega,show(x.image.length<=1200)=((x.image.length:Int)<=1200) by simp;omega];generalize (x.image.length:Int)=n at hn⊢;simp;omega
theorem chkEq(a:Zi Co):LZ a=ah (fO a):=by
  unfold LZ fO;by_cases h:(3:Int)<(a.length:Int)
  · rw[dT h];rfl
  · rw[dF h];simp only[Z1];have e:∀(k:Zi Co) (i:Nat) (b:Int),(∀j,k[j]? =a[i+j]?)->(i=0->b= -1)->(∀j,i=j+1->∃y,a[j]? =ah y/\y.jL=b)->i<=a.length->fG (zY a) Dy (i:Int) k ()=ah (each jT lh k b):=by
      intro k;induction k with
      |nil=>intro i b _ _ _ _;rfl
      |cons x k ih=>
        intro i b l o m hi;rw[vG,eQ];have f:a[i]? =ah x:=by have:=l 0;simpa using this.symm
        have n:i<a.length:=by
          rcases cE i a.length with h|h
          · exact h
          · rw[bq h]at f;cases f
        have c:=ih (i+1) x.jL (fun j=>by have:=l (j+1);simpa[lR,Nat.add_comm 1 j]using this) V (fun j p=>⟨x,by rw[show j=i by omega];exact f,Z⟩) V;rw[show((i+1:Nat):Int)=(i:Int)+1 from rfl]at c;generalize fG (zY a) Dy ((i:Int)+1) k=nx at c⊢;generalize each jT lh k=nx2 at c⊢;unfold zY jT;rw[rg_eq,mn_eq,<-rg,<-mn];cases hr:rg x with
        |true=>rfl
        |false=>
        cases hm:mn x with
        |true=>rfl
        |false=>
        have g:=(coOk_iff x).2 ⟨hr,hm⟩;simp only[Z1];unfold Dx;cases i with
        |zero=>
          rw[o rfl,dF (show¬x.jL<= -1 by have:=g.1;omega)];simpa using c
        |succ j=>
          obtain⟨y,q,d⟩:=m j Z;rw[dT (show(0:Int)<((j+1:Nat):Int) by omega),show((j+1:Nat):Int)-1=(j:Int) by omega,gI,nX,q];simp only[ZS,bnd,d];cases ab (x.jL<=b)with
          |true=>rfl
          |false=>exact c
    exact e a 0 (-1) (fun j=>by simp) (fun _=>rfl) (fun j p=>by omega) V
abbrev Up(l:Zi Co):Prop:=l.Pairwise (fun x y=>x.jL<y.jL)
theorem each_ok:∀(l:Zi Co) (a:Int),each jT lh l a=0↔(∀x∈l,coOk x)/\Up l/\∀x∈l,a<x.jL
  |[],a=>by simp[kW,lh]
  |x::r,a=>by
    rw[eQ];have g:=each_ok r x.jL;generalize each jT lh r=nx at g⊢;unfold jT;rw[rg_eq,mn_eq];have c:=coOk_iff x;cases hr:rg x with
    |true=>
      simp only[ZS];constructor
      · intro h;exact Zs h zq1
      · intro h;have:=(c.1<|h.1 x fj).1;rw[hr]at this;cases this
    |false=>
    cases hm:mn x with
    |true=>
      simp only[ZS,Z1];constructor
      · intro h;exact Zs h zq1
      · intro h;have:=(c.1<|h.1 x fj).2;rw[hm]at this;cases this
    |false=>
    have ho:=c.2 ⟨hr,hm⟩;simp only[Z1];by_cases hl:x.jL<=a
    · rw[dT hl];simp only[ZS];constructor
      · intro h;exact Zs h zq1
      · intro h;have:=h.2.2 x fj;omega
    · rw[dF hl];simp only[Z1];rw[g];show _↔_/\tn _ (x::r)/\_;rw[cA];constructor
      · rintro⟨e,f,d⟩;refine⟨?_,⟨d,f⟩,?_⟩
        · intro y b;rcases bp.1 b with rfl|b
          · exact ho
          · exact e y b
        · intro y b;rcases bp.1 b with rfl|b
          · omega
          · have:=d y b;omega
      · rintro⟨e,⟨f,d⟩,i⟩;exact⟨fun y b=>e y<|bm _ b,d,f⟩
structure Good(l:List Co):Prop where
 len:l.length<=3
 ok:∀x∈l,coOk x
 up:Up l
theorem good_iff(l:Zi Co):fO l=0↔Good l:=by
  unfold fO;by_cases h:(3:Int)<(l.length:Int)
  · rw[dT h];simp only[ZS];exact⟨fun h=>Zs h zq1,fun g=>by have:=g.len;omega⟩
  · rw[dF h];simp only[Z1];rw[each_ok];exact⟨fun⟨a,b,_⟩=>⟨by omega,a,b⟩,fun g=>⟨g.ok,g.up,fun x c=>by have:=(g.ok x c).1;omega⟩⟩
def Gb(c:Co):Zi Co->Zi Co
 |[]=>[c]
 |x::r=>if x.jL<c.jL then x::Gb c r else c::x::r
def Ka(b:Rec)(l:Zi Co):Zi Co:=l.filter fun x=>ab (x.jL≠b.co)
def BM(b:Rec)(l:Zi Co):Yw Co:=l.find? fun x=>ab (x.jL=b.co)
def BN(a:Zi Co)(b:Rec):Zi Co×Int:=
 if fO a≠0 then([],fO a)else if fu b≠0 then([],fu b)else
 match BM b a with
 |none=>if b.kind=1\/b.kind=4 then(if(ab (b.ax=1) !=ab (b.kind=1))=ba then([],7)else(Gb ⟨b.co,b.ax,b.image,-1⟩ (Ka b a),0))else([],5)
 |some c=>if b.kind=1\/b.kind=4 then([],6)else if(ab (b.ax≠c.ax)||(ab (c.offered≠ -1) !=ab (b.kind=5)))=ba then([],7)else
  if b.kind=5 then(Ka b a,0)else if b.kind=2 then(Gb ⟨c.jL,c.ax,b.image,c.offered⟩ (Ka b a),0)else if c.ax=100 then([],2)else(Gb ⟨c.jL,c.ax,c.image,b.place⟩ (Ka b a),0)
theorem oth_len(b:Rec)(l:Zi Co):(Ka b l).length<=l.length:=List.length_filter_le _ _
theorem oth_up(b:Rec){l:Zi Co}(h:Up l):Up (Ka b l):=h.filter _
theorem Sq{b:Rec}{l:Zi Co}{x:Co}(h:x∈Ka b l):x∈l/\x.jL≠b.co:=by
 unfold Ka at h;rw[mc]at h;exact⟨h.1,by simpa using h.2⟩
theorem coCopy{a:Zi Co}(h:a.length<=3)(e:∀x∈a,x.image.length<=1200):Ko a=ah a:=by
 unfold Ko;rw[Ow V V];simp only[bnd,cc];have c:∀(m i:Nat),i+m=a.length->upto yc CZ (i:Int) m a=ah a:=by
  intro m;induction m with
  |zero=>intro i _;rfl
  |succ m ih=>
   intro i hi;have d:i<a.length:=by omega
   show yc (i:Int) a (upto yc CZ ((i:Int)+1) m)=_;have b:=ih (i+1) V;rw[show((i+1:Nat):Int)=(i:Int)+1 from rfl]at b;generalize upto yc CZ ((i:Int)+1) m=nx at b⊢;unfold yc;rw[DL d];have:=e a[i]<|en d;simp only[bnd];rw[Ow V V];simp only[bnd,cc];rw[show({a[i]with image:=a[i].image}:Co)=a[i]from rfl,tY];exact b
 simpa using c a.length 0 V
theorem findEq(a:Zi Co)(k:Int):DV a k=ah (match a.findIdx? (fun x=>ab (x.jL=k))with|some n=>(n:Int)|none=> -1):=by
 unfold DV;simp only[cc];rw[upto_find (fun x=>ab (x.jL=k)) (fun i=>ah i) a (fun i x nx b=>by
  unfold Mh;rw[nX,b];rfl)]
 cases a.findIdx? (fun x=>ab (x.jL=k))<;>rfl
theorem idx_here(b:Rec):∀(a:Zi Co),(BM b a=aE/\a.findIdx? (fun x=>ab (x.jL=b.co))=aE/\Ka b a=a)\/
    ∃n x,BM b a=ah x/\a.findIdx? (fun x=>ab (x.jL=b.co))=ah n/\a[n]? =ah x/\x.jL=b.co
  |[]=>.inl ⟨rfl,rfl,rfl⟩
  |x::r=>by
    unfold BM Ka;rw[List.find?_cons,rm,fY];by_cases h:x.jL=b.co
    · exact .inr ⟨0,x,by simp[h],by simp[h],Z,h⟩
    · simp only[h,decide_false,de,if_false,ne_eq,not_false_eq_true,decide_true,if_true];rcases idx_here b r with⟨h1,h2,h3⟩|⟨n,y,h1,h2,h3,h4⟩
      · exact .inl ⟨h1,by rw[h2];rfl,by unfold Ka at h3;rw[h3]⟩
      · exact .inr ⟨n+1,y,h1,by rw[h2];rfl,by simpa using h3,h4⟩
theorem set_ins(b:Rec):∀(a:Zi Co) (n:Nat) (x y:Co),Up a->a[n]? =ah x->x.jL=b.co->y.jL=b.co->a.set n y=Gb y (Ka b a)
 |[],n,x,y,_,h,_,_=>by simp at h
 |z::r,0,x,y,hu,h,hx,hy=>by
  simp only[od,Option.some.injEq]at h;subst h;rw[Up,cA]at hu;have c:Ka b (z::r)=r:=by
   unfold Ka;rw[fY,Z3 (by simp[hx]),rb];intro u d;have:=hu.1 u d;simp;omega
  rw[c,List.set_cons_zero];cases r with
  |nil=>rfl
  |cons u r=>
   have:=hu.1 u fj;simp only[Gb];rw[Z3 V]
 |z::r,n+1,x,y,hu,h,hx,hy=>by
  simp only[tw]at h;rw[Up,cA]at hu;have e:=hu.1 x<|eK h;have c:Ka b (z::r)=z::Ka b r:=by unfold Ka;rw[fY,Z2 (by simp;omega)]
  rw[c,List.set_cons_succ,set_ins b r n x y hu.2 h hx hy];simp only[Gb];rw[Z2 V]
theorem del_oth(b:Rec):∀(a:Zi Co) (n:Nat) (x:Co),Up a->a[n]? =ah x->x.jL=b.co->a.take n++a.drop (n+1)=Ka b a
 |[],n,x,_,h,_=>by simp at h
 |z::r,0,x,hu,h,hx=>by
  simp only[od,Option.some.injEq]at h;subst h;rw[Up,cA]at hu;unfold Ka;rw[fY,Z3 (by simp[hx])];have:r.filter (fun x=>decide<|x.jL≠b.co)=r:=by
   rw[rb];intro u c;have:=hu.1 u c;simp;omega
  rw[this];simp
 |z::r,n+1,x,hu,h,hx=>by
  simp only[tw]at h;rw[Up,cA]at hu;have e:=hu.1 x<|eK h;have d:Ka b (z::r)=z::Ka b r:=by unfold Ka;rw[fY,Z2 (by simp;omega)]
  rw[d,<-del_oth b r n x hu.2 h hx];simp
theorem ins_loop(b:Rec)(a:Zi Co)(e:a.length<=3)(d:b.image.length<=1200):∀(k i N:Nat),i+k=a.length->k<N->again (lY a b) N (i:Int)=ah (a.take i++Gb ⟨b.co,b.ax,b.image,-1⟩ (a.drop i),0)
  |0,i,N+1,h,_=>by
    show lY a b (i:Int) (again (lY a b) N)=_;generalize again (lY a b) N=nx;unfold lY Bc;rw[dF V];simp only[Z1];rw[Ow V V];simp only[bnd];rw[jV (Room.mk (by simp;omega) (by simp;omega)),ins1,Z2 ⟨by omega,by omega⟩];rw[cr (show a.length<=i by omega)];simp[Gb,show a.drop i=[]from cr V]
  |k+1,i,N+1,h,hN=>by
    have hi:i<a.length:=by omega
    have c:=ins_loop b a e d k (i+1) N V V;rw[show((i+1:Nat):Int)=(i:Int)+1 from rfl]at c;show lY a b (i:Int) (again (lY a b) N)=_;generalize again (lY a b) N=nx at c⊢;unfold lY Bc;rw[dT V,DL hi];simp only[ZS,bnd];by_cases hl:a[i].jL<b.co
    · rw[dT hl];simp only[ZS];rw[gI,c,cF hi];simp only[Gb];rw[Z2 hl,List.take_succ_eq_append_getElem hi,bf,tZ]
    · rw[dF hl];simp only[Z1];rw[Ow V V];simp only[bnd];rw[jV (Room.mk (by simp;omega) (by simp;omega)),ins1,Z2 ⟨by omega,by omega⟩];simp only[bnd,cc];rw[cF hi];simp only[Gb];rw[Z3 hl,bf,tZ]
theorem next_eq(N:Nat)(u:5<N)(a:Zi Co)(b:Rec):GJ N a b=ah (BN a b):=by
  unfold GJ BN;rw[chkEq];simp only[bnd];by_cases e:fO a=0
  · rw[rec_eq];by_cases j:fu b=0
    · have g:=(good_iff a).1 e;have gr:=goodR b j;have gl:=g.len;rw[e,j];simp only[ne_eq,not_true_eq_false,decide_false,Z1,if_false];rw[coCopy g.len (fun x r=>(g.ok x r).2.2.2.2.2.2.2)];simp only[bnd];rw[findEq];simp only[bnd];have s:=gr.kind;have f:(ab ((b.kind:Int)=1)||ab ((b.kind:Int)=4))=ab (b.kind=1\/b.kind=4):=by simp
      rw[f];rcases idx_here b a with⟨e1,e2,e3⟩|⟨n,c,e1,e2,e3,e4⟩
      · rw[e1,e2];simp only;by_cases d:b.kind=1\/b.kind=4
        · rw[dT d,Z2 d];simp only[ZS];rw[show ab ((0:Int)<= -1)=ar by decide];simp only[Z1];have p:((ab ((b.kind:Int)=1)&&ab ((b.ax:Int)≠1))||(ab ((b.kind:Int)=4)&&ab ((b.ax:Int)=1)))=(ab (b.ax=1) !=ab (b.kind=1)):=by
            by_cases q:b.ax=1
            · rcases d with k|k<;>simp[q,k]
            · rcases d with k|k<;>simp[q,k]
          rw[p];cases (ab (b.ax=1) !=ab (b.kind=1))with
          |true=>rfl
          |false=>
            simp only[Z1,de,if_false];have:=ins_loop b a g.len gr.image a.length 0 N V V;simp only[Int.natCast_zero,List.take_zero,hJ,cf]at this;rw[this,e3]
        · rw[dF d,Z3 d];simp only[Z1];rw[show ab ((-1:Int)<0)=ba by decide];rfl
      · have hn:n<a.length:=by
          rcases cE n a.length with h|h
          · exact h
          · rw[bq h]at e3;cases e3
        have l:=g.ok c<|eK e3;rw[e1,e2];simp only;by_cases d:b.kind=1\/b.kind=4
        · rw[dT d,Z2 d];simp only[ZS];rw[dT (show(0:Int)<=(n:Int) by omega)];rfl
        · rw[dF d,Z3 d];simp only[Z1];rw[dF (show¬(n:Int)<0 by omega),nX,e3];simp only[Z1,bnd];have ho:ab ((0:Int)<=c.offered)=ab (c.offered≠ -1):=by
            rw[decide_eq_decide];have:=l.2.2.2.2.1;omega
          have t:(bif ab (c.ax≠b.ax)then vK b a (n:Int) c ba else vK b a (n:Int) c (ab (b.kind=5) !=ab ((0:Int)<=c.offered)))=vK b a (n:Int) c (ab (b.ax≠c.ax)||(ab (c.offered≠ -1) !=ab (b.kind=5))):=by
            rw[ho];by_cases q:b.ax=c.ax
            · rw[q];simp only[ne_eq,not_true_eq_false,decide_false,Z1,qu];cases ab (b.kind=5)<;>cases ab (¬c.offered= -1)<;>rfl
            · rw[show ab (c.ax≠b.ax)=ba from dT (fun h=>q h.symm),show ab (b.ax≠c.ax)=ba from dT q];rfl
          refine t.trans ?_;unfold vK;cases (ab (b.ax≠c.ax)||(ab (c.offered≠ -1) !=ab (b.kind=5)))with
          |true=>rfl
          |false=>
            simp only[Z1,de,if_false];by_cases k2:b.kind=2
            · rw[dT k2,Z3 V,Z2 k2];simp only[ZS];rw[Ow (by have:=gr.image;omega) (by have:=gr.image;omega)];simp only[bnd,cc];rw[set_ins b a n c {c with image:=b.image} g.up e3 e4 e4]
            · rw[dF k2,Z3 k2];simp only[Z1];by_cases o:b.kind=3
              · rw[dT o,Z3 V];simp only[ZS];by_cases i:c.ax=100
                · rw[dT i,Z2 i];rfl
                · rw[dF i,Z3 i];simp only[Z1,cc];rw[set_ins b a n c {c with offered:=b.place} g.up e3 e4 e4]
              · have m:b.kind=5:=by omega
                rw[dF o,dT m,Z2 m];simp only[Z1,ZS];rw[gI,del_s1 hn];simp only[bnd];rw[del_oth b a n c g.up e3 e4]
    · rw[e];simp only[ne_eq,not_true_eq_false,decide_false,Z1,if_false];rw[show ab (¬fu b=0)=ba from dT j,Z2 j];rfl
  · rw[show ab (fO a≠0)=ba from dT e,Z2 e];rfl
def Ac:Zi Co->Zi Rec->Zi Co×Int
 |s,[]=>(s,0)
 |s,r::l=>if(BN s r).2≠0 then([],(BN s r).2)else Ac (BN s r).1 l
theorem rep_each(N:Nat)(a:5<N):∀(l:Zi Rec) (s:Zi Co),each (Dz N) DC l s=ah (Ac s l)
  |[],s=>by simp[kW,DC,Ac]
  |r::l,s=>by
    rw[eQ,Dz,next_eq N a,bnd,Ac];by_cases h:(BN s r).2=0
    · rw[dF V,Z1,Z3 V,rep_each N a l]
    · rw[dT h,ZS,Z2 h]
theorem replay_eq(N:Nat)(a:5<N)(l:Zi Rec):Cb N l=ah (if 120<l.length then([],2)else Ac [] l):=by
  unfold Cb;by_cases h:120<l.length
  · rw[dT V,ZS,Z2 h]
  · rw[dF V,Z1,Z3 h,rep_each N a]
theorem Rx{c y:Co}:∀{l:Zi Co},y∈Gb c l↔y=c\/y∈l
  |[]=>by simp[Gb]
  |x::r=>by
    unfold Gb;split
    · rw[bp,Rx,bp];constructor
      · rintro(h|h|h)
        · exact .inr<|.inl h
        · exact .inl h
        · exact .inr<|.inr h
      · rintro(h|h|h)
        · exact .inr<|.inl h
        · exact .inl h
        · exact .inr<|.inr h
    · rw[bp]
theorem I1{c:Co}:∀{l:Zi Co},(Gb c l).length=l.length+1
  |[]=>rfl
  |x::r=>by
    unfold Gb;split
    · rw[bl,I1,bl]
    · rfl
theorem insC_up{c:Co}:∀{l:Zi Co},Up l->(∀x∈l,x.jL≠c.jL)->Up (Gb c l)
  |[],_,_=>by simp[Gb,Up]
  |x::r,h,hn=>by
    rw[Up,cA]at h;have b:=hn x fj;unfold Gb;split
    · next hl=>
      show tn _ _;rw[cA];refine⟨fun y a=>?_,insC_up h.2 fun y a=>hn y<|bm _ a⟩;rcases Rx.1 a with rfl|a
      · exact hl
      · exact h.1 y a
    · next hl=>
      show tn _ _;rw[cA,cA];refine⟨fun y a=>?_,h.1,h.2⟩;rcases bp.1 a with rfl|a
      · omega
      · have:=h.1 y a;omega
theorem find_of{l:Zi Co}(b:Up l){x:Co}(a:x∈l):∃n,l.findIdx? (fun y=>ab (y.jL=x.jL))=ah n/\l[n]? =ah x/\n<l.length:=by
  induction l with
  |nil=>cases a
  |cons z r ih=>
    rw[Up,cA]at b;rw[rm];rcases bp.1 a with rfl|a
    · exact⟨0,by simp,Z,by simp⟩
    · have:=b.1 x a;obtain⟨n,c,d,e⟩:=ih b.2 a;exact⟨n+1,by rw[Z3 (by simp;omega),c];rfl,by simpa using d,by simp;omega⟩
theorem next_ok(a:Zi Co)(b:Rec)(h:(BN a b).2=0):Good a/\Good (BN a b).1/\a.length<=(BN a b).1.length+1/\(BN a b).1.length<=a.length+1/\(∀x∈a,x.jL≠b.co->x∈(BN a b).1)/\(∀x∈a,x.jL=b.co->0<=x.offered->b.kind=5):=by
  unfold BN at h⊢;by_cases s:fO a=0
  · by_cases t:fu b=0
    · have g:=(good_iff a).1 s;have gr:=goodR b t;have gl:=g.len;have F:=gr.co;rw[Z3 (by simpa using s),Z3 (by simpa using t)]at h⊢;have k:∀x∈a,x.jL≠b.co->x∈Ka b a:=fun x f hn=>by unfold Ka;rw[mc];exact⟨f,by simpa using hn⟩
      have i:∀c:Co,coOk c->c.jL=b.co->(Ka b a).length<=2->Good (Gb c (Ka b a)):=fun c G L hl=>⟨by rw[I1];omega,fun x f=>by
        rcases Rx.1 f with rfl|f
        · exact G
        · exact g.ok x (Sq f).1,insC_up (oth_up b g.up) (fun x f=>by have:=(Sq f).2;omega)⟩
      rcases idx_here b a with⟨e1,e2,e3⟩|⟨n,c,e1,e2,e3,e4⟩
      · rw[e1]at h⊢;simp only at h⊢;have hno:∀x∈a,x.jL≠b.co:=fun x f e=>by
          unfold BM at e1;rw[List.find?_eq_none]at e1;exact e1 x f (by simpa using e)
        by_cases q:b.kind=1\/b.kind=4
        · rw[Z2 q]at h⊢;cases hq:(ab (b.ax=1) !=ab (b.kind=1))with
          |true=>rw[hq,Z2 Z]at h;exact Zs h zq1
          |false=>
            rw[hq]at h;simp only[de,if_false]at h⊢;have w:a.length<=2:=by
              match a,g,hno with
              |[],_,_=>simp
              |[x],_,_=>simp
              |[x,y],_,_=>simp
              |[x,y,z],g,hno=>
                have I:=g.up;simp[Up]at I;have o1:=g.ok x zq3;have o2:=g.ok y zq3;have M:=g.ok z zq3;have P:=hno x zq3;have N:=hno y zq3;have n3:=hno z zq3;unfold coOk at o1 o2 M;omega
              |x::y::z::u::r,g,_=>have:=g.len;simp at this
            have hi:=gr.has V;refine⟨g,i _ ⟨F.1,F.2,gr.ax.1,gr.ax.2,by simp,by simp,hi,gr.image⟩ Z (by rw[e3];exact w),?_,?_,fun x f hn=>Rx.2 (.inr (k x f hn)),fun x f e=>Zs e (hno x f)⟩
            · rw[I1,e3];omega
            · rw[I1,e3];omega
        · rw[Z3 q]at h;exact Zs h zq1
      · rw[e1]at h⊢;simp only at h⊢;have hn:n<a.length:=by
          rcases cE n a.length with h|h
          · exact h
          · rw[bq h]at e3;cases e3
        have K:(Ka b a).length+1=a.length:=by
          rw[<-del_oth b a n c g.up e3 e4];simp;omega
        have d:=g.ok c<|eK e3;have o:∀x∈a,x.jL=b.co->x=c:=by
          intro x f p;obtain⟨m,B,E,_⟩:=find_of g.up f;rw[p,e2]at B;cases B;rw[e3]at E;exact(osi E).symm
        by_cases q:b.kind=1\/b.kind=4
        · rw[Z2 q]at h;exact Zs h zq1
        · rw[Z3 q]at h⊢;cases hq:(ab (b.ax≠c.ax)||(ab (c.offered≠ -1) !=ab (b.kind=5)))with
          |true=>rw[hq,Z2 Z]at h;exact Zs h zq1
          |false=>
            rw[hq]at h;simp only[de,if_false]at h⊢;have j:∀x∈a,x.jL=b.co->0<=x.offered->b.kind=5:=by
              intro x f p O;have:=o x f p;subst this;rw[dp]at hq;have v:=hq.2;rw[show ab (x.offered≠ -1)=ba from dT V]at v;cases h5:ab (b.kind=5)with
              |true=>exact P9 h5
              |false=>rw[h5]at v;cases v
            have l:∀(A:Co) x,x∈a->x.jL≠b.co->x∈Gb A (Ka b a):=fun A x f hn=>Rx.2<|.inr<|k x f hn;by_cases C:b.kind=5
            · rw[Z2 C]at h⊢;exact⟨g,⟨by show(Ka b a).length<=3;omega,fun x f=>g.ok x (Sq f).1,oth_up b g.up⟩,by show a.length<=(Ka b a).length+1;omega,by show(Ka b a).length<=a.length+1;omega,k,j⟩
            · rw[Z3 C]at h⊢;by_cases k2:b.kind=2
              · rw[Z2 k2]at h⊢;have hi:=gr.has V;refine⟨g,i _ ⟨d.1,d.2.1,d.2.2.1,d.2.2.2.1,d.2.2.2.2.1,d.2.2.2.2.2.1,hi,gr.image⟩ e4 V,?_,?_,l _,j⟩
                · rw[I1];omega
                · rw[I1];omega
              · rw[Z3 k2]at h⊢;by_cases p:c.ax=100
                · rw[Z2 p]at h;exact Zs h zq1
                · rw[Z3 p]at h⊢;have hp:=gr.place;refine⟨g,i _ ⟨d.1,d.2.1,d.2.2.1,d.2.2.2.1,by show-1<=b.place;omega,hp.2,d.2.2.2.2.2.2.1,d.2.2.2.2.2.2.2⟩ e4 V,?_,?_,l _,j⟩
                  · rw[I1];omega
                  · rw[I1];omega
    · rw[Z3 (by simpa using s),Z2 t]at h;exact Zs h t
  · rw[Z2 s]at h;exact Zs h s
theorem BO(a:Zi lI):jZ a=rU a:=by
  have h:zw=sV:=by
    funext x s nx;unfold zw sV aH;have d:(((((((ab ((x.from_:Int)<0)||ab ((3:Int)<=x.from_))||ab ((x.ru:Int)<0))||ab ((3:Int)<=x.ru))||ab ((x.co:Int)<0))||ab ((3:Int)<=x.co))||ab ((x.ax:Int)<2))||ab ((100:Int)<x.ax))=((((!((ab ((0:Int)<=x.from_)&&ab (x.from_<=2))))||(!((ab ((0:Int)<=x.ru)&&ab (x.ru<=2)))))||(!((ab ((0:Int)<=x.co)&&ab (x.co<=2)))))||(!((ab ((2:Int)<=x.ax)&&ab (x.ax<=100))))):=by
      rw[dm];simp;omega
    rw[d];congr 2;generalize x.image.length=n;rcases Nat.eq_zero_or_pos n with h0|h0
    · subst h0;cases x.taken<;>rfl
    · have f:ab ((n:Int)=0)=false:=decide_eq_false V;have c:ab ((0:Int)<(n:Int))=true:=decide_eq_true V;have e:ab ((1:Int)<=(n:Int))=true:=decide_eq_true V;rw[f,c,e];by_cases b:(n:Int)<=1200
      · rw[decide_eq_true b,decide_eq_false (show¬(1200:Int)<n by omega)];cases x.taken<;>rfl
      · rw[decide_eq_false b,decide_eq_true (show(1200:Int)<n by omega)];cases x.taken<;>rfl
  unfold jZ rU;rw[h];rfl
end Dk
end Go.Proofs.YteijalgmijkphaaGreatDoor