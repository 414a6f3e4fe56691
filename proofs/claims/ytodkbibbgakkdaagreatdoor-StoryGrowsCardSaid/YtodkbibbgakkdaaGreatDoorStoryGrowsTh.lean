/-
  What the law StoryGrows needs of our own library and of the walks, no more.
-/
import Derived.Test.YtodkbibbgakkdaaGreatDoorStoryGrowsTg
set_option linter.unusedSimpArgs false
set_option linter.unusedVariables false
set_option maxRecDepth 10000
open Bool renaming and_eq_false_iff->cE,and_eq_true->cL,cond_eq_ite->de,eq_iff_iff->ey,false_eq_true->cJ,false_or->oE,not_eq_true'->gk,not_false->kb,not_true->eo,or_eq_false_iff->cY,or_eq_true->dw,true_and->mQ,false->aq,true->ar
open Decidable renaming not_not->en,decide->ab
open Go.Lib renaming atoiAll_bounds->rn,itoa->dr
open Int renaming eq_ofNat_of_zero_le->bs,reduceEq->bm,toNat_natCast->bj
open List renaming Pairwise->oS,all_eq_true->lr,append_assoc->cg,append_inj'->r6,append_nil->dt,concat_eq_append->gh,cons_append->et,dropLast_concat->fl,drop_eq_getElem_cons->cS,drop_eq_nil_of_le->cC,drop_zero->kf,eq_nil_of_length_eq_zero->cm,eq_nil_or_concat->gf,eq_of_mem_replicate->fp,exists_of_findSome?_eq_some->nb,filter_cons->gC,filter_eq_self->mC,findIdx?_cons->qu,findSome?_cons->pZ,findSome?_eq_none_iff->od,flatMap_cons->eK,getElem?_append_right->gx,getElem?_cons_succ->pb,getElem?_cons_zero->kO,getElem?_eq_getElem->bh,getElem?_eq_none->bw,getElem?_eq_some_iff->kp,getElem?_map->eg,getElem_idxOf->hO,getElem_map->rS,getElem_mem->cx,getElem_of_mem->qe,getLast?_append->eE,getLast?_singleton->ee,headD_cons->nu,idxOf_append->rm,idxOf_cons->sA,idxOf_lt_length_of_mem->ec,length->fa,length_append->bc,length_cons->bq,length_flatMap->eJ,length_map->cF,length_nil->ez,length_replicate->jt,mapM_cons->mu,map_append->cG,map_cons->ck,map_map->jH,map_nil->ep,map_set->gB,mem_append->cR,mem_cons->bn,mem_cons_of_mem->bk,mem_cons_self->eW,mem_filter->sB,mem_flatMap->lx,mem_map->dL,mem_of_getElem?->fm,mem_or_eq_of_mem_set->kj,nil_append->cQ,nodup_append->rl,pairwise_cons->ei,pairwise_iff_getElem->oy,prefix_append->eC,prefix_refl->cl,replicate->cc,set_getElem_self->lO,singleton_append->pw,sum_cons->my,take_length->sa,take_succ_cons->qk,take_zero->s9
open List.cons renaming injEq->kc
open Nat renaming add_assoc->jz,le_refl->bt,lt_or_ge->cD,mul_le_mul->ox,not_lt_zero->eM
open Option renaming bind_some->cH,getD_none->qt,getD_some->eL,isNone_iff_eq_none->nG,isSome_none->pB,map_eq_some_iff->oR,map_some->db,some_or->fx,toList_some->pC,none->aE,some->aj
open Option.some renaming injEq->eI
namespace Go.Proofs.YtodkbibbgakkdaaGreatDoor
open Go Go.Proofs Go.LX
noncomputable section
abbrev preL:List (Int×Str):=[(2,[118]),(4,[46]),(5,[110,101,119]),(6,[102]),(1,[])]
theorem bnd{α β:Type}(a:α)(f:α->Option β):(aj a).bind f=f a:=rfl
theorem find_uniq{α σ:Type}{g:α->Option σ}{l:List α}(b:∀p∈l,∀q∈l,g p≠aE->g q≠aE->p=q){p:α}(hp:p∈l){t:σ}(h:g p=aj t):l.findSome? g=aj t:=by
 cases e:l.findSome? g with
 |none=>
  rw[od]at e;rw[e p hp]at h;cases h
 |some u=>
  obtain⟨q,c,a⟩:=nb e;have:=b p hp q c (by rw[h];simp) (by rw[a];simp);subst this;rw[h]at a;exact a.symm
theorem fold_none{α σ:Type}{step:α->σ->Option σ}{g:α->Option σ}:∀{l:List α},(∀p∈l,∀s,step p s=aj ((g p).getD s))->(∀p∈l,g p=aE)->∀s,Yo step l s=aj s
 |[],_,_,s=>rfl
 |p::l,h,hn,s=>by
  unfold Yo;rw[h p zq3,hn p zq3,qt,bnd];exact fold_none (fun q a=>h q<|bk _ a) (fun q a=>hn q<|bk _ a) s
theorem fold_find{α σ:Type}{step:α->σ->Option σ}{g:α->Option σ}:∀{l:List α},(∀p∈l,∀s,step p s=aj ((g p).getD s))->(∀p∈l,∀q∈l,g p≠aE->g q≠aE->p=q)->l.Nodup->∀s,Yo step l s=aj ((l.findSome? g).getD s)
  |[],_,_,_,s=>rfl
  |p::l,h,hu,hn,s=>by
    unfold Yo;rw[h p zq3,bnd];have d:=List.nodup_cons.1 hn;cases e:g p with
    |none=>
      rw[qt,fold_find (fun q c=>h q (bk _ c)) (fun a f b i=>hu a (bk _ f) b (bk _ i)) d.2 s,pZ,e]
    |some t=>
      rw[eL,fold_none (fun q c=>h q (bk _ c)) (fun q c=>?_) t,pZ,e]
      · rfl
      · cases e2:g q with
        |none=>rfl
        |some u=>
          have:=hu p zq3 q (bk _ c) (by rw[e];simp) (by rw[e2];simp);subst this;exact absurd c d.1
theorem folds_one{α σ:Type}{step:α->σ->Option σ}{g:α->Option σ}{L:List α}(h:∀p∈L,∀s,step p s=aj ((g p).getD s))(c:∀p∈L,∀q∈L,g p≠aE->g q≠aE->p=q)(hn:L.Nodup)(s:σ):Bl step L s ((L.findSome? g).getD s):=by
 intro l a;rw[fold_find (fun p hp=>h p (a.mem_iff.1 hp)) (fun p hp q b=>c p (a.mem_iff.1 hp) q (a.mem_iff.1 b)) (a.nodup_iff.2 hn) s];congr 2;cases e:L.findSome? g with
 |none=>
  rw[od]at e⊢;exact fun x d=>e x<|a.mem_iff.1 d
 |some t=>
  obtain⟨p,hp,f⟩:=nb e;exact find_uniq (fun p hp q b=>c p (a.mem_iff.1 hp) q<|a.mem_iff.1 b) (a.mem_iff.2 hp) f
def joO(a:Int×Str)(y:Int×Bool)(x:Bool):Option (Int×Int):=bif x then aj (a.1,y.1)else aE
def stepO(s:Str)(b:Int×Str):Option (Option (Int×Int)):=
 (strings_TrimPrefix s b.2).bind fun c=>(JD c).bind fun a=>bif (!a.2)then(oI (⟨b.1,a.1⟩:Tok)).bind fun d=>aj (joO b a (ab ((d:Str)=s)))else aj (joO b a aq)
theorem j227_eq(c:Int×Str)(y:Int×Bool)(a b:Int)(x:Bool):Df c y a b x=aj ((joO c y x).getD (a,b)):=by
 unfold Df joO;cases x<;>rfl
theorem b228_eq(s:Str)(c:Int×Str)(st:Int×Int):xx s c st=(stepO s c).bind fun o=>aj (o.getD st):=by
 obtain⟨a,b⟩:=st;unfold xx stepO;simp only[j227_eq];cases strings_TrimPrefix s c.2 with
 |none=>rfl
 |some y=>
  simp only[bnd];cases JD y with
  |none=>rfl
  |some z=>
   simp only[bnd];cases z.2 with
   |true=>rfl
   |false=>
    simp only[kb,cond_true];cases oI (⟨c.1,z.1⟩:Tok)<;>rfl
def gO(s:Str)(p:Int×Str):Option (Int×Int):=(stepO s p).join
def okW(s:Str):Bool:=preL.all (fun p=>(stepO s p).isSome)&&preL.all (fun p=>preL.all fun q=>(gO s p).isNone||(gO s q).isNone||ab (p=q))
def preC(s:Str):Int×Int:=(preL.findSome? (gO s)).getD (0,0)
theorem fold_ok{s:Str}(h:okW s=ar):JH (xx s) preL (0,0)=aj (preC s):=by
  unfold okW at h;rw[cL,lr,lr]at h;refine foldAny_eq<|folds_one (g:=gO s) (fun p hp st=>?_) (fun p hp q b a c=>?_) zq1 (0,0)
  · have a:=h.1 p hp;rw[b228_eq];unfold gO;cases e:stepO s p with
    |none=>rw[e]at a;cases a
    |some o=>cases o<;>rfl
  · have:=lr.1 (h.2 p hp) q b;rw[dw,dw]at this;rcases this with(e|e)|e
    · exact absurd (nG.1 e) a
    · exact absurd (nG.1 e) c
    · exact odt e
def foldC(s:Str):Option (Int×Int):=bif okW s then aj (preC s)else JH (xx s) preL (0,0)
theorem foldC_eq(s:Str):foldC s=JH (xx s) preL (0,0):=by
 unfold foldC;cases e:okW s with
 |false=>rfl
 |true=>exact(fold_ok e).symm
def Fg(N:Nat)(f:List Tok)(F:List ji)(e:Int)(g:(List Tok×Int×Bool×Int)->Option (List Tok×gM))(b:Str)(d:Bool)(c:Int):Option (List Tok×gM):=
 (foldC b).bind fun a=>(Tu N b f F c e g d) a
theorem ZT: @Fg= @Dh:=by
 funext a b c d e f g h;unfold Fg Dh;rw[foldC_eq]
def Kr(N:Nat)(a:List Str)(F:List ji)(s:List Tok×Int×Bool×Int)(c:List Tok×Int×Bool×Int->Option (List Tok×gM)):Option (List Tok×gM):=
 match s with|(xL,zw,UF,y20)=>bif (ab ((0:Int)<zw)&&UF)then bif ab (((a.length:Int):Int)<=y20)then Fg N xL F zw c [] aq y20 else iK (kN (y20+1)) (iK (kN ((y20+1)-1)) ((idx a ((y20+1)-1)).bind fun b=>Fg N xL F zw c b UF (y20+1)))else aj (xL,(⟨y20,UF⟩:gM))
theorem ZU: @Kr= @Di:=by
 unfold Kr Di;rw[ZT]
def Uc(N:Nat)(b:gM)(a:List Str)(F:List ji):Option (List Tok×gM):=
 again (Kr N a F) N ([],1,b.ok,b.at_)
theorem srdExpr_p: @Uc= @Tv:=by
 unfold Uc Tv;rw[ZU]
def Fh(N:Nat)(k:gM->List Str->List ji->Int->Option (List di×gM))(c:Int)(b:List Str)(F:List ji)(a:Int)(h:List di)(f:Int)(i:(List di×Int×Bool)->Option (List di×gM))(j:Int)(g:Bool)(e:List Tok):Option (List di×gM):=
 bif ab (((c+1):Int)=2)then(Uc N (⟨j,g⟩:gM) b F).bind fun d=>Dj k c a b F h f e i d.2.at_ d.2.ok d.1 else Dj k c a b F h f e i j g []
theorem ZV: @Fh= @Dl:=by
 unfold Fh Dl;rw[srdExpr_p]
def Be(N:Nat)(j:gM->List Str->List ji->Int->Option (List di×gM))(d:Int)(b:List Str)(F:List ji)(a:Int)(g:List di)(h:(List di×Int×Bool)->Option (List di×gM))(i:Int)(f:Bool)(e:Int):Option (List di×gM):=
 bif ab (((d+1):Int)≠4)then(Uc N (⟨i,f⟩:gM) b F).bind fun c=>Fh N j d b F a g e h c.2.at_ c.2.ok c.1 else Fh N j d b F a g e h i f []
theorem ZW: @Be= @Ac:=by
 unfold Be Ac;rw[srdExpr_p,ZV]
def Fj(N:Nat)(m:gM->List Str->List ji->Int->Option (List di×gM))(j:List di)(b:List Str)(F:List ji)(a:Int)(l:(List di×Int×Bool)->Option (List di×gM))(h:Str)(c:Int)(d:Bool):Option (List di×gM):=
 bif ab ((h:Str)=[125])then aj (j,(⟨c,d⟩:gM))else(Td [115,101,116,32,112,117,116,32,115,97,121,32,112,97,117,115,101,32,103,111,32,105,102,32,119,104,105,108,101,32,114,101,116,117,114,110]).bind fun k=>(slices_Index_string k h).bind fun e=>iK (kN (e+1)) (bif (!(d&&ab ((0:Int)<(e+1))))then aj ([],(⟨c,(d&&ab ((0:Int)<(e+1)))⟩:gM))else bif ab (((e+1):Int)<=2)then bif ab (((b.length:Int):Int)<=c)then(JD []).bind fun i=>Be N m e b F a j l c aq i.1 else iK (kN (c+1)) (iK (kN ((c+1)-1)) ((idx b ((c+1)-1)).bind fun g=>(JD g).bind fun f=>Be N m e b F a j l (c+1) (d&&ab ((0:Int)<(e+1))) f.1))else Be N m e b F a j l c (d&&ab ((0:Int)<(e+1))) 0)
theorem ZX: @Fj= @Dm:=by
 unfold Fj Dm;rw[ZW]
def Kt(N:Nat)(e:gM->List Str->List ji->Int->Option (List di×gM))(b:List Str)(F:List ji)(a:Int)(s:List di×Int×Bool)(d:List di×Int×Bool->Option (List di×gM)):Option (List di×gM):=
 match s with|(qQ,Nv,GQ)=>bif GQ then bif ab (((b.length:Int):Int)<=Nv)then Fj N e qQ b F a d [] Nv aq else iK (kN (Nv+1)) (iK (kN ((Nv+1)-1)) ((idx b ((Nv+1)-1)).bind fun c=>Fj N e qQ b F a d c (Nv+1) GQ))else aj ([],(⟨Nv,GQ⟩:gM))
theorem ZY: @Kt= @Dn:=by
 unfold Kt Dn;rw[ZX]
def Hf(N:Nat)(e:gM->List Str->List ji->Int->Option (List di×gM))(b:List Str)(F:List ji)(a:Int)(d:Int)(c:Bool):Option (List di×gM):=
 again (Kt N e b F a) N ([],d,c)
theorem srdBlock_j2_p: @Hf= @FE:=by
 unfold Hf FE;rw[ZY]
def Fp(N:Nat)(e:gM->List Str->List ji->Int->Option (List di×gM))(b:List Str)(F:List ji)(a:Int)(f:Bool)(d:Int)(c:Bool):Option (List di×gM):=
 bif f then Hf N e b F a d aq else Hf N e b F a d c
theorem ZZ: @Fp= @Dp:=by
 unfold Fp Dp;rw[srdBlock_j2_p]
def J2(N:Nat)(e:gM->List Str->List ji->Int->Option (List di×gM))(c:gM)(b:List Str)(F:List ji)(a:Int):Option (List di×gM):=
 bif ab (((b.length:Int):Int)<=c.at_)then Fp N e b F a ar c.at_ aq else iK (kN (c.at_+1)) (iK (kN ((c.at_+1)-1)) ((idx b ((c.at_+1)-1)).bind fun d=>Fp N e b F a (ab ((d:Str)≠[123])||ab ((6:Int)<a)) (c.at_+1) c.ok))
theorem srdBlock_r_p: @J2= @Im:=by
 unfold J2 Im;rw[ZZ]
def LU:Nat->gM->List Str->List ji->Int->Option (List di×gM)
 |0=>fun _ _ _ _=>aE
 |N+1=>J2 N (LU N)
theorem Z0:∀N,LU N=FH N
 |0=>rfl
 |N+1=>by show J2 N (LU N)=Im N (FH N);rw[srdBlock_r_p,Z0 N]
def nH(N:Nat)(g:List Str)(c:List ji)(a:Int)(f:(List ji×Int×Bool)->Option (List ji×Int))(e:Int)(b:Bool):Option (List ji×Int):=
 (LU N (⟨e,b⟩:gM) g c 1).bind fun d=>(idx c a).bind fun h=>f ((c.set (a).toNat {h with body:=d.1}),d.2.at_,d.2.ok)
theorem Gl: @nH= @lS:=by
 unfold nH lS;rw[show @LU= @FH from funext Z0]
def nI(N:Nat)(d:List Str)(e:List ji)(a:Int)(f:(List ji×Int×Bool)->Option (List ji×Int))(b:Int)(c:Bool):Option (List ji×Int):=
 bif ab (((d.length:Int):Int)<=b)then nH N d e a f b aq else iK (kN (b+1)) (iK (kN ((b+1)-1)) ((idx d ((b+1)-1)).bind fun g=>nH N d e a f (b+1) c))
theorem Gm: @nI= @lT:=by
 unfold nI lT;rw[Gl]
def nL(N:Nat)(d:List Str)(e:List ji)(a:Int)(g:(List ji×Int×Bool)->Option (List ji×Int))(b:Int)(c:Bool):Option (List ji×Int):=
 bif ab (((d.length:Int):Int)<=b)then nI N d e a g b aq else iK (kN (b+1)) (iK (kN ((b+1)-1)) ((idx d ((b+1)-1)).bind fun f=>nI N d e a g (b+1) c))
theorem Gn: @nL= @lU:=by
 unfold nL lU;rw[Gm]
def nM(N:Nat)(g:List Str)(d:List ji)(a:Int)(f:(List ji×Int×Bool)->Option (List ji×Int))(b:Bool)(e:Int)(c:Bool):Option (List ji×Int):=
 bif b then nL N g d a f e aq else nL N g d a f e c
theorem Gp: @nM= @lV:=by
 unfold nM lV;rw[Gn]
def rC(N:Nat)(c:List Str)(a:Int)(s:List ji×Int×Bool)(d:List ji×Int×Bool->Option (List ji×Int)):Option (List ji×Int):=
 match s with|(AY,y98,y99)=>bif ab (((c.length:Int):Int)<=y98)then nM N c AY a d ar y98 aq else iK (kN (y98+1)) (iK (kN ((y98+1)-1)) ((idx c ((y98+1)-1)).bind fun b=>nM N c AY a d (ab ((b:Str)≠[102,117,110])) (y98+1) y99))
theorem Gq: @rC= @oh:=by
 unfold rC oh;rw[Gp]
def rD(N:Nat)(c:List Str)(a:Str)(b:List ji)(s:Unit):Option (List ji×Int):=
 upto (rC N c) (sG N c a) 0 ((b.length:Int)).toNat (b,0,ar)
theorem Gr: @rD= @om:=by
 unfold rD om;rw[Gq]
def rE(N:Nat)(c:List Str)(a:Str)(b:List ji):Option (List ji×Int):=
 bif (ab (((b.length:Int):Int)=0)||ab ((4:Int)<(b.length:Int)))then aj ([],1)else upto (sH b) (rD N c a b) 0 ((b.length:Int)).toNat ()
theorem Gs: @rE= @oo:=by
 unfold rE oo;rw[Gr]
def wN(N:Nat)(a:Str):Option (List ji×Int):=
 (QW a [32]).bind fun b=>ic (sI b) (rE N b a) 0 b []
theorem Ku: @wN= @rz:=by
 unfold wN rz;rw[Gs]
def qy(N:Nat):Option (List ji):=
 (wN N [102,117,110,32,48,32,49,32,123,32,115,101,116,32,48,32,51,32,119,104,105,108,101,32,118,48,32,123,32,115,97,121,32,102,49,32,118,48,32,118,48,32,103,111,32,118,48,32,112,97,117,115,101,32,115,101,116,32,48,32,45,32,118,48,32,49,32,125,32,125,32,102,117,110,32,50,32,50,32,123,32,114,101,116,117,114,110,32,42,32,118,48,32,118,49,32,125]).bind fun a=>aj a.1
theorem NS: @qy= @oJ:=by
 unfold qy oJ;rw[Ku]
abbrev NN:Nat:=70000
theorem program_p:oJ NN=qy NN:=by rw[NS]
end
open Go Go.Proofs Go.LX
theorem eqInt(a b:List Int):slices_Equal_int a b=aj (ab (a=b)):=by
  unfold slices_Equal_int;by_cases h:a.length=b.length
  · rw[dF V];simp only[cond_false,bj];rw[UO (fun x y=>ab (x=y)) a b h rfl (fun i x y f c d=>by
      unfold vL;rw[lh,lh,c,d];by_cases e:x=y<;>simp[e]),Mi (fun _ _=>rfl)]
  · rw[dT V];have:a≠b:=fun e=>h (by rw[e]);rw[dF this];rfl
theorem Ud(a b:Int):(ab (a<0)||ab (b<=a))= !bI a b:=by
 unfold bI;rw[ey];simp;try omega
theorem idx0{α:Type}(x:α)(l:List α):idx (x::l) 0=aj x:=by simp[idx]
theorem len_one{l:List Int}:l.length=1↔∃x,l=[x]:=by
 match l with
 |[]=>simp
 |[x]=>simp
 |x::y::r=>simp
def Kv(i:Nat)(x:bA):Int:=
 if(0<=x.params/\x.params<=3)/\(1<=x.regs/\x.params<=x.regs/\x.regs<=40)/\¬(i=0/\x.params≠0)then(if 1<=x.code.length/\x.code.length<=2000 then 0 else 2)else 3
theorem b39_eq(i:Nat)(x:bA)(b:Unit->Option Int):oq (i:Int) x () b=if Kv i x≠0 then aj (Kv i x)else b ():=by
  unfold oq Kv;by_cases a:(0<=x.params/\x.params<=3)/\(1<=x.regs/\x.params<=x.regs/\x.regs<=40)/\¬(i=0/\x.params≠0)
  · have e:(((((ab ((x.params:Int)<0)||ab ((3:Int)<x.params))||ab ((x.regs:Int)<1))||ab ((x.regs:Int)<x.params))||ab ((40:Int)<x.regs))||(ab ((i:Int)=0)&&ab ((0:Int)<x.params)))=false:=by
      simp only[cY,cE,decide_eq_false_iff_not];omega
    rw[e,if_pos a];simp only[cond_false];by_cases c:1<=x.code.length/\x.code.length<=2000
    · rw[if_pos c,show(ab (((x.code.length:Int):Int)=0)||ab ((2000:Int)<(x.code.length:Int)))=aq by simp only[cY,decide_eq_false_iff_not];omega];rfl
    · rw[if_neg c,show(ab (((x.code.length:Int):Int)=0)||ab ((2000:Int)<(x.code.length:Int)))=ar by simp only[dw,decide_eq_true_eq];omega];rfl
  · have e:(((((ab ((x.params:Int)<0)||ab ((3:Int)<x.params))||ab ((x.regs:Int)<1))||ab ((x.regs:Int)<x.params))||ab ((40:Int)<x.regs))||(ab ((i:Int)=0)&&ab ((0:Int)<x.params)))=true:=by
      simp only[dw,cL,decide_eq_true_eq];omega
    rw[e,if_neg a];rfl
def heads:Nat->List bA->Int
 |_,[]=>0
 |i,x::p=>if Kv i x≠0 then Kv i x else heads (i+1) p
theorem Z4(k:Unit->Option Int):∀(p:List bA) (i:Nat),ic oq k (i:Int) p ()=if heads i p≠0 then aj (heads i p)else k ()
 |[],i=>by simp[heads,ic]
 |x::p,i=>by
  show oq (i:Int) x () (ic oq k ((i:Int)+1) p)=_;rw[b39_eq,show((i:Int)+1)=((i+1:Nat):Int) by omega,Z4 k p (i+1),heads];by_cases h:Kv i x=0<;>simp[h]
def tY(x:bA):Prop:=1<=x.code.length/\x.code.length<=2000
theorem gL{α σ ρ:Type}{body:α->σ->(σ->ρ)->ρ}{k:σ->ρ}(x:α)(l:List α)(s:σ):each body k (x::l) s=body x s (each body k l):=rfl
theorem b8_tot(d:Int):∀l:List Int,∃y,each (yj d) Fa l ()=aj y
 |[]=>⟨0,rfl⟩
 |x::l=>by
  obtain⟨y,a⟩:=b8_tot d l;rw[gL];unfold yj;cases (!(ab ((0:Int)<=x)&&ab ((x:Int)<d)))with
  |true=>exact⟨3,rfl⟩
  |false=>exact⟨y,a⟩
theorem j5_tot(j:Bool)(a:Ins)(b f:Int)(c:List bA)(e g d k:Int):∃y,iA j a b f c e g d k=aj y/\(y=0->(a.args.length:Int)=g):=by
 unfold iA;cases j with
 |false=>exact⟨3,rfl,fun h=>absurd h zq1⟩
 |true=>
  simp only[eo,cond_false];generalize i:(((ab ((a.a:Int)≠k)||ab ((a.b:Int)≠f))||ab ((a.c:Int)≠e))||ab (((a.args.length:Int):Int)≠g))=C;cases C with
  |true=>exact⟨4,rfl,fun h=>absurd h zq1⟩
  |false=>
   simp only[cY,decide_eq_false_iff_not,en]at i;simp only[cond_false];cases ab ((a.op:Int)=7)with
   |true=>obtain⟨y,l⟩:=b8_tot d a.args;exact⟨y,l,fun _=>i.2⟩
   |false=>exact⟨0,rfl,fun _=>i.2⟩
theorem j4_tot(a:Ins)(b:Int)(c:List bA)(d:Int)(h:Bool)(g i f e:Int):∃y,eB a b c d h g i f e=aj y/\(y=0->(a.args.length:Int)=g):=by
 unfold eB;cases ab ((a.op:Int)=12)with
 |true=>exact j5_tot h a b f c e g d 0
 |false=>exact j5_tot h a b f c e g d i
def InsT(a:Ins)(r:Option Int):Prop:=∃y,r=aj y/\(y=0->a.args.length<=3)
theorem j4_t(a:Ins)(b:Int)(c:List bA)(d:Int)(j:Bool){g:Int}(i f e:Int)(h:g<=3):InsT a (eB a b c d j g i f e):=by
 obtain⟨y,k,l⟩:=j4_tot a b c d j g i f e;exact⟨y,k,fun m=>by have:=l m;omega⟩
theorem xY{a:Ins}{c:Bool}{x y:Option Int}(b:InsT a x)(d:InsT a y):InsT a (bif c then x else y):=by
  cases c
  · exact d
  · exact b
theorem Z5{a:Ins}{e:Int}(h:e≠0):InsT a (aj e):=⟨e,rfl,fun b=>absurd b h⟩
theorem check_ins(a:Ins)(b:Int)(c:List bA)(d e:Int)(hp:∀x∈c,x.params<=3):InsT a (kY a b c d e):=by
  unfold kY;refine xY (Z5 zq1)<|xY (Z5 zq1)<|xY (j4_t _ _ _ _ _ _ _ _ zq1)<|xY (j4_t _ _ _ _ _ _ _ _ zq1) ?_;have f:∀x,InsT a (fV a b c d x):=fun x=>by
    unfold fV;exact xY (j4_t _ _ _ _ _ _ _ _ zq1)<|xY (j4_t _ _ _ _ _ _ _ _ zq1)<|j4_t _ _ _ _ _ _ _ _ zq1
  have h:∀x,InsT a (gJ a b c d e x):=fun x=>by
    unfold gJ;refine xY (j4_t _ _ _ _ _ _ _ _ zq1) ?_;cases ab ((a.op:Int)=7)with
    |false=>
      rw[cond_false];exact xY (f _)<|xY (f _)<|f _
    |true=>
      simp only[cond_true];rw[Ud];cases hb:bI a.b (c.length:Int)with
      |false=>exact Z5 zq1
      |true=>
        simp only[eo,cond_false];unfold bI at hb;simp only[cL,decide_eq_true_eq]at hb;obtain⟨n,hn⟩:=bs hb.1;rw[hn,xh V,cH];exact j4_t _ _ _ _ _ _ _ _<|hp _<|cx _
  have g:∀x,InsT a (gK a b c d e x):=fun x=>by
    unfold gK;refine xY (j4_t _ _ _ _ _ _ _ _ zq1) ?_;cases ab ((a.op:Int)=3)with
    |false=>
      rw[cond_false];exact xY (h _)<|h _
    |true=>
      simp only[cond_true];by_cases j:a.args.length=1
      · rw[dT (show((a.args.length:Int):Int)=1 by omega)];obtain⟨y,i⟩:=len_one.1 j;simp only[cond_true];rw[show idx a.args 0=aj y by rw[i,idx0],cH];exact j4_t _ _ _ _ _ _ _ _ zq1
      · rw[dF (show¬((a.args.length:Int):Int)=1 by omega)];exact j4_t _ _ _ _ _ _ _ _ zq1
  exact xY (g _)<|g _
def Good(a:List bA):Prop:=a.length<=4/\∀x∈a,tY x/\∀c∈x.code,c.args.length<=3
theorem headOk_zero{i:Nat}{x:bA}(h:Kv i x=0):x.params<=3/\tY x:=by
  unfold Kv at h;split at h
  · split at h
    · exact⟨by omega,by unfold tY;omega⟩
    · cases h
  · cases h
theorem Z6:∀(p:List bA) (i:Nat),heads i p=0->∀x∈p,x.params<=3/\tY x
  |[],_,_,x,hx=>by cases hx
  |y::p,i,h,x,hx=>by
    unfold heads at h;split at h
    · rename_i a;exact absurd h a
    · rename_i a;rcases bn.1 hx with rfl|hx
      · exact headOk_zero<|en.1 a
      · exact Z6 p (i+1) h x hx
theorem b35_tot(a:List bA)(x:bA)(k:Unit->Option Int)(hp:∀x∈a,x.params<=3)(Q:Prop)(g:∃y,k ()=aj y/\(y=0->Q)):∀(l:List Ins) (i:Int),∃y,ic (kQ a x) k i l ()=aj y/\(y=0->Q/\∀c∈l,c.args.length<=3)
  |[],i=>by
    obtain⟨y,e,b⟩:=g;exact⟨y,e,fun h=>⟨b h,by intro c m;cases m⟩⟩
  |c::l,i=>by
    obtain⟨y,e,b⟩:=b35_tot a x k hp Q g l<|i+1;have j:ic (kQ a x) k i (c::l) ()=kQ a x i c () (ic (kQ a x) k (i+1) l):=rfl;rw[j];unfold kQ;obtain⟨z,g1,g2⟩:=check_ins c i a x.regs (x.code.length:Int) hp;rw[g1,cH];by_cases hz:z=0
    · rw[dF V,cond_false];refine⟨y,e,fun h=>⟨(b h).1,fun d f=>?_⟩⟩;rcases bn.1 f with rfl|f
      · exact g2 hz
      · exact(b h).2 d f
    · rw[dT hz,cond_true];exact⟨z,Z,fun h=>absurd h hz⟩
theorem b37_tot(a:List bA)(hp:∀x∈a,x.params<=3/\tY x):∀l:List bA,(∀x∈l,x.params<=3/\tY x)->∃y,each (sK a) zy l ()=aj y/\(y=0->∀x∈l,∀c∈x.code,c.args.length<=3)
  |[],_=>⟨0,rfl,fun _ x b=>by cases b⟩
  |x::l,hl=>by
    obtain⟨y,e,g⟩:=b37_tot a hp l fun z hz=>hl z<|bk _ hz;rw[gL];unfold sK;have b:=hl x zq3;obtain⟨z,g1,g2⟩:=b35_tot a x (zx x (each (sK a) zy l)) (fun x b=>(hp x b).1) (∀x∈l,∀c∈x.code,c.args.length<=3) (by
      unfold zx;have f:=b.2;unfold tY at f;rw[gI,show((x.code.length:Int)-1)=((x.code.length-1:Nat):Int) by omega,xh V,cH];cases (ab ((x.code[x.code.length-1].op:Int)≠8)&&ab ((x.code[x.code.length-1].op:Int)≠12))with
      |true=>exact⟨4,rfl,fun h=>absurd h zq1⟩
      |false=>exact⟨y,e,g⟩) x.code 0
    refine⟨z,g1,fun h=>?_⟩;intro w d;rcases bn.1 d with rfl|d
    · exact(g2 h).2
    · exact(g2 h).1 w d
theorem check_tot(a:List bA):∃y,sM a=aj y/\(y=0->Good a):=by
  unfold sM;generalize d:(ab (((a.length:Int):Int)=0)||ab ((4:Int)<(a.length:Int)))=C;cases C with
  |true=>exact⟨2,rfl,fun h=>absurd h zq1⟩
  |false=>
    simp only[cY,decide_eq_false_iff_not]at d;have c:ic oq (wB a) 0 a ()=_:=Z4 (wB a) a 0;rw[cond_false,c];by_cases hz:heads 0 a=0
    · rw[if_neg V];have hp:=Z6 a 0 hz;obtain⟨y,g1,g2⟩:=b37_tot a hp a hp;exact⟨y,g1,fun h=>⟨by omega,fun x b=>⟨(hp x b).2,g2 h x b⟩⟩⟩
    · rw[if_pos hz];exact⟨_,Z,fun h=>absurd h hz⟩
def Js(a:List bA):Int:=(sM a).getD 0
theorem WJ(a:List bA):sM a=aj (Js a):=by
 obtain⟨y,h,_⟩:=check_tot a;unfold Js;rw[h];rfl
def Gt(R x:Int):Prop:=0<=x/\x<R
def NT(a:List bA)(R L:Int)(c:Ins):Prop:=
 (c.op=1/\Gt R c.a/\(-1000000000<=c.b/\c.b<=1000000000))\/
 (c.op=2/\Gt R c.a/\Gt R c.b)\/
 (c.op=3/\Gt R c.a/\Gt R c.b/\Gt R c.c/\∃n,c.args=[n]/\1<=n/\n<=5)\/
 ((c.op=4\/c.op=6)/\Gt R c.a/\Gt R c.b/\(0<=c.c/\c.c<4))\/
 (c.op=5/\Gt R c.a/\(1<=c.b/\c.b<=4))\/
 (c.op=7/\Gt R c.a/\(∃p,idx a c.b=aj p/\(c.args.length:Int)=p.params)/\∀x∈c.args,Gt R x)\/
 ((c.op=8\/c.op=9\/c.op=11)/\Gt R c.a)\/
 c.op=10\/
 (c.op=12/\(0<=c.b/\c.b<L))\/
 (c.op=13/\Gt R c.a/\(0<=c.b/\c.b<L))
theorem each_b8(R:Int):∀l:List Int,each (yj R) Fa l ()=aj 0->∀x∈l,Gt R x
  |[],_,x,hx=>by cases hx
  |y::l,h,x,hx=>by
    rw[gL]at h;unfold yj at h;cases e:(!(ab ((0:Int)<=y)&&ab ((y:Int)<R)))with
    |true=>rw[e,cond_true]at h;cases h
    |false=>
      rw[e,cond_false]at h;rcases bn.1 hx with rfl|hx
      · simp at e;exact e
      · exact each_b8 R l h x hx
theorem insG_of{c:Ins}{i:Int}{a:List bA}{R L:Int}(h:kY c i a R L=aj 0):NT a R L c:=by
  obtain⟨op,u,v,w,args⟩:=c;by_cases o:op=1
  · subst o;simp[kY,fF,gT,jE,jY,jg,eB,iA,gK,gJ,fV,de]at h;simp[NT,Gt]
    (repeat (split at h;·simp at h))
    omega
  by_cases t:op=2
  · subst t;simp[kY,fF,gT,jE,jY,jg,eB,iA,gK,gJ,fV,de]at h;simp[NT,Gt]
    (repeat (split at h;·simp at h))
    omega
  by_cases q:op=3
  · subst q;simp[kY,fF,gT,jE,jY,jg,eB,iA,gK,gJ,fV,de]at h;simp[NT,Gt];by_cases k:args.length=1
    · obtain⟨y,rfl⟩:=len_one.1 k;simp[idx0]at h;split at h
      · simp at h
      split at h
      · simp at h
      refine⟨by omega,by omega,by omega,y,Z,by omega,by omega⟩
    · exfalso;rw[if_neg (show¬((args.length:Int)=1) by omega)]at h;split at h<;>simp at h
  by_cases j:op=4
  · subst j;simp[kY,fF,gT,jE,jY,jg,eB,iA,gK,gJ,fV,de]at h;simp[NT,Gt]
    (repeat (split at h;·simp at h))
    omega
  by_cases s:op=5
  · subst s;simp[kY,fF,gT,jE,jY,jg,eB,iA,gK,gJ,fV,de]at h;simp[NT,Gt]
    (repeat (split at h;·simp at h))
    omega
  by_cases g:op=6
  · subst g;simp[kY,fF,gT,jE,jY,jg,eB,iA,gK,gJ,fV,de]at h;simp[NT,Gt]
    (repeat (split at h;·simp at h))
    omega
  by_cases m:op=7
  · subst m;simp[kY,fF,gT,jE,jY,jg,eB,iA,gK,gJ,fV,de]at h;simp[NT,Gt];split at h
    · simp at h
    split at h
    · simp at h
    obtain⟨p,hp,h⟩:=az h
    (repeat (split at h;·simp at h))
    refine⟨by omega,⟨p,hp,by omega⟩,fun x l=>each_b8 R args h x l⟩
  by_cases r:op=8
  · subst r;simp[kY,fF,gT,jE,jY,jg,eB,iA,gK,gJ,fV,de]at h;simp[NT,Gt]
    (repeat (split at h;·simp at h))
    omega
  by_cases n:op=9
  · subst n;simp[kY,fF,gT,jE,jY,jg,eB,iA,gK,gJ,fV,de]at h;simp[NT,Gt]
    (repeat (split at h;·simp at h))
    omega
  by_cases b:op=10
  · subst b;simp[NT,Gt]
  by_cases e:op=11
  · subst e;simp[kY,fF,gT,jE,jY,jg,eB,iA,gK,gJ,fV,de]at h;simp[NT,Gt]
    (repeat (split at h;·simp at h))
    omega
  by_cases f:op=12
  · subst f;simp[kY,fF,gT,jE,jY,jg,eB,iA,gK,gJ,fV,de]at h;simp[NT,Gt]
    (repeat (split at h;·simp at h))
    omega
  by_cases d:op=13
  · subst d;simp[kY,fF,gT,jE,jY,jg,eB,iA,gK,gJ,fV,de]at h;simp[NT,Gt]
    (repeat (split at h;·simp at h))
    omega
  · exfalso;simp[kY,fF,gT,jE,jY,jg,eB,iA,gK,gJ,fV,de, *]at h
structure mU(a:List bA):Prop where
 many:1<=a.length/\a.length<=4
 head:∀(i:Nat) x,a[i]? =aj x->(0<=x.params/\x.params<=3)/\(1<=x.regs/\x.params<=x.regs/\x.regs<=40)/\¬(i=0/\x.params≠0)/\tY x
 last:∀x∈a,∃c,idx x.code ((x.code.length:Int)-1)=aj c/\(c.op=8\/c.op=12)
 ins:∀x∈a,∀c∈x.code,NT a x.regs x.code.length c
theorem heads_all:∀(p:List bA) (j:Nat),heads j p=0->∀(i:Nat) x,p[i]? =aj x->Kv (j+i) x=0
  |[],j,_,i,x,hx=>by simp at hx
  |y::p,j,h,i,x,hx=>by
    unfold heads at h;split at h
    · rename_i a;exact absurd h a
    · rename_i a;cases i with
      |zero=>simp at hx;subst hx;exact en.1 a
      |succ i=>rw[show j+(i+1)=(j+1)+i by omega];exact heads_all p (j+1) h i x (by simpa using hx)
theorem b35_ins(a:List bA)(x:bA)(k:Unit->Option Int):∀(l:List Ins) (i:Int),ic (kQ a x) k i l ()=aj 0->k ()=aj 0/\∀c∈l,NT a x.regs x.code.length c
  |[],i,h=>⟨h,fun c b=>by cases b⟩
  |y::l,i,h=>by
    have e:ic (kQ a x) k i (y::l) ()=kQ a x i y () (ic (kQ a x) k (i+1) l):=rfl;rw[e]at h;unfold kQ at h;obtain⟨z,hz,h⟩:=az h;by_cases d:z=0
    · subst d;rw[dF zq3,cond_false]at h;obtain⟨f,g⟩:=b35_ins a x k l (i+1) h;refine⟨f,fun c b=>?_⟩;rcases bn.1 b with rfl|b
      · exact insG_of hz
      · exact g c b
    · rw[dT d,cond_true]at h;exact absurd (osi h) d
theorem b37_ins(a:List bA):∀l:List bA,each (sK a) zy l ()=aj 0->∀x∈l,(∃c,idx x.code ((x.code.length:Int)-1)=aj c/\(c.op=8\/c.op=12))/\∀c∈x.code,NT a x.regs x.code.length c
  |[],_,x,hx=>by cases hx
  |y::l,h,x,hx=>by
    rw[gL]at h;unfold sK at h;obtain⟨b,d⟩:=b35_ins a y _ y.code 0 h;unfold zx at b;obtain⟨_,b⟩:=bG b;obtain⟨c,f,b⟩:=az b;cases e:(ab ((c.op:Int)≠8)&&ab ((c.op:Int)≠12))with
    |true=>rw[e,cond_true]at b;cases b
    |false=>
      rw[e,cond_false]at b;rcases bn.1 hx with rfl|hx
      · exact⟨⟨c,f,by simp only[cE,decide_eq_false_iff_not,en]at e;exact e⟩,d⟩
      · exact b37_ins a l b x hx
theorem pg{a:List bA}(h:Js a=0):mU a:=by
  have b:=WJ a;rw[h]at b;unfold sM at b;generalize f:(ab (((a.length:Int):Int)=0)||ab ((4:Int)<(a.length:Int)))=C at b;cases C with
  |true=>cases b
  |false=>
    simp only[cY,decide_eq_false_iff_not]at f;have e:ic oq (wB a) 0 a ()=_:=Z4 (wB a) a 0;rw[cond_false,e]at b;by_cases hz:heads 0 a=0
    · rw[if_neg V]at b;have d:=b37_ins a a b;refine⟨by omega,fun i x c=>?_,fun x c=>(d x c).1,fun x c=>(d x c).2⟩;have:=heads_all a 0 hz i x c;rw[Nat.zero_add]at this;unfold Kv at this;split at this
      · rename_i g;split at this
        · rename_i g2;exact⟨g.1,g.2.1,g.2.2,g2⟩
        · cases this
      · cases this
    · rw[if_pos hz]at b;exact absurd (osi b) hz
theorem yP{α σ ρ:Type}{body:Int->α->σ->(σ->ρ)->ρ}{k:σ->ρ}(i:Int)(x:α)(l:List α)(s:σ):ic body k i (x::l) s=body i x s (ic body k (i+1) l):=rfl
theorem WM{σ ρ:Type}{body:Int->σ->(σ->ρ)->ρ}{k:σ->ρ}(i:Int)(m:Nat)(s:σ):upto body k i (m+1) s=body i s (upto body k (i+1) m):=rfl
theorem Hg{σ β:Type}{body:σ->(σ->Option β)->Option β}{m:Nat}{s:σ}:again body (m+1) s=body s (again body m):=rfl
def kE(n:Nat)(v:Val):Prop:=(v.kind=0/\v.n=0)\/(v.kind=1/\ -1000000000<=v.n/\v.n<=1000000000)\/(v.kind=2/\0<=v.n/\v.n<n)
instance (n:Nat) (v:Val):Decidable (kE n v):=inferInstanceAs (Decidable (_\/_))
theorem wO(n:Nat)(v:Val):jk v (n:Int)=0↔kE n v:=by
  obtain⟨k,m⟩:=v;simp only[jk,kE,de,dw,decide_eq_true_eq];constructor
  · intro h
    (repeat' split at h)<;>first|omega|(exfalso;omega)
  · intro h;rcases h with⟨h1,h2⟩|⟨h1,h2⟩|⟨h1,h2⟩
    · rw[if_pos h1,if_neg V]
    · rw[if_neg V,if_pos h1,if_neg V]
    · rw[if_neg V,if_neg V,if_pos h1,if_neg V]
theorem value_eq(v:Val)(n:Int):gU v n=jk v n:=by
 obtain⟨k,m⟩:=v;simp only[jk,gU,uE,bu,kg,bI,de,dw,cL,gk,decide_eq_true_eq,decide_eq_false_iff_not,cE]
 (repeat' split)<;>first|rfl|(exfalso;omega)
def vM(l:List (List Val)):Prop:=l.length<=24/\∀c∈l,(1<=c.length/\c.length<=4)/\∀v∈c,kE l.length v
theorem cells_eq(a:List (List Val)):rA a=mO a:=by
 unfold rA mO;have k1:∀(l:List Val) (f:Unit->Int),each (oz a) (oC f) l ()=each (mG a) (lq f) l ():=by
  intro l f;induction l with
  |nil=>rfl
  |cons x l ih=>
   show(bif ab ((gU x (a.length:Int):Int)≠0)then gU x (a.length:Int)else each (oz a) (oC f) l ())=(bif ab ((jk x (a.length:Int):Int)≠0)then jk x (a.length:Int)else each (mG a) (lq f) l ());rw[value_eq,ih]
 have k2:∀l:List (List Val),each (oD a) oF l ()=each (ow a) mH l ():=by
  intro l;induction l with
  |nil=>rfl
  |cons x l ih=>
   show(bif (!(bu (x.length:Int) 1 4))then 2 else each (oz a) (oC<|each (oD a) oF l) x ())=(bif (ab (((x.length:Int):Int)=0)||ab ((4:Int)<(x.length:Int)))then 2 else each (mG a) (lq<|each (ow a) mH l) x ());have e:(!(bu (x.length:Int) 1 4))=(ab (((x.length:Int):Int)=0)||ab ((4:Int)<(x.length:Int))):=by
    unfold bu;rw[ey];simp only[dw,gk,cE,decide_eq_true_eq,decide_eq_false_iff_not];omega
   rw[e,k1];have:each (oD a) oF l=each (ow a) mH l:=by funext u;exact ih
   rw[this]
 rw[k2]
theorem all_ok(a:List (List Val)):mO a=0↔vM a:=by
  have k1:∀(l:List Val) (f:Unit->Int),each (mG a) (lq f) l ()=0↔(∀v∈l,kE a.length v)/\f ()=0:=by
    intro l f;induction l with
    |nil=>simp[qU,lq]
    |cons x l ih=>
      show(bif ab ((jk x (a.length:Int):Int)≠0)then jk x (a.length:Int)else each (mG a) (lq f) l ())=0↔_;by_cases h:jk x (a.length:Int)=0
      · rw[dF V,cond_false,ih];have:=(wO _ _).1 h;simp[this]
      · rw[dT h,cond_true];have b:¬kE a.length x:=fun e=>h ((wO _ _).2 e);simp[h,b]
  have k2:∀l:List (List Val),each (ow a) mH l ()=0↔∀c∈l,(1<=c.length/\c.length<=4)/\∀v∈c,kE a.length v:=by
    intro l;induction l with
    |nil=>simp[qU,mH]
    |cons x l ih=>
      show(bif (ab (((x.length:Int):Int)=0)||ab ((4:Int)<(x.length:Int)))then 2 else each (mG a) (lq<|each (ow a) mH l) x ())=0↔_;by_cases h:1<=x.length/\x.length<=4
      · rw[show(ab (((x.length:Int):Int)=0)||ab ((4:Int)<(x.length:Int)))=aq by simp only[cY,decide_eq_false_iff_not];omega,cond_false,k1,ih];simp[h]
      · rw[show(ab (((x.length:Int):Int)=0)||ab ((4:Int)<(x.length:Int)))=ar by simp only[dw,decide_eq_true_eq];omega,cond_true];simp[h]
  unfold mO vM;by_cases h:a.length<=24
  · rw[dF V,cond_false,k2];simp[h]
  · rw[dT V,cond_true];simp[h]
structure Kw(a:List bA)(n:Nat)(f:LX.Frame)(x:bA):Prop where
 proc:idx a f.proc=aj x
 at_:0<=f.at_/\f.at_<x.code.length
 regs:(f.regs.length:Int)=x.regs
 vals:∀v∈f.regs,kE n v
def nC(a:List bA)(n:Nat):Int->List LX.Frame->Prop
 |_,[]=>True
 |ahead,f::l=>(∃x,Kw a n f x)/\(0<=f.jK/\f.jK<ahead)/\nC a n f.regs.length l
structure vI(a:List bA)(s:LX.State):Prop where
 status:0<=s.status/\s.status<=3
 bT: -1000000000<=s.bT/\s.bT<=1000000000
 stay:s.status≠3->s.bT=0
 ended:s.status=1↔s.frames=[]
 many:s.frames.length<=10
 cells:vM s.cells
 frames:nC a s.cells.length 1 s.frames
def ahead(pre:List LX.Frame):Int:=match pre.getLast? with|none=>1|some f=>f.regs.length
theorem ahead_nil:ahead []=1:=rfl
theorem Sl(pre:List LX.Frame)(f:LX.Frame):ahead (pre++[f])=f.regs.length:=by simp[ahead]
theorem WN(b:LX.State)(f:LX.Frame)(c:Unit->Option Int)(a:Int->Option Int)(hn:c ()=a f.regs.length):∀l:List Val,each (xB b) (xC c) l ()=each (tC b) (tF a f) l ()
 |[]=>hn
 |x::l=>by
  show(bif ab ((jk x (b.cells.length:Int):Int)≠0)then aj (jk x (b.cells.length:Int))else each (xB b) (xC c) l ())=(bif ab ((gU x (b.cells.length:Int):Int)≠0)then aj (gU x (b.cells.length:Int))else each (tC b) (tF a f) l ());rw[value_eq,WN b f c a hn l]
theorem vals_tot(b:LX.State)(a:Unit->Option Int)(Q:Prop)(hn:∃y,a ()=aj y/\(y=0↔Q)):∀l:List Val,∃y,each (xB b) (xC a) l ()=aj y/\(y=0↔(∀v∈l,kE b.cells.length v)/\Q)
  |[]=>by obtain⟨y,c,d⟩:=hn;exact⟨y,c,by simp[d]⟩
  |x::l=>by
    obtain⟨y,c,d⟩:=vals_tot b a Q hn l;have e:each (xB b) (xC a) (x::l) ()=(bif ab ((jk x (b.cells.length:Int):Int)≠0)then aj (jk x (b.cells.length:Int))else each (xB b) (xC a) l ()):=rfl;rw[e];by_cases h:jk x (b.cells.length:Int)=0
    · rw[dF V,cond_false];have:=(wO _ _).1 h;exact⟨y,c,by rw[d];simp[this]⟩
    · rw[dT h,cond_true];refine⟨_,Z,?_⟩;have f:¬kE b.cells.length x:=fun e=>h ((wO _ _).2 e);simp[h,f]
theorem Xw(a:List bA)(b:LX.State)(k:b.frames.length<=10):∀(l pre:List LX.Frame),b.frames=pre++l->
    ic (Dv a b) GY (pre.length:Int) l ()=each (je a b) lY l (ahead pre)
  |[],pre,h=>rfl
  |f::l,pre,h=>by
    have e:=Xw a b k l (pre++[f]) (by simpa using h);rw[Sl]at e;have n:(((pre++[f]).length:Nat):Int)=(pre.length:Int)+1:=by simp
    rw[n]at e;rw[yP,gL];generalize ic (Dv a b) GY ((pre.length:Int)+1) l=K1 at e⊢;generalize each (je a b) lY l=K2 at e⊢;unfold Dv je;have o:pre.length<=10:=by have:=congrArg fa h;simp at this;omega
    have m:(ab ((f.proc:Int)<0)||ab (((a.length:Int):Int)<=f.proc))= !bI f.proc (a.length:Int):=Ud _ _;rw[m];cases hp:bI f.proc (a.length:Int)with
    |false=>rfl
    |true=>
      simp only[eo,cond_false];cases hx:idx a f.proc with
      |none=>rfl
      |some x=>
        simp only[bnd];cases ha:bI f.at_ (x.code.length:Int)with
        |false=>
          rw[show(((ab ((f.at_:Int)<0)||ab (((x.code.length:Int):Int)<=f.at_))||ab ((f.jK:Int)<0))||(ab ((pre.length:Int)=0)&&ab ((f.jK:Int)≠0)))=ar by
            have:=Ud f.at_ (x.code.length:Int);rw[ha]at this;rw[this];rfl]
          rfl
        |true=>
          have j:=Ud f.at_ (x.code.length:Int);rw[ha]at j;rw[j];simp only[eo,oE,cond_false];have i:∀t,Ai f x b K1 t=kv a f b K2 t:=by
            intro t;unfold Ai kv;rw[hx,bnd,WN b f _ _ e]
          simp only[i];rcases gf pre with rfl|⟨q,g,rfl⟩
          · rw[ahead_nil];by_cases c:f.jK=0
            · rw[show(ab ((f.jK:Int)<0)||(ab ((([]:List LX.Frame).length:Int)=0)&&ab ((f.jK:Int)≠0)))=aq by simp[c],cond_false,dF zq3,cond_false,show(!bI f.jK 1)=aq by simp[c,bI]]
            · rw[show(ab ((f.jK:Int)<0)||(ab ((([]:List LX.Frame).length:Int)=0)&&ab ((f.jK:Int)≠0)))=ar by simp[c],cond_true,show(!bI f.jK 1)=ar by simp[bI];omega]
          · rw[gh]at*;rw[Sl];have d:((q++[g]).length:Int)=(q.length:Int)+1:=by simp
            rw[d,show(ab ((q.length:Int)+1=0))=aq from dF V,Bool.false_and,Bool.or_false];by_cases c:f.jK<0
            · rw[dT c,cond_true,show(!bI f.jK (g.regs.length:Int))=ar by simp[bI];omega]
            · rw[dF c,cond_false,dT V,cond_true,gI V (by simp at o;omega),show(q.length:Int)+1-1=((q.length:Nat):Int) by omega,lh,h];simp only[cg,gx (bt _),Nat.sub_self,et,cQ,kO,bnd];congr 1;rw[ey];simp[bI];omega
theorem Z7(a:List bA)(b:LX.State):IA a b=xH a b:=by
  unfold IA xH;have f:(((ab ((b.status:Int)<0)||ab ((3:Int)<b.status))||ab ((b.bT:Int)< -1000000000))||ab ((1000000000:Int)<b.bT))=((!(bu b.status 0 3))||(!(kg b.bT))):=by
    unfold kg bu;rw[ey];simp only[dw,gk,cE,decide_eq_true_eq,decide_eq_false_iff_not];omega
  have g:((ab ((b.status:Int)≠3)&&ab ((b.bT:Int)≠0))||(ab ((b.status:Int)=1) !=ab (((b.frames.length:Int):Int)=0)))=(((ab ((b.bT:Int)≠0)&&ab ((b.status:Int)≠3))||(ab ((b.status:Int)=1)&&ab ((0:Int)<(b.frames.length:Int))))||(ab ((b.status:Int)≠1)&&ab (((b.frames.length:Int):Int)=0))):=by
    by_cases d:b.status=1<;>by_cases i:b.frames.length=0<;>by_cases e:b.status=3<;>by_cases c:b.bT=0<;>simp[d,i,e,c]<;>omega
  rw[f,g,cells_eq];by_cases h:b.frames.length<=10
  · have:=Xw a b h b.frames [] Z;rw[ahead_nil]at this;rw[<-this];rfl
  · rw[show(ab ((10:Int)<(b.frames.length:Int)))=ar from dT V];rfl
theorem Z8(a:List bA)(b:LX.State):∀(l:List LX.Frame) (t:Int),∃y,each (je a b) lY l t=aj y/\(y=0↔nC a b.cells.length t l)
  |[],t=>⟨0,rfl,by simp[nC]⟩
  |f::l,t=>by
    obtain⟨y,i,m⟩:=Z8 a b l f.regs.length;rw[gL];generalize each (je a b) lY l=K2 at i⊢;unfold je;cases hp:bI f.proc (a.length:Int)with
    |false=>
      refine⟨5,Z,?_⟩;have:¬nC a b.cells.length t (f::l):=by
        rintro⟨⟨x,g⟩,-,-⟩;have:=aF g.proc;have j:=(kp.1 this.2).1;unfold bI at hp;simp only[cE,decide_eq_false_iff_not]at hp;omega
      simp[this]
    |true=>
      unfold bI at hp;simp only[cL,decide_eq_true_eq]at hp;simp only[eo,cond_false];obtain⟨n,hn⟩:=bs hp.1;have d:idx a f.proc=aj (a[n]'V):=by rw[hn,xh V]
      generalize a[n]'V=x at d;rw[d,bnd];have kB:∃y,kv a f b K2 ar=aj y/\y≠0:=⟨3,Z,by decide⟩;have c:∀z,Kw a b.cells.length f z->z=x:=fun z g=>by have:=g.proc;rw[d]at this;exact(osi this).symm
      cases ha:bI f.at_ (x.code.length:Int)with
      |false=>
        obtain⟨y,g1,g2⟩:=kB;refine⟨y,g1,?_⟩;have:¬nC a b.cells.length t (f::l):=by
          rintro⟨⟨z,g⟩,-,-⟩;have:=c z g;subst this;have:=g.at_;unfold bI at ha;simp only[cE,decide_eq_false_iff_not]at ha;omega
        simp[this,g2]
      |true=>
        simp only[eo,cond_false];cases ht:bI f.jK t with
        |false=>
          obtain⟨y,g1,g2⟩:=kB;refine⟨y,g1,?_⟩;have:¬nC a b.cells.length t (f::l):=by
            rintro⟨⟨z,g⟩,j,-⟩;unfold bI at ht;simp only[cE,decide_eq_false_iff_not]at ht;omega
          simp[this,g2]
        |true=>
          simp only[eo];unfold kv;rw[d,cond_false,bnd];unfold bI at ha ht;simp only[cL,decide_eq_true_eq]at ha ht;by_cases e:(f.regs.length:Int)=x.regs
          · rw[dF V,cond_false,<-WN b f (fun _=>K2 f.regs.length) _ rfl];obtain⟨z,g1,g2⟩:=vals_tot b (fun _=>K2 f.regs.length) _ ⟨y,i,m⟩ f.regs;refine⟨z,g1,g2.trans ⟨fun h=>⟨⟨x,d,ha,e,h.1⟩,ht,h.2⟩,?_⟩⟩;rintro⟨⟨z,g⟩,j,k⟩;exact⟨g.vals,k⟩
          · rw[dT V,cond_true];refine⟨4,Z,?_⟩;have:¬nC a b.cells.length t (f::l):=by
              rintro⟨⟨z,g⟩,-,-⟩;have:=c z g;subst this;exact e g.regs
            simp[this]
theorem Z9(a:List bA)(b:LX.State):∃y,IA a b=aj y/\(y=0↔vI a b):=by
  rw[Z7];unfold xH;cases c1:((!(bu b.status 0 3))||(!(kg b.bT)))with
  |true=>
    refine⟨3,Z,⟨fun h=>absurd h zq1,fun h=>?_⟩⟩;unfold kg bu at c1;simp only[dw,gk,cE,decide_eq_false_iff_not]at c1;have:=h.status;have:=h.bT;omega
  |false=>
    unfold kg bu at c1;simp only[cY,Bool.not_eq_false',cL,decide_eq_true_eq]at c1;rw[cond_false];cases c2:(((ab ((b.bT:Int)≠0)&&ab ((b.status:Int)≠3))||(ab ((b.status:Int)=1)&&ab ((0:Int)<(b.frames.length:Int))))||(ab ((b.status:Int)≠1)&&ab (((b.frames.length:Int):Int)=0)))with
    |true=>
      refine⟨4,Z,⟨fun h=>absurd h zq1,fun h=>?_⟩⟩;simp only[dw,cL,decide_eq_true_eq]at c2;rcases c2 with(c2|c2)|c2
      · exact absurd (h.stay c2.2) c2.1
      · have:=h.ended.1 c2.1;rw[this]at c2;simp at c2
      · exact absurd (h.ended.2<|cm V) c2.1
    |false=>
      simp only[cY,cE,decide_eq_false_iff_not]at c2;rw[cond_false];by_cases e:b.frames.length<=10
      · rw[dF V,cond_false,cells_eq];by_cases c:mO b.cells=0
        · rw[dF V,cond_false];obtain⟨y,f,g⟩:=Z8 a b b.frames 1;refine⟨y,f,g.trans ⟨fun h=>⟨by omega,by omega,fun d=>by omega,⟨fun d=>?_,fun d=>?_⟩,e,(all_ok _).1 c,h⟩,fun h=>h.frames⟩⟩
          · exact cm V
          · rw[d]at c2;simp at c2;omega
        · rw[dT c,cond_true];exact⟨_,Z,⟨fun h=>absurd h c,fun h=>absurd ((all_ok _).2 h.cells) c⟩⟩
      · rw[dT V,cond_true];exact⟨2,Z,⟨fun h=>absurd h zq1,fun h=>absurd h.many e⟩⟩
def ckS(a:List bA)(s:LX.State):Int:=(IA a s).getD 0
theorem ckS_eq(a:List bA)(s:LX.State):IA a s=aj (ckS a s):=by obtain⟨y,h,-⟩:=Z9 a s;unfold ckS;rw[h];rfl
theorem Jk{a:List bA}{s:LX.State}:ckS a s=0↔vI a s:=by obtain⟨y,h,b⟩:=Z9 a s;unfold ckS;rw[h];exact b
theorem J3(a:List bA)(s:LX.State):FN a s=aj (if Js a≠0 then Js a else ckS a s):=by
  unfold FN;rw[WJ,bnd];by_cases h:Js a=0
  · rw[dF V,cond_false,ckS_eq,bnd,if_neg V]
  · rw[dT h,cond_true,if_pos h]
theorem eqVals(a b:List Val):pR a b=aj (ab (a=b)):=by
  unfold pR;by_cases h:a.length=b.length
  · rw[dF V];simp only[cond_false,bj];rw[UO (fun x y=>ab (x=y)) a b h rfl (fun i x y j d g=>by
      unfold yB;rw[lh,lh,d,g];obtain⟨k,n⟩:=x;obtain⟨k2,c⟩:=y;by_cases e:k=k2<;>by_cases f:n=c<;>simp[e,f]),Mi (fun _ _=>rfl)]
  · rw[dT V];have:a≠b:=fun e=>h (by rw[e]);rw[dF this];rfl
theorem eqCells(a b:List (List Val)):PY a b=aj (ab (a=b)):=by
  unfold PY;by_cases h:a.length=b.length
  · rw[dF V,cond_false,QU (fun x y=>ab (x=y)) a b h rfl (fun i x y d c=>by
      unfold MS;rw[lh,c,bnd,eqVals,bnd];by_cases e:x=y<;>simp[e]),Mi (fun _ _=>rfl)]
  · rw[dT V];have:a≠b:=fun e=>h (by rw[e]);rw[dF this];rfl
theorem fr_eq(x y:LX.Frame)(a:Unit->Option Bool):(bif ((ab ((x.proc:Int)=y.proc)&&ab ((x.at_:Int)=y.at_))&&ab ((x.jK:Int)=y.jK))then(pR x.regs y.regs).bind fun b=>Cj a (!b)else Cj a ar)=bif ab (x=y)then a ()else aj false:=by
 obtain⟨p,t,r,o⟩:=x;obtain⟨f,d,h,o2⟩:=y;simp only[eqVals,bnd,Cj];by_cases g:p=f<;>by_cases i:t=d<;>by_cases c:r=h<;>by_cases e:o=o2<;>simp[g,i,c,e]
theorem st_eq(a b:LX.State):ab (a=b)=((ab (a.status=b.status)&&ab (a.bT=b.bT))&&(ab (a.cells=b.cells)&&ab (a.frames=b.frames))):=by
 obtain⟨f,c,s,w⟩:=a;obtain⟨e,c2,g,d⟩:=b;rw[ey];simp;constructor<;>(intro h;simp[h])
theorem eqState(a b:LX.State):TF a b=aj (ab (a=b)):=by
  rw[st_eq];unfold TF;cases (ab ((a.status:Int)=b.status)&&ab ((a.bT:Int)=b.bT))with
  |false=>rfl
  |true=>
    rw[cond_true,eqCells,bnd];cases ab (a.cells=b.cells)with
    |false=>rfl
    |true=>
      rw[cond_true];by_cases h:a.frames.length=b.frames.length
      · rw[dF V,cond_false,QU (fun x y=>ab (x=y)) a.frames b.frames h rfl (fun i x y c d=>by
          unfold OG;rw[lh,d,bnd];exact fr_eq x y c),Mi (fun _ _=>rfl)];rfl
      · rw[dT V];have:a.frames≠b.frames:=fun e=>h (by rw[e]);rw[dF this];rfl
structure Small(s:LX.State):Prop where
 frames:s.frames.length<=10
 regs:∀f∈s.frames,f.regs.length<=40
 cells:s.cells.length<=24
 fields:∀c∈s.cells,c.length<=4
theorem Ap{a:List bA}{n:Nat}:∀{l:List LX.Frame} {t:Int},nC a n t l->∀f∈l,∃x,Kw a n f x
  |[],_,_,f,hf=>by cases hf
  |g::l,t,h,f,hf=>by
    rcases bn.1 hf with rfl|hf
    · exact h.1
    · exact Ap h.2.2 f hf
theorem mU.mem{a:List bA}(h:mU a){k:Int}{x:bA}(c:idx a k=aj x):x∈a/\(0<=x.params/\x.params<=3)/\(1<=x.regs/\x.params<=x.regs/\x.regs<=40)/\tY x:=by
 have b:=(aF c).2;have:=h.head _ x b;exact⟨fm b,this.1,this.2.1,this.2.2.2⟩
theorem vI.small{a:List bA}{s:LX.State}(h:vI a s)(ha:mU a):Small s where
 frames:=h.many
 regs f hf:=by
  obtain⟨x,g⟩:=Ap h.frames f hf;have:=(ha.mem g.proc).2.2.1;have:=g.regs;omega
 cells:=h.cells.1
 fields c hc:=(h.cells.2 c hc).1.2
theorem Ue{α:Type}{b:Nat}{a:List α}(h:a.length<=400)(c:b<=48):clone b a=aj a:=by
 have:a.length*b<=400*48:=ox h c;unfold clone;exact kC ⟨by simp;omega,by simp;omega⟩
theorem WO{ρ:Type}{body:Int->Unit->(Unit->ρ)->ρ}{k:Unit->ρ}:∀(m:Nat) (i:Nat),(∀j:Nat,i<=j->j<i+m->∀a,body (j:Int) () a=a ())->upto body k (i:Int) m ()=k ()
 |0,i,_=>rfl
 |m+1,i,h=>by
  rw[WM,h i (bt _) V,show((i:Int)+1)=((i+1:Nat):Int) by omega];exact WO m (i+1) fun j b c=>h j V V
theorem cellCopy_eq{l:List (List Val)}(h:l.length<=24)(a:∀c∈l,c.length<=4):PV l=aj l:=by
 unfold PV;rw[Ue V zq1,bnd,bj];exact WO (k:=MN l) l.length 0 (fun j b e d=>by
  unfold MM;rw[xh V,bnd,Ue (by have:=a _ (cx (by omega:j<l.length));omega) zq1,bnd])
theorem copy_eq{s:LX.State}(h:Small s):MO s=aj s:=by
 unfold MO;rw[Ue (by have:=h.frames;omega) zq1,bnd,cellCopy_eq h.cells h.fields,bnd];unfold Rn;rw[bj];exact WO (k:=Rm s s.cells) s.frames.length 0 (fun j a c b=>by
  unfold Rl;rw[xh V,bnd,Ue (by have:=h.regs _ (cx (by omega:j<s.frames.length));omega) zq1,bnd])
theorem room_le{α:Type}{a:Nat}{l m:List α}(h:l.length+m.length<=100000)(b:a<=48):Room a l m:=by
 have:(l.length+m.length)*a<=100000*48:=ox h b;exact⟨by omega,by omega⟩
def Uf(l:List Int)(v:Val):List Int:=if v.kind=2/\v.n∉l then l++[v.n]else l
def Ug(l:List Int)(vs:List Val):List Int:=vs.foldl Uf l
def cellAt(cells:List (List Val))(k:Int):List Val:=(idx cells k).getD []
def bfs(cells:List (List Val)):Nat->Nat->List Int->List Int
 |0,_,l=>l
 |m+1,k,l=>if h:k<l.length then bfs cells m (k+1) (Ug l (cellAt cells l[k]))else l
def Pk(cells:List (List Val))(vs:List Val):List Int:=bfs cells 25 0 (Ug [] vs)
theorem Qh(l:List Int)(v:Val)(vs:List Val):Ug l (v::vs)=Ug (Uf l v) vs:=rfl
theorem metV_pre(l:List Int)(v:Val):l<+:Uf l v:=by
  unfold Uf;split
  · exact eC _ _
  · exact cl _
theorem Pm:∀(vs:List Val) (l:List Int),l<+:Ug l vs
 |[],l=>cl _
 |v::vs,l=>(metV_pre l v).trans (Pm vs _)
theorem bfs_pre(cells:List (List Val)):∀(m k:Nat) (l:List Int),l<+:bfs cells m k l
  |0,_,l=>cl _
  |m+1,k,l=>by
    unfold bfs;split
    · exact(Pm _ _).trans<|bfs_pre cells m _ _
    · exact cl _
theorem nodup_len:∀(n:Nat) (l:List Int),l.Nodup->(∀x∈l,0<=x/\x<n)->l.length<=n
  |0,l,_,h=>by
    cases l with
    |nil=>simp
    |cons x l=>have:=h x zq3;omega
  |n+1,l,hn,h=>by
    have d:=nodup_len n (l.erase (n:Int)) (hn.erase _) (fun x b=>by
      have a:=(hn.mem_erase_iff).1 b;have:=h x a.2;have e:=a.1;constructor
      · omega
      · push_cast at this;omega)
    have c:l.length<=(l.erase (n:Int)).length+1:=by rw[List.length_erase];split<;>omega
    omega
def yJ(n:Nat)(l:List Int):Prop:=l.Nodup/\∀x∈l,0<=x/\x<n
theorem yJ.len{n:Nat}{l:List Int}(h:yJ n l):l.length<=n:=nodup_len n l h.1 h.2
theorem yJ.nil{n:Nat}:yJ n []:=⟨List.nodup_nil,fun x a=>by cases a⟩
theorem kE.ref{n:Nat}{v:Val}(h:kE n v)(a:v.kind=2):0<=v.n/\v.n<n:=by unfold kE at h;omega
theorem yJ.v{n:Nat}{l:List Int}(h:yJ n l){v:Val}(i:kE n v):yJ n (Uf l v):=by
  unfold Uf;split
  · rename_i f;refine⟨rl.2 ⟨h.1,by simp,fun a g b d=>?_⟩,fun x c=>?_⟩
    · simp at d;subst d;intro e;subst e;exact f.2 g
    · rcases cR.1 c with c|c
      · exact h.2 x c
      · simp at c;subst c;exact i.ref f.1
  · exact h
theorem yJ.l{n:Nat}:∀{vs:List Val} {l:List Int},yJ n l->(∀v∈vs,kE n v)->yJ n (Ug l vs)
 |[],l,h,_=>h
 |v::vs,l,h,hv=>yJ.l (vs:=vs) (l:=Uf l v) (h.v (hv v zq3)) (fun w a=>hv w (bk _ a))
theorem Nh{cells:List (List Val)}{k:Int}(h:0<=k/\k<cells.length):idx cells k=aj (cellAt cells k)/\cellAt cells k∈cells:=by
 obtain⟨n,rfl⟩:=bs h.1;unfold cellAt;rw[xh V];exact⟨Z,cx _⟩
theorem vM.at{cells:List (List Val)}(h:vM cells){k:Int}(a:0<=k/\k<cells.length):(1<=(cellAt cells k).length/\(cellAt cells k).length<=4)/\∀v∈cellAt cells k,kE cells.length v:=h.2 _ (Nh a).2
theorem yJ.bfs{cells:List (List Val)}(a:vM cells):∀{m k:Nat} {l:List Int},yJ cells.length l->yJ cells.length (bfs cells m k l)
  |0,_,l,h=>h
  |m+1,k,l,h=>by
    unfold Proofs.YtodkbibbgakkdaaGreatDoor.bfs;split
    · rename_i b;exact yJ.bfs a<|h.l (a.at<|h.2 _<|cx b).2
    · exact h
def kz(vs:List Val)(l:List Int):Prop:=∀v∈vs,v.kind=2->v.n∈l
theorem kz.pre{vs:List Val}{l m:List Int}(h:kz vs l)(hp:l<+:m):kz vs m:=fun v b a=>hp.subset (h v b a)
theorem metV_in(l:List Int)(v:Val)(a:v.kind=2):v.n∈Uf l v:=by
  unfold Uf;split
  · simp
  · rename_i b;exact en.1 fun h=>b ⟨a,h⟩
theorem metL_in:∀(vs:List Val) (l:List Int),kz vs (Ug l vs)
  |[],l,v,hv,_=>by cases hv
  |w::vs,l,v,hv,hk=>by
    rw[Qh];rcases bn.1 hv with rfl|hv
    · exact(Pm vs _).subset<|metV_in l v hk
    · exact metL_in vs _ v hv hk
theorem bfs_in{cells:List (List Val)}(d:vM cells):∀{m k:Nat} {l:List Int},yJ cells.length l->cells.length<k+m->(∀j (a:j<l.length),j<k->kz (cellAt cells l[j]) l)->∀x∈bfs cells m k l,kz (cellAt cells x) (bfs cells m k l)
  |0,k,l,h,hm,a,x,hx=>by
    have:=h.len;obtain⟨j,b,rfl⟩:=qe hx;exact a j b (by have n:j<l.length:=b;omega)
  |m+1,k,l,h,hm,a,x,hx=>by
    unfold Proofs.YtodkbibbgakkdaaGreatDoor.bfs at hx⊢;split at hx
    · rename_i c;rw[dif_pos c];have g:=(d.at<|h.2 _<|cx c).2;have hp:=Pm (cellAt cells l[k]) l;refine bfs_in d (h.l g) V (fun j b o=>?_) x hx;by_cases e:j<l.length
      · have f:(Ug l<|cellAt cells l[k])[j]=l[j]:=(hp.getElem e).symm;rw[f];by_cases i:j<k
        · exact(a j e i).pre hp
        · have:j=k:=by omega
          subst this;exact metL_in _ _
      · omega
    · rename_i c;rw[dif_neg c];obtain⟨j,b,rfl⟩:=qe hx;exact a j b V
theorem reach_ok{cells:List (List Val)}(a:vM cells){vs:List Val}(c:∀v∈vs,kE cells.length v):yJ cells.length (Pk cells vs)/\kz vs (Pk cells vs)/\∀x∈Pk cells vs,kz (cellAt cells x) (Pk cells vs):=by
 have b:yJ cells.length (Ug [] vs):=yJ.nil.l c;refine⟨yJ.bfs a b,(metL_in vs []).pre (bfs_pre _ _ _ _),bfs_in a b (by have:=a.1;omega) (fun j e d=>absurd d (eM _))⟩
theorem Qi{α:Type}(k a:Int)(v:α):∀l:List (Int×α),lk k (yL a v l)=if k=a then aj v else lk k l
  |[]=>by unfold yL lk;by_cases h:k=a<;>simp[h,lk]
  |p::l=>by
    unfold yL;by_cases h:a=p.1
    · rw[if_pos h];show(if k=p.1 then aj v else lk k l)=if k=a then aj v else(if k=p.1 then aj p.2 else lk k l)
      by_cases e:k=p.1
      · rw[if_pos e,if_pos V]
      · rw[if_neg e,if_neg V,if_neg e]
    · rw[if_neg h];show(if k=p.1 then aj p.2 else lk k (yL a v l))=if k=a then aj v else(if k=p.1 then aj p.2 else lk k l)
      by_cases e:k=p.1
      · rw[if_pos e,if_pos e,if_neg V]
      · rw[if_neg e,if_neg e,Qi k a v l]
def Seen(l:List Int)(m:List (Int×Bool)):Prop:=∀k,(lk k m).getD aq=ab (k∈l)
theorem Seen.nil:Seen [] []:=fun k=>rfl
theorem Seen.put{l:List Int}{m:List (Int×Bool)}(h:Seen l m)(n:Int):Seen (l++[n]) (yL n ar m):=by
  intro k;rw[Qi];by_cases e:k=n
  · simp[e]
  · rw[if_neg e,h k,ey];simp[e]
theorem Uh{ρ:Type}{body:Val->List Int×List (Int×Bool)->(List Int×List (Int×Bool)->Option ρ)->Option ρ}{K:List Int×List (Int×Bool)->Option ρ}
    (b:∀x l m c,l.length<=1000->body x (l,m) c=bif (ab (x.kind=2)&&(!((lk x.n m).getD aq)))then c (l++[x.n],yL x.n ar m)else c (l,m)):
    ∀(vs:List Val) (l:List Int) (m:List (Int×Bool)),Seen l m->l.length+vs.length<=1000->∃d,Seen (Ug l vs) d/\each body K vs (l,m)=K (Ug l vs,d)
  |[],l,m,h,_=>⟨m,h,rfl⟩
  |v::vs,l,m,h,hl=>by
    simp only[bq]at hl;rw[gL,b v l m _ V,h v.n,Qh];unfold Uf;by_cases a:v.kind=2/\v.n∉l
    · rw[if_pos a,dT a.1,dF a.2,mQ,kb,cond_true];exact Uh b vs _ _ (h.put v.n) (by simp;omega)
    · rw[if_neg a,show(ab (v.kind=2)&& !decide (v.n∈l))=aq by rw[cE];simp;simp only[not_and,en]at a;by_cases e:v.kind=2<;>simp[e,a],cond_false];exact Uh b vs _ _ h V
theorem bfs_loop{cells:List (List Val)}(f:vM cells):∀(m N k:Nat) (l:List Int) (s:List (Int×Bool)),yJ cells.length l->Seen l s->cells.length<k+m->m<N->k<=l.length->again (sV cells) N ((k:Int),l,s)=aj (bfs cells m k l,0)
  |m,0,k,l,s,h,hs,hm,hN,hk=>by omega
  |0,N+1,k,l,s,h,hs,hm,hN,hk=>by have:=h.len;omega
  |m+1,N+1,k,l,s,h,hs,hm,hN,hk=>by
    rw[Hg];unfold sV Proofs.YtodkbibbgakkdaaGreatDoor.bfs;simp only;have r:=h.len;have hn:=f.1;by_cases a:k<l.length
    · rw[dT V,cond_true,xh a,bnd,dif_pos a];have g:=h.2 _<|cx a;have i:=f.at g;rw[(Nh g).1,bnd];have o:(fun(s:Int×List Int×List (Int×Bool))(c:Int×List Int×List (Int×Bool)->Option (List Int×Int))=>match s with|(b,PR,Hr)=>bif ab ((b:Int)<(PR.length:Int))then(idx PR b).bind fun e=>(idx cells e).bind fun d=>each zC (zF b c) d (PR,Hr)else aj (PR,0))=sV cells:=rfl;rw[o];obtain⟨p,q,j⟩:=Uh (body:=zC) (K:=zF (k:Int) (again (sV cells) N)) (fun x l m t r=>by
        unfold zC;simp only[Dx];cases (ab (x.kind=2)&&(!((lk x.n m).getD aq)))with
        |false=>rfl
        |true=>rw[cond_true,cond_true,kC (room_le (by simp;omega) zq1)]) (cellAt cells l[k]) l s hs (by have:=i.1.2;omega)
      rw[j];unfold zF;simp only;rw[gI V V];have hp:=(Pm (cellAt cells l[k]) l).length_le;exact bfs_loop f m N (k+1) _ p (h.l i.2) q V V V
    · rw[dF V,cond_false,dif_neg a]
theorem reach_eq{N:Nat}(hN:100<=N){cells:List (List Val)}(b:vM cells){vs:List Val}(a:∀v∈vs,kE cells.length v)(f:vs.length<=400):ML N cells vs=aj (Pk cells vs,0):=by
 unfold ML;rw[(all_ok cells).2 b,dF zq3,cond_false,dF V,cond_false];have k1:∀l:List Val,(∀v∈l,kE cells.length v)->each (Dz cells) (zG N cells vs) l ()=zG N cells vs ():=by
  intro l;induction l with
  |nil=>intro _;rfl
  |cons x l ih=>
   intro h;rw[gL];unfold Dz;rw[(wO _ _).2 (h x zq3),dF zq3,cond_false];exact ih fun v a=>h v<|bk _ a
 rw[k1 vs a];unfold zG;obtain⟨d,e,c⟩:=Uh (body:=Dy) (K:=IB N cells) (fun x l m g f=>by
  unfold Dy;simp only[Dw];cases (ab (x.kind=2)&&(!((lk x.n m).getD aq)))with
  |false=>rfl
  |true=>rw[cond_true,cond_true,kC (room_le (by simp;omega) zq1)]) vs [] [] Seen.nil (by simp;omega)
 rw[c];exact bfs_loop b 25 N 0 _ d (yJ.nil.l a) e (by have:=b.1;omega) V V
def ren(l:List Int)(v:Val):Val:=if v.kind=2 then⟨v.kind,(l.idxOf v.n:Nat)⟩else v
def Ky(l:List Int)(f:LX.Frame):LX.Frame:={f with regs:=f.regs.map (ren l)}
def roots(fr:List LX.Frame):List Val:=fr.flatMap (·.regs)
def fE(s:LX.State):List Int:=Pk s.cells (roots s.frames)
def dO(s:LX.State):LX.State:=⟨s.frames.map (Ky (fE s)),(fE s).map (fun k=>(cellAt s.cells k).map (ren (fE s))),s.status,s.bT⟩
structure Pn(s:LX.State):Prop where
 small:Small s
 cells:vM s.cells
 vals:∀f∈s.frames,∀v∈f.regs,kE s.cells.length v
theorem vI.sw{a:List bA}{s:LX.State}(h:vI a s)(ha:mU a):Pn s where
 small:=h.small ha
 cells:=h.cells
 vals f hf:=by obtain⟨x,g⟩:=Ap h.frames f hf;exact g.vals
theorem Pn.roots{s:LX.State}(h:Pn s):∀v∈roots s.frames,kE s.cells.length v:=by
 intro v a;unfold YtodkbibbgakkdaaGreatDoor.roots at a;obtain⟨f,b,a⟩:=lx.1 a;exact h.vals f b v a
theorem roots_len(fr:List LX.Frame)(h:∀f∈fr,f.regs.length<=40):(roots fr).length<=40*fr.length:=by
 induction fr with
 |nil=>simp[roots]
 |cons f l ih=>
  have:=h f zq3;have:=ih fun g a=>h g<|bk _ a;unfold roots at*;rw[eK,bc,bq];omega
theorem Pn.rlen{s:LX.State}(h:Pn s):(YtodkbibbgakkdaaGreatDoor.roots s.frames).length<=400:=by
 have:=roots_len s.frames h.small.regs;have:=h.small.frames;omega
theorem Pn.reach{s:LX.State}(h:Pn s):yJ s.cells.length (fE s)/\kz (YtodkbibbgakkdaaGreatDoor.roots s.frames) (fE s)/\∀x∈fE s,kz (cellAt s.cells x) (fE s):=reach_ok h.cells h.roots
theorem map_loop{α ρ:Type}{body:Int->List α->(List α->Option ρ)->Option ρ}{K:List α->Option ρ}{g:α->α}{P:α->Prop}
  (e:∀(i:Nat) (x:List α) a nx,x[i]? =aj a->P a->body (i:Int) x nx=nx (x.set i (g a))):
  ∀(d c:List α),(∀a∈d,P a)->upto body K (c.length:Int) d.length (c++d)=K (c++d.map g)
 |[],c,_=>by simp[upto]
 |a::d,c,h=>by
  rw[bq,WM,e c.length (c++a::d) a _ zq3 (h a zq3)];have:=map_loop (K:=K) e d (c++[g a]) fun b e=>h b<|bk _ e;rw[show(c++a::d).set c.length (g a)=(c++[g a])++d by simp,show((c.length:Int)+1)=((c++[g a]).length:Nat) by simp,this];simp
theorem WQ{α ρ:Type}{body:Int->List α->(List α->Option ρ)->Option ρ}{K:List α->Option ρ}{g:α->α}{P:α->Prop}
  (b:∀(i:Nat) (x:List α) a nx,x[i]? =aj a->P a->body (i:Int) x nx=nx (x.set i (g a))) (l:List α) (hp:∀a∈l,P a):upto body K 0 l.length l=K (l.map g):=by
 have:=map_loop (K:=K) b l [] hp;simpa using this
def aaa(l:List Int)(m:List (Int×Int)):Prop:=∀k,lk k m=if k∈l then aj ((l.idxOf k:Nat):Int)else aE
theorem turn_eq{l:List Int}{m:List (Int×Int)}(h:aaa l m)(vs:List Val)(d:kz vs l):Y1 vs m=aj (vs.map (ren l)):=by
  unfold Y1;rw[bj];refine WQ (P:=fun v=>v.kind=2->v.n∈l) (fun i x a g c hp=>?_) vs fun v f=>d v f;unfold Vq PX;rw[lh,c,bnd];by_cases b:a.kind=2
  · rw[dT b,cond_true,h a.n,if_pos (hp b)];simp[ren,b]
  · rw[dF b,cond_false];have:x.set i a=x:=by
      obtain⟨e,rfl⟩:=kp.1 c;exact lO e
    simp[ren,b,this]
theorem aab{s:LX.State}(l:vM s.cells){K:List (List Val)×List Int×List (Int×Int)->Option LX.State}:∀(b a:List Int) (m:List (Int×Int)),yJ s.cells.length (a++b)->aaa a m->
    ∃f,aaa (a++b) f/\ic (Aj s) K (a.length:Int) b (a.map (cellAt s.cells),a,m)=K ((a++b).map (cellAt s.cells),a++b,f)
  |[],a,m,_,h=>⟨m,by simpa using h,by simp[ic]⟩
  |k::b,a,m,hm,h=>by
    have i:a++k::b=(a++[k])++b:=by simp
    have g:k∉a:=by
      intro g;exact(rl.1 hm.1).2.2 k g k zq3 Z
    have p:=hm.len;have hn:=l.1;simp only[bc,bq]at p;have n:=hm.2 k zq3;rw[yP];obtain⟨f,o,j⟩:=aab l (K:=K) b (a++[k]) (yL k (a.length:Int) m) (by rw[<-i];exact hm) (fun q=>by
      rw[Qi];by_cases e:q=k
      · subst e;rw[if_pos rfl,if_pos zq3,rm,if_neg g];simp
      · rw[if_neg e,h q];by_cases d:q∈a
        · rw[if_pos d,if_pos (by simp[d]),rm,if_pos d]
        · rw[if_neg d,if_neg (by simp[d,e])])
    refine⟨f,by rw[i];exact o,?_⟩;have c:(((a++[k]).length:Nat):Int)=(a.length:Int)+1:=by simp
    rw[c]at j;rw[i,<-j];generalize ic (Aj s) K ((a.length:Int)+1) b=K1;unfold Aj;simp only;rw[(Nh n).1,bnd,kC g,kC (room_le (by simp;omega) zq1),cG];rfl
theorem frames_sweep{l:List Int}{m:List (Int×Int)}(h:aaa l m)(K:List LX.Frame->Option LX.State)(fr:List LX.Frame)(b:∀f∈fr,kz f.regs l):upto (GZ m) K 0 fr.length fr=K (fr.map (Ky l)):=
 WQ (P:=fun f=>kz f.regs l) (fun i x a d c hp=>by
  unfold GZ;rw[lh,c,bnd,turn_eq h a.regs hp,bnd];simp[Ky]) fr b
theorem cells_sweep{l:List Int}{m:List (Int×Int)}(h:aaa l m)(K:List (List Val)->Option LX.State)(cs:List (List Val))(b:∀c∈cs,kz c l):upto (JS m) K 0 cs.length cs=K (cs.map (fun c=>c.map (ren l))):=
 WQ (P:=fun c=>kz c l) (fun i x a e d hp=>by
  unfold JS;rw[lh,d,bnd,turn_eq h a hp,bnd];simp) cs b
theorem root_loop{K:List Val->Option LX.State}:∀(fr:List LX.Frame) (a:List Val),a.length+(roots fr).length<=1000->each DD K fr a=K (a++roots fr)
 |[],a,_=>by simp[qU,roots]
 |f::fr,a,h=>by
  have e:roots (f::fr)=f.regs++roots fr:=rfl;rw[e,bc]at h;rw[gL];have b:=root_loop (K:=K) fr (a++f.regs) (by simp;omega);generalize each DD K fr=K1 at b⊢;unfold DD;rw[kC (room_le V zq1),b,e,cg]
theorem Jl{fr:List LX.Frame}{l:List Int}(h:kz (roots fr) l):∀f∈fr,kz f.regs l:=fun f b v c a=>h v (lx.2 ⟨f,b,c⟩) a
theorem aac{N:Nat}(hN:100<=N){s:LX.State}(h:Pn s):IC N s=aj (dO s):=by
 have d:=h.reach;unfold IC;rw[root_loop s.frames [] (by have:=h.rlen;simp;omega),cQ];unfold MR;rw[reach_eq hN h.cells h.roots h.rlen,bnd,dF zq3,cond_false,copy_eq h.small,bnd];have e:Pk s.cells (roots s.frames)=fE s:=rfl;simp only[e];obtain⟨j,b,g⟩:=aab h.cells (K:=DC s) (fE s) [] [] (by simpa using d.1) (fun k=>by simp[lk]);have a:ic (Aj s) (DC s) 0 (fE s) ([],([]:List Int),([]:List (Int×Int)))=_:=g;rw[a];simp only[cQ]at b⊢;unfold DC;simp only[bj];rw[frames_sweep b _ _ (Jl d.2.1)];unfold MQ;rw[bj,cells_sweep b _ _ (fun c i=>by
  obtain⟨k,f,rfl⟩:=dL.1 i;exact d.2.2 k f)]
 unfold MP dO;rw[jH];rfl
def jW(r:List Val)(i:Int):Val:=(idx r i).getD ⟨0,0⟩
def opP(k:Int)(b c:Val):Option Val:=
 if k=5 then aj ⟨1,if b=c then 1 else 0⟩else if b.kind≠1\/c.kind≠1 then aE else if k=4 then aj ⟨1,if b.n<c.n then 1 else 0⟩else
 let n:=if k=1 then b.n+c.n else if k=2 then b.n-c.n else b.n*c.n
 if-1000000000<=n/\n<=1000000000 then aj ⟨1,n⟩else aE
def KD(f:LX.Frame)(x:bA):LX.Frame:={f with at_:=min (f.at_+1) ((x.code.length:Int)-1)}
def newP(s:LX.State)(c:Ins):Option LX.State:=
 if s.cells.length=24 then aE else aj ⟨s.frames.dropLast++(s.frames.getLast?.map fun h=>{h with regs:=h.regs.set c.a.toNat ⟨2,s.cells.length⟩}).toList,s.cells++[cc c.b.toNat ⟨0,0⟩],s.status,s.bT⟩
def tH(a:List bA)(pre:List LX.Frame)(f:LX.Frame)(cells:List (List Val))(st wh:Int)(x:bA)(c:Ins):Option (LX.State×Option Int×Bool):=
  let g:=KD f x;let r:=jW f.regs;let put:=fun(v:Val)=>(⟨pre++[{g with regs:=f.regs.set c.a.toNat v}],cells,st,wh⟩:LX.State);let d:=(⟨pre++[g],cells,st,wh⟩:LX.State);let jump:=(⟨pre++[{g with at_:=c.b}],cells,st,wh⟩:LX.State);let e:=fun(v:Val)=>v.kind≠2\/((cellAt cells v.n).length:Int)<=c.c
  if c.op=1 then aj (put ⟨1,c.b⟩,aE,aq)else
  if c.op=2 then aj (put (r c.b),aE,aq)else
  if c.op=3 then(opP (c.args.headD 0) (r c.b) (r c.c)).map fun v=>(put v,aE,aq)else
  if c.op=4 then(if e (r c.b)then aE else aj (put (jW (cellAt cells (r c.b).n) c.c),aE,aq))else
  if c.op=6 then(if e (r c.a)then aE else aj (⟨pre++[g],cells.set (r c.a).n.toNat ((cellAt cells (r c.a).n).set c.c.toNat (r c.b)),st,wh⟩,aE,aq))else
  if c.op=5 then(newP (if cells.length=24 then dO d else d) c).map fun t=>(t,aE,aq)else
  if c.op=7 then(if pre.length+1=10 then aE else aj (⟨pre++[g]++[⟨c.b,0,c.args.map r++cc (((idx a c.b).map (·.regs)).getD 0-c.args.length).toNat ⟨0,0⟩,c.a⟩],cells,st,wh⟩,aE,aq))else
  if c.op=8 then aj (match pre.getLast? with
    |none=>⟨[],cells,1,wh⟩
    |some h=>⟨pre.dropLast++[{h with regs:=h.regs.set f.jK.toNat (r c.a)}],cells,st,wh⟩,aE,aq)else
  if c.op=9 then(if(r c.a).kind=1 then aj (d,aj (r c.a).n,aq)else aE)else
  if c.op=11 then(if(r c.a).kind=1 then aj (⟨pre++[g],cells,3,(r c.a).n⟩,aE,ar)else aE)else
  if c.op=12 then aj (jump,aE,aq)else
  if c.op=13 then aj (if(r c.a).kind≠2/\(r c.a).n=0 then jump else d,aE,aq)else
  aj (d,aE,ar)
def R1(r:Option (QY×Bool×LX.State))(q:Option (LX.State×Option Int×Bool)):Prop:=∃o a b,r=aj (o,a,b)/\match q with|none=>a=aq|some (t,said,p)=>a=ar/\b=t/\o=⟨said.isSome,said.getD 0,p⟩
theorem Jm{R:Int}{r:List Val}(b:(r.length:Int)=R){i:Int}(h:Gt R i):idx r i=aj (jW r i)/\jW r i∈r:=by
 obtain⟨a,c⟩:=h;obtain⟨n,rfl⟩:=bs a;unfold jW;rw[xh V];exact⟨Z,cx _⟩
theorem Ui(pre:List LX.Frame)(f:LX.Frame):idx (pre++[f]) (pre.length:Int)=aj f:=by rw[lh];simp
theorem Aq(pre:List LX.Frame)(f g:LX.Frame):(pre++[f]).set pre.length g=pre++[g]:=by simp
theorem xI(pre:List LX.Frame)(f:LX.Frame):(((pre++[f]).length:Int)-1)=(pre.length:Int):=by simp
theorem mul_bd{x y:Int}(b: -1000000000<=x/\x<=1000000000)(a: -1000000000<=y/\y<=1000000000): -1000000000000000000<=x*y/\x*y<=1000000000000000000:=by
 have c:(x*y).natAbs<=1000000000*1000000000:=by
  rw[Int.natAbs_mul];exact ox V V
 omega
theorem kE.int{n:Nat}{v:Val}(h:kE n v)(a:v.kind=1): -1000000000<=v.n/\v.n<=1000000000:=by unfold kE at h;omega
theorem op_eq{n:Nat}{k:Int}{b c:Val}(q:1<=k/\k<=5)(j:kE n b)(o:kE n c):∃v,vm_op k b c=aj (v,(opP k b c).isSome)/\∀w,opP k b c=aj w->v=w:=by
  unfold vm_op opP LA;by_cases f:k=5
  · rw[dT f,cond_true,if_pos f];by_cases e:b=c
    · subst e;simp
    · rw[if_neg e];have:(ab (b.kind=c.kind)&&ab (b.n=c.n))=false:=by
        obtain⟨k1,p⟩:=b;obtain⟨k2,r⟩:=c;rw[cE];simp at e⊢;by_cases h:k1=k2
        · right;exact e h
        · left;exact h
      rw[this];simp
  rw[dF f,cond_false,if_neg f];by_cases d:b.kind=1/\c.kind=1
  · rw[show(ab ((b.kind:Int)≠1)||ab ((c.kind:Int)≠1))=aq by simp[d.1,d.2],cond_false,if_neg (by simp[d.1,d.2])];have i:=j.int d.1;have c1:=o.int d.2;have m1:=mul_bd i c1;have a:∀z:Int,∃v,aj ((⟨1,z⟩:Val),(ab ((-1000000000:Int)<=z)&&ab ((z:Int)<=1000000000)))=aj (v,(if-1000000000<=z/\z<=1000000000 then aj (⟨1,z⟩:Val)else aE).isSome)/\∀w,(if-1000000000<=z/\z<=1000000000 then aj (⟨1,z⟩:Val)else aE)=aj w->v=w:=by
      intro z;by_cases h: -1000000000<=z/\z<=1000000000
      · rw[if_pos h,dT h.1,dT h.2];exact⟨_,Z,fun w e=>by cases e;rfl⟩
      · rw[if_neg h];refine⟨⟨1,z⟩,?_,fun w e=>by cases e⟩
        · congr 2;rw[pB,cE];simp only[decide_eq_false_iff_not];omega
    by_cases g:k=4
    · subst g;rw[if_pos rfl];simp only[bm,decide_false,decide_true,cond_false,cond_true];by_cases e:b.n<c.n<;>simp[e]
    rw[if_neg g];by_cases l:k=1
    · subst l;simp only[bm,decide_true,cond_true,if_true];rw[gI V V];exact a _
    by_cases m:k=2
    · subst m;simp only[bm,decide_true,decide_false,cond_true,cond_false,if_true,if_false];rw[gI V V];exact a _
    · obtain rfl:k=3:=by omega
      simp only[bm,decide_true,decide_false,cond_true,cond_false,if_true,if_false];rw[gI V V];exact a _
  · rw[show(ab ((b.kind:Int)≠1)||ab ((c.kind:Int)≠1))=ar by simp;omega,cond_true,if_pos V];exact⟨_,Z,fun w e=>by cases e⟩
theorem rH{a:List bA}{n:Nat}{f:LX.Frame}:∀{l:List LX.Frame} {t:Int},nC a n t (l++[f])↔nC a n t l/\(∃x,Kw a n f x)/\(0<=f.jK/\f.jK<(match l.getLast? with|none=>t|some g=>g.regs.length))
 |[],t=>by simp[nC]
 |g::l,t=>by
  show((∃x,Kw a n g x)/\(0<=g.jK/\g.jK<t)/\nC a n g.regs.length (l++[f]))↔_;rw[rH (l:=l)];have e:(match (g::l).getLast? with|none=>t|some g=>((g.regs.length:Int)))=(match l.getLast? with|none=>((g.regs.length:Int))|some g=>(g.regs.length:Int)):=by
   rw[List.getLast?_cons];cases l.getLast?<;>rfl
  rw[e];simp only[nC,and_assoc]
structure wP(a:List bA)(pre:List LX.Frame)(f:LX.Frame)(cells:List (List Val))(x:bA)(c:Ins):Prop where
 fr:Kw a cells.length f x
 ins:idx x.code f.at_=aj c
 good:NT a x.regs x.code.length c
 chain:nC a cells.length 1 pre
 jK:0<=f.jK/\f.jK<ahead pre
 many:pre.length+1<=10
 cok:vM cells
 proc:(1<=x.regs/\x.regs<=40)/\tY x
theorem top_ok{a:List bA}(e:mU a){pre:List LX.Frame}{f:LX.Frame}{cells:List (List Val)}{st wh:Int}(h:vI a ⟨pre++[f],cells,st,wh⟩):∃x c,wP a pre f cells x c:=by
 obtain⟨i,⟨x,g⟩,j⟩:=rH.1 h.frames;have d:=e.mem g.proc;have hat:=g.at_;obtain⟨n,hn⟩:=bs hat.1;have b:n<x.code.length:=by omega
 refine⟨x,x.code[n],g,by rw[hn,xh b],e.ins x d.1 _<|cx _,i,j,?_,h.cells,⟨by omega,d.2.2.2⟩⟩;have:=h.many;simpa using this
theorem wP.KD{a:List bA}{pre:List LX.Frame}{f:LX.Frame}{cells:List (List Val)}{x:bA}{c:Ins}(h:wP a pre f cells x c):Kw a cells.length (KD f x) x where
 proc:=h.fr.proc
 at_:=by
  have:=h.fr.at_;have:=h.proc.2;unfold tY at this;simp only[YtodkbibbgakkdaaGreatDoor.KD];omega
 regs:=h.fr.regs
 vals:=h.fr.vals
theorem wP.reg{a:List bA}{pre:List LX.Frame}{f:LX.Frame}{cells:List (List Val)}{x:bA}{c:Ins}(h:wP a pre f cells x c){i:Int}(b:Gt x.regs i):idx f.regs i=aj (jW f.regs i)/\kE cells.length (jW f.regs i):=by
 have:=Jm h.fr.regs b;exact⟨this.1,h.fr.vals _ this.2⟩
theorem wP.sw{a:List bA}{pre:List LX.Frame}{f:LX.Frame}{cells:List (List Val)}{x:bA}{c:Ins}(ha:mU a)(h:wP a pre f cells x c){st wh:Int}{g:LX.Frame}(hg:Kw a cells.length g x):Pn ⟨pre++[g],cells,st,wh⟩ where
  small:=⟨by have:=h.many;simp;omega,fun k hk=>by
    rcases cR.1 hk with hk|hk
    · obtain⟨y,hy⟩:=Ap h.chain k hk;have:=hy.regs;have:=(ha.mem hy.proc).2.2.1;omega
    · simp at hk;subst hk;have:=hg.regs;have:=h.proc.1;omega,h.cok.1,fun c hc=>(h.cok.2 c hc).1.2⟩
  cells:=h.cok
  vals k hk:=by
    rcases cR.1 hk with hk|hk
    · obtain⟨y,hy⟩:=Ap h.chain k hk;exact hy.vals
    · simp at hk;subst hk;exact hg.vals
section
variable{a:List bA}{pre:List LX.Frame}{f:LX.Frame}{cells:List (List Val)}{st wh:Int}{x:bA}{c:Ins}{N:Nat}
theorem D6(h:wP a pre f cells x c):xD N ⟨pre++[f],cells,st,wh⟩ a=(bif ab ((c.op:Int)=1)then(idx f.regs c.a).bind fun l=>qN aq (pre++[{KD f x with regs:=(f.regs.set (c.a).toNat (⟨1,c.b⟩:Val))}]) cells st wh else bif ab ((c.op:Int)=2)then(idx f.regs c.b).bind fun e=>(idx f.regs c.a).bind fun k=>qN aq (pre++[{KD f x with regs:=(f.regs.set (c.a).toNat e)}]) cells st wh else bif ab ((c.op:Int)=3)then(idx c.args 0).bind fun j=>(idx f.regs c.b).bind fun i=>(idx f.regs c.c).bind fun g=>(vm_op j i g).bind fun d=>(idx f.regs c.a).bind fun m=>M6 ⟨pre++[f],cells,st,wh⟩ d.2 (pre++[{KD f x with regs:=(f.regs.set (c.a).toNat d.1)}])else bif ab ((c.op:Int)=4)then ng N ⟨pre++[f],cells,st,wh⟩ f x c a (ab ((c.op:Int)=4))else ng N ⟨pre++[f],cells,st,wh⟩ f x c a (ab ((c.op:Int)=6))):=by
 have o:=h.many;have hat:=h.fr.at_;have n:=h.proc.2;unfold tY at n;unfold xD;simp only[xI];rw[gI V V,Ui,bnd,h.fr.proc,bnd,h.ins,bnd,gI V V,gI V V];simp only[bj,Aq];rfl
theorem step1(h:wP a pre f cells x c)(b:c.op=1)(d:Gt x.regs c.a):R1 (xD N ⟨pre++[f],cells,st,wh⟩ a) (tH a pre f cells st wh x c):=by
 rw[D6 h,b];simp only[bm,decide_true,decide_false,cond_true,cond_false];rw[(h.reg d).1,bnd];unfold tH;simp only[b,if_true];exact⟨_,_,_,Z,Z,Z,Z⟩
theorem step2(h:wP a pre f cells x c)(d:c.op=2)(g:Gt x.regs c.a)(e:Gt x.regs c.b):R1 (xD N ⟨pre++[f],cells,st,wh⟩ a) (tH a pre f cells st wh x c):=by
 rw[D6 h,d];simp only[bm,decide_true,decide_false,cond_true,cond_false];rw[(h.reg e).1,bnd,(h.reg g).1,bnd];unfold tH;simp only[d,bm,if_true,if_false];exact⟨_,_,_,Z,Z,Z,Z⟩
theorem step3(h:wP a pre f cells x c)(d:c.op=3)(k:Gt x.regs c.a)(i:Gt x.regs c.b)(j:Gt x.regs c.c){n:Int}(hn:c.args=[n])(g:1<=n/\n<=5):R1 (xD N ⟨pre++[f],cells,st,wh⟩ a) (tH a pre f cells st wh x c):=by
 rw[D6 h,d,hn];simp only[bm,decide_true,decide_false,cond_true,cond_false];obtain⟨v,l,m⟩:=op_eq g (h.reg i).2 (h.reg j).2;rw[idx0,bnd,(h.reg i).1,bnd,(h.reg j).1,bnd,l,bnd,(h.reg k).1,bnd];unfold tH M6;simp only[d,hn,bm,if_true,if_false,nu];cases e:opP n (jW f.regs c.b) (jW f.regs c.c)with
 |none=>exact⟨_,_,_,rfl,rfl⟩
 |some w=>rw[m w e];exact⟨_,_,_,Z,Z,Z,Z⟩
theorem idx_cell{v:Val}(c:vM cells)(h:kE cells.length v)(b:v.kind=2):idx cells v.n=aj (cellAt cells v.n)/\(1<=(cellAt cells v.n).length/\(cellAt cells v.n).length<=4):=by
 have a:=h.ref b;exact⟨(Nh a).1,(c.at a).1⟩
theorem idx_fld{v:Val}{i:Int}(a:0<=i)(h:i<((cellAt cells v.n).length:Int)):idx (cellAt cells v.n) i=aj (jW (cellAt cells v.n) i):=(Jm Z ⟨a,h⟩).1
theorem field_get(h:wP a pre f cells x c)(e:c.op=4)(k:Gt x.regs c.a)(l:Gt x.regs c.b)(m:0<=c.c/\c.c<4):R1 (xD N ⟨pre++[f],cells,st,wh⟩ a) (tH a pre f cells st wh x c):=by
  rw[D6 h,e];simp only[bm,decide_true,decide_false,cond_true,cond_false];unfold ng TS FY FX;simp only[xI,bj,Aq,e,bm,decide_true,decide_false,cond_true,cond_false];have i:=h.reg l;rw[i.1];simp only[bnd];unfold tH;simp only[e,bm,if_true,if_false];by_cases g:(jW f.regs c.b).kind=2
  · have d:=idx_cell h.cok i.2 g;rw[dF V,cond_false,d.1];simp only[bnd];by_cases j:((cellAt cells (jW f.regs c.b).n).length:Int)<=c.c
    · rw[dT j,cond_true,if_pos V];exact⟨_,_,_,Z,Z⟩
    · rw[dF j,cond_false,if_neg V,idx_fld m.1 V,bnd,(h.reg k).1,bnd];exact⟨_,_,_,Z,Z,Z,Z⟩
  · rw[dT g,cond_true,if_pos (.inl g)];exact⟨_,_,_,Z,Z⟩
theorem field_put(h:wP a pre f cells x c)(e:c.op=6)(k:Gt x.regs c.a)(l:Gt x.regs c.b)(m:0<=c.c/\c.c<4):R1 (xD N ⟨pre++[f],cells,st,wh⟩ a) (tH a pre f cells st wh x c):=by
  rw[D6 h,e];simp only[bm,decide_true,decide_false,cond_true,cond_false];unfold ng TS FY FX;simp only[xI,bj,Aq,e,bm,decide_true,decide_false,cond_true,cond_false];have i:=h.reg k;rw[i.1];simp only[bnd];unfold tH;simp only[e,bm,if_true,if_false];by_cases g:(jW f.regs c.a).kind=2
  · have d:=idx_cell h.cok i.2 g;rw[dF V,cond_false,d.1];simp only[bnd];by_cases j:((cellAt cells (jW f.regs c.a).n).length:Int)<=c.c
    · rw[dT j,cond_true,if_pos V];exact⟨_,_,_,Z,Z⟩
    · rw[dF j,cond_false,if_neg V,(h.reg l).1,bnd,idx_fld m.1 V,bnd];exact⟨_,_,_,Z,Z,Z,Z⟩
  · rw[dT g,cond_true,if_pos (.inl g)];exact⟨_,_,_,Z,Z⟩
theorem LV(g:LX.Frame):dO ⟨pre++[g],cells,st,wh⟩=⟨pre.map (Ky (fE ⟨pre++[g],cells,st,wh⟩))++[Ky (fE ⟨pre++[g],cells,st,wh⟩) g],(dO ⟨pre++[g],cells,st,wh⟩).cells,st,wh⟩:=by
 unfold dO;simp
theorem sweep_len{s:LX.State}(h:Pn s):(dO s).cells.length<=s.cells.length/\(dO s).cells.length<=24:=by
 have a:=h.reach.1.len;have:=h.cells.1;unfold dO;simp;omega
theorem fresh_j1(e:List LX.Frame)(g:LX.Frame)(cs:List (List Val))(k:e.length<=20)(i:cs.length<=24)(f:Gt g.regs.length c.a)(j:1<=c.b/\c.b<=4):∃d t,zM c (e++[g]) cs st wh=aj (d,t)/\match newP ⟨e++[g],cs,st,wh⟩ c with|none=>d=aq|some u=>d=ar/\t=u:=by
  unfold zM newP;simp only[xI];by_cases h:cs.length=24
  · rw[dT V,cond_true,if_pos h];exact⟨_,_,Z,Z⟩
  · rw[dF V,cond_false,if_neg h,gI V V,Ui,bnd,(Jm rfl f).1,bnd,kC V,kC (room_le (by simp;omega) zq1),bj,Aq];refine⟨_,_,Z,Z,?_⟩;simp
theorem step5(r:mU a)(hN:100<=N)(h:wP a pre f cells x c)(g:c.op=5)(q:Gt x.regs c.a)(o:1<=c.b/\c.b<=4):R1 (xD N ⟨pre++[f],cells,st,wh⟩ a) (tH a pre f cells st wh x c):=by
  rw[D6 h,g];simp only[bm,decide_true,decide_false,cond_true,cond_false];unfold ng Zq;simp only[xI,bj,Aq,g,bm,decide_true,decide_false,cond_true,cond_false];unfold tH;simp only[g,bm,if_true,if_false];have v:=h.many;have j:=wP.sw r h (st:=st) (wh:=wh) h.KD;have i:Gt (KD f x).regs.length c.a:=by have:=h.KD.regs;rw[this];exact q
  have m:∀d:LX.State,(∃n t,zM c d.frames d.cells d.status d.bT=aj (n,t)/\match newP d c with|none=>n=aq|some u=>n=ar/\t=u)->
      R1 ((zM c d.frames d.cells d.status d.bT).bind fun y=>aj ((⟨aq,0,aq⟩:QY),y.1,y.2)) ((newP d c).map fun t=>(t,aE,aq)):=by
    rintro d⟨n,t,s,l⟩;rw[s,bnd];cases e:newP d c with
    |none=>rw[e]at l;exact⟨_,_,_,Z,l⟩
    |some u=>rw[e]at l;exact⟨_,_,_,Z,l.1,l.2,Z⟩
  by_cases k:cells.length=24
  · rw[dT V,cond_true,if_pos k];have p:({f with at_:=min (f.at_+1) ((x.code.length:Int)-1)}:LX.Frame)=KD f x:=rfl;rw[p,aac hN j,bnd];refine m _ ?_;rw[LV];exact fresh_j1 _ _ _ (by simp;omega) (sweep_len j).2 (by simpa[Ky]using i) o
  · rw[dF V,cond_false,if_neg k];exact m ⟨pre++[KD f x],cells,st,wh⟩<|fresh_j1 _ _ _ V h.cok.1 i o
theorem fill_loop{ρ:Type}{body:Int->Int->List Val->(List Val->Option ρ)->Option ρ}{K:List Val->Option ρ}{r:Int->Val}{P:Int->Prop}
  (b:∀(i:Nat) k y nx,i<y.length->P k->body (i:Int) k y nx=nx (y.set i (r k))):∀(l:List Int) (a rest:List Val),(∀k∈l,P k)->l.length<=rest.length->ic body K (a.length:Int) l (a++rest)=K (a++l.map r++rest.drop l.length)
 |[],a,rest,_,_=>by simp[ic]
 |k::l,a,z::rest,h,hl=>by
  rw[yP,b a.length k (a++z::rest) _ zq3 (h k zq3),show(a++z::rest).set a.length (r k)=(a++[r k])++rest by simp,show((a.length:Int)+1)=((a++[r k]).length:Nat) by simp,fill_loop b l (a++[r k]) rest (fun q c=>h q (bk _ c)) (by simpa using hl)];simp
 |k::l,a,[],h,hl=>by simp at hl
theorem step7(s:mU a)(h:wP a pre f cells x c)(j:c.op=7)(z:Gt x.regs c.a){p:bA}(hp:idx a c.b=aj p)(A:(c.args.length:Int)=p.params)(e:∀k∈c.args,Gt x.regs k):R1 (xD N ⟨pre++[f],cells,st,wh⟩ a) (tH a pre f cells st wh x c):=by
  rw[D6 h,j];simp only[bm,decide_true,decide_false,cond_true,cond_false];unfold ng vm_call;simp only[xI,bj,Aq,j,bm,decide_true,decide_false,cond_true,cond_false];unfold tH;simp only[j,bm,if_true,if_false];have w:=h.many;have n:=s.mem hp;by_cases l:pre.length+1=10
  · rw[dT (by simp;omega),cond_true,if_pos l];exact⟨_,_,_,Z,Z⟩
  · rw[dF (by simp;omega),cond_false,if_neg l,hp,bnd,kC V];have g:=fill_loop (K:=IZ ⟨pre++[KD f x],cells,st,wh⟩ c a) (body:=IY ⟨pre++[KD f x],cells,st,wh⟩) (r:=jW f.regs) (P:=fun k=>Gt x.regs k) (fun i k y v u q=>by
      unfold IY;simp only[xI];rw[gI V V,Ui,bnd];show((idx f.regs k).bind fun m=>(idx y (i:Int)).bind fun t=>v<|y.set ((i:Int)).toNat m)=_;rw[(h.reg q).1,bnd,xh u,bnd,bj]) c.args [] (cc p.regs.toNat ⟨0,0⟩) e (by simp;omega)
    have d:ic (IY ⟨pre++[KD f x],cells,st,wh⟩) (IZ ⟨pre++[KD f x],cells,st,wh⟩ c a) 0 c.args (cc p.regs.toNat ⟨0,0⟩)=_:=g;have o:({f with at_:=min (f.at_+1) ((x.code.length:Int)-1)}:LX.Frame)=KD f x:=rfl;rw[o,d];unfold IZ;simp only;rw[kC (room_le (by simp;omega) zq1),bnd];refine⟨_,_,_,Z,Z,?_,Z⟩;simp only[cQ,List.drop_replicate,hp,db,eL];rw[show p.regs.toNat-c.args.length=(p.regs-(c.args.length:Int)).toNat by omega]
theorem step8(j:mU a)(h:wP a pre f cells x c)(b:c.op=8)(i:Gt x.regs c.a):R1 (xD N ⟨pre++[f],cells,st,wh⟩ a) (tH a pre f cells st wh x c):=by
  rw[D6 h,b];simp only[bm,decide_true,decide_false,cond_true,cond_false];unfold ng vm_back;simp only[xI,bj,Aq,b,bm,decide_true,decide_false,cond_true,cond_false];unfold tH;simp only[b,bm,if_true,if_false];have e:=h.many;rw[(h.reg i).1,bnd,gI V V];rw[show sub? (pre++[({f with at_:=min (f.at_+1) ((x.code.length:Int)-1)}:LX.Frame)]) 0 (pre.length:Int)=aj pre by unfold sub?;rw[if_pos (by simp;omega)];simp[cut],bnd];rw[show(pre++[({f with at_:=min (f.at_+1) ((x.code.length:Int)-1)}:LX.Frame)]).take pre.length=pre by simp];rcases gf pre with hp|⟨q,g,hp⟩
  · subst hp;exact⟨_,_,_,Z,Z,Z,Z⟩
  · rw[gh]at hp;subst hp;have d:=h.jK;rw[Sl]at d;simp only[bc,bq,ez]at e;rw[dF (by simp;omega),cond_false,xI,gI V V,Ui,bnd,(Jm Z d).1,bnd,bj,Aq,bnd];simp only[eE,ee,fx,fl];exact⟨_,_,_,Z,Z,Z,Z⟩
theorem LW(h:wP a pre f cells x c)(b:(c.op=9\/c.op=11\/c.op=13)/\Gt x.regs c.a\/c.op=10\/c.op=12):R1 (xD N ⟨pre++[f],cells,st,wh⟩ a) (tH a pre f cells st wh x c):=by
  rw[D6 h];rcases b with⟨b|b|b,hr⟩|b|b
  · rw[b];simp only[bm,decide_true,decide_false,cond_true,cond_false];unfold ng;simp only[xI,bj,Aq,b,bm,decide_true,decide_false,cond_true,cond_false];unfold tH;simp only[b,bm,if_true,if_false];rw[(h.reg hr).1,bnd];by_cases d:(jW f.regs c.a).kind=1
    · rw[dT d,if_pos d];exact⟨_,_,_,Z,Z,Z,Z⟩
    · rw[dF d,if_neg d];exact⟨_,_,_,Z,Z⟩
  · rw[b];simp only[bm,decide_true,decide_false,cond_true,cond_false];unfold ng;simp only[xI,bj,Aq,b,bm,decide_true,decide_false,cond_true,cond_false];unfold tH;simp only[b,bm,if_true,if_false];rw[(h.reg hr).1,bnd];by_cases d:(jW f.regs c.a).kind=1
    · rw[dF V,cond_false,if_pos d];exact⟨_,_,_,Z,Z,Z,Z⟩
    · rw[dT d,cond_true,if_neg d];exact⟨_,_,_,Z,Z⟩
  · rw[b];simp only[bm,decide_true,decide_false,cond_true,cond_false];unfold ng;simp only[xI,bj,Aq,b,bm,decide_true,decide_false,cond_true,cond_false];unfold tH;simp only[b,bm,if_true,if_false];have g:=h.reg hr;rw[g.1,bnd];have e:=g.2;unfold kE at e;by_cases d:(jW f.regs c.a).kind≠2/\(jW f.regs c.a).n=0
    · rw[if_pos d,show(ab ((jW f.regs c.a).kind=0)||(ab ((jW f.regs c.a).kind=1)&&ab ((jW f.regs c.a).n=0)))=ar by simp;omega,cond_true];exact⟨_,_,_,Z,Z,Z,Z⟩
    · rw[if_neg d,show(ab ((jW f.regs c.a).kind=0)||(ab ((jW f.regs c.a).kind=1)&&ab ((jW f.regs c.a).n=0)))=aq by rw[cY,cE];simp only[decide_eq_false_iff_not];omega,cond_false];exact⟨_,_,_,Z,Z,Z,Z⟩
  · rw[b];simp only[bm,decide_true,decide_false,cond_true,cond_false];unfold ng;simp only[xI,bj,Aq,b,bm,decide_true,decide_false,cond_true,cond_false];unfold tH;simp only[b,bm,if_true,if_false];exact⟨_,_,_,Z,Z,Z,Z⟩
  · rw[b];simp only[bm,decide_true,decide_false,cond_true,cond_false];unfold ng;simp only[xI,bj,Aq,b,bm,decide_true,decide_false,cond_true,cond_false];unfold tH;simp only[b,bm,if_true,if_false];exact⟨_,_,_,Z,Z,Z,Z⟩
theorem vm_step_ok(i:mU a)(hN:100<=N)(h:wP a pre f cells x c):R1 (xD N ⟨pre++[f],cells,st,wh⟩ a) (tH a pre f cells st wh x c):=by
  rcases h.good with g|g|g|g|g|g|g|g|g|g
  · exact step1 h g.1 g.2.1
  · exact step2 h g.1 g.2.1 g.2.2
  · obtain⟨g1,g2,d,b,n,e,j,k⟩:=g;exact step3 h g1 g2 d b e ⟨j,k⟩
  · obtain⟨g1|g1,g2,d,b⟩:=g
    · exact field_get h g1 g2 d b
    · exact field_put h g1 g2 d b
  · exact step5 i hN h g.1 g.2.1 g.2.2
  · obtain⟨g1,g2,⟨p,d,b⟩,e⟩:=g;exact step7 i h g1 g2 d b e
  · obtain⟨g1|g1|g1,g2⟩:=g
    · exact step8 i h g1 g2
    · exact LW h<|.inl ⟨.inl g1,g2⟩
    · exact LW h<|.inl ⟨.inr<|.inl g1,g2⟩
  · exact LW h<|.inr<|.inl g
  · exact LW h<|.inr<|.inr g.1
  · exact LW h<|.inl ⟨.inr<|.inr g.1,g.2.1⟩
end
open Go Go.Proofs Go.LX
theorem kE.up{n m:Nat}{v:Val}(h:kE n v)(a:n<=m):kE m v:=by unfold kE at*;omega
theorem Kw.up{a:List bA}{n m:Nat}{f:LX.Frame}{x:bA}(h:Kw a n f x)(b:n<=m):Kw a m f x:=⟨h.proc,h.at_,h.regs,fun v c=>(h.vals v c).up b⟩
theorem Po{a:List bA}{n m:Nat}(b:n<=m):∀{l:List LX.Frame} {t:Int},nC a n t l->nC a m t l
 |[],_,_=>trivial
 |f::l,t,h=>by obtain⟨⟨x,g⟩,d,c⟩:=h;exact⟨⟨x,g.up b⟩,d,Po b c⟩
theorem ren_ok{n:Nat}{l:List Int}{v:Val}(h:kE n v)(b:v.kind=2->v.n∈l):kE l.length (ren l v):=by
  unfold ren;by_cases a:v.kind=2
  · rw[if_pos a];have:=ec<|b a;unfold kE;simp only;omega
  · rw[if_neg a];unfold kE at*;omega
theorem Kw.ren{a:List bA}{n:Nat}{l:List Int}{f:LX.Frame}{x:bA}(h:Kw a n f x)(hr:kz f.regs l):Kw a l.length (Ky l f) x where
 proc:=h.proc
 at_:=h.at_
 regs:=by unfold Ky;simpa using h.regs
 vals v hv:=by
  unfold Ky at hv;simp only[dL]at hv;obtain⟨w,hw,rfl⟩:=hv;exact ren_ok (h.vals w hw)<|hr w hw
theorem Uj{a:List bA}{n:Nat}{r:List Int}:∀{l:List LX.Frame} {t:Int},nC a n t l->(∀f∈l,kz f.regs r)->nC a r.length t (l.map (Ky r))
 |[],_,_,_=>trivial
 |f::l,t,h,hr=>by
  obtain⟨⟨x,g⟩,d,c⟩:=h;refine⟨⟨x,g.ren<|hr f zq3⟩,d,?_⟩;have:=Uj c fun k b=>hr k<|bk _ b;simpa[Ky]using this
theorem Pp{s:LX.State}(h:Pn s):vM (dO s).cells:=by
 have b:=h.reach;have i:=b.1.len;have hn:=h.cells.1;refine⟨by simp[dO];omega,fun c d=>?_⟩;unfold dO at d⊢;simp only[dL,cF]at d⊢;obtain⟨k,e,rfl⟩:=d;have a:=h.cells.at<|b.1.2 k e;refine⟨by simpa using a.1,fun v g=>?_⟩;obtain⟨w,f,rfl⟩:=dL.1 g;exact ren_ok (a.2 w f)<|b.2.2 k e w f
theorem Uk{a:List bA}(ha:mU a){s:LX.State}(h:vI a s):vI a (dO s) where
 status:=h.status
 bT:=h.bT
 stay:=h.stay
 ended:=by rw[show(dO s).status=s.status from rfl,h.ended];simp[dO]
 many:=by simpa[dO]using h.many
 cells:=Pp (h.sw ha)
 frames:=by
  have hr:=(h.sw ha).reach;have:=Uj h.frames<|Jl hr.2.1;simpa[dO]using this
theorem set_vals{n:Nat}{r:List Val}{i:Nat}{v:Val}(h:∀w∈r,kE n w)(b:kE n v):∀w∈r.set i v,kE n w:=fun w a=>by
  rcases kj a with a|rfl
  · exact h w a
  · exact b
section
variable{a:List bA}{pre:List LX.Frame}{f:LX.Frame}{cells:List (List Val)}{wh:Int}{x:bA}{c:Ins}{N:Nat}
theorem wP.st(h:wP a pre f cells x c){g:LX.Frame}{y:bA}{cs:List (List Val)}{s w:Int}(hg:Kw a cs.length g y)(hto:g.jK=f.jK)(hc:vM cs)(hl:cells.length<=cs.length)(hs:(s=0/\w=0)\/(s=3/\ -1000000000<=w/\w<=1000000000)):vI a ⟨pre++[g],cs,s,w⟩ where
 status:=by simp only;omega
 bT:=by simp only;omega
 stay:=by simp only;omega
 ended:=by simp;omega
 many:=by have:=h.many;simp;omega
 cells:=hc
 frames:=rH.2 ⟨Po hl h.chain,⟨y,hg⟩,by rw[hto];exact h.jK⟩
theorem opP_ok{n:Nat}{k:Int}{b c v:Val}(a:1<=k/\k<=5)(h:opP k b c=aj v):kE n v:=by
  unfold opP at h;split at h
  · cases h;split<;>(unfold kE;simp)
  split at h
  · cases h
  split at h
  · cases h;split<;>(unfold kE;simp)
  simp only at h;generalize (if k=1 then b.n+c.n else if k=2 then b.n-c.n else b.n*c.n)=z at h;split at h
  · rename_i hz;cases h;exact .inr (.inl ⟨Z,hz.1,hz.2⟩)
  · cases h
theorem Kw.put{n:Nat}{f:LX.Frame}{x:bA}(h:Kw a n f x){i:Nat}{v:Val}(b:kE n v):Kw a n {f with regs:=f.regs.set i v} x:=⟨h.proc,h.at_,by simpa using h.regs,set_vals h.vals b⟩
theorem Kw.jump{n:Nat}{f:LX.Frame}{x:bA}(h:Kw a n f x){b:Int}(c:0<=b/\b<x.code.length):Kw a n {f with at_:=b} x:=⟨h.proc,c,h.regs,h.vals⟩
theorem newP_ok{s t:LX.State}{g:LX.Frame}(h:newP ⟨pre++[g],cells,0,wh⟩ c=aj t)(i:vI a ⟨pre++[g],cells,0,wh⟩)(p:1<=c.b/\c.b<=4):vI a t/\t.status=0:=by
  unfold newP at h;split at h
  · cases h
  rename_i k;simp only[fl,eE,ee,fx,db,pC]at h k;cases h;obtain⟨m,⟨x,o⟩,n⟩:=rH.1 i.frames;have l:=i.cells;simp only at m o n l;have e:cells.length<=(cells++[cc c.b.toNat (⟨0,0⟩:Val)]).length:=by simp
  refine⟨⟨i.status,i.bT,i.stay,by simp,by simpa using i.many,⟨?_,?_⟩,rH.2 ⟨Po e m,⟨x,(o.up e).put ?_⟩,n⟩⟩,Z⟩
  · have:=l.1;simp;omega
  · intro d f;rcases cR.1 f with f|f
    · have:=l.2 d f;exact⟨this.1,fun v j=>(this.2 v j).up e⟩
    · simp at f;subst f;refine⟨by simp;omega,fun v j=>?_⟩;have:=fp j;subst this;unfold kE;simp
  · unfold kE;simp;try omega
theorem step_keeps(N:mU a)(h:wP a pre f cells x c)(R:wh=0){t:LX.State}{A:Option Int}{p:Bool}(i:tH a pre f cells 0 wh x c=aj (t,A,p)):
    vI a t/\(t.status=0\/t.status=1/\p=aq\/t.status=3/\p=ar)/\(A.isSome->t.status=0/\c.op=9):=by
  subst R;have j:=h.KD;have o:∀{v:Val},kE cells.length v->vI a ⟨pre++[{KD f x with regs:=f.regs.set c.a.toNat v}],cells,0,0⟩:=fun r=>h.st (j.put r) Z h.cok (bt _)<|.inl ⟨Z,Z⟩;have E:vI a ⟨pre++[KD f x],cells,0,0⟩:=h.st j Z h.cok (bt _)<|.inl ⟨Z,Z⟩;have w:(0<=c.b/\c.b<x.code.length)->vI a ⟨pre++[{KD f x with at_:=c.b}],cells,0,0⟩:=fun m=>h.st (j.jump m) Z h.cok (bt _)<|.inl ⟨Z,Z⟩;unfold tH at i;rcases h.good with g|g|g|g|g|g|g|g|g|g
  · obtain⟨e,z,m⟩:=g;simp only[e,bm,if_true,if_false]at i;cases i;exact⟨o<|.inr<|.inl ⟨Z,m.1,m.2⟩,.inl Z,by simp⟩
  · obtain⟨e,z,m⟩:=g;simp only[e,bm,if_true,if_false]at i;cases i;exact⟨o (h.reg m).2,.inl Z,by simp⟩
  · obtain⟨e,z,m,P,n,hn,M⟩:=g;simp only[e,hn,bm,if_true,if_false,nu]at i;obtain⟨v,r,i⟩:=oR.1 i;cases i;exact⟨o<|opP_ok M r,.inl Z,by simp⟩
  · obtain⟨e,z,m,P⟩:=g;rcases e with e|e
    · simp only[e,bm,if_true,if_false]at i;split at i
      · cases i
      · rename_i G;cases i;have C:(jW f.regs c.b).kind=2:=by omega
        have r:=(h.reg m).2;have l:=h.cok.at<|r.ref C;exact⟨o<|l.2 _ (Jm Z ⟨P.1,by omega⟩).2,.inl Z,by simp⟩
    · simp only[e,bm,if_true,if_false]at i;split at i
      · cases i
      · rename_i G;cases i;have C:(jW f.regs c.a).kind=2:=by omega
        have r:=(h.reg z).2;have l:=h.cok.at<|r.ref C;refine⟨h.st (by simpa using j) Z ⟨by simpa using h.cok.1,fun d K=>?_⟩ zq3<|.inl ⟨Z,Z⟩,.inl Z,by simp⟩;rw[List.length_set];rcases kj K with K|rfl
        · exact h.cok.2 d K
        · exact⟨by simpa using l.1,set_vals l.2 (h.reg m).2⟩
  · obtain⟨e,z,m⟩:=g;simp only[e,bm,if_true,if_false]at i;obtain⟨u,I,i⟩:=oR.1 i;cases i;split at I
    · have F:=Uk N E;rw[LV]at I F;have:=newP_ok (s:=t) I F m;exact⟨this.1,.inl this.2,by simp⟩
    · have:=newP_ok (s:=t) I E m;exact⟨this.1,.inl this.2,by simp⟩
  · obtain⟨e,z,⟨T,hp,hl⟩,B⟩:=g;simp only[e,bm,if_true,if_false]at i;split at i
    · cases i
    · rename_i Q;cases i;have L:=N.mem hp;have O:=h.many;refine⟨⟨by simp,by simp,by simp,by simp,by simp;omega,h.cok,rH.2 ⟨E.frames,⟨T,⟨hp,?_,?_,?_⟩⟩,?_⟩⟩,.inl Z,by simp⟩
      · have:=L.2.2.2;unfold tY at this;simp only;omega
      · simp only[hp,db,eL,bc,cF,jt];omega
      · intro v r;rcases cR.1 r with r|r
        · obtain⟨k,C,rfl⟩:=dL.1 r;exact(h.reg<|B k C).2
        · have:=fp r;subst this;unfold kE;simp
      · simp only[eE,ee,fx];have X:=j.regs;rw[X];exact z
  · obtain⟨e,z⟩:=g;rcases e with e|e|e
    · simp only[e,bm,if_true,if_false]at i;rcases gf pre with hp|⟨q,g,hp⟩
      · subst hp;simp only[List.getLast?_nil]at i;cases i;exact⟨⟨by simp,by simp,by simp,by simp,by simp,h.cok,U⟩,.inr<|.inl ⟨Z,Z⟩,by simp⟩
      · rw[gh]at hp;subst hp;simp only[eE,ee,fx,fl]at i;cases i;obtain⟨c1,⟨y,c2⟩,S⟩:=rH.1 h.chain;have O:=h.many;simp only[bc,bq,ez]at O;exact⟨⟨by simp,by simp,by simp,by simp,by simp;omega,h.cok,rH.2 ⟨c1,⟨y,c2.put (h.reg z).2⟩,S⟩⟩,.inl Z,by simp⟩
    · simp only[e,bm,if_true,if_false]at i;split at i
      · cases i;exact⟨E,.inl Z,fun _=>⟨Z,e⟩⟩
      · cases i
    · simp only[e,bm,if_true,if_false]at i;split at i
      · rename_i C;cases i;exact⟨h.st j Z h.cok (bt _)<|.inr ⟨Z,(h.reg z).2.int C⟩,.inr<|.inr ⟨Z,Z⟩,by simp⟩
      · cases i
  · simp only[g,bm,if_true,if_false]at i;cases i;exact⟨E,.inl Z,by simp⟩
  · obtain⟨e,m⟩:=g;simp only[e,bm,if_true,if_false]at i;cases i;exact⟨w m,.inl Z,by simp⟩
  · obtain⟨e,z,m⟩:=g;simp only[e,bm,if_true,if_false]at i;cases i;split
    · exact⟨w m,.inl Z,by simp⟩
    · exact⟨E,.inl Z,by simp⟩
end
open Go Go.Proofs Go.LX
def insOf(a:List bA)(f:LX.Frame):Option (bA×Ins):=(idx a f.proc).bind fun x=>(idx x.code f.at_).map fun c=>(x,c)
def zT(a:List bA)(s:LX.State):Option (LX.State×Option Int×Bool):=
 s.frames.getLast?.bind fun f=>(insOf a f).bind fun q=>tH a s.frames.dropLast f s.cells s.status s.bT q.1 q.2
def LZ(a:List bA)(s:LX.State):Int:=((s.frames.getLast?.bind fun f=>insOf a f).map fun q=>q.2.op).getD 0
def wZ(a:List bA):Nat->List Int->Nat->LX.State->LX.State×List Int×Nat
 |0,said,n,s=>(s,said,n)
 |m+1,said,n,s=>
  if s.status≠0 then(s,said,n)else
  if said.length=40/\LZ a s=9 then(s,said,n)else
  match zT a s with
  |none=>({s with status:=2},said,n+1)
  |some (t,o,p)=>if p then(t,said++o.toList,n+1)else wZ a m (said++o.toList) (n+1) t
theorem H5{a:List bA}(e:mU a){s:LX.State}(h:vI a s)(b:s.status=0):∃pre f x c,s=⟨pre++[f],s.cells,0,0⟩/\wP a pre f s.cells x c/\zT a s=tH a pre f s.cells 0 0 x c/\LZ a s=c.op:=by
  obtain⟨fr,cells,st,wh⟩:=s;simp only at b;subst b;have d:wh=0:=h.stay zq3;subst d;rcases gf fr with hp|⟨pre,f,hp⟩
  · have:=h.ended.2 hp;simp at this
  · rw[gh]at hp;subst hp;obtain⟨x,c,g⟩:=top_ok e h;refine⟨pre,f,x,c,Z,g,?_,?_⟩
    · unfold zT insOf;simp only[eE,ee,fx,fl,bnd,g.fr.proc,g.ins,db]
    · unfold LZ insOf;simp only[eE,ee,fx,bnd,g.fr.proc,g.ins,db,eL]
theorem vm_step_P{a:List bA}(b:mU a){s:LX.State}(h:vI a s)(d:s.status=0){N:Nat}(hN:100<=N):R1 (xD N s a) (zT a s):=by
 obtain⟨pre,f,x,c,e,i,g,-⟩:=H5 b h d;rw[g];generalize s.cells=cells at*;subst e;exact vm_step_ok b hN i
theorem zU{a:List bA}(b:mU a){s:LX.State}(h:vI a s)(e:s.status=0){t:LX.State}{o:Option Int}{p:Bool}(d:zT a s=aj (t,o,p)):
  vI a t/\(t.status=0\/t.status=1/\p=aq\/t.status=3/\p=ar)/\(o.isSome->t.status=0/\LZ a s=9):=by
 obtain⟨pre,f,x,c,k,j,i,g⟩:=H5 b h e;rw[i]at d;rw[g];exact step_keeps b j Z d
theorem top_reads{a:List bA}(i:mU a){s:LX.State}(h:vI a s)(g:s.status=0):(s.frames.length<=10/\1<=s.frames.length)/\∃f x c,idx s.frames ((s.frames.length:Int)-1)=aj f/\idx a f.proc=aj x/\idx x.code f.at_=aj c/\c.op=LZ a s:=by
 obtain⟨pre,f,x,c,b,d,j,e⟩:=H5 i h g;refine⟨⟨h.many,by rw[b];simp⟩,f,x,c,?_,d.fr.proc,d.ins,e.symm⟩;have:s.frames=pre++[f]:=by rw[b]
 rw[this,xI,Ui]
theorem fail_ok{a:List bA}{s:LX.State}(h:vI a s)(c:s.status=0):vI a {s with status:=2}:=by
  have b:s.bT=0:=h.stay V;refine⟨by simp,h.bT,fun _=>b,?_,h.many,h.cells,h.frames⟩;constructor
  · intro e;simp at e
  · intro e;have:=h.ended.2 e;omega
theorem run_loop{a:List bA}(u:mU a){N:Nat}(hN:100<=N)(c:Int):∀(m M:Nat) (b:List Int) (n:Nat) (s:LX.State),vI a s->b.length<=40->c=(n:Int)+m->c<=2000->m<M->
    again (BN N c a) M (b,(n:Int),s.frames,s.cells,s.status,s.bT)=aj ((wZ a m b n s).1,(wZ a m b n s).2.1,((wZ a m b n s).2.2:Int),0)
  |m,0,b,n,s,h,hl,hc,hb,hM=>by omega
  |0,M+1,b,n,s,h,hl,hc,hb,hM=>by
    rw[Hg];unfold BN Cw wZ;simp only;rw[show(ab ((n:Int)<c)&&ab ((s.status:Int)=0))=aq by rw[dF V];rfl,cond_false]
  |m+1,M+1,b,n,s,h,hl,hc,hb,hM=>by
    rw[Hg];have B:=run_loop u hN c m M;generalize again (BN N c a) M=K at B⊢;unfold BN wZ;simp only;by_cases j:s.status=0
    · rw[dT V,dT j,mQ,cond_true,if_neg V];obtain⟨L,f,x,i,I,G,F,E⟩:=top_reads u h j;rw[gI V V,I,bnd];have go:Ja N b n s.frames s.cells s.status s.bT a K aq=aj (match zT a s with
          |none=>({s with status:=2},b,((n+1:Nat):Int),0)
          |some (t,o,p)=>if p then(t,b++o.toList,((n+1:Nat):Int),0)else((wZ a m (b++o.toList) (n+1) t).1,(wZ a m (b++o.toList) (n+1) t).2.1,((wZ a m (b++o.toList) (n+1) t).2.2:Int),0))\/(b.length=40/\LZ a s=9):=by
        by_cases d:b.length=40/\LZ a s=9
        · exact .inr d
        left;unfold Ja;rw[cond_false,show(⟨s.frames,s.cells,s.status,s.bT⟩:LX.State)=s from rfl,copy_eq (h.small u),bnd];obtain⟨o,P,k,O,w⟩:=vm_step_P u h j hN;rw[O,bnd,gI V V];cases eq:zT a s with
        |none=>
          rw[eq]at w;simp only at w;subst w;simp only[kb,cond_true];unfold Cw
          push_cast;rfl
        |some q=>
          obtain⟨t,o2,p⟩:=q;rw[eq]at w;obtain⟨rfl,rfl,rfl⟩:=w;have C:=zU u h j eq;simp only[eo,cond_false];have v:∀l,l=b++o2.toList->l.length<=40->I9 (⟨o2.isSome,o2.getD 0,p⟩,ar,k) n K l=aj (if p then(k,b++o2.toList,((n+1:Nat):Int),0)else((wZ a m (b++o2.toList) (n+1) k).1,(wZ a m (b++o2.toList) (n+1) k).2.1,((wZ a m (b++o2.toList) (n+1) k).2.2:Int),0)):=by
            intro l y A;subst y;unfold I9 Cw;simp only;cases p with
            |true=>rw[cond_true,if_pos Z];push_cast;rfl
            |false=>
              rw[cond_false,if_neg zq3];have:=B (b++o2.toList) (n+1) k C.1 A (by push_cast;omega) hb V;rw[<-this];push_cast;rfl
          cases o2 with
          |none=>
            simp only[pB,cond_false];exact v b zq3 hl
          |some z=>
            have r:=(C.2.2 Z).2;simp only[Option.isSome_some,cond_true];rw[kC (room_le (by simp;omega) zq1)];exact v (b++[z]) zq3 (by simp;omega)
      by_cases g:b.length=40
      · rw[dT V,cond_true,G,bnd,F,bnd,E];by_cases r:LZ a s=9
        · rw[if_pos ⟨g,r⟩,dT r];rfl
        · rw[if_neg (fun e=>r e.2),dF r];rcases go with go|go
          · rw[go];cases zT a s with
            |none=>rfl
            |some q=>obtain⟨t,o,p⟩:=q;cases p<;>rfl
          · exact absurd go.2 r
      · rw[dF V,cond_false,if_neg (fun e=>g e.1)];rcases go with go|go
        · rw[go];cases zT a s with
          |none=>rfl
          |some q=>obtain⟨t,o,p⟩:=q;cases p<;>rfl
        · exact absurd go.1 g
    · rw[dF j,Bool.and_false,cond_false,if_pos j];rfl
theorem WS{a:List bA}(i:mU a):∀(m:Nat) (b:List Int) (n:Nat) (s:LX.State),vI a s->b.length<=40->
    vI a (wZ a m b n s).1/\(wZ a m b n s).2.1.length<=40/\n<=(wZ a m b n s).2.2/\(wZ a m b n s).2.2<=n+m/\b<+:(wZ a m b n s).2.1/\(wZ a m b n s).2.1.length<=b.length+((wZ a m b n s).2.2-n)/\((wZ a m b n s).2.2=n->(wZ a m b n s).1=s)
  |0,b,n,s,h,hl=>⟨h,hl,bt _,bt _,cl _,by simp[wZ],fun _=>rfl⟩
  |m+1,b,n,s,h,hl=>by
    unfold wZ;by_cases g:s.status=0
    · rw[if_neg V];by_cases d:b.length=40/\LZ a s=9
      · rw[if_pos d];exact⟨h,hl,bt _,by simp,cl _,by simp,fun _=>rfl⟩
      · rw[if_neg d];cases eq:zT a s with
        |none=>exact⟨fail_ok h g,hl,by simp,by simp,cl _,by simp,fun e=>by simp at e⟩
        |some q=>
          obtain⟨t,o,p⟩:=q;have f:=zU i h g eq;have c:(b++o.toList).length<=40:=by
            cases o with
            |none=>simpa using hl
            |some z=>have x:=(f.2.2 Z).2;simp;omega
          have ho:o.toList.length<=1:=by cases o<;>simp
          simp only;split
          · exact⟨f.1,c,by simp,by simp,eC _ _,by show(b++o.toList).length<=b.length+(n+1-n);rw[bc];omega,fun e=>by simp at e⟩
          · obtain⟨r,k,u,w,j,l,v⟩:=WS i m (b++o.toList) (n+1) t f.1 c;refine⟨r,k,by omega,by omega,(eC _ _).trans j,?_,fun e=>by omega⟩;rw[bc]at l;omega
    · rw[if_pos g];exact⟨h,hl,bt _,by simp,cl _,by simp,fun _=>rfl⟩
theorem vm_Run_eq(a:List bA)(s:LX.State)(c:Int){N:Nat}(hN:3000<=N):Wp N a s c=aj (if Js a≠0 then(⟨[],[],0,0⟩,[],0,Js a)else if ckS a s≠0 then(⟨[],[],0,0⟩,[],0,ckS a s)else if c<0\/2000<c then(⟨[],[],0,0⟩,[],0,3)else if s.status≠0 then(⟨[],[],0,0⟩,[],0,7)else((wZ a c.toNat [] 0 s).1,(wZ a c.toNat [] 0 s).2.1,((wZ a c.toNat [] 0 s).2.2:Int),0)):=by
  unfold Wp;rw[J3,bnd];by_cases b:Js a=0
  · rw[if_neg V,if_neg V];by_cases e:ckS a s=0
    · rw[dF V,cond_false,if_neg V];by_cases d:c<0\/2000<c
      · rw[show(ab ((c:Int)<0)||ab ((2000:Int)<c))=ar by rw[dw];simp only[decide_eq_true_eq];exact d,cond_true,if_pos d]
      · rw[show(ab ((c:Int)<0)||ab ((2000:Int)<c))=aq by rw[cY];simp only[decide_eq_false_iff_not];omega,cond_false,if_neg d];by_cases h:s.status=0
        · rw[dF V,cond_false,if_neg V];have g:=pg b;have f:=Jk.1 e;rw[copy_eq (f.small g),bnd];have:=run_loop g (N:=N) V c c.toNat N [] 0 s f zq3 V V V;exact this
        · rw[dT h,cond_true,if_pos h]
    · rw[dT e,cond_true,if_pos e]
  · rw[if_pos b,if_pos b,dT b,cond_true]
theorem vm_Wake_eq(a:List bA)(s:LX.State):TR a s=aj (if Js a≠0 then(⟨[],[],0,0⟩,Js a)else if ckS a s≠0 then(⟨[],[],0,0⟩,ckS a s)else if s.status≠3 then(⟨[],[],0,0⟩,7)else(⟨s.frames,s.cells,0,0⟩,0)):=by
  unfold TR;rw[J3,bnd];by_cases b:Js a=0
  · rw[if_neg V,if_neg V];by_cases c:ckS a s=0
    · rw[dF V,cond_false,if_neg V];by_cases d:s.status=3
      · rw[dF V,cond_false,if_neg V,copy_eq ((Jk.1 c).small (pg b)),bnd]
      · rw[dT d,cond_true,if_pos d]
    · rw[dT c,cond_true,if_pos c]
  · rw[if_pos b,if_pos b,dT b,cond_true]
def vB(a:List bA):LX.State:=⟨[⟨0,0,cc (((idx a 0).map (fun x:bA=>x.regs)).getD 0).toNat ⟨0,0⟩,0⟩],[],0,0⟩
theorem aad{a:List bA}(b:mU a):∃x,idx a 0=aj x:=by
 have:=b.many;cases a with
 |nil=>simp at this
 |cons x l=>exact⟨x,idx0 x l⟩
theorem vm_New_eq(a:List bA):Zl a=aj (if Js a≠0 then(⟨[],[],0,0⟩,Js a)else(vB a,0)):=by
  unfold Zl;rw[WJ,bnd];by_cases b:Js a=0
  · rw[dF V,cond_false,if_neg V];obtain⟨x,c⟩:=aad<|pg b;have:=((pg b).mem c).2.2.1;rw[c,bnd,kC V];unfold vB;rw[c];rfl
  · rw[dT b,cond_true,if_pos b]
theorem aae{a:List bA}(d:mU a):vI a (vB a):=by
  obtain⟨x,b⟩:=aad d;have e:=d.mem b;have g:=e.2.2.2;unfold tY at g;refine⟨by simp[vB],by simp[vB],by simp[vB],by simp[vB],by simp[vB],⟨by simp[vB],fun c h=>by simp[vB]at h⟩,⟨x,b,by simp only;omega,?_,fun v f=>?_⟩,by simp,trivial⟩
  · simp only[b,db,eL,jt];omega
  · have:=fp f;subst this;unfold kE;simp
def wQ(ρ:Int->Int)(v:Val):Val:=if v.kind=2 then⟨v.kind,ρ v.n⟩else v
def mW(ρ:Int->Int)(f:LX.Frame):LX.Frame:={f with regs:=f.regs.map (wQ ρ)}
structure XP(ρ:Int->Int)(R:List Int)(s t:LX.State):Prop where
 frames:t.frames=s.frames.map (mW ρ)
 status:t.status=s.status
 bT:t.bT=s.bT
 roots:kz (YtodkbibbgakkdaaGreatDoor.roots s.frames) R
 range:∀x∈R,0<=x/\x<s.cells.length
 range':∀x∈R,0<=ρ x/\ρ x<t.cells.length
 inj:∀x∈R,∀y∈R,ρ x=ρ y->x=y
 cells:∀x∈R,cellAt t.cells (ρ x)=(cellAt s.cells x).map (wQ ρ)/\kz (cellAt s.cells x) R
theorem Cz(ρ:Int->Int)(v:Val):(wQ ρ v).kind=v.kind:=by unfold wQ;split<;>rfl
theorem Ul(ρ:Int->Int){v:Val}(h:v.kind=2):wQ ρ v=⟨v.kind,ρ v.n⟩:=if_pos h
theorem J4(ρ:Int->Int){v:Val}(h:v.kind≠2):wQ ρ v=v:=if_neg h
section
variable{ρ:Int->Int}{R:List Int}{s t:LX.State}
theorem mem_map_inj(c:∀x∈R,∀y∈R,ρ x=ρ y->x=y){l:List Int}(d:∀x∈l,x∈R){x:Int}(b:x∈R):ρ x∈l.map ρ↔x∈l:=by
  constructor
  · intro h;obtain⟨y,a,e⟩:=dL.1 h;rw[<-c y (d y a) x b e];exact a
  · exact fun h=>List.mem_map_of_mem h
theorem QN(a:∀x∈R,∀y∈R,ρ x=ρ y->x=y):∀{l:List Int},(∀x∈l,x∈R)->∀{x:Int},x∈R->(l.map ρ).idxOf (ρ x)=l.idxOf x
  |[],_,x,_=>rfl
  |y::l,hl,x,hx=>by
    rw[ck,sA,sA,QN a (fun z hz=>hl z (bk _ hz)) hx];by_cases e:y=x
    · subst e;simp
    · have b:ρ y≠ρ x:=fun h=>e<|a y (hl y zq3) x hx h;rw[show(ρ y==ρ x)=aq by simpa using b,show(y==x)=aq by simpa using e]
theorem metV_map(g:∀x∈R,∀y∈R,ρ x=ρ y->x=y){l:List Int}(e:∀x∈l,x∈R){v:Val}(f:v.kind=2->v.n∈R):Uf (l.map ρ) (wQ ρ v)=(Uf l v).map ρ/\∀x∈Uf l v,x∈R:=by
  unfold Uf;by_cases a:v.kind=2
  · rw[Ul ρ a];simp only[a,true_and];have c:=mem_map_inj g e<|f a;by_cases d:v.n∈l
    · rw[if_neg (fun h=>h (c.2 d)),if_neg (fun h=>h d)];exact⟨Z,e⟩
    · rw[if_pos (fun h=>d (c.1 h)),if_pos d];refine⟨by simp,fun x b=>?_⟩;rcases cR.1 b with b|b
      · exact e x b
      · simp at b;subst b;exact f a
  · rw[J4 ρ a,if_neg (fun h=>a h.1),if_neg (fun h=>a h.1)];exact⟨Z,e⟩
theorem aaf(a:∀x∈R,∀y∈R,ρ x=ρ y->x=y):∀{vs:List Val} {l:List Int},(∀x∈l,x∈R)->kz vs R->Ug (l.map ρ) (vs.map (wQ ρ))=(Ug l vs).map ρ/\∀x∈Ug l vs,x∈R
 |[],l,hl,_=>⟨rfl,hl⟩
 |v::vs,l,hl,hv=>by
  obtain⟨c,d⟩:=metV_map a hl<|hv v zq3;rw[ck,Qh,Qh,c];exact aaf a d fun w b=>hv w<|bk _ b
theorem XP.bfs(h:XP ρ R s t):∀(m k:Nat) (l:List Int),(∀x∈l,x∈R)->bfs t.cells m k (l.map ρ)=(bfs s.cells m k l).map ρ/\∀x∈bfs s.cells m k l,x∈R
  |0,k,l,hl=>⟨rfl,hl⟩
  |m+1,k,l,hl=>by
    unfold YtodkbibbgakkdaaGreatDoor.bfs;by_cases a:k<l.length
    · rw[dif_pos a,dif_pos (by simpa using a)];have c:=hl _<|cx a;have b:=h.cells _ c;rw[rS,b.1];obtain⟨d,e⟩:=aaf h.inj hl b.2;rw[d];exact XP.bfs h m (k+1) _ e
    · rw[dif_neg a,dif_neg (by simpa using a)];exact⟨Z,hl⟩
theorem roots_map(ρ:Int->Int):∀fr:List LX.Frame,YtodkbibbgakkdaaGreatDoor.roots (fr.map (mW ρ))=(YtodkbibbgakkdaaGreatDoor.roots fr).map (wQ ρ)
 |[]=>rfl
 |f::fr=>by
  have:=roots_map ρ fr;unfold YtodkbibbgakkdaaGreatDoor.roots at*;rw[ck,eK,eK,cG,this];rfl
theorem XP.reach(h:XP ρ R s t):fE t=(fE s).map ρ/\∀x∈fE s,x∈R:=by
 unfold fE Pk;rw[h.frames,roots_map];obtain⟨a,c⟩:=aaf h.inj (l:=[]) (fun x b=>by cases b) h.roots;rw[ep]at a;rw[a];exact h.bfs 25 0 _ c
theorem ren_map(h:XP ρ R s t){v:Val}(b:v.kind=2->v.n∈R):ren (fE t) (wQ ρ v)=ren (fE s) v:=by
  unfold ren;rw[Cz];by_cases a:v.kind=2
  · rw[if_pos a,if_pos a,Ul ρ a,h.reach.1,QN h.inj h.reach.2 (b a)]
  · rw[if_neg a,if_neg a,J4 ρ a]
theorem zV{α β:Type}{f g:α->β}:∀{l:List α},(∀x∈l,f x=g x)->l.map f=l.map g:=fun h=>List.map_congr_left h
theorem XP.sweep(h:XP ρ R s t):dO t=dO s:=by
 have a:t.frames.map (Ky<|fE t)=s.frames.map (Ky<|fE s):=by
  rw[h.frames,jH];refine zV fun f g=>?_;have:(f.regs.map<|wQ ρ).map (ren<|fE t)=f.regs.map (ren<|fE s):=by
   rw[jH];exact zV fun v c=>ren_map h<|Jl h.roots f g v c
  show Ky (fE t) (mW ρ f)=Ky (fE s) f;unfold Ky mW;simp only[this]
 have b:(fE t).map (fun k=>(cellAt t.cells k).map<|ren<|fE t)=(fE s).map (fun k=>(cellAt s.cells k).map<|ren<|fE s):=by
  conv=>lhs;rw[h.reach.1]
  rw[jH];refine zV fun k e=>?_;have d:=h.cells k<|h.reach.2 k e;show(cellAt t.cells<|ρ k).map (ren _)=_;rw[d.1,jH,<-h.reach.1];exact zV fun v c=>ren_map h<|d.2 v c
 unfold dO;rw[a,b,h.status,h.bT]
end
theorem Ni{cells:List (List Val)}{i:Nat}(h:i<cells.length):cellAt cells (i:Int)=cells[i]:=by unfold cellAt;rw[xh h];rfl
theorem iso_sweep{s:LX.State}(h:Pn s):XP (fun x=>((fE s).idxOf x:Nat)) (fE s) s (dO s) where
 frames:=rfl
 status:=rfl
 bT:=rfl
 roots:=h.reach.2.1
 range:=h.reach.1.2
 range' x hx:=by
  have:=ec hx;simp only[dO,cF];omega
 inj x hx y hy e:=by
  have e':(fE s).idxOf x=(fE s).idxOf y:=by omega
  have h1:=hO<|ec hx;have h2:=hO<|ec hy;rw[<-h1,<-h2];simp only[e']
 cells x hx:=by
  have hlt:=ec hx;refine⟨?_,h.reach.2.2 x hx⟩;rw[Ni (by simpa[dO]using hlt)];simp only[dO,rS];rw[hO hlt];rfl
theorem Nj{s:LX.State}(h:Pn s):dO (dO s)=dO s:=(iso_sweep h).sweep
open Go Go.Proofs Go.LX
theorem map_eq_map{α β:Type}{f g:α->β}{k:α->α}:∀{l m:List α},l.map f=m.map g->(∀x∈l,∀y∈m,f x=g y->y=k x)->m=l.map k
 |[],[],_,_=>rfl
 |[],y::m,h,_=>by simp at h
 |x::l,[],h,_=>by simp at h
 |x::l,y::m,h,hk=>by
  rw[ck,ck,kc]at h;rw[ck,hk x zq3 y zq3 h.1,map_eq_map h.2 (fun a c b d=>hk a (bk _ c) b (bk _ d))]
theorem ren_eq{l m:List Int}(d:l.length=m.length){v w:Val}(j:v.kind=2->v.n∈l)(g:w.kind=2->w.n∈m)(h:ren l v=ren m w):w=wQ (fun x=>m[l.idxOf x]?.getD 0) v:=by
  obtain⟨k,n⟩:=v;obtain⟨e,f⟩:=w;unfold ren at h;by_cases b:k=2
  · subst b;by_cases a:e=2
    · subst a;simp only[if_true,Val.mk.injEq,true_and]at h;have i:l.idxOf n=m.idxOf f:=by omega
      have c:=ec<|g Z;unfold wQ;simp only[if_true];rw[i,bh c,eL,hO c]
    · simp only[if_true,if_neg a,Val.mk.injEq]at h;exact absurd h.1.symm a
  · by_cases a:e=2
    · subst a;simp only[if_true,if_neg b,Val.mk.injEq]at h;exact absurd h.1 b
    · simp only[if_neg b,if_neg a]at h;unfold wQ;simp only[if_neg b];exact h.symm
theorem nodup_inj{l:List Int}(h:l.Nodup){i j:Nat}(b:i<l.length)(a:j<l.length)(e:l[i]=l[j]):i=j:=by
  rcases Nat.lt_trichotomy i j with hlt|rfl|hlt
  · exact absurd e<|oy.1 h i j b a hlt
  · rfl
  · exact absurd e.symm<|oy.1 h j i a b hlt
theorem Um{s t:LX.State}(q:Pn s)(A:Pn t)(h:dO s=dO t):XP (fun x=>(fE t)[(fE s).idxOf x]?.getD 0) (fE s) s t:=by
  have d:(fE s).length=(fE t).length:=by
    have:=congrArg (fun u:LX.State=>u.cells.length) h;simpa[dO]using this
  have N:s.frames.map (Ky<|fE s)=t.frames.map (Ky<|fE t):=congrArg (fun u:LX.State=>u.frames) h;have Q:(fE s).map (fun k=>(cellAt s.cells k).map<|ren<|fE s)=(fE t).map (fun k=>(cellAt t.cells k).map<|ren<|fE t):=congrArg (fun u:LX.State=>u.cells) h;have b:∀x∈fE s,∃i,∃(l:i<(fE s).length) (z:i<(fE t).length),(fE s).idxOf x=i/\(fE s)[i]=x/\(fE t)[(fE s).idxOf x]?.getD 0=(fE t)[i]:=by
    intro x c;have l:=ec c;refine⟨_,l,by omega,Z,hO l,?_⟩;rw[bh V,eL]
  refine⟨?_,?_,?_,q.reach.2.1,q.reach.1.2,?_,?_,?_⟩
  · refine map_eq_map N fun f E g F e=>?_;have P:f.regs.map (ren<|fE s)=g.regs.map (ren<|fE t):=congrArg (fun u:LX.Frame=>u.regs) e;have K:=map_eq_map (k:=wQ fun x=>(fE t)[(fE s).idxOf x]?.getD 0) P fun v G w C e=>ren_eq d (Jl q.reach.2.1 f E v G) (Jl A.reach.2.1 g F w C) e;obtain⟨p,a,r,o⟩:=f;obtain⟨S,a',T,X⟩:=g;simp only[Ky,LX.Frame.mk.injEq]at e;simp only at K;unfold mW;simp only[LX.Frame.mk.injEq];exact⟨e.1.symm,e.2.1.symm,K,e.2.2.2.symm⟩
  · exact(congrArg (fun u:LX.State=>u.status) h).symm
  · exact(congrArg (fun u:LX.State=>u.bT) h).symm
  · intro x c;obtain⟨i,l,z,I,B,m⟩:=b x c;rw[m];exact A.reach.1.2 _<|cx _
  · intro x c y M e;obtain⟨i,l,z,I,B,m⟩:=b x c;obtain⟨j,g1,g2,R,O,L⟩:=b y M;rw[m,L]at e;have:i=j:=nodup_inj A.reach.1.1 z g2 e;subst this;rw[<-B,<-O]
  · intro x c;obtain⟨i,l,z,I,B,m⟩:=b x c;refine⟨?_,q.reach.2.2 x c⟩;rw[m];have n:(cellAt s.cells (fE s)[i]).map (ren<|fE s)=(cellAt t.cells (fE t)[i]).map (ren<|fE t):=by
      have:=congrArg (fun u:List (List Val)=>u[i]?) Q;simp only[eg,bh l,bh z,db,eI]at this;exact this
    rw[B]at n;exact map_eq_map n fun v G w C e=>ren_eq d (q.reach.2.2 x c v G) (A.reach.2.2 _ (cx _) w C) e
section
variable{a:List bA}{ρ:Int->Int}{R:List Int}{s t:LX.State}
theorem XP.mk'(h:XP ρ R s t){fr:List LX.Frame}(a:kz (YtodkbibbgakkdaaGreatDoor.roots fr) R)(st wh:Int):XP ρ R ⟨fr,s.cells,st,wh⟩ ⟨fr.map (mW ρ),t.cells,st,wh⟩:=
 ⟨rfl,rfl,rfl,a,h.range,h.range',h.inj,h.cells⟩
theorem aag{cells:List (List Val)}{k j:Int}{c:List Val}(b:0<=k/\k<cells.length)(a:0<=j/\j<cells.length):cellAt (cells.set k.toNat c) j=if j=k then c else cellAt cells j:=by
  obtain⟨n,rfl⟩:=bs b.1;obtain⟨m,rfl⟩:=bs a.1;unfold cellAt;rw[bj,lh,lh,List.getElem?_set];by_cases e:n=m
  · subst e;rw[if_pos rfl,if_pos V,if_pos rfl];rfl
  · rw[if_neg e,if_neg V]
theorem Un{vs:List Val}{i:Nat}{v:Val}(h:kz vs R)(c:v.kind=2->v.n∈R):kz (vs.set i v) R:=fun w a b=>by
  rcases kj a with a|rfl
  · exact h w a b
  · exact c b
theorem XP.put(h:XP ρ R s t){fr:List LX.Frame}(f:kz (YtodkbibbgakkdaaGreatDoor.roots fr) R){k:Int}(b:k∈R){i:Nat}{v:Val}(d:v.kind=2->v.n∈R)(st wh:Int):
    XP ρ R ⟨fr,s.cells.set k.toNat ((cellAt s.cells k).set i v),st,wh⟩ ⟨fr.map (mW ρ),t.cells.set (ρ k).toNat ((cellAt t.cells (ρ k)).set i (wQ ρ v)),st,wh⟩:=by
  refine⟨Z,Z,Z,f,fun x a=>by simpa using h.range x a,fun x a=>by simpa using h.range' x a,h.inj,fun x a=>?_⟩;simp only;rw[aag (h.range' k b) (h.range' x a),aag (h.range k b) (h.range x a)];have c:=h.cells x a;by_cases e:x=k
  · subst e;rw[if_pos rfl,if_pos rfl,c.1,gB];exact⟨Z,Un c.2 d⟩
  · rw[if_neg e,if_neg (fun q=>e (h.inj x a k b q))];exact c
theorem renFr_congr{a:Int->Int}{f:LX.Frame}(d:kz f.regs R)(c:∀x∈R,a x=ρ x):mW a f=mW ρ f:=by
  unfold mW;have:f.regs.map (wQ a)=f.regs.map (wQ ρ):=zV (fun v e=>by
    unfold wQ;by_cases b:v.kind=2
    · rw[if_pos b,if_pos b,c _ (d v e b)]
    · rw[if_neg b,if_neg b])
  rw[this]
theorem aah{b:Int->Int}{vs:List Val}(d:kz vs R)(c:∀x∈R,b x=ρ x):vs.map (wQ b)=vs.map (wQ ρ):=zV (fun v e=>by
    unfold wQ;by_cases a:v.kind=2
    · rw[if_pos a,if_pos a,c _ (d v e a)]
    · rw[if_neg a,if_neg a])
theorem aai{cells:List (List Val)}{z:List Val}{k:Int}(a:0<=k/\k<cells.length):cellAt (cells++[z]) k=cellAt cells k:=by
 obtain⟨n,rfl⟩:=bs a.1;rw[Ni (by simp;omega),Ni V,List.getElem_append_left V]
theorem Xx{cells:List (List Val)}{z:List Val}:cellAt (cells++[z]) (cells.length:Int)=z:=by
 rw[Ni zq3];simp
theorem CB(p:List LX.Frame)(f:LX.Frame):roots (p++[f])=roots p++f.regs:=by unfold roots;simp
theorem kz.app{u v:List Val}:kz (u++v) R↔kz u R/\kz v R:=⟨fun h=>⟨fun w a=>h w (List.mem_append_left _ a),fun w a=>h w (List.mem_append_right _ a)⟩,fun h w a=>(cR.1 a).elim (h.1 w) (h.2 w)⟩
theorem XP.new{p:List LX.Frame}{f:LX.Frame}{cells cs:List (List Val)}{st wh:Int}{q:List LX.Frame}{t:LX.Frame}(h:XP ρ R ⟨p++[f],cells,st,wh⟩ ⟨q++[t],cs,st,wh⟩)(i:Nat)(z:Nat):
    dO ⟨q++[{t with regs:=t.regs.set i ⟨2,cs.length⟩}],cs++[cc z ⟨0,0⟩],st,wh⟩=dO ⟨p++[{f with regs:=f.regs.set i ⟨2,cells.length⟩}],cells++[cc z ⟨0,0⟩],st,wh⟩:=by
  have r:=h.frames;simp only[cG,ck,ep]at r;obtain⟨B,v⟩:=r6 r Z;simp only[kc,and_true]at v;subst B v;have s:=h.roots;simp only[CB,kz.app]at s;have c:=h.range;have b:=h.range';simp only at c b;have n:∀x∈R,x≠cells.length:=fun x a=>by have:=c x a;omega
  let k:Int->Int:=fun x=>if x=cells.length then cs.length else ρ x
  have d:∀x∈R,k x=ρ x:=fun x a=>if_neg<|n x a;have o:k cells.length=cs.length:=if_pos Z;have I:XP k ((cells.length:Int)::R) ⟨p++[{f with regs:=f.regs.set i ⟨2,cells.length⟩}],cells++[cc z ⟨0,0⟩],st,wh⟩ ⟨p.map (mW ρ)++[{mW ρ f with regs:=(mW ρ f).regs.set i ⟨2,cs.length⟩}],cs++[cc z ⟨0,0⟩],st,wh⟩:=by
    refine⟨?_,Z,Z,?_,?_,?_,?_,?_⟩
    · simp only[cG,ck,ep];congr 1
      · exact zV fun g A=>(renFr_congr (Jl s.1 g A) d).symm
      · unfold mW;simp only[gB];rw[aah s.2 d];congr 2;simp only[wQ,if_true,o]
    · simp only[CB,kz.app];refine⟨fun w j l=>bk _<|s.1 w j l,Un (fun w j l=>bk _<|s.2 w j l) (fun _=>by simp)⟩
    · intro x a;simp only[bc,bq,ez];rcases bn.1 a with rfl|a
      · omega
      · have:=c x a;omega
    · intro x a;simp only[bc,bq,ez];rcases bn.1 a with rfl|a
      · rw[o];omega
      · rw[d x a];have:=b x a;omega
    · intro x a y m e;rcases bn.1 a with rfl|a<;>rcases bn.1 m with rfl|m
      · rfl
      · rw[o,d y m]at e;have:=b y m;omega
      · rw[o,d x a]at e;have:=b x a;omega
      · rw[d x a,d y m]at e;exact h.inj x a y m e
    · intro x a;simp only;rcases bn.1 a with rfl|a
      · rw[o,Xx,Xx];refine⟨by simp[wQ],fun w j l=>?_⟩;have:=fp j;subst this;simp at l
      · rw[d x a,aai (c x a),aai (b x a)];have u:=h.cells x a;rw[aah u.2 d];exact⟨u.1,fun w j l=>bk _<|u.2 w j l⟩
  exact I.sweep
end
def Sim(x y:Option (LX.State×Option Int×Bool)):Prop:=match x,y with
 |none,aE=>True
 |some (s,o,p),aj (t,o',p')=>o=o'/\p=p'/\dO s=dO t
 |_,_=>False
section
variable{a:List bA}{ρ:Int->Int}{R:List Int}{pre:List LX.Frame}{f:LX.Frame}{cells cs:List (List Val)}{x:bA}{c:Ins}
theorem regAt_map{r:List Val}{n:Int}(a:(r.length:Int)=n){i:Int}(h:Gt n i):jW (r.map (wQ ρ)) i=wQ ρ (jW r i):=by
 obtain⟨k,rfl⟩:=bs h.1;have:=h.2;unfold jW;rw[lh,lh,eg,bh V];rfl
theorem opP_ren{k:Int}{b d:Val}(p:∀x∈R,∀y∈R,ρ x=ρ y->x=y)(r:b.kind=2->b.n∈R)(s:d.kind=2->d.n∈R):opP k (wQ ρ b) (wQ ρ d)=opP k b d/\∀v,opP k b d=aj v->v.kind=1:=by
  obtain⟨k1,a⟩:=b;obtain⟨k2,c⟩:=d;have o:∀v,opP k ⟨k1,a⟩ ⟨k2,c⟩=aj v->v.kind=1:=by
    intro v h;unfold opP at h;split at h
    · cases h;rfl
    split at h
    · cases h
    split at h
    · cases h;rfl
    simp only at h;generalize (if k=1 then a+c else if k=2 then a-c else a*c)=z at h;split at h
    · cases h;rfl
    · cases h
  refine⟨?_,o⟩;unfold opP;by_cases m:k=5
  · rw[if_pos m,if_pos m];have:(wQ ρ ⟨k1,a⟩=wQ ρ ⟨k2,c⟩)↔((⟨k1,a⟩:Val)=⟨k2,c⟩):=by
      unfold wQ;simp only;by_cases g:k1=2
      · by_cases f:k2=2
        · rw[if_pos g,if_pos f];simp only[Val.mk.injEq];constructor
          · rintro⟨j,i⟩;exact⟨j,p _ (r g) _ (s f) i⟩
          · rintro⟨j,i⟩;exact⟨j,by rw[i]⟩
        · rw[if_pos g,if_neg f];simp only[Val.mk.injEq];constructor<;>(rintro⟨j,i⟩;omega)
      · by_cases f:k2=2
        · rw[if_neg g,if_pos f];simp only[Val.mk.injEq];constructor<;>(rintro⟨j,i⟩;omega)
        · rw[if_neg g,if_neg f]
    by_cases e:(⟨k1,a⟩:Val)=⟨k2,c⟩
    · rw[if_pos e,if_pos (this.2 e)]
    · rw[if_neg e,if_neg (fun q=>e (this.1 q))]
  · rw[if_neg m,if_neg m,Cz,Cz];by_cases l:k1≠1\/k2≠1
    · rw[if_pos l,if_pos l]
    · rw[if_neg l,if_neg l];have g:wQ ρ ⟨k1,a⟩=⟨k1,a⟩:=J4 ρ (by simp only;omega);have f:wQ ρ ⟨k2,c⟩=⟨k2,c⟩:=J4 ρ (by simp only;omega);rw[g,f]
theorem put_ren(i:Nat)(v:Val)(g:LX.Frame):({mW ρ g with regs:=(mW ρ g).regs.set i (wQ ρ v)}:LX.Frame)=mW ρ {g with regs:=g.regs.set i v}:=by unfold mW;simp only[gB]
end
open Go Go.Proofs Go.LX
section
variable{a:List bA}{ρ:Int->Int}{R:List Int}{pre:List LX.Frame}{f:LX.Frame}{cells cs:List (List Val)}{x:bA}{c:Ins}
theorem BP{p:LX.State}{q:LX.State}{o:Option Int}{b:Bool}(h:XP ρ R p q):Sim (aj (p,o,b)) (aj (q,o,b)):=⟨rfl,rfl,h.sweep.symm⟩
theorem newP_top(p:List LX.Frame)(g:LX.Frame)(d:List (List Val))(st wh:Int):newP ⟨p++[g],d,st,wh⟩ c=if d.length=24 then aE else aj ⟨p++[{g with regs:=g.regs.set c.a.toNat ⟨2,d.length⟩}],d++[cc c.b.toNat ⟨0,0⟩],st,wh⟩:=by
 unfold newP;simp only[fl,eE,ee,fx,db,pC]
theorem step_sim(ha:mU a)(h:wP a pre f cells x c)(h2:wP a (pre.map (mW ρ)) (mW ρ f) cs x c)(hI:XP ρ R ⟨pre++[f],cells,0,0⟩ ⟨(pre++[f]).map (mW ρ),cs,0,0⟩):
    Sim (tH a pre f cells 0 0 x c) (tH a (pre.map (mW ρ)) (mW ρ f) cs 0 0 x c):=by
  have z:=hI.roots;simp only[CB,kz.app]at z;have m:∀{i:Int},Gt x.regs i->jW (mW ρ f).regs i=wQ ρ (jW f.regs i):=fun hi=>regAt_map h.fr.regs hi;have l:∀{i:Int},Gt x.regs i->(jW f.regs i).kind=2->(jW f.regs i).n∈R:=fun hi j=>z.2 _ (Jm h.fr.regs hi).2 j
  --a frame on C
  have C:∀(g:LX.Frame) (st wh:Int),kz g.regs R->XP ρ R ⟨pre++[g],cells,st,wh⟩ ⟨pre.map (mW ρ)++[mW ρ g],cs,st,wh⟩:=by
    intro g st wh hg;have:=hI.mk' (fr:=pre++[g]) (by simp only[CB,kz.app];exact⟨z.1,hg⟩) st wh;simpa using this
  have s:∀(i:Nat) (v:Val),(v.kind=2->v.n∈R)->XP ρ R ⟨pre++[{KD f x with regs:=f.regs.set i v}],cells,0,0⟩ ⟨pre.map (mW ρ)++[{KD (mW ρ f) x with regs:=(mW ρ f).regs.set i (wQ ρ v)}],cs,0,0⟩:=by
    intro i v E;have:=C {KD f x with regs:=f.regs.set i v} 0 0<|Un z.2 E;have e:({KD (mW ρ f) x with regs:=(mW ρ f).regs.set i (wQ ρ v)}:LX.Frame)=mW ρ {KD f x with regs:=f.regs.set i v}:=put_ren i v<|KD f x;rw[e];exact this
  have M:XP ρ R ⟨pre++[KD f x],cells,0,0⟩ ⟨pre.map (mW ρ)++[KD (mW ρ f) x],cs,0,0⟩:=C (KD f x) 0 0 z.2;have A:XP ρ R ⟨pre++[{KD f x with at_:=c.b}],cells,0,0⟩ ⟨pre.map (mW ρ)++[{KD (mW ρ f) x with at_:=c.b}],cs,0,0⟩:=C {KD f x with at_:=c.b} 0 0 z.2;unfold tH;rcases h.good with g|g|g|g|g|g|g|g|g|g
  · obtain⟨d,t,u⟩:=g;simp only[d,bm,if_true,if_false];exact BP (by have:=s c.a.toNat ⟨1,c.b⟩ zq3;simpa[wQ]using this)
  · obtain⟨d,t,u⟩:=g;simp only[d,bm,if_true,if_false];rw[m u];exact BP<|s _ _<|l u
  · obtain⟨d,t,u,O,n,hn,a3⟩:=g;simp only[d,hn,bm,if_true,if_false,nu];rw[m u,m O];obtain⟨e1,e2⟩:=opP_ren (k:=n) hI.inj (l u)<|l O;rw[e1];cases e:opP n (jW f.regs c.b) (jW f.regs c.c)with
    |none=>trivial
    |some v=>
      have j:=e2 v e;have:=s c.a.toNat v V;rw[J4 ρ V]at this;exact BP this
  · obtain⟨d,t,u,O⟩:=g;rcases d with d|d
    · simp only[d,bm,if_true,if_false];rw[m u,Cz];by_cases j:(jW f.regs c.b).kind=2
      · have hin:=l u j;have y:=hI.cells _ hin;simp only at y;rw[Ul ρ j];simp only[j];rw[y.1,cF];by_cases N:((cellAt cells (jW f.regs c.b).n).length:Int)<=c.c
        · rw[if_pos (.inr N),if_pos (.inr N)];trivial
        · rw[if_neg (by simp;omega),if_neg (by simp;omega)];have Q:Gt ((cellAt cells (jW f.regs c.b).n).length:Int) c.c:=⟨O.1,by omega⟩;rw[regAt_map rfl Q];exact BP<|s _ _<|y.2 _ (Jm Z Q).2
      · rw[if_pos (.inl j),if_pos (.inl j)];trivial
    · simp only[d,bm,if_true,if_false];rw[m t,m u,Cz];by_cases j:(jW f.regs c.a).kind=2
      · have hin:=l t j;have y:=hI.cells _ hin;simp only at y;rw[Ul ρ j];simp only[j];have w:(cellAt cs<|ρ (jW f.regs c.a).n).length=(cellAt cells (jW f.regs c.a).n).length:=by rw[y.1,cF]
        rw[w];by_cases N:((cellAt cells (jW f.regs c.a).n).length:Int)<=c.c
        · rw[if_pos (.inr N),if_pos (.inr N)];trivial
        · rw[if_neg (by simp;omega),if_neg (by simp;omega)];have:=hI.put (fr:=pre++[KD f x]) (by simp only[CB,kz.app];exact z) hin (i:=c.c.toNat) (l u) 0 0;simp only[cG,ck,ep]at this;exact BP this
      · rw[if_pos (.inl j),if_pos (.inl j)];trivial
  · obtain⟨d,t,u⟩:=g;simp only[d,bm,if_true,if_false];have X:=wP.sw ha h (st:=0) (wh:=0) h.KD;have a1:=wP.sw ha h2 (st:=0) (wh:=0) h2.KD;have hE:=M.sweep;have w:(fE ⟨pre.map (mW ρ)++[KD (mW ρ f) x],cs,0,0⟩).length=(fE ⟨pre++[KD f x],cells,0,0⟩).length:=by rw[M.reach.1,cF]
    --what is left of each
    have L:∀(p:List LX.Frame) (g:LX.Frame) (G:List (List Val)),Pn ⟨p++[g],G,0,0⟩->∃p' T I,(if G.length=24 then dO ⟨p++[g],G,0,0⟩else(⟨p++[g],G,0,0⟩:LX.State))=⟨p'++[T],I,0,0⟩/\Pn ⟨p'++[T],I,0,0⟩/\dO ⟨p'++[T],I,0,0⟩=dO ⟨p++[g],G,0,0⟩/\(I.length=24↔(fE ⟨p++[g],G,0,0⟩).length=24):=by
      intro p g G o;have a0:=o.reach.1.len;by_cases r:G.length=24
      · rw[if_pos r];refine⟨_,_,_,LV g,?_,?_,?_⟩
        · rw[<-LV];refine⟨⟨by simpa[dO]using o.small.frames,?_,(sweep_len o).2,fun c O=>((Pp o).2 c O).1.2⟩,Pp o,?_⟩
          · intro k j;simp only[dO,dL]at j;obtain⟨S,K,rfl⟩:=j;simpa[Ky]using o.small.regs S K
          · intro k j v E;simp only[dO,dL]at j;obtain⟨S,K,rfl⟩:=j;simp only[Ky,dL]at E;obtain⟨v0,P,rfl⟩:=E;have:=ren_ok (o.vals S K v0 P)<|Jl o.reach.2.1 S K v0 P;simpa[dO]using this
        · rw[<-LV,Nj o]
        · simp[dO]
      · rw[if_neg r];refine⟨p,g,G,Z,o,Z,?_⟩;simp only at a0;have:=o.cells.1;simp only at this;omega
    obtain⟨p1,g1,d1,e1,w1,s1,l1⟩:=L pre (KD f x) cells X;obtain⟨p2,g2,d2,e2,w2,s2,l2⟩:=L (pre.map<|mW ρ) (KD (mW ρ f) x) cs a1;rw[e1,e2,newP_top,newP_top];by_cases r:d1.length=24
    · rw[if_pos r,if_pos (by rw[l2,w,<-l1];exact r)];trivial
    · rw[if_neg r,if_neg (by rw[l2,w,<-l1];exact r)];have J:=Um w1 w2 (by rw[s1,s2,hE]);exact⟨Z,Z,(J.new c.a.toNat c.b.toNat).symm⟩
  · obtain⟨d,t,⟨p1,hp,N⟩,B⟩:=g;simp only[d,bm,if_true,if_false,cF];by_cases F:pre.length+1=10
    · rw[if_pos F,if_pos F];trivial
    · rw[if_neg F,if_neg F];have hm:c.args.map (jW (mW ρ f).regs)=(c.args.map<|jW f.regs).map (wQ ρ):=by
        rw[jH];exact zV fun k j=>m<|B k j
      have hz:∀n:Nat,(cc n (⟨0,0⟩:Val)).map (wQ ρ)=cc n ⟨0,0⟩:=by intro n;rw[List.map_replicate];rfl
      have:=hI.mk' (fr:=pre++[KD f x]++[⟨c.b,0,c.args.map (jW f.regs)++cc (((idx a c.b).map (·.regs)).getD 0-c.args.length).toNat ⟨0,0⟩,c.a⟩]) (by
        simp only[CB,kz.app];refine⟨z,fun v E j=>?_,fun v E j=>?_⟩
        · obtain⟨k,a2,rfl⟩:=dL.1 E;exact l (B k a2) j
        · have:=fp E;subst this;simp at j) 0 0
      simp only[cG,ck,ep]at this;rw[hm];have e:mW ρ ⟨c.b,0,c.args.map (jW f.regs)++cc (((idx a c.b).map (·.regs)).getD 0-c.args.length).toNat ⟨0,0⟩,c.a⟩=⟨c.b,0,(c.args.map<|jW f.regs).map (wQ ρ)++cc (((idx a c.b).map (·.regs)).getD 0-c.args.length).toNat ⟨0,0⟩,c.a⟩:=by
        unfold mW;simp only[cG,hz]
      rw[e]at this;exact BP this
  · obtain⟨d,t⟩:=g;rcases d with d|d|d
    · simp only[d,bm,if_true,if_false];rcases gf pre with hp|⟨q,g,hp⟩
      · subst hp;have:=hI.mk' (fr:=[]) (fun v E=>by cases E) 1 0;exact BP this
      · rw[gh]at hp;subst hp;simp only[cG,ck,ep,eE,ee,fx,fl];rw[m t];simp only[CB,kz.app]at z;have:=hI.mk' (fr:=q++[{g with regs:=g.regs.set f.jK.toNat (jW f.regs c.a)}]) (by
          simp only[CB,kz.app];exact⟨z.1.1,Un z.1.2 (l t)⟩) 0 0
        simp only[cG,ck,ep]at this;rw[<-put_ren]at this;exact BP this
    · simp only[d,bm,if_true,if_false];rw[m t,Cz];by_cases j:(jW f.regs c.a).kind=1
      · rw[if_pos j,if_pos j,J4 ρ V];exact BP M
      · rw[if_neg j,if_neg j];trivial
    · simp only[d,bm,if_true,if_false];rw[m t,Cz];by_cases j:(jW f.regs c.a).kind=1
      · rw[if_pos j,if_pos j,J4 ρ V];exact BP<|C (KD f x) 3 _ z.2
      · rw[if_neg j,if_neg j];trivial
  · simp only[g,bm,if_true,if_false];exact BP M
  · obtain⟨d,u⟩:=g;simp only[d,bm,if_true,if_false];exact BP A
  · obtain⟨d,t,u⟩:=g;simp only[d,bm,if_true,if_false];rw[m t,Cz];by_cases j:(jW f.regs c.a).kind=2
    · rw[if_neg (by simp[j]),if_neg (by simp[j])];exact BP M
    · rw[J4 ρ j];by_cases hz:(jW f.regs c.a).n=0
      · rw[if_pos ⟨j,hz⟩,if_pos ⟨j,hz⟩];exact BP A
      · rw[if_neg (fun e=>hz e.2),if_neg (fun e=>hz e.2)];exact BP M
end
open Go Go.Proofs Go.LX
theorem fail_sweep{s t:LX.State}(h:dO s=dO t)(k:Int):dO {s with status:=k}=dO {t with status:=k}:=congrArg (fun u:LX.State=>{u with status:=k}) h
theorem wake_sweep{s t:LX.State}(h:dO s=dO t)(k w:Int):dO ⟨s.frames,s.cells,k,w⟩=dO ⟨t.frames,t.cells,k,w⟩:=congrArg (fun u:LX.State=>(⟨u.frames,u.cells,k,w⟩:LX.State)) h
theorem stepP_sim{a:List bA}(d:mU a){s t:LX.State}(r:vI a s)(p:vI a t)(q:s.status=0)(y:dO s=dO t):Sim (zT a s) (zT a t)/\LZ a s=LZ a t:=by
 have I:=Um (r.sw d) (p.sw d) y;generalize (fun x=>(fE t)[(fE s).idxOf x]?.getD 0)=ρ at I;have j:t.status=0:=by rw[I.status];exact q
 obtain⟨pre,f,x,c,w,h,l,n⟩:=H5 d r q;obtain⟨e,A,x',u,B,T2,k,i⟩:=H5 d p j;have b:=I.frames;have o:s.frames=pre++[f]:=by rw[w]
 have C:t.frames=e++[A]:=by rw[B]
 rw[o,C]at b;simp only[cG,ck,ep]at b;obtain⟨hp,v⟩:=r6 b Z;simp only[kc,and_true]at v;subst hp v;have z:x'=x:=by
  have m:=h.fr.proc;have g:idx a f.proc=aj x':=T2.fr.proc;rw[m]at g;exact(osi g).symm
 subst z;have E:u=c:=by
  have m:=h.ins;have g:idx x'.code f.at_=aj u:=T2.ins;rw[m]at g;exact(osi g).symm
 subst E;refine⟨?_,by rw[n,i]⟩;rw[l,k];refine step_sim d h T2 (R:=fE s) ?_;exact I.mk' (fr:=pre++[f]) (by have:=I.roots;rw[o]at this;exact this) 0 0
def iter(a:List bA):Nat->LX.State->LX.State×List Int
 |0,s=>(s,[])
 |n+1,s=>if s.status≠0 then(s,[])else match zT a s with
  |none=>({s with status:=2},[])
  |some (t,o,_)=>((iter a n t).1,o.toList++(iter a n t).2)
theorem run_iter{a:List bA}:∀(m:Nat) (b:List Int) (n:Nat) (s:LX.State),∃k,k<=m/\wZ a m b n s=((iter a k s).1,b++(iter a k s).2,n+k)/\(∀j,j<k->(iter a j s).1.status=0)/\(1<=m->s.status=0->b=[]->1<=k)
  |0,b,n,s=>⟨0,bt _,by simp[wZ,iter],fun j c=>absurd c (eM _),fun h=>absurd h V⟩
  |m+1,b,n,s=>by
    unfold wZ;by_cases g:s.status≠0
    · rw[if_pos g];exact⟨0,by omega,by simp[iter],fun j c=>absurd c<|eM _,fun _ h=>absurd h g⟩
    · rw[if_neg g];by_cases f:b.length=40/\LZ a s=9
      · rw[if_pos f];exact⟨0,by omega,by simp[iter],fun j c=>absurd c (eM _),fun _ _ h=>by subst h;simp at f⟩
      · rw[if_neg f];have d:s.status=0:=en.1 g;cases e:zT a s with
        |none=>
          refine⟨1,by omega,?_,fun j c=>?_,fun _ _ _=>bt _⟩
          · unfold iter;rw[if_neg g,e];simp
          · obtain rfl:j=0:=by omega
            exact d
        |some q=>
          obtain⟨t,o,p⟩:=q;have i:∀q,iter a (q+1) s=((iter a q t).1,o.toList++(iter a q t).2):=fun q=>by
            conv=>lhs;unfold iter
            rw[if_neg g,e]
          simp only;cases p with
          |true=>
            refine⟨1,by omega,?_,fun j c=>?_,fun _ _ _=>bt _⟩
            · rw[i];simp[iter]
            · obtain rfl:j=0:=by omega
              exact d
          |false=>
            obtain⟨k,k1,k2,l,-⟩:=run_iter m (b++o.toList) (n+1) t;refine⟨k+1,by omega,?_,fun j c=>?_,fun _ _ _=>by omega⟩
            · simp only[cJ,if_false];rw[k2,i];simp only[cg];congr 2;omega
            · cases j with
              |zero=>exact d
              |succ j=>rw[i];exact l j V
def aak(l:List Val):List Int:=l.flatMap fun v=>[v.kind,v.n]
def rowP(l:List Val):List Int:=(l.length:Int)::aak l
def frP(f:LX.Frame):List Int:=f.proc::f.at_::f.jK::rowP f.regs
def wR(s:LX.State):List Int:=s.status::s.bT::(s.frames.length:Int)::(s.frames.flatMap frP++(s.cells.length:Int)::s.cells.flatMap rowP)
def Rdr(α:Type):=List Int->Option (α×List Int)
def xZ{α:Type}(x:α):Rdr α:=fun l=>aj (x,l)
def iV{α β:Type}(R:Rdr α)(f:α->Rdr β):Rdr β:=fun l=>(R l).bind fun q=>f q.1 q.2
def Hl:Rdr Int:=fun l=>match l with
 |[]=>aE
 |x::r=>aj (x,r)
def tJ(m:Int):Rdr Nat:=fun l=>match l with
 |[]=>aE
 |x::r=>if 0<=x/\x<=m then aj (x.toNat,r)else aE
def kH{α:Type}(R:Rdr α):Nat->Rdr (List α)
 |0=>xZ []
 |n+1=>iV R fun x=>iV (kH R n) fun l=>xZ (x::l)
def X5:Rdr Val:=iV Hl fun k=>iV Hl fun n=>xZ ⟨k,n⟩
def D7(m:Int):Rdr (List Val):=iV (tJ m) fun n=>kH X5 n
def Sm:Rdr LX.Frame:=iV Hl fun p=>iV Hl fun a=>iV Hl fun t=>iV (D7 40) fun r=>xZ ⟨p,a,r,t⟩
def Sn:Rdr LX.State:=iV Hl fun s=>iV Hl fun w=>iV (tJ 10) fun n=>iV (kH Sm n) fun f=>iV (tJ 24) fun k=>iV (kH (D7 4) k) fun c=>xZ ⟨f,c,s,w⟩
theorem Nk{α:Type}{R:Rdr α}{g:α->List Int}:∀(l:List α) (t:List Int),(∀x∈l,∀t,R (g x++t)=aj (x,t))->kH R l.length (l.flatMap g++t)=aj (l,t)
 |[],t,_=>rfl
 |x::l,t,h=>by
  show(R<|g x++l.flatMap g++t).bind _=_;rw[cg,h x zq3,cH];show(kH R l.length<|l.flatMap g++t).bind _=_;rw[Nk l t (fun y a=>h y (bk _ a)),cH];rfl
theorem rRow_row{m:Nat}(l:List Val)(h:l.length<=m)(t:List Int):D7 m (rowP l++t)=aj (l,t):=by
 unfold D7 iV rowP tJ;simp only[et];rw[if_pos V,cH,bj];exact Nk l t fun v _ t=>rfl
theorem rFr_fr(f:LX.Frame)(h:f.regs.length<=40)(t:List Int):Sm (frP f++t)=aj (f,t):=by
 show((D7 (40:Nat)<|rowP f.regs++t).bind fun q=>xZ (⟨f.proc,f.at_,q.1,f.jK⟩:LX.Frame) q.2)=_;rw[rRow_row f.regs h];rfl
theorem aal{s:LX.State}(h:Small s)(t:List Int):Sn (wR s++t)=aj (s,t):=by
 have j:=h.frames;have k:=h.cells;show((tJ 10 ((s.frames.length:Int)::((s.frames.flatMap frP++(s.cells.length:Int)::s.cells.flatMap rowP)++t))).bind fun q=>(kH Sm q.1 q.2).bind fun d=>(tJ 24 d.2).bind fun b=>(kH (D7 4) b.1 b.2).bind fun a=>xZ (⟨d.1,a.1,s.status,s.bT⟩:LX.State) a.2)=_;rw[show tJ 10 ((s.frames.length:Int)::((s.frames.flatMap frP++(s.cells.length:Int)::s.cells.flatMap rowP)++t))=aj (s.frames.length,(s.frames.flatMap frP++(s.cells.length:Int)::s.cells.flatMap rowP)++t) by
  show(if _ then _ else _)=_;rw[if_pos V,bj],cH]
 simp only;rw[cg,Nk s.frames _ (fun f e t=>rFr_fr f (h.regs f e) t),cH];simp only[et];rw[show tJ 24 ((s.cells.length:Int)::(s.cells.flatMap rowP++t))=aj (s.cells.length,s.cells.flatMap rowP++t) by
  show(if _ then _ else _)=_;rw[if_pos V,bj],cH]
 simp only;rw[Nk (R:=D7 4) (g:=rowP) s.cells _ (fun c i t=>rRow_row (m:=4) c (h.fields c i) t),cH];rfl
theorem pack_inj{s t:LX.State}(b:Small s)(c:Small t)(h:wR s=wR t):s=t:=by
 have a:=aal b [];rw[h,aal c []]at a;cases a;rfl
theorem WT(l:List Val):(aak l).length=2*l.length:=by
 induction l with
 |nil=>rfl
 |cons v l ih=>show([v.kind,v.n]++aak l).length=_;simp[ih];omega
theorem rows_len(m:Nat):∀l:List (List Val),(∀c∈l,c.length<=m)->(l.flatMap rowP).length<=(2*m+1)*l.length
 |[],_=>by simp
 |c::l,h=>by
  have e:=h c zq3;have b:=rows_len m l fun d a=>h d<|bk _ a;rw[eK,bc];unfold rowP;rw[bq,WT,bq,Nat.mul_succ];unfold rowP at b;omega
theorem frs_len:∀l:List LX.Frame,(∀f∈l,f.regs.length<=40)->(l.flatMap frP).length<=84*l.length
 |[],_=>by simp
 |f::l,h=>by
  have c:=h f zq3;have b:=frs_len l fun d a=>h d<|bk _ a;rw[eK,bc];unfold frP rowP;simp only[bq,WT];unfold frP rowP at b;omega
theorem aam{s:LX.State}(h:Small s):(wR s).length<=1060:=by
 have b:=rows_len 4 s.cells h.fields;have d:=frs_len s.frames h.regs;have c:=h.frames;have a:=h.cells;unfold wR;simp only[bq,bc];omega
def wake(s:LX.State):LX.State:=if s.status=3 then⟨s.frames,s.cells,0,0⟩else s
def stepW(a:List bA)(s:LX.State):Option (LX.State×List Int):=
 if(wake s).status≠0 then aE else match zT a (wake s)with
  |none=>aj ({wake s with status:=2},[])
  |some (t,o,_)=>aj (t,o.toList)
def uu(a:List bA):Nat->LX.State->LX.State×List Int
 |0,s=>(s,[])
 |n+1,s=>match stepW a s with
  |none=>(s,[])
  |some (t,o)=>((uu a n t).1,o++(uu a n t).2)
theorem Jn{a:List bA}{s:LX.State}(h:(wake s).status≠0):∀n,uu a n s=(s,[])
 |0=>rfl
 |n+1=>by unfold uu stepW;rw[if_pos h]
theorem Nl{a:List bA}{s:LX.State}(h:stepW a s=aE):∀n,uu a n s=(s,[])
 |0=>rfl
 |n+1=>by unfold uu;rw[h]
theorem tK{a:List bA}{s t:LX.State}{o:List Int}(h:stepW a s=aj (t,o))(n:Nat):uu a (n+1) s=((uu a n t).1,o++(uu a n t).2):=by
 conv=>lhs;unfold uu
 rw[h]
theorem iterW_add{a:List bA}:∀(j k:Nat) (s:LX.State),uu a (j+k) s=((uu a k (uu a j s).1).1,(uu a j s).2++(uu a k (uu a j s).1).2)
 |0,k,s=>by rw[Nat.zero_add];rfl
 |j+1,k,s=>by
  rw[show j+1+k=(j+k)+1 by omega];cases e:stepW a s with
  |none=>rw[Nl e,Nl e,Nl e];rfl
  |some q=>
   obtain⟨t,o⟩:=q;rw[tK e,tK e,iterW_add j k t];simp only[cg]
theorem aan{s:LX.State}(h:s.status=0):wake s=s:=by unfold wake;rw[if_neg V]
theorem wake_wake(s:LX.State):wake (wake s)=wake s:=by
  unfold wake;by_cases h:s.status=3
  · rw[if_pos h,if_neg zq3]
  · rw[if_neg h,if_neg h]
theorem stepW_wake(a:List bA)(s:LX.State):stepW a (wake s)=stepW a s:=by unfold stepW;rw[wake_wake]
theorem iterW_wake{a:List bA}{s:LX.State}{n:Nat}(h:1<=n)(b:(wake s).status=0):uu a n (wake s)=uu a n s:=by
 obtain⟨m,rfl⟩:∃m,n=m+1:=⟨n-1,by omega⟩;have e:=stepW_wake a s;cases e2:stepW a s with
 |none=>
  exfalso;unfold stepW at e2;rw[if_neg V]at e2;cases e3:zT a (wake s)with
  |none=>rw[e3]at e2;cases e2
  |some q=>rw[e3]at e2;cases e2
 |some q=>
  obtain⟨t,o⟩:=q;rw[tK e2,tK (e.trans e2)]
theorem iter_W{a:List bA}:∀(k:Nat) (s:LX.State),(∀j,j<k->(iter a j s).1.status=0)->iter a k s=uu a k s
 |0,s,_=>rfl
 |k+1,s,h=>by
  have d:s.status=0:=h 0 V;cases e:zT a s with
  |none=>
   have b:iter a (k+1) s=({s with status:=2},[]):=by unfold iter;rw[if_neg V,e]
   have c:stepW a s=aj ({s with status:=2},[]):=by unfold stepW;rw[aan d,if_neg V,e]
   rw[b,tK c,Jn (by unfold wake;simp)];rfl
  |some q=>
   obtain⟨t,o,p⟩:=q;have b:∀q,iter a (q+1) s=((iter a q t).1,o.toList++(iter a q t).2):=fun q=>by
    conv=>lhs;unfold iter
    rw[if_neg V,e]
   have c:stepW a s=aj (t,o.toList):=by unfold stepW;rw[aan d,if_neg V,e]
   rw[b,tK c,iter_W k t (fun j f=>by have:=h (j+1) V;rw[b]at this;exact this)]
theorem app_loop{α ρ:Type}{body:Int->List Int->(List Int->Option ρ)->Option ρ}{K:List Int->Option ρ}{g:α->List Int}{l:List α}{m B:Nat}(c:∀x∈l,(g x).length<=m)
  (d:∀(i:Nat) (h:i<l.length) a nx,a.length<=B+m*i->body (i:Int) a nx=nx (a++g l[i])):
  ∀(k i:Nat) (a:List Int),i+k=l.length->a.length<=B+m*i->upto body K (i:Int) k a=K (a++(l.drop i).flatMap g)
 |0,i,a,h,_=>by rw[cC V];simp[upto]
 |k+1,i,a,h,hl=>by
  have b:i<l.length:=by omega
  rw[WM,d i b a _ hl,show((i:Int)+1)=((i+1:Nat):Int) by omega,app_loop c d k (i+1) _ V (by
   have:=c _<|cx b;rw[bc,Nat.mul_add];omega),cS b,eK,cg]
theorem app_loop0{α ρ:Type}{body:Int->List Int->(List Int->Option ρ)->Option ρ}{K:List Int->Option ρ}{g:α->List Int}{l:List α}(m B:Nat)(b:∀x∈l,(g x).length<=m)
  (c:∀(i:Nat) (h:i<l.length) a nx,a.length<=B+m*i->body (i:Int) a nx=nx (a++g l[i])) (a:List Int) (d:a.length<=B):upto body K 0 l.length a=K (a++l.flatMap g):=by
 have:=app_loop (K:=K) b c l.length 0 a V V;rw[kf]at this;exact this
theorem values_eq:∀(l:List Val) (a:List Int),a.length+2*l.length<=50000->Cr a l=aj (a++aak l)
 |[],a,_=>by simp[Cr,qU,DR,aak]
 |v::l,a,h=>by
  simp only[bq]at h;have b:=values_eq l (a++[v.kind,v.n]) (by simp[-eJ];omega);unfold Cr at b⊢;rw[gL];generalize each DN DR l=K at b⊢;unfold DN;rw[kC (room_le (by simp[-eJ];omega) zq1),b];simp[aak]
theorem row_len{c:List Val}{m:Nat}(h:c.length<=m):(rowP c).length<=2*m+1:=by
 unfold rowP;rw[bq,WT];omega
theorem fr_len{f:LX.Frame}(h:f.regs.length<=40):(frP f).length<=84:=by
 unfold frP;have:=row_len h;simp only[bq];omega
theorem Pq{a:List bA}(b:mU a){s:LX.State}(h:vI a s):Small (dO s):=(Uk b h).small b
theorem pack_loop{s:LX.State}(h:Small s):upto (G7 s) (G8 s) 0 ((s.frames.length:Int)).toNat [s.status,s.bT,(s.frames.length:Int)]=aj (wR s,0):=by
 have p:=h.frames;have o:=h.cells;have q:=frs_len s.frames h.regs;rw[bj,app_loop0 (g:=frP) (l:=s.frames) 84 3 (fun f j=>fr_len (h.regs f j)) (fun i a d k b=>by
  have m:=h.regs _<|cx a;unfold G7;rw[xh a,bnd,kC (room_le (by simp[-eJ];omega) zq1),values_eq _ _ (by simp[-eJ];omega),bnd];unfold frP rowP;simp) _ zq3]
 unfold G8;rw[kC (room_le (by simp[-eJ];omega) zq1),bj,app_loop0 (g:=rowP) (l:=s.cells) 9 1000 (fun c n=>row_len (h.fields c n)) (fun i a d k b=>by
  have m:=h.fields _<|cx a;unfold M4;rw[xh a,bnd,kC (room_le (by simp[-eJ];omega) zq1),values_eq _ _ (by simp[-eJ];omega),bnd];unfold rowP;simp) _ (by simp[-eJ];omega)]
 unfold M5;have hp:=aam h;have e:([s.status,s.bT,(s.frames.length:Int)]++s.frames.flatMap frP++[(s.cells.length:Int)]++s.cells.flatMap rowP)=wR s:=by
  unfold wR;simp
 rw[e,dF V,cond_false]
theorem Uo(a:List bA)(s:LX.State){N:Nat}(hN:100<=N):EP N a s=aj (if Js a≠0 then([],Js a)else if ckS a s≠0 then([],ckS a s)else(wR (dO s),0)):=by
  unfold EP;rw[J3,bnd];by_cases b:Js a=0
  · rw[if_neg V,if_neg V];by_cases c:ckS a s=0
    · have e:=pg b;have d:=Jk.1 c;rw[dF V,cond_false,aac hN (d.sw e),bnd,if_neg V];exact pack_loop<|Pq e d
    · rw[dT c,cond_true,if_pos c]
  · rw[if_pos b,dT b,cond_true,if_pos b]
structure Rel{α:Type}(o:Option (α×List Int))(b:Bool)(x':α)(l':List Int)(b':Bool):Prop where
 stay:b=ar->b'=ar
 ok:b=aq->match o with
  |some (x,r)=>x'=x/\l'=r/\b'=aq
  |none=>b'=ar
theorem Rel.pure{α:Type}(x:α)(l:List Int)(b:Bool):Rel (xZ x l) b x l b:=⟨id,fun h=>⟨rfl,rfl,h⟩⟩
theorem Rel.bind{α β:Type}{R:Rdr α}{f:α->Rdr β}{l i c:List Int}{b b' a:Bool}{x':α}{j:β}(g:Rel (R l) b x' i b')(d:Rel (f x' i) b' j c a):Rel (iV R f l) b j c a:=by
 refine⟨fun h=>d.stay<|g.stay h,fun h=>?_⟩;have:=g.ok h;unfold iV;cases e:R l with
 |none=>rw[e]at this;exact d.stay this
 |some q=>
  obtain⟨x,r⟩:=q;rw[e]at this;obtain⟨rfl,rfl,k⟩:=this;exact d.ok k
theorem F7(l:List Int)(b:Bool):∃x c b',kr ⟨l,b⟩=aj (x,⟨c,b'⟩)/\Rel (Hl l) b x c b':=by
 unfold kr;cases l with
 |nil=>exact⟨0,[],ar,rfl,fun _=>rfl,fun _=>rfl⟩
 |cons x l=>
  simp only;rw[dF (by simp;omega),cond_false,show idx (x::l) 0=aj x from idx0 x l,bnd,show sub? (x::l) 1 ((x::l).length:Int)=aj l by
   have:=SS (l:=x::l) (a:=1) (b:=(x::l).length) zq3<|bt _;rw[sa]at this;exact this,bnd]
  exact⟨x,l,b,Z,id,fun h=>⟨Z,Z,h⟩⟩
theorem Uq(m:Nat)(l:List Int)(b:Bool):∃(x:Nat) (a:List Int) (b':Bool),pQ ⟨l,b⟩ m=aj ((x:Int),⟨a,b'⟩)/\x<=m/\Rel (tJ m l) b x a b':=by
  unfold pQ;obtain⟨x,a,b',h,d⟩:=F7 l b;rw[h,bnd];simp only;by_cases e:0<=x/\x<=(m:Int)
  · rw[dF V,dF V,Bool.or_self,cond_false];refine⟨x.toNat,a,b',by rw[Int.toNat_of_nonneg e.1],by omega,d.stay,fun f=>?_⟩;have:=d.ok f;cases l with
    |nil=>exact this
    |cons y l=>
      obtain⟨rfl,rfl,c⟩:=this;rw[show tJ (m:Int) (x::a)=aj (x.toNat,a)from if_pos e];exact⟨Z,Z,c⟩
  · rw[show(ab (x<0)||ab ((m:Int)<x))=ar by
      rw[dw,decide_eq_true_eq,decide_eq_true_eq];omega,cond_true]
    refine⟨0,a,ar,Z,by omega,fun _=>rfl,fun f=>?_⟩;have:=d.ok f;cases l with
    |nil=>rfl
    |cons y l=>
      obtain⟨rfl,rfl,c⟩:=this;rw[show tJ (m:Int) (x::a)=aE from if_neg e]
theorem QO(n:Nat)(hn:n<=100):∀(m M i:Nat) (a:List Val) (l:List Int) (b:Bool),i+m=n->a.length=i->m<M->
    ∃vs d b',again (kZ n) M (a,(i:Int),l,b)=aj (a++vs,⟨d,b'⟩)/\vs.length=m/\Rel (kH X5 m l) b vs d b'
  |m,0,i,a,l,b,_,_,hM=>by omega
  |0,M+1,i,a,l,b,hi,_,_=>by
    rw[Hg];unfold kZ;simp only;rw[dF V,cond_false];exact⟨[],l,b,by simp,Z,Rel.pure [] l b⟩
  |m+1,M+1,i,a,l,b,hi,ha,hM=>by
    rw[Hg];have c:=QO n hn m M<|i+1;generalize again (kZ n) M=K at c⊢;unfold kZ;simp only;rw[dT V,cond_true];obtain⟨x,f,r,h,t⟩:=F7 l b;rw[h,bnd];simp only;obtain⟨y,p,q,k,j⟩:=F7 f r;rw[k,bnd];simp only;rw[kC (room_le (by simp;omega) zq1),gI V V];obtain⟨vs,s,o,e,u,g⟩:=c (a++[⟨x,y⟩]) p q V (by simp;omega) V;refine⟨⟨x,y⟩::vs,s,o,?_,by simp[u],?_⟩
    · rw[show((i:Int)+1)=((i+1:Nat):Int) by omega,e];simp
    · exact Rel.bind (Rel.bind t<|Rel.bind j<|Rel.pure _ _ _)<|Rel.bind g<|Rel.pure _ _ _
theorem aao{N n:Nat}(hn:n<=100)(hN:200<=N)(l:List Int)(b:Bool):∃vs a b',sU N ⟨l,b⟩ n=aj (vs,⟨a,b'⟩)/\vs.length=n/\Rel (kH X5 n l) b vs a b':=by
 unfold sU;obtain⟨vs,a,b',e,d,c⟩:=QO n hn n N 0 [] l b V Z V;exact⟨vs,a,b',by simpa using e,d,c⟩
def none0:LX.State:=⟨[],[],0,0⟩
def endP(a:List bA)(s:LX.State):LX.State×Int:=
 if Js a≠0 then(none0,Js a)else if ckS a s≠0 then(none0,ckS a s)else if dO s=s then(s,0)else(none0,4)
def dQ(a:List bA)(l:List Int):LX.State×Int:=
 if 1200<l.length then(none0,2)else match Sn l with
  |some (s,[])=>endP a s
  |_=>(none0,8)
theorem un_end(a:List bA)(s:LX.State){N:Nat}(hN:100<=N):((FN a s).bind fun b=>bif ab ((b:Int)≠0)then aj (none0,b)else(IC N s).bind fun x=>(TF x s).bind fun y=>bif (!y)then aj (none0,4)else aj (s,0))=aj (endP a s):=by
  rw[J3,bnd];unfold endP;by_cases c:Js a=0
  · rw[if_neg V,if_neg V];by_cases e:ckS a s=0
    · have f:=pg c;rw[dF V,cond_false,aac hN ((Jk.1 e).sw f),bnd,eqState,bnd,if_neg V];by_cases d:dO s=s
      · rw[dT d,if_pos d];rfl
      · rw[dF d,if_neg d];rfl
    · rw[dT e,cond_true,if_pos e]
  · rw[if_pos c,dT c,cond_true,if_pos c]
theorem cells_rel{N:Nat}(hN:200<=N)(f:Int×nU)(a:List bA)(fr:List LX.Frame)(e d:Int×nU)(n:Nat)(y:f.1=n)(hn:n<=24):
    ∀(m M i:Nat) (c:List (List Val)) (l:List Int) (b:Bool),i+m=n->c.length=i->m<M->
    ∃cs j b',again (sW N f a fr e d) M ((i:Int),l,b,c)=(bif (b'||ab ((0:Int)<(j.length:Int)))then aj (none0,8)else aj (endP a ⟨fr,c++cs,e.1,d.1⟩))/\Rel (kH (D7 4) m l) b cs j b'
  |m,0,i,c,l,b,_,_,hM=>by omega
  |0,M+1,i,c,l,b,hi,_,_=>by
    rw[Hg];unfold sW;simp only;rw[dF V,cond_false];refine⟨[],l,b,?_,Rel.pure [] l b⟩;rw[dt,<-un_end a ⟨fr,c,e.1,d.1⟩ (N:=N) V];rfl
  |m+1,M+1,i,c,l,b,hi,ha,hM=>by
    rw[Hg];have h:=cells_rel hN f a fr e d n y hn m M<|i+1;generalize again (sW N f a fr e d) M=K at h⊢;unfold sW;simp only;rw[dT V,cond_true];obtain⟨x,v,z,g,A,t⟩:=Uq 4 l b;rw[show((4:Nat):Int)=4 from rfl]at g;rw[g,bnd];simp only;obtain⟨vs,q,r,w,B,o⟩:=aao (N:=N) (n:=x) V hN v z;rw[w,bnd];simp only;rw[kC (room_le (by simp;omega) zq1)];unfold IE;rw[gI V V];obtain⟨cs,s,p,u,k⟩:=h (c++[vs]) q r V (by simp;omega) V;refine⟨vs::cs,s,p,?_,?_⟩
    · rw[show((i:Int)+1)=((i+1:Nat):Int) by omega,u];simp
    · exact Rel.bind (Rel.bind t o)<|Rel.bind k<|Rel.pure _ _ _
theorem times_bind{α β:Type}{R:Rdr α}{m:Nat}{G:List α->Rdr β}{l:List Int}:iV (kH R (m+1)) G l=iV R (fun x=>iV (kH R m) fun a=>G (x::a)) l:=by
 show((iV R (fun x=>iV (kH R m) fun l=>xZ<|x::l) l).bind _)=_;unfold iV;cases R l with
 |none=>rfl
 |some q=>
  rw[cH,cH];simp only;cases kH R m q.2 with
  |none=>rfl
  |some q2=>rfl
theorem aap{N:Nat}(hN:200<=N)(e:Int×nU)(a:List bA)(h g:Int×nU)(n:Nat)(T:e.1=n)(hn:n<=10):
    ∀(m M i:Nat) (d:List LX.Frame) (l:List Int) (b:Bool),i+m=n->d.length=i->m<M->
    ∃(s:LX.State) (I:List Int) (b':Bool),again (qM N e a h g) M ((i:Int),l,b,d)=(bif (b'||ab ((0:Int)<(I.length:Int)))then aj (none0,8)else aj (endP a s))/\
      Rel (iV (kH Sm m) (fun f=>iV (tJ 24) fun k=>iV (kH (D7 4) k) fun c=>xZ (⟨d++f,c,h.1,g.1⟩:LX.State)) l) b s I b'
  |m,0,i,d,l,b,_,_,hM=>by omega
  |0,M+1,i,d,l,b,hi,_,_=>by
    rw[Hg];unfold qM;simp only;rw[dF V,cond_false];obtain⟨x,j,r,o,G,w⟩:=Uq 24 l b;rw[show((24:Nat):Int)=24 from rfl]at o;rw[o,bnd];simp only;obtain⟨cs,z,v,y,u⟩:=cells_rel hN ((x:Int),⟨j,r⟩) a d h g x Z G x N 0 [] j r V Z V;refine⟨⟨d++[],[]++cs,h.1,g.1⟩,z,v,?_,?_⟩
    · rw[dt];exact y
    · exact Rel.bind (Rel.pure [] l b)<|Rel.bind w<|Rel.bind u<|Rel.pure _ _ _
  |m+1,M+1,i,d,l,b,hi,ha,hM=>by
    rw[Hg];have B:=aap hN e a h g n T hn m M<|i+1;generalize again (qM N e a h g) M=K at B⊢;unfold qM;simp only;rw[dT V,cond_true];obtain⟨p,j,r,o,w⟩:=F7 l b;rw[o,bnd];simp only;obtain⟨q,z,v,y,u⟩:=F7 j r;rw[y,bnd];simp only;obtain⟨t,Q,O,e3,r3⟩:=F7 z v;rw[e3,bnd];simp only;obtain⟨x,l4,R,C,G,r4⟩:=Uq 40 Q O;rw[show((40:Nat):Int)=40 from rfl]at C;rw[C,bnd];simp only;obtain⟨vs,E,L,X,hv,P⟩:=aao (N:=N) (n:=x) V hN l4 R;rw[X,bnd];simp only;rw[kC (room_le (by simp;omega) zq1),gI V V];obtain⟨s,l6,S,e6,F⟩:=B (d++[⟨p,q,vs,t⟩]) E L V (by simp;omega) V;refine⟨s,l6,S,?_,?_⟩
    · rw[show((i:Int)+1)=((i+1:Nat):Int) by omega,e6]
    · have A:Rel (Sm l) b ⟨p,q,vs,t⟩ E L:=Rel.bind w<|Rel.bind u<|Rel.bind r3<|Rel.bind (Rel.bind r4 P)<|Rel.pure _ _ _;simp only[cg,et,cQ]at F;rw[times_bind];exact Rel.bind (f:=fun x=>iV (kH Sm m) fun fs=>iV (tJ 24) fun k=>iV (kH (D7 4) k) fun c=>xZ (⟨d++x::fs,c,h.1,g.1⟩:LX.State)) A F
theorem end_rel{a:List bA}{l b:List Int}{b':Bool}{s:LX.State}{y:Option (LX.State×Int)}(c:¬1200<l.length)(d:Rel (Sn l) aq s b b')(h:y=(bif (b'||ab ((0:Int)<(b.length:Int)))then aj (none0,8)else aj (endP a s))):y=aj (dQ a l):=by
 rw[h];unfold dQ;rw[if_neg c];have:=d.ok Z;cases e:Sn l with
 |none=>rw[e]at this;simp only at this;subst this;rfl
 |some q=>
  obtain⟨f,r⟩:=q;rw[e]at this;obtain⟨rfl,rfl,rfl⟩:=this;cases b with
  |nil=>rfl
  |cons x b=>rw[oE,dT zq3,cond_true]
theorem D8(a:List bA)(l:List Int){N:Nat}(hN:200<=N):rG N a l=aj (dQ a l):=by
  unfold rG;by_cases e:1200<l.length
  · rw[dT V,cond_true];unfold dQ;rw[if_pos e];rfl
  · rw[dF V,cond_false];obtain⟨st,g,h,p,o⟩:=F7 l aq;rw[p,bnd];simp only;obtain⟨wh,i,c,q,n⟩:=F7 g h;rw[q,bnd];simp only;obtain⟨x,d,b,f,r,m⟩:=Uq 10 i c;rw[show((10:Nat):Int)=10 from rfl]at f;rw[f,bnd];simp only;obtain⟨s,t,u,j,k⟩:=aap hN ((x:Int),⟨d,b⟩) a (st,⟨g,h⟩) (wh,⟨i,c⟩) x Z r x N 0 [] d b V Z V;exact end_rel e (Rel.bind o<|Rel.bind n<|Rel.bind m k) j
section
variable{I:List Int}(hI:I.length<=1200)
include hI
omit hI in
end
open Go Go.Proofs Go.LX
theorem read_all{s:LX.State}(h:Small s):Sn (wR s)=aj (s,[]):=by
 have:=aal h [];rw[dt]at this;exact this
theorem unpack_pack{a:List bA}(d:Js a=0){s:LX.State}(h:vI a s):dQ a (wR (dO s))=(dO s,0):=by
 have b:=pg d;have c:=Pq b h;unfold dQ;rw[if_neg (by have:=aam c;omega),read_all c];simp only;unfold endP;rw[if_neg V,if_neg (by rw[Jk.2 (Uk b h)];omega),if_pos (Nj (h.sw b))]
theorem Ur{a:List bA}{s:LX.State}(h:vI a s):vI a (wake s):=by
  unfold wake;by_cases b:s.status=3
  · rw[if_pos b];refine⟨by simp,by simp,fun _=>rfl,?_,h.many,h.cells,h.frames⟩;have:=h.ended;constructor
    · intro e;simp at e
    · intro e;have:=h.ended.2 e;omega
  · rw[if_neg b];exact h
namespace Dk
open Go Go.Proofs Go.LX
theorem eqInt(a b:List Int):slices_Equal_int a b=aj (ab (a=b)):=by
  unfold slices_Equal_int;by_cases h:a.length=b.length
  · rw[dF V];simp only[cond_false,bj];rw[UO (fun x y=>ab (x=y)) a b h rfl (fun i x y f c d=>by
      unfold vL;rw[lh,lh,c,d];by_cases e:x=y<;>simp[e]),Mi (fun _ _=>rfl)]
  · rw[dT V];have:a≠b:=fun e=>h (by rw[e]);rw[dF this];rfl
theorem rec_eq(r:Rec):dW r=gZ r:=by
  unfold dW gZ AB uF mq eZ;have e:(((!(bu r.co 0 2))||(!(bu r.aJ 0 100)))||(!(bu r.place 0 2)))=(((((ab ((r.co:Int)<0)||ab ((3:Int)<=r.co))||ab ((r.aJ:Int)<0))||ab ((100:Int)<r.aJ))||ab ((r.place:Int)<0))||ab ((3:Int)<=r.place)):=by
    unfold bu;rw[ey];simp;omega
  rw[e];generalize (((((ab ((r.co:Int)<0)||ab ((3:Int)<=r.co))||ab ((r.aJ:Int)<0))||ab ((100:Int)<r.aJ))||ab ((r.place:Int)<0))||ab ((3:Int)<=r.place))=C1;generalize (ab ((40:Int)<(r.says.length:Int))||ab ((1200:Int)<(r.image.length:Int)))=C2;generalize ab ((r.place:Int)≠0)=p0;generalize ab ((0:Int)<(r.says.length:Int))=s1;generalize ab ((0:Int)<(r.image.length:Int))=i1;generalize ab ((r.aJ:Int)=0)=e0;have d:∀l:Str,(hasB l 73=ar\/hasB l 73=aq):=fun l=>by cases hasB l 73<;>simp
  by_cases k1:r.kind=1
  · rw[k1,show hasB ((lk (1:Int) ([(1,[73]),(2,[83,73]),(3,[80]),(4,[73]),(5,[])]:List (Int×Str))).getD []) 80=aq by decide,show hasB ((lk (1:Int) ([(1,[73]),(2,[83,73]),(3,[80]),(4,[73]),(5,[])]:List (Int×Str))).getD []) 83=aq by decide,show hasB ((lk (1:Int) ([(1,[73]),(2,[83,73]),(3,[80]),(4,[73]),(5,[])]:List (Int×Str))).getD []) 73=ar by decide];cases C1<;>cases C2<;>cases p0<;>cases s1<;>cases i1<;>cases e0<;>rfl
  by_cases k2:r.kind=2
  · rw[k2,show hasB ((lk (2:Int) ([(1,[73]),(2,[83,73]),(3,[80]),(4,[73]),(5,[])]:List (Int×Str))).getD []) 80=aq by decide,show hasB ((lk (2:Int) ([(1,[73]),(2,[83,73]),(3,[80]),(4,[73]),(5,[])]:List (Int×Str))).getD []) 83=ar by decide,show hasB ((lk (2:Int) ([(1,[73]),(2,[83,73]),(3,[80]),(4,[73]),(5,[])]:List (Int×Str))).getD []) 73=ar by decide];cases C1<;>cases C2<;>cases p0<;>cases s1<;>cases i1<;>cases e0<;>rfl
  by_cases b:r.kind=3
  · rw[b,show hasB ((lk (3:Int) ([(1,[73]),(2,[83,73]),(3,[80]),(4,[73]),(5,[])]:List (Int×Str))).getD []) 80=ar by decide,show hasB ((lk (3:Int) ([(1,[73]),(2,[83,73]),(3,[80]),(4,[73]),(5,[])]:List (Int×Str))).getD []) 83=aq by decide,show hasB ((lk (3:Int) ([(1,[73]),(2,[83,73]),(3,[80]),(4,[73]),(5,[])]:List (Int×Str))).getD []) 73=aq by decide];cases C1<;>cases C2<;>cases p0<;>cases s1<;>cases i1<;>cases e0<;>rfl
  by_cases c:r.kind=4
  · rw[c,show hasB ((lk (4:Int) ([(1,[73]),(2,[83,73]),(3,[80]),(4,[73]),(5,[])]:List (Int×Str))).getD []) 80=aq by decide,show hasB ((lk (4:Int) ([(1,[73]),(2,[83,73]),(3,[80]),(4,[73]),(5,[])]:List (Int×Str))).getD []) 83=aq by decide,show hasB ((lk (4:Int) ([(1,[73]),(2,[83,73]),(3,[80]),(4,[73]),(5,[])]:List (Int×Str))).getD []) 73=ar by decide];cases C1<;>cases C2<;>cases p0<;>cases s1<;>cases i1<;>cases e0<;>rfl
  by_cases a:r.kind=5
  · rw[a,show hasB ((lk (5:Int) ([(1,[73]),(2,[83,73]),(3,[80]),(4,[73]),(5,[])]:List (Int×Str))).getD []) 80=aq by decide,show hasB ((lk (5:Int) ([(1,[73]),(2,[83,73]),(3,[80]),(4,[73]),(5,[])]:List (Int×Str))).getD []) 83=aq by decide,show hasB ((lk (5:Int) ([(1,[73]),(2,[83,73]),(3,[80]),(4,[73]),(5,[])]:List (Int×Str))).getD []) 73=aq by decide];cases C1<;>cases C2<;>cases p0<;>cases s1<;>cases i1<;>cases e0<;>rfl
  rw[show lk r.kind ([(1,[73]),(2,[83,73]),(3,[80]),(4,[73]),(5,[])]:List (Int×Str))=aE by simp[lk,k1,k2,b,c,a]];rw[show(ab ((r.kind:Int)<1)||ab ((5:Int)<r.kind))=ar by simp;omega];rfl
structure GoodR(r:Rec):Prop where
 kind:1<=r.kind/\r.kind<=5
 co:0<=r.co/\r.co<=2
 aJ:1<=r.aJ/\r.aJ<=100
 place:0<=r.place/\r.place<=2
 says:r.says.length<=40
 image:r.image.length<=1200
 has:(r.kind=1\/r.kind=2\/r.kind=4)->1<=r.image.length
theorem Us(r:Rec)(h:gZ r=0):GoodR r:=by
 rw[<-rec_eq]at h;unfold dW at h;have hn:0<=(r.image.length:Int):=by omega
 generalize c:(ab ((r.kind:Int)<1)||ab ((5:Int)<r.kind))=A at h;cases A with
 |true=>simp only[cond_true]at h;exact absurd h zq1
 |false=>
 simp only[cond_false]at h;generalize f:(((((ab ((r.co:Int)<0)||ab ((3:Int)<=r.co))||ab ((r.aJ:Int)<0))||ab ((100:Int)<r.aJ))||ab ((r.place:Int)<0))||ab ((3:Int)<=r.place))=B at h;cases B with
 |true=>simp only[cond_true]at h;exact absurd h zq1
 |false=>
 simp only[cond_false]at h;generalize d:(ab ((40:Int)<(r.says.length:Int))||ab ((1200:Int)<(r.image.length:Int)))=C at h;cases C with
 |true=>simp only[cond_true]at h;exact absurd h zq1
 |false=>
 simp only[cond_false]at h;generalize b:((((ab ((r.kind:Int)≠3)&&ab ((r.place:Int)≠0))||(ab ((r.kind:Int)≠2)&&ab ((0:Int)<(r.says.length:Int))))||(((ab ((r.kind:Int)=1)||ab ((r.kind:Int)=2))||ab ((r.kind:Int)=4)) !=ab ((0:Int)<(r.image.length:Int))))||ab ((r.aJ:Int)=0))=D at h;cases D with
 |true=>simp only[cond_true]at h;exact absurd h zq1
 |false=>
 simp only[cY,decide_eq_false_iff_not,bne_eq_false_iff_eq]at c f d b;obtain⟨⟨⟨_,_⟩,a⟩,i⟩:=b;refine⟨by omega,by omega,by omega,by omega,by omega,by omega,fun g=>?_⟩;have:((ab ((r.kind:Int)=1)||ab ((r.kind:Int)=2))||ab ((r.kind:Int)=4))=true:=by
  simp;omega
 rw[this]at a;have e:ab ((0:Int)<(r.image.length:Int))=true:=by
  cases hq:ab ((0:Int)<(r.image.length:Int))with
  |true=>rfl
  |false=>rw[hq]at a;cases a
 have:=odt e;omega
def Qx(r:Rec):Prop:=kN r.kind/\kN r.co/\kN r.aJ/\kN r.place/\(∀x∈r.says,kN x)/\(∀x∈r.image,kN x)
def nl(r:Rec):List Int:=[r.kind,r.co,r.aJ,r.place,(r.says.length:Int)]++r.says++r.image
def zR:Rec:=⟨0,0,0,0,[],[]⟩
def xJ(r:Rec):Str×Int:=if dW r=0 then(vV 32 ((nl r).map dr),0)else([],dW r)
def Ps(l:List Int)(n:Nat):Rec:=⟨l.getD 0 0,l.getD 1 0,l.getD 2 0,l.getD 3 0,(l.take (5+n)).drop 5,l.drop (5+n)⟩
def L6(l:List Int):Rec×Int:=
 if l.length<5 then(zR,1)else if l.getD 4 0<0\/(l.length:Int)-5<l.getD 4 0 then(zR,1)else
 if dW (Ps l (l.getD 4 0).toNat)=0 then(Ps l (l.getD 4 0).toNat,0)else(zR,dW (Ps l (l.getD 4 0).toNat))
def nO(s:Str):Rec×Int:=match Xg 32 s with|none=>(zR,1)|some l=>L6 l
def Ut(s:Str):Rec×Int:=if(60000:Int)<(s.length:Int)then(zR,2)else nO s
theorem concat5:∀(l:List (List Int)) (a:List Int),a.length+(l.map fa).sum<=1000000->each uS uT l a=aj (a++l.flatten)
 |[],a,_=>by simp[qU,uT]
 |x::l,a,h=>by
  simp only[ck,my]at h;rw[gL,uS,kC ⟨by omega,by omega⟩,concat5 l (a++x) (by rw[bc];omega)];simp
theorem concat7(a:List (List Int)):∀(l:List (List Int)) (n:Nat),n+(l.map fa).sum<=1000000->each uU (qp a) l (n:Int)=qp a ((n+(l.map fa).sum:Nat):Int)
 |[],n,_=>by simp[qU]
 |x::l,n,h=>by
  simp only[ck,my]at h⊢;rw[gL,uU,gI,dF V,cond_false,show((n:Int)+(x.length:Int))=((n+x.length:Nat):Int) by omega,concat7 a l (n+x.length) V,jz]
theorem concat_eq(a:List (List Int))(h:(a.map fa).sum<=1000000):uV a=aj a.flatten:=by
 unfold uV;have:=concat7 a a 0 V;rw[show((0:Nat):Int)=0 from rfl]at this;rw[this];unfold qp;rw[show QD 8 ((0+(a.map fa).sum:Nat):Int)=aj ([]:List Int) by unfold QD;rw[kC ⟨by omega,by omega⟩],bnd,concat5 a [] (by simpa using h)];simp
theorem concat3(a b c:List Int)(h:a.length+b.length+c.length<=1000000):uV [a,b,c]=aj (a++b++c):=by
 rw[concat_eq _ (by simp;omega)];simp
theorem nl_len(r:Rec):(nl r).length=5+r.says.length+r.image.length:=by simp[nl];omega
theorem nl_ok{r:Rec}(g:GoodR r)(w:Qx r):∀x∈nl r,kN x:=by
  obtain⟨f,d,c,e,h,b⟩:=w;have i:=g.says;intro x a;simp only[nl,cR,bn,List.not_mem_nil,or_false]at a;rcases a with((rfl|rfl|rfl|rfl|rfl)|a)|a
  · exact f
  · exact d
  · exact c
  · exact e
  · exact kN.mk V V
  · exact h x a
  · exact b x a
theorem aaq{r:Rec}(g:GoodR r):(nl r).length<=1245:=by rw[nl_len];have:=g.says;have:=g.image;omega
theorem nl_ne(r:Rec):nl r≠[]:=by simp[nl]
theorem aar:∀(l:List Int) (pre:List Str),(∀x∈l,kN x)->ic xW uJ (pre.length:Int) l (pre++cc l.length ([]:Str))=uJ (pre++l.map dr)
 |[],pre,_=>by simp[UK]
 |x::l,pre,h=>by
  rw[yP,xW,Ym (h x zq3),bnd,lh];have c:(pre++cc (x::l).length ([]:Str))[pre.length]? =aj []:=by rw[gx (bt _)];simp
  rw[c,bnd,bj];have d:(pre++cc (x::l).length ([]:Str)).set pre.length (dr x)=(pre++[dr x])++cc l.length ([]:Str):=by
   rw[List.set_append_right _ _ (bt _)];simp[List.replicate_succ]
  have a:((pre.length:Int)+1)=((pre++[dr x]).length:Int):=by simp
  rw[d,a,aar l (pre++[dr x]) (fun y b=>h y (bk _ b))];simp
theorem join_ok{l:List Int}(h:∀x∈l,kN x)(d:l.length<=1245):Yk (l.map dr) [32]=aj (vV 32 (l.map dr)):=by
 have c:=UU 32 21 (l.map dr) (by intro x b;obtain⟨y,a,rfl⟩:=dL.1 b;exact itoa_len (h y a));rw[cF]at c;exact joinS_eq 32 (by rw[cF];omega) V
theorem print_eq(r:Rec)(c:dW r=0->Qx r):G5 r=aj (xJ r):=by
  unfold G5 xJ;by_cases h:dW r=0
  · have g:=Us r (by rw[<-rec_eq];exact h);have e:=g.says;have f:=g.image;rw[dF V,cond_false,if_pos h,concat3 _ _ _ (by simp;omega),bnd];have d:=aaq g;have a:=nl_ok g<|c h;show iK _ (ic xW uJ 0 (nl r)<|cc ((nl r).length:Int).toNat ([]:Str))=_;have b:(r.kind::r.co::r.aJ::r.place::(r.says.length:Int)::(r.says++r.image)).length=(nl r).length:=by simp[nl]
    rw[kC (by
      refine⟨by omega,?_⟩;have:([r.kind,r.co,r.aJ,r.place,(r.says.length:Int)]++r.says++r.image).length=(nl r).length:=rfl;rw[this];omega),bj]
    have:=aar (nl r) [] a;simp only[ez,cQ]at this;rw[show((0:Nat):Int)=0 from rfl]at this;rw[this];unfold uJ;rw[join_ok a d,bnd]
  · rw[dT h,cond_true,if_neg h]
theorem numbers_each:∀(w:List Str) (a:List Int),(∀x∈w,x.length<=60000)->a.length+w.length<=1000000->
    each Cx Cy w a=aj (match w.mapM numOf with|some v=>(a++v,ar)|none=>([],aq))
  |[],a,_,_=>by simp[qU,Cy]
  |x::w,a,h,hl=>by
    have f:=h x zq3;simp only[bq]at hl;have d:=fun y=>numbers_each w (a++[y]) (fun z hz=>h z (bk _ hz)) (by simp;omega);rw[gL,Cx,parseS_eq V,bnd,mu];cases e:Lib.atoiAll x with
    |ok v=>
      have c:kN v:=rn e;simp only[cond_false];rw[Ym c,bnd,wM];by_cases b:dr v=x
      · rw[dF (by simpa using b),cond_false,kC ⟨by simp;omega,by simp;omega⟩,d];have:numOf x=aj v:=by simp[numOf,e,b]
        rw[this];cases e2:w.mapM numOf with
        |none=>rfl
        |some m=>simp
      · rw[dT b,cond_true];have:numOf x=none:=by simp[numOf,e,b]
        rw[this];rfl
    |range=>
      have:numOf x=none:=by simp[numOf,e]
      rw[this];rfl
    |_=>
      have:numOf x=none:=by simp[numOf,e]
      rw[this];rfl
theorem aas:∀(w:List Str) (a:List Int),(∀x∈w,x.length<=60000)->a.length+w.length<=1000000->
    each Af rJ w a=match w.mapM numOf with|some v=>rJ (a++v)|none=>aj (zR,1)
  |[],a,_,_=>by simp[qU]
  |x::w,a,h,hl=>by
    have f:=h x zq3;simp only[bq]at hl;have d:=fun y=>aas w (a++[y]) (fun z hz=>h z (bk _ hz)) (by simp;omega);rw[gL,Af,atoiS_eq V,bnd,mu];cases e:Lib.atoiAll x with
    |ok v=>
      have c:kN v:=rn e;simp only[cond_false];rw[Ym c,bnd,Ae];by_cases b:dr v=x
      · rw[dF (by simpa using b),cond_false,kC ⟨by simp;omega,by simp;omega⟩,d];have:numOf x=aj v:=by simp[numOf,e,b]
        rw[this];cases e2:w.mapM numOf with
        |none=>rfl
        |some m=>simp
      · rw[dT b,cond_true];have:numOf x=none:=by simp[numOf,e,b]
        rw[this];rfl
    |range=>
      have:numOf x=none:=by simp[numOf,e]
      rw[this];rfl
    |_=>
      have:numOf x=none:=by simp[numOf,e]
      rw[this];rfl
theorem five{l:List Int}(h:¬l.length<5):∃a b c d n r,l=a::b::c::d::n::r:=by
 match l,h with
 |a::b::c::d::n::r,_=>exact⟨a,b,c,d,n,r,rfl⟩
 |[],h=>simp at h
 |[a],h=>simp at h
 |[a,b],h=>simp at h
 |[a,b,c],h=>simp at h
 |[a,b,c,d],h=>simp at h
theorem parse_k31(l:List Int)(o:l.length<=1000000)(hI:∀x∈l,kN x):rJ l=aj (L6 l):=by
  unfold rJ L6;by_cases g:l.length<5
  · rw[dT V,if_pos g];rfl
  · rw[dF V,if_neg g,cond_false];obtain⟨a,b,c,d,n,r,rfl⟩:=five g;have hn:kN n:=hI n zq3;have k:idx (a::b::c::d::n::r) 4=aj n:=rfl;rw[k,bnd];have i:(a::b::c::d::n::r).getD 4 0=n:=rfl;rw[i];by_cases e:n<0
    · rw[dT e,if_pos (.inl e)];rfl
    · rw[dF e,cond_false];simp only[bq]at o⊢;rw[gI];by_cases f:((r.length+1+1+1+1+1:Nat):Int)-5<n
      · rw[dT f,if_pos (.inr f)];rfl
      · rw[dF f,if_neg V];unfold wC;obtain⟨m,rfl⟩:=bs (show 0<=n by omega);rw[cond_false,show idx (a::b::c::d::(m:Int)::r) 0=aj a from rfl,bnd,show idx (a::b::c::d::(m:Int)::r) 1=aj b from rfl,bnd,show idx (a::b::c::d::(m:Int)::r) 2=aj c from rfl,bnd,show idx (a::b::c::d::(m:Int)::r) 3=aj d from rfl,bnd,show idx (a::b::c::d::(m:Int)::r) 4=aj (m:Int)from rfl,bnd,gI];rw[show(5+(m:Int))=((5+m:Nat):Int) by omega,show(5:Int)=((5:Nat):Int)from rfl,SS V (by simp;omega),bnd,gI,SS (by simp;omega) (bt _),bnd,ru (by simp;omega) (by simp;omega),bnd,ru (by simp;omega) (by simp;omega),bnd];have j:((a::b::c::d::(m:Int)::r).take (a::b::c::d::(m:Int)::r).length).drop (5+m)=(a::b::c::d::(m:Int)::r).drop (5+m):=by rw[sa]
        rw[j];unfold Ez;show(bif ab ((dW (Ps (a::b::c::d::(m:Int)::r) m):Int)≠0)then aj (zR,dW<|Ps (a::b::c::d::(m:Int)::r) m)else aj (Ps (a::b::c::d::(m:Int)::r) m,0))=_;rw[bj];by_cases h:dW (Ps (a::b::c::d::(m:Int)::r) m)=0
        · rw[dF V,if_pos h];rfl
        · rw[dT h,if_neg h];rfl
theorem parse_eq(s:Str):GV s=aj (Ut s):=by
  unfold GV Ut;by_cases h:(60000:Int)<(s.length:Int)
  · rw[dT h,if_pos h];rfl
  · rw[dF h,if_neg h,cond_false];have d:=Mj 32 s;rw[splitS_eq 32 V,bnd,aas _ [] (fun x a=>by have:=Ep 32 s x a;omega) (by simp;omega)];unfold nO;cases e:Xg 32 s with
    |none=>unfold Xg at e;rw[e]
    |some l=>
      have:=J7 (show(jT 32 s).mapM numOf=aj l from e);unfold Xg at e;rw[e];have c:l.length<=1000000:=by
        have b:=congrArg fa this.1;rw[cF]at b;omega
      simp only[cQ];exact parse_k31 l c this.2
theorem mkRec_nl(r:Rec):Ps (nl r) r.says.length=r:=by
 obtain⟨k,c,e,p,s,i⟩:=r;unfold Ps nl;have a:((([k,c,e,p,(s.length:Int)]++s++i).take (5+s.length)).drop 5)=s:=by
  rw[cg,show 5+s.length=([k,c,e,p,(s.length:Int)]).length+s.length from rfl,List.take_length_add_append,List.take_left];rfl
 have b:([k,c,e,p,(s.length:Int)]++s++i).drop (5+s.length)=i:=by
  rw[show 5+s.length=([k,c,e,p,(s.length:Int)]++s).length by simp;omega,List.drop_left]
 simp only[a,b];rfl
theorem fromNums_nl{r:Rec}(h:dW r=0):L6 (nl r)=(r,0):=by
 have a:=nl_len r;unfold L6;rw[if_neg V,show(nl r).getD 4 0=(r.says.length:Int)from rfl,if_neg V,bj,mkRec_nl,if_pos h]
theorem aat{r:Rec}(h:dW r=0)(w:Qx r):nO (vV 32 ((nl r).map dr))=(r,0):=by
 unfold nO;rw[nums_join zq1 (nl_ne r) (nl_ok (Us r (by rw[<-rec_eq];exact h)) w)];exact fromNums_nl h
theorem nl_mk{l:List Int}{n:Nat}(i:5+n<=l.length)(g:l.getD 4 0=n):nl (Ps l n)=l:=by
 obtain⟨a,b,c,d,m,r,rfl⟩:=five (l:=l) V;have e:m=n:=g;subst e;simp only[bq]at i;have h:((a::b::c::d::(n:Int)::r).take (5+n)).drop 5=r.take n:=by
  rw[show 5+n=n+1+1+1+1+1 by omega];rfl
 have f:(a::b::c::d::(n:Int)::r).drop (5+n)=r.drop n:=by
  rw[show 5+n=n+1+1+1+1+1 by omega];rfl
 show [a,b,c,d,((((a::b::c::d::(n:Int)::r).take (5+n)).drop 5).length:Int)]++((a::b::c::d::(n:Int)::r).take (5+n)).drop 5++(a::b::c::d::(n:Int)::r).drop (5+n)=_;rw[h,f,List.length_take,show min n r.length=n by omega,cg,List.take_append_drop];rfl
theorem read_ok{s:Str}{r:Rec}(h:nO s=(r,0)):dW r=0/\Qx r/\s=vV 32 ((nl r).map dr):=by
  unfold nO at h;cases e:Xg 32 s with
  |none=>rw[e]at h;cases h
  |some l=>
    rw[e]at h;obtain⟨i,j,o⟩:=join_nums e;simp only at h;unfold L6 at h;split at h
    · cases h
    · rename_i p;split at h
      · cases h
      · rename_i g;split at h
        · rename_i c;obtain⟨m,f⟩:=bs (show 0<=l.getD 4 0 by omega);rw[f]at h c g;simp only[bj]at h c;have k:Ps l m=r:=by injection h
          have b:=nl_mk (l:=l) (n:=m) V f;rw[k]at b c;refine⟨c,?_,by rw[b];exact i⟩;have a:∀x∈nl r,kN x:=by rw[b];exact j
          refine⟨a _ (by simp[nl]),a _ (by simp[nl]),a _ (by simp[nl]),a _ (by simp[nl]),fun x d=>a x (by simp[nl,d]),fun x d=>a x (by simp[nl,d])⟩
        · rename_i c;exact absurd (congrArg Prod.snd h) c
theorem text_ok{r:Rec}(h:dW r=0):xJ r=(vV 32 ((nl r).map dr),0):=by unfold xJ;rw[if_pos h]
def r0:Rec:=⟨2,1,2,0,[7,-8],[1]⟩
def Sy(most:Int):List Str->List Rec->Int->List Rec×Int×Int
 |[],l,n=>(l,n,0)
 |[x],l,n=>if x=[]then(l,n,0)else(l,n,8)
 |x::y::r,l,n=>if(nO x).2≠0 then(l,n,(nO x).2)else if most<=(l.length:Int)then(l,n,2)else Sy most (y::r) (l++[(nO x).1]) (n+(x.length:Int)+1)
def ln(most:Int)(s:Str):List Rec×Int×Int:=Sy most (jT 10 s) [] 0
theorem lnP_cons{most:Int}{x:Str}{q:List Str}{l:List Rec}{n:Int}(a:q≠[]):Sy most (x::q) l n=if(nO x).2≠0 then(l,n,(nO x).2)else if most<=(l.length:Int)then(l,n,2)else Sy most q (l++[(nO x).1]) (n+(x.length:Int)+1):=by
 cases q with
 |nil=>exact absurd Z a
 |cons y r=>rfl
theorem joinC_len2(c:UInt8)(x y:Str)(l:List Str):(vV c (x::y::l)).length=x.length+1+(vV c (y::l)).length:=by
 rw[yR,bc,bq];omega
theorem lnP_len(most:Int):∀(p:List Str) (l:List Rec) (n:Int),0<=n->n<=(Sy most p l n).2.1/\(Sy most p l n).2.1<=n+(vV 10 p).length/\(Sy most p l n).1.length+0<=l.length+p.length/\l.length<=(Sy most p l n).1.length/\((l.length:Int)<=most->((Sy most p l n).1.length:Int)<=most)
  |[],l,n,hn=>by simp[Sy];omega
  |[x],l,n,hn=>by
    unfold Sy;split<;>simp<;>omega
  |x::y::r,l,n,hn=>by
    have b:=joinC_len2 10 x y r;unfold Sy;split
    · simp;omega
    · split
      · simp;omega
      · have a:=lnP_len most (y::r) (l++[(nO x).1]) (n+(x.length:Int)+1) V;simp only[bc,bq,ez]at a⊢;omega
theorem lines_loop(a:Str)(b:Int)(m:a.length<=60000):∀(p:List Str) (s:Str) (l:List Rec) (N:Nat),jT 10 s=p->s.length<=a.length->p.length<=N->l.length+p.length<=60001->(l.length:Int)<=b->
    again (A8 a b) N (s,l)=aj (Sy b p l ((a.length:Int)-(s.length:Int))):=by
  intro p;induction p with
  |nil=>intro s l N hp;exact absurd hp (Hq 10 s)
  |cons x q ih=>
    intro s l N hp k hN j n;cases N with
    |zero=>simp at hN
    |succ N=>
    rw[again,A8];cases q with
    |nil=>
      obtain⟨rfl,e⟩:=splitC_single hp;by_cases c:s=[]
      · subst c;rw[dF zq3,cond_false];simp[Sy]
      · rw[dT c,cond_true,cutS_free e V,bnd];simp only[kb,cond_true];rw[gI];simp[Sy,c]
    |cons y r=>
      obtain⟨t,rfl,i,e⟩:=splitC_cons hp;have f:(x++10::t).length=x.length+1+t.length:=by simp;omega
      rw[dT zq3,cond_true,cutS_hit e V,bnd];simp only[eo,cond_false];have d:Ut x=nO x:=by unfold Ut;rw[if_neg V]
      rw[parse_eq,bnd,d,lnP_cons zq3];by_cases h:(nO x).2=0
      · rw[dF V,cond_false,if_neg V];by_cases g:(l.length:Int)=b
        · rw[dT g,cond_true,gI,if_pos V]
        · rw[dF g,cond_false,if_neg V];simp only[bq]at hN j;rw[kC ⟨by simp;omega,by simp;omega⟩,ih t (l++[(nO x).1]) N i V (by simp;omega) (by simp;omega) (by simp;omega)];congr 2;omega
      · rw[dT h,cond_true,gI,if_pos h]
theorem aau(N:Nat)(a:Str)(b:Int)(hN:60002<=N)(d:a.length<=60000)(c:0<=b):EA N a b=aj (ln b a):=by
 unfold EA ln;have e:=Mj 10 a;rw[lines_loop a b d (jT 10 a) a [] N rfl (bt _) V (by simp;omega) (by simpa using c)];congr 2;omega
theorem bcat5:∀(l:List Str) (a:Str),a.length+(l.map fa).sum<=1000000->each tT tV l a=aj (a++l.flatten)
 |[],a,_=>by simp[qU,tV]
 |x::l,a,h=>by
  simp only[ck,my]at h;rw[gL,tT,kC ⟨by omega,by omega⟩,bcat5 l (a++x) (by rw[bc];omega)];simp
theorem bcat7(a:List Str):∀(l:List Str) (n:Nat),n+(l.map fa).sum<=1000000->each tX (o7 a) l (n:Int)=o7 a ((n+(l.map fa).sum:Nat):Int)
 |[],n,_=>by simp[qU]
 |x::l,n,h=>by
  simp only[ck,my]at h⊢;rw[gL,tX,gI,dF V,cond_false,show((n:Int)+(x.length:Int))=((n+x.length:Nat):Int) by omega,bcat7 a l (n+x.length) V,jz]
theorem bcat(a b:Str)(h:a.length+b.length<=1000000):sO [a,b]=aj (a++b):=by
 unfold sO;have:=bcat7 [a,b] [a,b] 0 (by simp;omega);rw[show((0:Nat):Int)=0 from rfl]at this;rw[this];unfold o7;rw[show QD 1 ((0+([a,b].map fa).sum:Nat):Int)=aj ([]:Str) by unfold QD;rw[kC ⟨by omega,by simp;omega⟩],bnd,bcat5 [a,b] [] (by simp;omega)];simp
def zD:iI:=⟨[],[]⟩
def iY(d:iI):Int:=if 60000<d.safe.length\/60000<d.safe.length+d.wait.length then 2 else(ln 120 d.safe).2.2
theorem L8(N:Nat)(hN:60002<=N)(d:iI)(b:d.wait.length<=9223372036854775807):vo N d=aj (iY d):=by
  unfold vo iY;by_cases h:60000<d.safe.length
  · rw[dT V,cond_true,if_pos (.inl h)];rfl
  · rw[dF V,cond_false,gI];by_cases a:60000<d.safe.length+d.wait.length
    · rw[dT V,if_pos (.inr a)];rfl
    · rw[dF V,if_neg V];unfold Fe;rw[cond_false,aau N d.safe 120 hN V V,bnd]
theorem wO{d:iI}(h:iY d=0):d.safe.length+d.wait.length<=60000/\(ln 120 d.safe).2.2=0:=by
  unfold iY at h;split at h
  · cases h
  · exact⟨by omega,h⟩
def putT(d:iI)(r:Rec):iI×Int:=
 if(xJ r).2≠0 then(zD,(xJ r).2)else if 60000<d.safe.length+d.wait.length+(xJ r).1.length+1 then(zD,2)else(⟨d.safe,d.wait++(xJ r).1++[10]⟩,0)
def wS(d:iI)(r:Rec):iI×Int:=if iY d≠0 then(zD,iY d)else putT d r
theorem text_len{r:Rec}(w:Qx r):(xJ r).1.length<=27390:=by
  unfold xJ;split
  · rename_i h;have g:=Us r (by rw[<-rec_eq];exact h);have c:=UU 32 21 ((nl r).map dr) (by intro x b;obtain⟨y,a,rfl⟩:=dL.1 b;exact itoa_len (nl_ok g w y a));have d:=aaq g;rw[cF]at c;show(vV 32 ((nl r).map dr)).length<=_;omega
  · simp
theorem put_eq(N:Nat)(hN:60002<=N)(d:iI)(r:Rec)(c:d.wait.length<=9223372036854775807)(w:Qx r):IP N d r=aj (wS d r):=by
  unfold IP wS putT;rw[L8 N hN d c,bnd];by_cases h:iY d=0
  · obtain⟨f,_⟩:=wO h;have e:=text_len w;rw[dF V,cond_false,if_neg V,print_eq r (fun _=>w),bnd];by_cases b:(xJ r).2=0
    · rw[dF V,cond_false,if_neg V,gI,gI,gI];by_cases a:60000<d.safe.length+d.wait.length+(xJ r).1.length+1
      · rw[dT V,cond_true,if_pos a];rfl
      · rw[dF V,cond_false,if_neg a,ru V V,bnd,ru V V,bnd,kC ⟨by omega,by omega⟩,kC ⟨by simp;omega,by simp;omega⟩]
    · rw[dT b,cond_true,if_pos b];rfl
  · rw[dT h,cond_true,if_pos h];rfl
def syncT(d:iI):iI×Int:=if iY ⟨d.safe++d.wait,[]⟩≠0 then(zD,iY ⟨d.safe++d.wait,[]⟩)else(⟨d.safe++d.wait,[]⟩,0)
def GD(d:iI):iI×Int:=if iY d≠0 then(zD,iY d)else syncT d
theorem sync_eq(N:Nat)(hN:60002<=N)(d:iI)(b:d.wait.length<=9223372036854775807):Lx N d=aj (GD d):=by
  unfold Lx GD syncT;rw[L8 N hN d b,bnd];by_cases h:iY d=0
  · obtain⟨c,_⟩:=wO h;rw[dF V,cond_false,if_neg V,bcat _ _ V,bnd,L8 N hN _ zq3,bnd];by_cases a:iY ⟨d.safe++d.wait,[]⟩=0
    · rw[dF V,cond_false,if_neg V]
    · rw[dT a,cond_true,if_pos a];rfl
  · rw[dT h,cond_true,if_pos h];rfl
def Kz(d:iI)(n:Int):iI×Int:=if iY d≠0 then(zD,iY d)else if n<0\/(d.wait.length:Int)<n then(zD,3)else(⟨d.safe,d.wait.take n.toNat⟩,0)
theorem crash_eq(N:Nat)(hN:60002<=N)(d:iI)(n:Int)(b:d.wait.length<=9223372036854775807):Jc N d n=aj (Kz d n):=by
  unfold Jc Kz;rw[L8 N hN d b,bnd];by_cases h:iY d=0
  · obtain⟨c,_⟩:=wO h;rw[dF V,cond_false,if_neg V];by_cases a:n<0\/(d.wait.length:Int)<n
    · rw[show(ab (n<0)||ab ((d.wait.length:Int)<n))=ar by simpa using a,cond_true,if_pos a];rfl
    · rw[show(ab (n<0)||ab ((d.wait.length:Int)<n))=aq by simp;omega,cond_false,if_neg a];obtain⟨m,rfl⟩:=bs (show 0<=n by omega);rw[show(0:Int)=((0:Nat):Int)from rfl,SS V V,bnd,ru V V,bnd,ru (by simp;omega) (by simp;omega),bnd,kf,bj]
  · rw[dT h,cond_true,if_pos h];rfl
def Qy(d:iI):iI×List Rec:=
 (⟨d.safe++d.wait.take (ln (120-((ln 120 d.safe).1.length:Int)) d.wait).2.1.toNat,[]⟩,(ln 120 d.safe).1++(ln (120-((ln 120 d.safe).1.length:Int)) d.wait).1)
def Uu(d:iI):iI×List Rec×Int:=if iY d≠0 then(zD,[],iY d)else((Qy d).1,(Qy d).2,0)
theorem aav(most:Int)(s:Str):0<=(ln most s).2.1/\(ln most s).2.1<=s.length/\(ln most s).1.length<=s.length+1/\(0<=most->((ln most s).1.length:Int)<=most):=by
 have h:=lnP_len most (jT 10 s) [] 0<|Int.le_refl 0;have a:=Mj 10 s;rw[BX]at h;unfold ln;simp only[ez]at h;omega
theorem aaw(N:Nat)(hN:60002<=N)(d:iI)(a:d.wait.length<=9223372036854775807):ou N d=aj (Uu d):=by
  unfold ou Uu Qy;rw[L8 N hN d a,bnd];by_cases h:iY d=0
  · obtain⟨c,_⟩:=wO h;have k1:=aav 120 d.safe;rw[dF V,cond_false,if_neg V,aau N d.safe 120 hN V V,bnd,gI,aau N d.wait _ hN V V,bnd];have k2:=aav (120-((ln 120 d.safe).1.length:Int)) d.wait;generalize ln (120-((ln 120 d.safe).1.length:Int)) d.wait=y at*;obtain⟨f,b,e⟩:=y;simp only at k2⊢;obtain⟨m,rfl⟩:=bs k2.1;rw[show(0:Int)=((0:Nat):Int)from rfl,SS V V,bnd,kf,bcat _ _ (by simp;omega),bnd,kC ⟨by omega,by omega⟩,bj]
  · rw[dT h,cond_true,if_pos h];rfl
def zX(r:Rec):Str:=vV 32 ((nl r).map dr)
def En(l:List Rec):Prop:=∀r∈l,dW r=0/\Qx r
def txt:List Rec->Str
 |[]=>[]
 |r::l=>zX r++10::txt l
theorem Nn:∀(a b:List Rec),txt (a++b)=txt a++txt b
 |[],b=>rfl
 |r::a,b=>by simp[txt,Nn a b]
theorem mem_joinC(c:UInt8):∀(l:List Str) (x:UInt8),x∈vV c l->x=c\/∃w∈l,x∈w
  |[],x,h=>by simp[vV,Lib.join_nil]at h
  |[y],x,h=>by rw[BV]at h;exact .inr ⟨y,by simp,h⟩
  |y::z::l,x,h=>by
    rw[yR]at h;rcases cR.1 h with h|h
    · exact .inr ⟨y,by simp,h⟩
    · rcases bn.1 h with h|h
      · exact .inl h
      · rcases mem_joinC c (z::l) x h with h|⟨w,hw,h⟩
        · exact .inl h
        · exact .inr ⟨w,bk _ hw,h⟩
theorem line_free(r:Rec):(10:UInt8)∉zX r:=by
  intro h;rcases mem_joinC 32 _ _ h with h|⟨w,hw,h⟩
  · exact absurd h zq1
  · obtain⟨n,_,rfl⟩:=dL.1 hw;exact itoa_free zq1 h
theorem WU:∀(l:List Rec) (t:Str),jT 10 (txt l++t)=l.map zX++jT 10 t
 |[],t=>rfl
 |r::l,t=>by
  rw[txt,cg,et,BC (line_free r),WU l t];rfl
theorem lnP_txt(most:Int):∀(rs:List Rec) (q:List Str) (l:List Rec) (n:Int),En rs->q≠[]->((l.length+rs.length:Nat):Int)<=most->Sy most (rs.map zX++q) l n=Sy most q (l++rs) (n+((txt rs).length:Int))
 |[],q,l,n,_,_,_=>by simp[txt]
 |r::rs,q,l,n,h,hq,hl=>by
  obtain⟨c,d⟩:=h r zq3;simp only[bq]at hl;have a:nO (zX r)=(r,0):=aat c d;rw[ck,et,lnP_cons (by simp[hq]),a,if_neg zq3,if_neg V,lnP_txt most rs q (l++[r]) _ (fun x b=>h x (bk _ b)) hq (by simp;omega)];simp only[txt,bc,bq,cg,et,cQ];congr 1;omega
theorem ln_txt{most:Int}{rs:List Rec}(t:Str)(h:En rs)(a:(rs.length:Int)<=most):ln most (txt rs++t)=Sy most (jT 10 t) rs ((txt rs).length:Int):=by
 unfold ln;rw[WU,lnP_txt most rs _ [] 0 h (Hq 10 t) (by simpa using a)];simp
theorem ln_all{most:Int}{rs:List Rec}(h:En rs)(a:(rs.length:Int)<=most):ln most (txt rs)=(rs,((txt rs).length:Int),0):=by
 have:=ln_txt (most:=most) [] h a;rw[dt]at this;rw[this];simp[jT,Sy]
theorem ln_torn{most:Int}{rs:List Rec}{t:Str}(h:En rs)(a:(rs.length:Int)<=most)(b:(10:UInt8)∉t):(ln most (txt rs++t)).1=rs/\(ln most (txt rs++t)).2.1=((txt rs).length:Int):=by
 rw[ln_txt t h a,JE b];unfold Sy;split<;>simp
theorem H6{a:List Rec}{w:Str}(h:En a)(c:a.length<=120)(b:(txt a).length+w.length<=60000):iY ⟨txt a,w⟩=0:=by
 unfold iY;show(if 60000<(txt a).length\/60000<(txt a).length+w.length then(2:Int)else(ln 120<|txt a).2.2)=0;rw[if_neg V,ln_all h V]
theorem put_txt{a b:List Rec}{r:Rec}(g:En a)(i:a.length<=120)(f:(txt a).length+(txt b).length<=60000)(w:Qx r):
    (wS ⟨txt a,txt b⟩ r).2≠0\/(wS ⟨txt a,txt b⟩ r=(⟨txt a,txt (b++[r])⟩,0)/\dW r=0/\(txt a).length+(txt (b++[r])).length<=60000):=by
  unfold wS putT;rw[if_neg (by rw[H6 g i f];simp)];by_cases h:dW r=0
  · have e:xJ r=(zX r,0):=text_ok h;rw[e];simp only[ne_eq,not_true_eq_false,if_false];by_cases c:60000<(txt a).length+(txt b).length+(zX r).length+1
    · rw[if_pos c];left;simp
    · rw[if_neg c];right;have d:txt (b++[r])=txt b++zX r++[10]:=by rw[Nn];simp[txt]
      refine⟨by rw[d],h,by rw[d];simp;omega⟩
  · have e:xJ r=([],dW r):=by unfold xJ;rw[if_neg h]
    rw[e,if_pos h];exact .inl h
theorem sync_txt{a b:List Rec}(c:En a)(g:En b)(h:a.length+b.length<=120)(d:(txt a).length+(txt b).length<=60000):GD ⟨txt a,txt b⟩=(⟨txt (a++b),[]⟩,0):=by
 have f:En (a++b):=fun r e=>(cR.1 e).elim (c r)<|g r;unfold GD syncT;rw[if_neg (by rw[H6 c V d];simp)];show(if iY ⟨txt a++txt b,[]⟩≠0 then _ else _)=_;rw[<-Nn,if_neg (by rw[H6 f (by simpa using h) (by rw[Nn];simp;omega)];simp)]
theorem take_txt:∀(b:List Rec) (m:Nat),∃k t,(txt b).take m=txt (b.take k)++t/\(10:UInt8)∉t
  |[],m=>⟨0,[],by simp[txt],by simp⟩
  |r::b,m=>by
    by_cases h:m<=(zX r).length
    · refine⟨0,(zX r).take m,?_,fun a=>line_free r<|List.mem_of_mem_take a⟩;simp only[s9,txt,cQ];rw[List.take_append_of_le_length h]
    · obtain⟨k,t,c,d⟩:=take_txt b<|m-(zX r).length-1;refine⟨k+1,t,?_,d⟩;rw[qk,txt,txt,List.take_append,List.take_of_length_le V,cg,et,<-c];congr 1;rw[show m-(zX r).length=(m-(zX r).length-1)+1 by omega,qk];simp
theorem Jo:En []:=fun r h=>by cases h
theorem coSame(a b:List Co):MI a b=aj (ab (a=b)):=by
  unfold MI;by_cases h:a.length=b.length
  · rw[dF V];simp only[cond_false];rw[QU (fun x y=>ab (x=y)) a b h rfl (fun i x y j c=>by
      unfold Iz Du;rw[lh,c];simp only[bnd,eqInt];have e:(((ab (x.kM=y.kM)&&ab (x.aJ=y.aJ))&&ab (x.offered=y.offered))&&ab (x.image=y.image))=ab (x=y):=by
        cases x;cases y;rw[ey];simp;exact⟨fun⟨⟨⟨f,c⟩,g⟩,d⟩=>⟨f,c,d,g⟩,fun⟨f,c,d,g⟩=>⟨⟨⟨f,c⟩,g⟩,d⟩⟩
      rw[<-e];cases ((ab (x.kM=y.kM)&&ab (x.aJ=y.aJ))&&ab (x.offered=y.offered))<;>cases ab (x.image=y.image)<;>rfl),Mi (fun _ _=>rfl)]
  · rw[dT V];have:a≠b:=fun e=>h (by rw[e]);rw[dF this];rfl
def coOk(x:Co):Prop:=0<=x.kM/\x.kM<=2/\1<=x.aJ/\x.aJ<=100/\ -1<=x.offered/\x.offered<=2/\1<=x.image.length/\x.image.length<=1200
def rg(x:Co):Bool:=(((((ab ((x.kM:Int)<0)||ab ((3:Int)<=x.kM))||ab ((x.aJ:Int)<1))||ab ((100:Int)<x.aJ))||ab ((x.offered:Int)< -1))||ab ((3:Int)<=x.offered))
def mn(x:Co):Bool:=(ab (((x.image.length:Int):Int)=0)||ab ((1200:Int)<(x.image.length:Int)))
theorem rg_eq(x:Co):(((!(bu x.kM 0 2))||(!(bu x.aJ 1 100)))||(!(bu x.offered (-1) 2)))=rg x:=by
 unfold bu rg;rw[ey];simp;omega
theorem mn_eq(x:Co):(!(bu (x.image.length:Int) 1 1200))=mn x:=by
 have hn:0<=(x.image.length:Int):=by omega
 unfold bu mn;generalize (x.image.length:Int)=n at hn⊢;rw[ey];simp;omega
theorem coOk_iff(x:Co):coOk x↔rg x=aq/\mn x=false:=by
 have hn:0<=(x.image.length:Int):=by omega
 unfold coOk rg mn;rw[show(1<=x.image.length)=(1<=(x.image.length:Int)) by simp;omega,show(x.image.length<=1200)=((x.image.length:Int)<=1200) by simp;omega];generalize (x.image.length:Int)=n at hn⊢;simp;omega
theorem chkEq(a:List Co):JR a=aj (ib a):=by
  unfold JR ib;by_cases h:(3:Int)<(a.length:Int)
  · rw[dT h];rfl
  · rw[dF h];simp only[cond_false];have d:∀(k:List Co) (i:Nat) (b:Int),(∀j,k[j]? =a[i+j]?)->(i=0->b= -1)->(∀j,i=j+1->∃y,a[j]? =aj y/\y.kM=b)->i<=a.length->ic (xV a) Bt (i:Int) k ()=aj (each ky lG k b):=by
      intro k;induction k with
      |nil=>intro i b _ _ _ _;rfl
      |cons x k ih=>
        intro i b l n o r;rw[yP,gL];have g:a[i]? =aj x:=by have:=l 0;simpa using this.symm
        have m:i<a.length:=by
          rcases cD i a.length with h|h
          · exact h
          · rw[bw h]at g;cases g
        have c:=ih (i+1) x.kM (fun j=>by have:=l (j+1);simpa[jz,Nat.add_comm 1 j]using this) V (fun j p=>⟨x,by rw[show j=i by omega];exact g,Z⟩) V;rw[show((i+1:Nat):Int)=(i:Int)+1 from rfl]at c;generalize ic (xV a) Bt ((i:Int)+1) k=nx at c⊢;generalize each ky lG k=nx2 at c⊢;unfold xV ky;rw[rg_eq,mn_eq,<-rg,<-mn];cases hr:rg x with
        |true=>rfl
        |false=>
        cases hm:mn x with
        |true=>rfl
        |false=>
        have f:=(coOk_iff x).2 ⟨hr,hm⟩;simp only[cond_false];unfold Br;cases i with
        |zero=>
          rw[n rfl,dF (show¬x.kM<= -1 by have:=f.1;omega)];simpa using c
        |succ j=>
          obtain⟨y,q,e⟩:=o j Z;rw[dT (show(0:Int)<((j+1:Nat):Int) by omega),show((j+1:Nat):Int)-1=(j:Int) by omega,gI,lh,q];simp only[cond_true,bnd,e];cases ab (x.kM<=b)with
          |true=>rfl
          |false=>exact c
    exact d a 0 (-1) (fun j=>by simp) (fun _=>rfl) (fun j p=>by omega) V
abbrev Up(l:List Co):Prop:=l.Pairwise (fun x y=>x.kM<y.kM)
theorem each_ok:∀(l:List Co) (a:Int),each ky lG l a=0↔(∀x∈l,coOk x)/\Up l/\∀x∈l,a<x.kM
  |[],a=>by simp[qU,lG]
  |x::r,a=>by
    rw[gL];have i:=each_ok r x.kM;generalize each ky lG r=nx at i⊢;unfold ky;rw[rg_eq,mn_eq];have c:=coOk_iff x;cases hr:rg x with
    |true=>
      simp only[cond_true];constructor
      · intro h;exact absurd h zq1
      · intro h;have:=(c.1<|h.1 x eW).1;rw[hr]at this;cases this
    |false=>
    cases hm:mn x with
    |true=>
      simp only[cond_true,cond_false];constructor
      · intro h;exact absurd h zq1
      · intro h;have:=(c.1<|h.1 x eW).2;rw[hm]at this;cases this
    |false=>
    have ho:=c.2 ⟨hr,hm⟩;simp only[cond_false];by_cases g:x.kM<=a
    · rw[dT g];simp only[cond_true];constructor
      · intro h;exact absurd h zq1
      · intro h;have:=h.2.2 x eW;omega
    · rw[dF g];simp only[cond_false];rw[i];show _↔_/\oS _ (x::r)/\_;rw[ei];constructor
      · rintro⟨f,e,d⟩;refine⟨?_,⟨d,e⟩,?_⟩
        · intro y b;rcases bn.1 b with rfl|b
          · exact ho
          · exact f y b
        · intro y b;rcases bn.1 b with rfl|b
          · omega
          · have:=d y b;omega
      · rintro⟨f,⟨e,d⟩,j⟩;exact⟨fun y b=>f y<|bk _ b,d,e⟩
structure Good(l:List Co):Prop where
 len:l.length<=3
 ok:∀x∈l,coOk x
 up:Up l
theorem good_iff(l:List Co):ib l=0↔Good l:=by
  unfold ib;by_cases h:(3:Int)<(l.length:Int)
  · rw[dT h];simp only[cond_true];exact⟨fun h=>absurd h zq1,fun g=>by have:=g.len;omega⟩
  · rw[dF h];simp only[cond_false];rw[each_ok];exact⟨fun⟨b,c,_⟩=>⟨by omega,b,c⟩,fun g=>⟨g.ok,g.up,fun x a=>by have:=(g.ok x a).1;omega⟩⟩
def Hm(c:Co):List Co->List Co
 |[]=>[c]
 |x::r=>if x.kM<c.kM then x::Hm c r else c::x::r
def NW(b:Rec)(l:List Co):List Co:=l.filter fun x=>ab (x.kM≠b.co)
def Sq(b:Rec)(l:List Co):Option Co:=l.find? fun x=>ab (x.kM=b.co)
def iJ(a:List Co)(b:Rec):List Co×Int:=
 if ib a≠0 then([],ib a)else if gZ b≠0 then([],gZ b)else
 match Sq b a with
 |none=>if b.kind=1\/b.kind=4 then(if(ab (b.aJ=1) !=ab (b.kind=1))=ar then([],7)else(Hm ⟨b.co,b.aJ,b.image,-1⟩ (NW b a),0))else([],5)
 |some c=>if b.kind=1\/b.kind=4 then([],6)else if(ab (b.aJ≠c.aJ)||(ab (c.offered≠ -1) !=ab (b.kind=5)))=ar then([],7)else
  if b.kind=5 then(NW b a,0)else if b.kind=2 then(Hm ⟨c.kM,c.aJ,b.image,c.offered⟩ (NW b a),0)else if c.aJ=100 then([],2)else(Hm ⟨c.kM,c.aJ,c.image,b.place⟩ (NW b a),0)
theorem oth_up(b:Rec){l:List Co}(h:Up l):Up (NW b l):=h.filter _
theorem X6{b:Rec}{l:List Co}{x:Co}(h:x∈NW b l):x∈l/\x.kM≠b.co:=by
 unfold NW at h;rw[sB]at h;exact⟨h.1,by simpa using h.2⟩
theorem coCopy{a:List Co}(h:a.length<=3)(e:∀x∈a,x.image.length<=1200):Iu a=aj a:=by
 unfold Iu;rw[ru V V];simp only[bnd,bj];have c:∀(m i:Nat),i+m=a.length->upto vv A9 (i:Int) m a=aj a:=by
  intro m;induction m with
  |zero=>intro i _;rfl
  |succ m ih=>
   intro i f;have d:i<a.length:=by omega
   show vv (i:Int) a (upto vv A9 ((i:Int)+1) m)=_;have b:=ih (i+1) V;rw[show((i+1:Nat):Int)=(i:Int)+1 from rfl]at b;generalize upto vv A9 ((i:Int)+1) m=nx at b⊢;unfold vv;rw[xh d];have:=e a[i]<|cx d;simp only[bnd];rw[ru V V];simp only[bnd,bj];rw[show({a[i]with image:=a[i].image}:Co)=a[i]from rfl,lO];exact b
 simpa using c a.length 0 V
theorem findEq(a:List Co)(k:Int):qL a k=aj (match a.findIdx? (fun x=>ab (x.kM=k))with|some n=>(n:Int)|none=> -1):=by
 unfold qL;simp only[bj];rw[UQ (fun x=>ab (x.kM=k)) (fun i=>aj i) a (fun i x c b=>by
  unfold Kg;rw[lh,b];rfl)]
 cases a.findIdx? (fun x=>ab (x.kM=k))<;>rfl
theorem Uv(b:Rec):∀(a:List Co),(Sq b a=aE/\a.findIdx? (fun x=>ab (x.kM=b.co))=aE/\NW b a=a)\/
    ∃n x,Sq b a=aj x/\a.findIdx? (fun x=>ab (x.kM=b.co))=aj n/\a[n]? =aj x/\x.kM=b.co
  |[]=>.inl ⟨rfl,rfl,rfl⟩
  |x::r=>by
    unfold Sq NW;rw[List.find?_cons,qu,gC];by_cases h:x.kM=b.co
    · exact .inr ⟨0,x,by simp[h],by simp[h],Z,h⟩
    · simp only[h,decide_false,cJ,if_false,ne_eq,not_false_eq_true,decide_true,if_true];rcases Uv b r with⟨h1,h2,h3⟩|⟨n,y,h1,h2,h3,h4⟩
      · exact .inl ⟨h1,by rw[h2];rfl,by unfold NW at h3;rw[h3]⟩
      · exact .inr ⟨n+1,y,h1,by rw[h2];rfl,by simpa using h3,h4⟩
theorem X7(b:Rec):∀(a:List Co) (n:Nat) (x y:Co),Up a->a[n]? =aj x->x.kM=b.co->y.kM=b.co->a.set n y=Hm y (NW b a)
 |[],n,x,y,_,h,_,_=>by simp at h
 |z::r,0,x,y,hu,h,hx,hy=>by
  simp only[kO,eI]at h;subst h;rw[Up,ei]at hu;have d:NW b (z::r)=r:=by
   unfold NW;rw[gC,if_neg (by simp[hx]),mC];intro u c;have:=hu.1 u c;simp;omega
  rw[d,List.set_cons_zero];cases r with
  |nil=>rfl
  |cons u r=>
   have:=hu.1 u eW;simp only[Hm];rw[if_neg V]
 |z::r,n+1,x,y,hu,h,hx,hy=>by
  simp only[pb]at h;rw[Up,ei]at hu;have hz:=hu.1 x<|fm h;have d:NW b (z::r)=z::NW b r:=by unfold NW;rw[gC,if_pos (by simp;omega)]
  rw[d,List.set_cons_succ,X7 b r n x y hu.2 h hx hy];simp only[Hm];rw[if_pos V]
theorem del_oth(b:Rec):∀(a:List Co) (n:Nat) (x:Co),Up a->a[n]? =aj x->x.kM=b.co->a.take n++a.drop (n+1)=NW b a
 |[],n,x,_,h,_=>by simp at h
 |z::r,0,x,hu,h,hx=>by
  simp only[kO,eI]at h;subst h;rw[Up,ei]at hu;unfold NW;rw[gC,if_neg (by simp[hx])];have:r.filter (fun x=>decide<|x.kM≠b.co)=r:=by
   rw[mC];intro u c;have:=hu.1 u c;simp;omega
  rw[this];simp
 |z::r,n+1,x,hu,h,hx=>by
  simp only[pb]at h;rw[Up,ei]at hu;have hz:=hu.1 x<|fm h;have d:NW b (z::r)=z::NW b r:=by unfold NW;rw[gC,if_pos (by simp;omega)]
  rw[d,<-del_oth b r n x hu.2 h hx];simp
theorem ins_loop(b:Rec)(a:List Co)(f:a.length<=3)(g:b.image.length<=1200):∀(k i N:Nat),i+k=a.length->k<N->again (kS a b) N (i:Int)=aj (a.take i++Hm ⟨b.co,b.aJ,b.image,-1⟩ (a.drop i),0)
  |0,i,N+1,h,_=>by
    show kS a b (i:Int) (again (kS a b) N)=_;generalize again (kS a b) N=nx;unfold kS zB;rw[dF V];simp only[cond_false];rw[ru V V];simp only[bnd];rw[kC (Room.mk (by simp;omega) (by simp;omega)),ins1,if_pos ⟨by omega,by omega⟩];rw[cC (show a.length<=i by omega)];simp[Hm,show a.drop i=[]from cC V]
  |k+1,i,N+1,h,hN=>by
    have c:i<a.length:=by omega
    have e:=ins_loop b a f g k (i+1) N V V;rw[show((i+1:Nat):Int)=(i:Int)+1 from rfl]at e;show kS a b (i:Int) (again (kS a b) N)=_;generalize again (kS a b) N=nx at e⊢;unfold kS zB;rw[dT V,xh c];simp only[cond_true,bnd];by_cases d:a[i].kM<b.co
    · rw[dT d];simp only[cond_true];rw[gI,e,cS c];simp only[Hm];rw[if_pos d,List.take_succ_eq_append_getElem c,cg,pw]
    · rw[dF d];simp only[cond_false];rw[ru V V];simp only[bnd];rw[kC (Room.mk (by simp;omega) (by simp;omega)),ins1,if_pos ⟨by omega,by omega⟩];simp only[bnd,bj];rw[cS c];simp only[Hm];rw[if_neg d,cg,pw]
theorem next_eq(N:Nat)(hN:5<N)(a:List Co)(b:Rec):EB N a b=aj (iJ a b):=by
  unfold EB iJ;rw[chkEq];simp only[bnd];by_cases f:ib a=0
  · rw[rec_eq];by_cases j:gZ b=0
    · have g:=(good_iff a).1 f;have gr:=Us b j;have gl:=g.len;rw[f,j];simp only[ne_eq,not_true_eq_false,decide_false,cond_false,if_false];rw[coCopy g.len (fun x s=>(g.ok x s).2.2.2.2.2.2.2)];simp only[bnd];rw[findEq];simp only[bnd];have r:=gr.kind;have e:(ab ((b.kind:Int)=1)||ab ((b.kind:Int)=4))=ab (b.kind=1\/b.kind=4):=by simp
      rw[e];rcases Uv b a with⟨e1,e2,e3⟩|⟨n,c,e1,e2,e3,e4⟩
      · rw[e1,e2];simp only;by_cases d:b.kind=1\/b.kind=4
        · rw[dT d,if_pos d];simp only[cond_true];rw[show ab ((0:Int)<= -1)=aq by decide];simp only[cond_false];have t:((ab ((b.kind:Int)=1)&&ab ((b.aJ:Int)≠1))||(ab ((b.kind:Int)=4)&&ab ((b.aJ:Int)=1)))=(ab (b.aJ=1) !=ab (b.kind=1)):=by
            by_cases q:b.aJ=1
            · rcases d with k|k<;>simp[q,k]
            · rcases d with k|k<;>simp[q,k]
          rw[t];cases (ab (b.aJ=1) !=ab (b.kind=1))with
          |true=>rfl
          |false=>
            simp only[cond_false,cJ,if_false];have:=ins_loop b a g.len gr.image a.length 0 N V V;simp only[Int.natCast_zero,s9,kf,cQ]at this;rw[this,e3]
        · rw[dF d,if_neg d];simp only[cond_false];rw[show ab ((-1:Int)<0)=ar by decide];rfl
      · have hn:n<a.length:=by
          rcases cD n a.length with h|h
          · exact h
          · rw[bw h]at e3;cases e3
        have l:=g.ok c<|fm e3;rw[e1,e2];simp only;by_cases d:b.kind=1\/b.kind=4
        · rw[dT d,if_pos d];simp only[cond_true];rw[dT (show(0:Int)<=(n:Int) by omega)];rfl
        · rw[dF d,if_neg d];simp only[cond_false];rw[dF (show¬(n:Int)<0 by omega),lh,e3];simp only[cond_false,bnd];have ho:ab ((0:Int)<=c.offered)=ab (c.offered≠ -1):=by
            rw[decide_eq_decide];have:=l.2.2.2.2.1;omega
          have p:(bif ab (c.aJ≠b.aJ)then sP b a (n:Int) c ar else sP b a (n:Int) c (ab (b.kind=5) !=ab ((0:Int)<=c.offered)))=sP b a (n:Int) c (ab (b.aJ≠c.aJ)||(ab (c.offered≠ -1) !=ab (b.kind=5))):=by
            rw[ho];by_cases q:b.aJ=c.aJ
            · rw[q];simp only[ne_eq,not_true_eq_false,decide_false,cond_false,oE];cases ab (b.kind=5)<;>cases ab (¬c.offered= -1)<;>rfl
            · rw[show ab (c.aJ≠b.aJ)=ar from dT (fun h=>q h.symm),show ab (b.aJ≠c.aJ)=ar from dT q];rfl
          refine p.trans ?_;unfold sP;cases (ab (b.aJ≠c.aJ)||(ab (c.offered≠ -1) !=ab (b.kind=5)))with
          |true=>rfl
          |false=>
            simp only[cond_false,cJ,if_false];by_cases k2:b.kind=2
            · rw[dT k2,if_neg V,if_pos k2];simp only[cond_true];rw[ru (by have:=gr.image;omega) (by have:=gr.image;omega)];simp only[bnd,bj];rw[X7 b a n c {c with image:=b.image} g.up e3 e4 e4]
            · rw[dF k2,if_neg k2];simp only[cond_false];by_cases o:b.kind=3
              · rw[dT o,if_neg V];simp only[cond_true];by_cases i:c.aJ=100
                · rw[dT i,if_pos i];rfl
                · rw[dF i,if_neg i];simp only[cond_false,bj];rw[X7 b a n c {c with offered:=b.place} g.up e3 e4 e4]
              · have m:b.kind=5:=by omega
                rw[dF o,dT m,if_pos m];simp only[cond_false,cond_true];rw[gI,del_s1 hn];simp only[bnd];rw[del_oth b a n c g.up e3 e4]
    · rw[f];simp only[ne_eq,not_true_eq_false,decide_false,cond_false,if_false];rw[show ab (¬gZ b=0)=ar from dT j,if_pos j];rfl
  · rw[show ab (ib a≠0)=ar from dT f,if_pos f];rfl
def jS:List Co->List Rec->List Co×Int
 |s,[]=>(s,0)
 |s,r::l=>if(iJ s r).2≠0 then([],(iJ s r).2)else jS (iJ s r).1 l
theorem rep_each(N:Nat)(hN:5<N):∀(l:List Rec) (s:List Co),each (Bu N) Bv l s=aj (jS s l)
  |[],s=>by simp[qU,Bv,jS]
  |r::l,s=>by
    rw[gL,Bu,next_eq N hN,bnd,jS];by_cases h:(iJ s r).2=0
    · rw[dF V,cond_false,if_neg V,rep_each N hN l]
    · rw[dT h,cond_true,if_pos h]
theorem replay_eq(N:Nat)(hN:5<N)(l:List Rec):Ah N l=aj (if 120<l.length then([],2)else jS [] l):=by
  unfold Ah;by_cases h:120<l.length
  · rw[dT V,cond_true,if_pos h]
  · rw[dF V,cond_false,if_neg h,rep_each N hN]
theorem pRep_app:∀(a b:List Rec) (s:List Co),jS s (a++b)=if(jS s a).2≠0 then([],(jS s a).2)else jS (jS s a).1 b
  |[],b,s=>by simp[jS]
  |r::a,b,s=>by
    rw[et,jS,jS];by_cases h:(iJ s r).2=0
    · simp only[h,ne_eq,not_true_eq_false,if_false];exact pRep_app a b _
    · simp[h]
theorem Pt{c y:Co}:∀{l:List Co},y∈Hm c l↔y=c\/y∈l
  |[]=>by simp[Hm]
  |x::r=>by
    unfold Hm;split
    · rw[bn,Pt,bn];constructor
      · rintro(h|h|h)
        · exact .inr<|.inl h
        · exact .inl h
        · exact .inr<|.inr h
      · rintro(h|h|h)
        · exact .inr<|.inl h
        · exact .inl h
        · exact .inr<|.inr h
    · rw[bn]
theorem F8{c:Co}:∀{l:List Co},(Hm c l).length=l.length+1
  |[]=>rfl
  |x::r=>by
    unfold Hm;split
    · rw[bq,F8,bq]
    · rfl
theorem insC_up{c:Co}:∀{l:List Co},Up l->(∀x∈l,x.kM≠c.kM)->Up (Hm c l)
  |[],_,_=>by simp[Hm,Up]
  |x::r,h,hn=>by
    rw[Up,ei]at h;have b:=hn x eW;unfold Hm;split
    · next hl=>
      show oS _ _;rw[ei];refine⟨fun y a=>?_,insC_up h.2 fun y a=>hn y<|bk _ a⟩;rcases Pt.1 a with rfl|a
      · exact hl
      · exact h.1 y a
    · next hl=>
      show oS _ _;rw[ei,ei];refine⟨fun y a=>?_,h.1,h.2⟩;rcases bn.1 a with rfl|a
      · omega
      · have:=h.1 y a;omega
theorem find_of{l:List Co}(b:Up l){x:Co}(a:x∈l):∃n,l.findIdx? (fun y=>ab (y.kM=x.kM))=aj n/\l[n]? =aj x/\n<l.length:=by
  induction l with
  |nil=>cases a
  |cons z r ih=>
    rw[Up,ei]at b;rw[qu];rcases bn.1 a with rfl|a
    · exact⟨0,by simp,Z,by simp⟩
    · have:=b.1 x a;obtain⟨n,c,d,e⟩:=ih b.2 a;exact⟨n+1,by rw[if_neg (by simp;omega),c];rfl,by simpa using d,by simp;omega⟩
theorem next_ok(a:List Co)(b:Rec)(h:(iJ a b).2=0):Good a/\Good (iJ a b).1/\a.length<=(iJ a b).1.length+1/\(iJ a b).1.length<=a.length+1/\(∀x∈a,x.kM≠b.co->x∈(iJ a b).1)/\(∀x∈a,x.kM=b.co->0<=x.offered->b.kind=5):=by
  unfold iJ at h⊢;by_cases q:ib a=0
  · by_cases t:gZ b=0
    · have g:=(good_iff a).1 q;have gr:=Us b t;have gl:=g.len;have C:=gr.co;rw[if_neg (by simpa using q),if_neg (by simpa using t)]at h⊢;have i:∀x∈a,x.kM≠b.co->x∈NW b a:=fun x f hn=>by unfold NW;rw[sB];exact⟨f,by simpa using hn⟩
      have k:∀c:Co,coOk c->c.kM=b.co->(NW b a).length<=2->Good (Hm c (NW b a)):=fun c N I R=>⟨by rw[F8];omega,fun x f=>by
        rcases Pt.1 f with rfl|f
        · exact N
        · exact g.ok x (X6 f).1,insC_up (oth_up b g.up) (fun x f=>by have:=(X6 f).2;omega)⟩
      rcases Uv b a with⟨e1,e2,e3⟩|⟨n,c,e1,e2,e3,e4⟩
      · rw[e1]at h⊢;simp only at h⊢;have hno:∀x∈a,x.kM≠b.co:=fun x f e=>by
          unfold Sq at e1;rw[List.find?_eq_none]at e1;exact e1 x f (by simpa using e)
        by_cases s:b.kind=1\/b.kind=4
        · rw[if_pos s]at h⊢;cases hq:(ab (b.aJ=1) !=ab (b.kind=1))with
          |true=>rw[hq,if_pos Z]at h;exact absurd h zq1
          |false=>
            rw[hq]at h;simp only[cJ,if_false]at h⊢;have w:a.length<=2:=by
              match a,g,hno with
              |[],_,_=>simp
              |[x],_,_=>simp
              |[x,y],_,_=>simp
              |[x,y,z],g,hno=>
                have L:=g.up;simp[Up]at L;have o1:=g.ok x zq3;have o2:=g.ok y zq3;have M:=g.ok z zq3;have O:=hno x zq3;have Q:=hno y zq3;have S:=hno z zq3;unfold coOk at o1 o2 M;omega
              |x::y::z::u::r,g,_=>have:=g.len;simp at this
            have v:=gr.has V;refine⟨g,k _ ⟨C.1,C.2,gr.aJ.1,gr.aJ.2,by simp,by simp,v,gr.image⟩ Z (by rw[e3];exact w),?_,?_,fun x f hn=>Pt.2 (.inr (i x f hn)),fun x f e=>absurd e (hno x f)⟩
            · rw[F8,e3];omega
            · rw[F8,e3];omega
        · rw[if_neg s]at h;exact absurd h zq1
      · rw[e1]at h⊢;simp only at h⊢;have hn:n<a.length:=by
          rcases cD n a.length with h|h
          · exact h
          · rw[bw h]at e3;cases e3
        have K:(NW b a).length+1=a.length:=by
          rw[<-del_oth b a n c g.up e3 e4];simp;omega
        have d:=g.ok c<|fm e3;have o:∀x∈a,x.kM=b.co->x=c:=by
          intro x f p;obtain⟨m,G,E,_⟩:=find_of g.up f;rw[p,e2]at G;cases G;rw[e3]at E;exact(osi E).symm
        by_cases s:b.kind=1\/b.kind=4
        · rw[if_pos s]at h;exact absurd h zq1
        · rw[if_neg s]at h⊢;cases hq:(ab (b.aJ≠c.aJ)||(ab (c.offered≠ -1) !=ab (b.kind=5)))with
          |true=>rw[hq,if_pos Z]at h;exact absurd h zq1
          |false=>
            rw[hq]at h;simp only[cJ,if_false]at h⊢;have j:∀x∈a,x.kM=b.co->0<=x.offered->b.kind=5:=by
              intro x f p P;have:=o x f p;subst this;rw[cY]at hq;have A:=hq.2;rw[show ab (x.offered≠ -1)=ar from dT V]at A;cases h5:ab (b.kind=5)with
              |true=>exact odt h5
              |false=>rw[h5]at A;cases A
            have l:∀(F:Co) x,x∈a->x.kM≠b.co->x∈Hm F (NW b a):=fun F x f hn=>Pt.2<|.inr<|i x f hn;by_cases B:b.kind=5
            · rw[if_pos B]at h⊢;exact⟨g,⟨by show(NW b a).length<=3;omega,fun x f=>g.ok x (X6 f).1,oth_up b g.up⟩,by show a.length<=(NW b a).length+1;omega,by show(NW b a).length<=a.length+1;omega,i,j⟩
            · rw[if_neg B]at h⊢;by_cases k2:b.kind=2
              · rw[if_pos k2]at h⊢;have v:=gr.has V;refine⟨g,k _ ⟨d.1,d.2.1,d.2.2.1,d.2.2.2.1,d.2.2.2.2.1,d.2.2.2.2.2.1,v,gr.image⟩ e4 V,?_,?_,l _,j⟩
                · rw[F8];omega
                · rw[F8];omega
              · rw[if_neg k2]at h⊢;by_cases p:c.aJ=100
                · rw[if_pos p]at h;exact absurd h zq1
                · rw[if_neg p]at h⊢;have hp:=gr.place;refine⟨g,k _ ⟨d.1,d.2.1,d.2.2.1,d.2.2.2.1,by show-1<=b.place;omega,hp.2,d.2.2.2.2.2.2.1,d.2.2.2.2.2.2.2⟩ e4 V,?_,?_,l _,j⟩
                  · rw[F8];omega
                  · rw[F8];omega
    · rw[if_neg (by simpa using q),if_pos t]at h;exact absurd h t
  · rw[if_pos q]at h;exact absurd h q
theorem WV{a:List fT}(h:dP a=0):a.length<=40/\∀x∈a,x.image.length<=1200:=by
  unfold dP at h;by_cases c:(40:Int)<(a.length:Int)
  · rw[decide_eq_true c]at h;cases h
  · rw[decide_eq_false c]at h;refine⟨by omega,?_⟩;simp only[cond_false]at h;clear c;induction a with
    |nil=>intro x b;cases b
    |cons y r ih=>
      rw[gL]at h;unfold Ad at h;generalize e:(((((((ab ((y.from_:Int)<0)||ab ((3:Int)<=y.from_))||ab ((y.jK:Int)<0))||ab ((3:Int)<=y.jK))||ab ((y.co:Int)<0))||ab ((3:Int)<=y.co))||ab ((y.aJ:Int)<2))||ab ((100:Int)<y.aJ))=A at h;cases A with
      |true=>cases h
      |false=>
        simp only[cond_false]at h;generalize d:((y.taken !=ab (((y.image.length:Int):Int)=0))||ab ((1200:Int)<(y.image.length:Int)))=B at h;cases B with
        |true=>cases h
        |false=>
          simp only[cond_false]at h;intro x b;rcases bn.1 b with rfl|b
          · simp only[cY,decide_eq_false_iff_not]at d;omega
          · exact ih h x b
theorem wCopy{a:List fT}(h:a.length<=40)(d:∀x∈a,x.image.length<=1200):DJ a=aj a:=by
 unfold DJ;rw[ru V V];simp only[bnd,bj];have b:∀(m i:Nat),i+m=a.length->upto Cq JV (i:Int) m a=aj a:=by
  intro m;induction m with
  |zero=>intro i _;rfl
  |succ m ih=>
   intro i e;have c:i<a.length:=by omega
   show Cq (i:Int) a (upto Cq JV ((i:Int)+1) m)=_;unfold Cq;rw[xh c];have:=d a[i]<|cx c;simp only[bnd];rw[ru V V];simp only[bnd,bj];rw[show({a[i]with image:=a[i].image}:fT)=a[i]from rfl,lO];exact ih (i+1) V
 simpa using b a.length 0 V
theorem b_t{p:Prop} [Decidable p](h:p):decide p=true:=decide_eq_true h
theorem b_f{p:Prop} [Decidable p](h:¬p):decide p=false:=decide_eq_false h
theorem wSend(a:List fT)(b:fT):OQ a b=aj (if dP a≠0 then([],dP a)else if dP [b]≠0 then([],dP [b])else(if a.length<40 then a++[b]else a,0)):=by
  unfold OQ;by_cases c:dP a≠0
  · rw[b_t c,if_pos c];rfl
  · rw[b_f c,if_neg c];by_cases d:dP [b]≠0
    · rw[b_t d,if_pos d];rfl
    · rw[b_f d,if_neg d];have c1:=WV<|en.1 c;have c2:=WV<|en.1 d;simp only[cond_false,wCopy c1.1 c1.2,wCopy c2.1 c2.2,bnd];by_cases e:(a.length:Int)<40
      · rw[b_t e,if_pos V];simp only[cond_true];exact kC (Room.mk (by simp;omega) (by simp;omega))
      · rw[b_f e,if_neg V];rfl
def zMail:fT:=⟨0,0,0,0,aq,[]⟩
theorem wTake(a:List fT)(k:Int)(t:Bool):IM a k t=aj (if dP a≠0 then([],zMail,dP a)else if k<0\/(a.length:Int)<=k then([],zMail,5)else(if t then a else a.take k.toNat++a.drop (k.toNat+1),(a[k.toNat]?).getD zMail,0)):=by
  unfold IM JW;by_cases b:dP a≠0
  · rw[b_t b,if_pos b];rfl
  · rw[b_f b,if_neg b];have c1:=WV<|en.1 b;by_cases c:k<0\/(a.length:Int)<=k
    · rw[show(ab (k<0)||ab ((a.length:Int)<=k))=ar by simpa using c,if_pos c];rfl
    · rw[show(ab (k<0)||ab ((a.length:Int)<=k))=aq by simpa using c,if_neg c];obtain⟨n,rfl⟩:=bs (show 0<=k by omega);have hn:n<a.length:=by omega
      simp only[cond_false,wCopy c1.1 c1.2,bnd,bj];have g1:kN ((n:Int)+1):=kN.mk V V;rw[kC g1];have f:(n:Int)+1=((n+1:Nat):Int):=rfl;rw[f,SS V V];have e:=one_at hn;rw[e];simp only[bnd];rw[wCopy zq3 (by intro x d;simp at d;subst d;exact c1.2 _ (cx hn))];simp only[bnd];rw[show idx [a[n]] 0=aj a[n]from rfl];simp only[bnd,bh hn,eL];cases t with
      |true=>simp only[eo,cond_false,if_true]
      |false=>
        simp only[kb,cond_true];rw[kC (show kN (((n+1:Nat):Int))from kN.mk V V),del_s V V];simp only[bnd,cJ,if_false]
end Dk
end Go.Proofs.YtodkbibbgakkdaaGreatDoor