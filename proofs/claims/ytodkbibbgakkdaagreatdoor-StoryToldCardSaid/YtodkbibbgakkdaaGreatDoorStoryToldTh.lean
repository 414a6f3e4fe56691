/-
  What the law StoryTold needs of our own library and of the walks, no more.
-/
import Derived.Test.YtodkbibbgakkdaaGreatDoorStoryToldTg
set_option linter.unusedSimpArgs false
set_option linter.unusedVariables false
set_option maxRecDepth 10000
open Bool renaming and_eq_false_iff->cE,and_eq_true->cN,cond_eq_ite->de,eq_iff_iff->ez,false_eq_true->cM,false_or->oB,not_eq_true'->gn,not_false->ir,not_true->dI,or_eq_false_iff->cP,or_eq_true->dt,true_and->mL,false->aq,true->ba
open Decidable renaming not_not->ef,decide->ab
open Go.Lib renaming atoiAll_bounds->rk,itoa->dr
open Int renaming eq_ofNat_of_zero_le->bs,reduceEq->bm,toNat_natCast->bj
open List renaming Pairwise->oR,all_eq_true->lo,append_assoc->cf,append_inj'->rL,append_nil->du,concat_eq_append->gi,cons_append->ew,dropLast_concat->fm,drop_eq_getElem_cons->cX,drop_eq_nil_of_le->cC,drop_zero->ke,eq_nil_of_length_eq_zero->cl,eq_nil_or_concat->gh,eq_of_mem_replicate->ft,exists_of_findSome?_eq_some->mW,filter_cons->gR,filter_eq_self->mC,findIdx?_cons->qn,findSome?_cons->pO,findSome?_eq_none_iff->oc,flatMap_cons->eL,getElem?_append_right->gA,getElem?_cons_succ->oY,getElem?_cons_zero->kO,getElem?_eq_getElem->bh,getElem?_eq_none->bw,getElem?_eq_some_iff->kn,getElem?_map->ej,getElem_idxOf->hJ,getElem_map->rK,getElem_mem->cx,getElem_of_mem->pP,getLast?_append->eI,getLast?_singleton->eh,headD_cons->nq,idxOf_append->rj,idxOf_cons->sv,idxOf_lt_length_of_mem->eg,length->fb,length_append->bc,length_cons->bq,length_flatMap->eK,length_map->cG,length_nil->eA,length_replicate->jq,mapM_cons->mu,map_append->cI,map_cons->ck,map_map->jw,map_nil->et,map_set->gE,mem_append->cV,mem_cons->bn,mem_cons_of_mem->bk,mem_cons_self->fa,mem_filter->sx,mem_flatMap->lp,mem_map->ea,mem_of_getElem?->fp,mem_or_eq_of_mem_set->ki,nil_append->cF,nodup_append->ri,pairwise_cons->eo,pairwise_iff_getElem->ox,prefix_append->eE,prefix_refl->cr,replicate->cc,set_getElem_self->lI,singleton_append->po,sum_cons->my,take_length->rN,take_succ_cons->pS,take_zero->sT
open List.cons renaming injEq->kb
open Nat renaming add_assoc->jt,le_refl->bt,lt_or_ge->cD,mul_le_mul->ov,not_lt_zero->eN
open Option renaming bind_some->cJ,getD_none->qk,getD_some->eM,isNone_iff_eq_none->nF,isSome_none->py,map_eq_some_iff->oE,map_some->db,some_or->fy,toList_some->pA,none->aw,some->aj
open Option.some renaming injEq->eJ
namespace Go.Proofs.YtodkbibbgakkdaaGreatDoor
open Go Go.Proofs Go.LX
noncomputable section
abbrev preL:List (Int×Str):=[(2,[118]),(4,[46]),(5,[110,101,119]),(6,[102]),(1,[])]
theorem bnd{α β:Type}(a:α)(f:α->Option β):(aj a).bind f=f a:=rfl
theorem find_uniq{α σ:Type}{g:α->Option σ}{l:List α}(c:∀p∈l,∀q∈l,g p≠aw->g q≠aw->p=q){p:α}(hp:p∈l){t:σ}(h:g p=aj t):l.findSome? g=aj t:=by
 cases e:l.findSome? g with
 |none=>
  rw[oc]at e;rw[e p hp]at h;cases h
 |some u=>
  obtain⟨q,b,a⟩:=mW e;have:=c p hp q b (by rw[h];simp) (by rw[a];simp);subst this;rw[h]at a;exact a.symm
theorem fold_none{α σ:Type}{step:α->σ->Option σ}{g:α->Option σ}:∀{l:List α},(∀p∈l,∀s,step p s=aj ((g p).getD s))->(∀p∈l,g p=aw)->∀s,X8 step l s=aj s
 |[],_,_,s=>rfl
 |p::l,h,hn,s=>by
  unfold X8;rw[h p zq3,hn p zq3,qk,bnd];exact fold_none (fun q a=>h q<|bk _ a) (fun q a=>hn q<|bk _ a) s
theorem fold_find{α σ:Type}{step:α->σ->Option σ}{g:α->Option σ}:∀{l:List α},(∀p∈l,∀s,step p s=aj ((g p).getD s))->(∀p∈l,∀q∈l,g p≠aw->g q≠aw->p=q)->l.Nodup->∀s,X8 step l s=aj ((l.findSome? g).getD s)
  |[],_,_,_,s=>rfl
  |p::l,h,hu,hn,s=>by
    unfold X8;rw[h p zq3,bnd];have d:=List.nodup_cons.1 hn;cases e:g p with
    |none=>
      rw[qk,fold_find (fun q c=>h q (bk _ c)) (fun a f b i=>hu a (bk _ f) b (bk _ i)) d.2 s,pO,e]
    |some t=>
      rw[eM,fold_none (fun q c=>h q (bk _ c)) (fun q c=>?_) t,pO,e]
      · rfl
      · cases e2:g q with
        |none=>rfl
        |some u=>
          have:=hu p zq3 q (bk _ c) (by rw[e];simp) (by rw[e2];simp);subst this;exact absurd c d.1
theorem folds_one{α σ:Type}{step:α->σ->Option σ}{g:α->Option σ}{L:List α}(h:∀p∈L,∀s,step p s=aj ((g p).getD s))(c:∀p∈L,∀q∈L,g p≠aw->g q≠aw->p=q)(hn:L.Nodup)(s:σ):Bd step L s ((L.findSome? g).getD s):=by
 intro l a;rw[fold_find (fun p hp=>h p (a.mem_iff.1 hp)) (fun p hp q b=>c p (a.mem_iff.1 hp) q (a.mem_iff.1 b)) (a.nodup_iff.2 hn) s];congr 2;cases e:L.findSome? g with
 |none=>
  rw[oc]at e⊢;exact fun x d=>e x<|a.mem_iff.1 d
 |some t=>
  obtain⟨p,hp,f⟩:=mW e;exact find_uniq (fun p hp q b=>c p (a.mem_iff.1 hp) q<|a.mem_iff.1 b) (a.mem_iff.2 hp) f
def joO(a:Int×Str)(y:Int×Bool)(x:Bool):Option (Int×Int):=bif x then aj (a.1,y.1)else aw
def stepO(s:Str)(b:Int×Str):Option (Option (Int×Int)):=
 (strings_TrimPrefix s b.2).bind fun d=>(Ju d).bind fun a=>bif (!a.2)then(oz (⟨b.1,a.1⟩:Tok)).bind fun c=>aj (joO b a (ab ((c:Str)=s)))else aj (joO b a aq)
theorem j227_eq(c:Int×Str)(y:Int×Bool)(a b:Int)(x:Bool):C8 c y a b x=aj ((joO c y x).getD (a,b)):=by
 unfold C8 joO;cases x<;>rfl
theorem b228_eq(s:Str)(c:Int×Str)(st:Int×Int):xw s c st=(stepO s c).bind fun o=>aj (o.getD st):=by
 obtain⟨a,b⟩:=st;unfold xw stepO;simp only[j227_eq];cases strings_TrimPrefix s c.2 with
 |none=>rfl
 |some y=>
  simp only[bnd];cases Ju y with
  |none=>rfl
  |some z=>
   simp only[bnd];cases z.2 with
   |true=>rfl
   |false=>
    simp only[ir,cond_true];cases oz (⟨c.1,z.1⟩:Tok)<;>rfl
def gO(s:Str)(p:Int×Str):Option (Int×Int):=(stepO s p).join
def okW(s:Str):Bool:=preL.all (fun p=>(stepO s p).isSome)&&preL.all (fun p=>preL.all fun q=>(gO s p).isNone||(gO s q).isNone||ab (p=q))
def preC(s:Str):Int×Int:=(preL.findSome? (gO s)).getD (0,0)
theorem fold_ok{s:Str}(h:okW s=ba):Jz (xw s) preL (0,0)=aj (preC s):=by
  unfold okW at h;rw[cN,lo,lo]at h;refine foldAny_eq<|folds_one (g:=gO s) (fun p hp st=>?_) (fun p hp q b a c=>?_) zq1 (0,0)
  · have a:=h.1 p hp;rw[b228_eq];unfold gO;cases e:stepO s p with
    |none=>rw[e]at a;cases a
    |some o=>cases o<;>rfl
  · have:=lo.1 (h.2 p hp) q b;rw[dt,dt]at this;rcases this with(e|e)|e
    · exact absurd (nF.1 e) a
    · exact absurd (nF.1 e) c
    · exact odt e
def foldC(s:Str):Option (Int×Int):=bif okW s then aj (preC s)else Jz (xw s) preL (0,0)
theorem foldC_eq(s:Str):foldC s=Jz (xw s) preL (0,0):=by
 unfold foldC;cases e:okW s with
 |false=>rfl
 |true=>exact(fold_ok e).symm
def E9(N:Nat)(g:List Tok)(F:List jc)(e:Int)(f:(List Tok×Int×Bool×Int)->Option (List Tok×gF))(b:Str)(d:Bool)(c:Int):Option (List Tok×gF):=
 (foldC b).bind fun a=>(Ta N b g F c e f d) a
theorem ZC: @E9= @C9:=by
 funext a b c d e f g h;unfold E9 C9;rw[foldC_eq]
def Ki(N:Nat)(a:List Str)(F:List jc)(s:List Tok×Int×Bool×Int)(c:List Tok×Int×Bool×Int->Option (List Tok×gF)):Option (List Tok×gF):=
 match s with|(xK,zl,NI,y20)=>bif (ab ((0:Int)<zl)&&NI)then bif ab (((a.length:Int):Int)<=y20)then E9 N xK F zl c [] aq y20 else iy (kr (y20+1)) (iy (kr ((y20+1)-1)) ((idx a ((y20+1)-1)).bind fun b=>E9 N xK F zl c b NI (y20+1)))else aj (xK,(⟨y20,NI⟩:gF))
theorem ZE: @Ki= @Da:=by
 unfold Ki Da;rw[ZC]
def TP(N:Nat)(b:gF)(a:List Str)(F:List jc):Option (List Tok×gF):=
 again (Ki N a F) N ([],1,b.ok,b.at_)
theorem srdExpr_p: @TP= @Tc:=by
 unfold TP Tc;rw[ZE]
def Fa(N:Nat)(f:gF->List Str->List jc->Int->Option (List dh×gF))(c:Int)(b:List Str)(F:List jc)(a:Int)(e:List dh)(i:Int)(g:(List dh×Int×Bool)->Option (List dh×gF))(k:Int)(j:Bool)(h:List Tok):Option (List dh×gF):=
 bif ab (((c+1):Int)=2)then(TP N (⟨k,j⟩:gF) b F).bind fun d=>Db f c a b F e i h g d.2.at_ d.2.ok d.1 else Db f c a b F e i h g k j []
theorem ZF: @Fa= @Dc:=by
 unfold Fa Dc;rw[srdExpr_p]
def A7(N:Nat)(g:gF->List Str->List jc->Int->Option (List dh×gF))(d:Int)(b:List Str)(F:List jc)(a:Int)(f:List dh)(h:(List dh×Int×Bool)->Option (List dh×gF))(e:Int)(i:Bool)(j:Int):Option (List dh×gF):=
 bif ab (((d+1):Int)≠4)then(TP N (⟨e,i⟩:gF) b F).bind fun c=>Fa N g d b F a f j h c.2.at_ c.2.ok c.1 else Fa N g d b F a f j h e i []
theorem ZG: @A7= @zV:=by
 unfold A7 zV;rw[srdExpr_p,ZF]
def Fb(N:Nat)(k:gF->List Str->List jc->Int->Option (List dh×gF))(j:List dh)(b:List Str)(F:List jc)(a:Int)(l:(List dh×Int×Bool)->Option (List dh×gF))(h:Str)(c:Int)(d:Bool):Option (List dh×gF):=
 bif ab ((h:Str)=[125])then aj (j,(⟨c,d⟩:gF))else(SE [115,101,116,32,112,117,116,32,115,97,121,32,112,97,117,115,101,32,103,111,32,105,102,32,119,104,105,108,101,32,114,101,116,117,114,110]).bind fun m=>(slices_Index_string m h).bind fun e=>iy (kr (e+1)) (bif (!(d&&ab ((0:Int)<(e+1))))then aj ([],(⟨c,(d&&ab ((0:Int)<(e+1)))⟩:gF))else bif ab (((e+1):Int)<=2)then bif ab (((b.length:Int):Int)<=c)then(Ju []).bind fun f=>A7 N k e b F a j l c aq f.1 else iy (kr (c+1)) (iy (kr ((c+1)-1)) ((idx b ((c+1)-1)).bind fun g=>(Ju g).bind fun i=>A7 N k e b F a j l (c+1) (d&&ab ((0:Int)<(e+1))) i.1))else A7 N k e b F a j l c (d&&ab ((0:Int)<(e+1))) 0)
theorem ZH: @Fb= @De:=by
 unfold Fb De;rw[ZG]
def Kj(N:Nat)(e:gF->List Str->List jc->Int->Option (List dh×gF))(b:List Str)(F:List jc)(a:Int)(s:List dh×Int×Bool)(d:List dh×Int×Bool->Option (List dh×gF)):Option (List dh×gF):=
 match s with|(qL,Kt,D6)=>bif D6 then bif ab (((b.length:Int):Int)<=Kt)then Fb N e qL b F a d [] Kt aq else iy (kr (Kt+1)) (iy (kr ((Kt+1)-1)) ((idx b ((Kt+1)-1)).bind fun c=>Fb N e qL b F a d c (Kt+1) D6))else aj ([],(⟨Kt,D6⟩:gF))
theorem ZI: @Kj= @Df:=by
 unfold Kj Df;rw[ZH]
def G5(N:Nat)(e:gF->List Str->List jc->Int->Option (List dh×gF))(b:List Str)(F:List jc)(a:Int)(d:Int)(c:Bool):Option (List dh×gF):=
 again (Kj N e b F a) N ([],d,c)
theorem srdBlock_j2_p: @G5= @FC:=by
 unfold G5 FC;rw[ZI]
def Fe(N:Nat)(e:gF->List Str->List jc->Int->Option (List dh×gF))(b:List Str)(F:List jc)(a:Int)(f:Bool)(d:Int)(c:Bool):Option (List dh×gF):=
 bif f then G5 N e b F a d aq else G5 N e b F a d c
theorem ZJ: @Fe= @Dh:=by
 unfold Fe Dh;rw[srdBlock_j2_p]
def JS(N:Nat)(e:gF->List Str->List jc->Int->Option (List dh×gF))(c:gF)(b:List Str)(F:List jc)(a:Int):Option (List dh×gF):=
 bif ab (((b.length:Int):Int)<=c.at_)then Fe N e b F a ba c.at_ aq else iy (kr (c.at_+1)) (iy (kr ((c.at_+1)-1)) ((idx b ((c.at_+1)-1)).bind fun d=>Fe N e b F a (ab ((d:Str)≠[123])||ab ((6:Int)<a)) (c.at_+1) c.ok))
theorem srdBlock_r_p: @JS= @Ib:=by
 unfold JS Ib;rw[ZJ]
def LK:Nat->gF->List Str->List jc->Int->Option (List dh×gF)
 |0=>fun _ _ _ _=>aw
 |N+1=>JS N (LK N)
theorem ZK:∀N,LK N=FD N
 |0=>rfl
 |N+1=>by show JS N (LK N)=Ib N (FD N);rw[srdBlock_r_p,ZK N]
def nu(N:Nat)(h:List Str)(e:List jc)(a:Int)(f:(List jc×Int×Bool)->Option (List jc×Int))(b:Int)(c:Bool):Option (List jc×Int):=
 (LK N (⟨b,c⟩:gF) h e 1).bind fun d=>(idx e a).bind fun g=>f ((e.set (a).toNat {g with body:=d.1}),d.2.at_,d.2.ok)
theorem Gg: @nu= @lC:=by
 unfold nu lC;rw[show @LK= @FD from funext ZK]
def ny(N:Nat)(d:List Str)(g:List jc)(a:Int)(e:(List jc×Int×Bool)->Option (List jc×Int))(b:Int)(c:Bool):Option (List jc×Int):=
 bif ab (((d.length:Int):Int)<=b)then nu N d g a e b aq else iy (kr (b+1)) (iy (kr ((b+1)-1)) ((idx d ((b+1)-1)).bind fun f=>nu N d g a e (b+1) c))
theorem Gh: @ny= @lD:=by
 unfold ny lD;rw[Gg]
def nz(N:Nat)(d:List Str)(g:List jc)(a:Int)(e:(List jc×Int×Bool)->Option (List jc×Int))(b:Int)(c:Bool):Option (List jc×Int):=
 bif ab (((d.length:Int):Int)<=b)then ny N d g a e b aq else iy (kr (b+1)) (iy (kr ((b+1)-1)) ((idx d ((b+1)-1)).bind fun f=>ny N d g a e (b+1) c))
theorem Gi: @nz= @lF:=by
 unfold nz lF;rw[Gh]
def nA(N:Nat)(f:List Str)(g:List jc)(a:Int)(e:(List jc×Int×Bool)->Option (List jc×Int))(b:Bool)(d:Int)(c:Bool):Option (List jc×Int):=
 bif b then nz N f g a e d aq else nz N f g a e d c
theorem Gj: @nA= @lG:=by
 unfold nA lG;rw[Gi]
def rq(N:Nat)(c:List Str)(a:Int)(s:List jc×Int×Bool)(d:List jc×Int×Bool->Option (List jc×Int)):Option (List jc×Int):=
 match s with|(AO,y98,y99)=>bif ab (((c.length:Int):Int)<=y98)then nA N c AO a d ba y98 aq else iy (kr (y98+1)) (iy (kr ((y98+1)-1)) ((idx c ((y98+1)-1)).bind fun b=>nA N c AO a d (ab ((b:Str)≠[102,117,110])) (y98+1) y99))
theorem Gl: @rq= @nV:=by
 unfold rq nV;rw[Gj]
def ru(N:Nat)(b:List Str)(a:Str)(c:List jc)(s:Unit):Option (List jc×Int):=
 upto (rq N b) (si N b a) 0 ((c.length:Int)).toNat (c,0,ba)
theorem Gm: @ru= @nW:=by
 unfold ru nW;rw[Gl]
def ry(N:Nat)(c:List Str)(a:Str)(b:List jc):Option (List jc×Int):=
 bif (ab (((b.length:Int):Int)=0)||ab ((4:Int)<(b.length:Int)))then aj ([],1)else upto (sj b) (ru N c a b) 0 ((b.length:Int)).toNat ()
theorem Gn: @ry= @nX:=by
 unfold ry nX;rw[Gm]
def wL(N:Nat)(a:Str):Option (List jc×Int):=
 (QM a [32]).bind fun b=>gW (su b) (ry N b a) 0 b []
theorem Kk: @wL= @q8:=by
 unfold wL q8;rw[Gn]
def qm(N:Nat):Option (List jc):=
 (wL N [102,117,110,32,48,32,49,32,123,32,115,101,116,32,48,32,51,32,119,104,105,108,101,32,118,48,32,123,32,115,97,121,32,102,49,32,118,48,32,118,48,32,103,111,32,118,48,32,112,97,117,115,101,32,115,101,116,32,48,32,45,32,118,48,32,49,32,125,32,125,32,102,117,110,32,50,32,50,32,123,32,114,101,116,117,114,110,32,42,32,118,48,32,118,49,32,125]).bind fun a=>aj a.1
theorem NF: @qm= @oC:=by
 unfold qm oC;rw[Kk]
abbrev NN:Nat:=70000
theorem program_p:oC NN=qm NN:=by rw[NF]
end
open Go Go.Proofs Go.LX
theorem eqInt(a b:List Int):slices_Equal_int a b=aj (ab (a=b)):=by
  unfold slices_Equal_int;by_cases h:a.length=b.length
  · rw[dF V];simp only[cond_false,bj];rw[Uz (fun x y=>ab (x=y)) a b h rfl (fun i x y f c d=>by
      unfold vK;rw[kL,kL,c,d];by_cases e:x=y<;>simp[e]),Me (fun _ _=>rfl)]
  · rw[dT V];have:a≠b:=fun e=>h (by rw[e]);rw[dF this];rfl
theorem TQ(a b:Int):(ab (a<0)||ab (b<=a))= !bF a b:=by
 unfold bF;rw[ez];simp;try omega
theorem idx0{α:Type}(x:α)(l:List α):idx (x::l) 0=aj x:=by simp[idx]
theorem len_one{l:List Int}:l.length=1↔∃x,l=[x]:=by
 match l with
 |[]=>simp
 |[x]=>simp
 |x::y::r=>simp
def Kl(i:Nat)(x:bu):Int:=
 if(0<=x.params/\x.params<=3)/\(1<=x.regs/\x.params<=x.regs/\x.regs<=40)/\¬(i=0/\x.params≠0)then(if 1<=x.code.length/\x.code.length<=2000 then 0 else 2)else 3
theorem b39_eq(i:Nat)(x:bu)(a:Unit->Option Int):nY (i:Int) x () a=if Kl i x≠0 then aj (Kl i x)else a ():=by
  unfold nY Kl;by_cases c:(0<=x.params/\x.params<=3)/\(1<=x.regs/\x.params<=x.regs/\x.regs<=40)/\¬(i=0/\x.params≠0)
  · have e:(((((ab ((x.params:Int)<0)||ab ((3:Int)<x.params))||ab ((x.regs:Int)<1))||ab ((x.regs:Int)<x.params))||ab ((40:Int)<x.regs))||(ab ((i:Int)=0)&&ab ((0:Int)<x.params)))=false:=by
      simp only[cP,cE,decide_eq_false_iff_not];omega
    rw[e,if_pos c];simp only[cond_false];by_cases b:1<=x.code.length/\x.code.length<=2000
    · rw[if_pos b,show(ab (((x.code.length:Int):Int)=0)||ab ((2000:Int)<(x.code.length:Int)))=aq by simp only[cP,decide_eq_false_iff_not];omega];rfl
    · rw[if_neg b,show(ab (((x.code.length:Int):Int)=0)||ab ((2000:Int)<(x.code.length:Int)))=ba by simp only[dt,decide_eq_true_eq];omega];rfl
  · have e:(((((ab ((x.params:Int)<0)||ab ((3:Int)<x.params))||ab ((x.regs:Int)<1))||ab ((x.regs:Int)<x.params))||ab ((40:Int)<x.regs))||(ab ((i:Int)=0)&&ab ((0:Int)<x.params)))=true:=by
      simp only[dt,cN,decide_eq_true_eq];omega
    rw[e,if_neg c];rfl
def heads:Nat->List bu->Int
 |_,[]=>0
 |i,x::p=>if Kl i x≠0 then Kl i x else heads (i+1) p
theorem ZL(k:Unit->Option Int):∀(p:List bu) (i:Nat),gW nY k (i:Int) p ()=if heads i p≠0 then aj (heads i p)else k ()
 |[],i=>by simp[heads,gW]
 |x::p,i=>by
  show nY (i:Int) x () (gW nY k ((i:Int)+1) p)=_;rw[b39_eq,show((i:Int)+1)=((i+1:Nat):Int) by omega,ZL k p (i+1),heads];by_cases h:Kl i x=0<;>simp[h]
def tN(x:bu):Prop:=1<=x.code.length/\x.code.length<=2000
theorem gD{α σ ρ:Type}{body:α->σ->(σ->ρ)->ρ}{k:σ->ρ}(x:α)(l:List α)(s:σ):each body k (x::l) s=body x s (each body k l):=rfl
theorem b8_tot(d:Int):∀l:List Int,∃y,each (xZ d) EY l ()=aj y
 |[]=>⟨0,rfl⟩
 |x::l=>by
  obtain⟨y,a⟩:=b8_tot d l;rw[gD];unfold xZ;cases (!(ab ((0:Int)<=x)&&ab ((x:Int)<d)))with
  |true=>exact⟨3,rfl⟩
  |false=>exact⟨y,a⟩
theorem j5_tot(j:Bool)(a:Ins)(b e:Int)(c:List bu)(f g d k:Int):∃y,ig j a b e c f g d k=aj y/\(y=0->(a.args.length:Int)=g):=by
 unfold ig;cases j with
 |false=>exact⟨3,rfl,fun h=>absurd h zq1⟩
 |true=>
  simp only[dI,cond_false];generalize i:(((ab ((a.a:Int)≠k)||ab ((a.b:Int)≠e))||ab ((a.c:Int)≠f))||ab (((a.args.length:Int):Int)≠g))=C;cases C with
  |true=>exact⟨4,rfl,fun h=>absurd h zq1⟩
  |false=>
   simp only[cP,decide_eq_false_iff_not,ef]at i;simp only[cond_false];cases ab ((a.op:Int)=7)with
   |true=>obtain⟨y,l⟩:=b8_tot d a.args;exact⟨y,l,fun _=>i.2⟩
   |false=>exact⟨0,rfl,fun _=>i.2⟩
theorem j4_tot(a:Ins)(b:Int)(c:List bu)(d:Int)(h:Bool)(g i e f:Int):∃y,eu a b c d h g i e f=aj y/\(y=0->(a.args.length:Int)=g):=by
 unfold eu;cases ab ((a.op:Int)=12)with
 |true=>exact j5_tot h a b e c f g d 0
 |false=>exact j5_tot h a b e c f g d i
def InsT(a:Ins)(r:Option Int):Prop:=∃y,r=aj y/\(y=0->a.args.length<=3)
theorem j4_t(a:Ins)(b:Int)(c:List bu)(d:Int)(j:Bool){g:Int}(i e f:Int)(h:g<=3):InsT a (eu a b c d j g i e f):=by
 obtain⟨y,m,l⟩:=j4_tot a b c d j g i e f;exact⟨y,m,fun k=>by have:=l k;omega⟩
theorem xV{a:Ins}{c:Bool}{x y:Option Int}(b:InsT a x)(d:InsT a y):InsT a (bif c then x else y):=by
  cases c
  · exact d
  · exact b
theorem ZM{a:Ins}{e:Int}(h:e≠0):InsT a (aj e):=⟨e,rfl,fun b=>absurd b h⟩
theorem check_ins(a:Ins)(b:Int)(c:List bu)(d e:Int)(hp:∀x∈c,x.params<=3):InsT a (kH a b c d e):=by
  unfold kH;refine xV (ZM zq1)<|xV (ZM zq1)<|xV (j4_t _ _ _ _ _ _ _ _ zq1)<|xV (j4_t _ _ _ _ _ _ _ _ zq1) ?_;have f:∀x,InsT a (fQ a b c d x):=fun x=>by
    unfold fQ;exact xV (j4_t _ _ _ _ _ _ _ _ zq1)<|xV (j4_t _ _ _ _ _ _ _ _ zq1)<|j4_t _ _ _ _ _ _ _ _ zq1
  have g:∀x,InsT a (gy a b c d e x):=fun x=>by
    unfold gy;refine xV (j4_t _ _ _ _ _ _ _ _ zq1) ?_;cases ab ((a.op:Int)=7)with
    |false=>
      rw[cond_false];exact xV (f _)<|xV (f _)<|f _
    |true=>
      simp only[cond_true];rw[TQ];cases hb:bF a.b (c.length:Int)with
      |false=>exact ZM zq1
      |true=>
        simp only[dI,cond_false];unfold bF at hb;simp only[cN,decide_eq_true_eq]at hb;obtain⟨n,hn⟩:=bs hb.1;rw[hn,xg V,cJ];exact j4_t _ _ _ _ _ _ _ _<|hp _<|cx _
  have h:∀x,InsT a (gz a b c d e x):=fun x=>by
    unfold gz;refine xV (j4_t _ _ _ _ _ _ _ _ zq1) ?_;cases ab ((a.op:Int)=3)with
    |false=>
      rw[cond_false];exact xV (g _)<|g _
    |true=>
      simp only[cond_true];by_cases i:a.args.length=1
      · rw[dT (show((a.args.length:Int):Int)=1 by omega)];obtain⟨y,j⟩:=len_one.1 i;simp only[cond_true];rw[show idx a.args 0=aj y by rw[j,idx0],cJ];exact j4_t _ _ _ _ _ _ _ _ zq1
      · rw[dF (show¬((a.args.length:Int):Int)=1 by omega)];exact j4_t _ _ _ _ _ _ _ _ zq1
  exact xV (h _)<|h _
def Good(a:List bu):Prop:=a.length<=4/\∀x∈a,tN x/\∀c∈x.code,c.args.length<=3
theorem headOk_zero{i:Nat}{x:bu}(h:Kl i x=0):x.params<=3/\tN x:=by
  unfold Kl at h;split at h
  · split at h
    · exact⟨by omega,by unfold tN;omega⟩
    · cases h
  · cases h
theorem ZN:∀(p:List bu) (i:Nat),heads i p=0->∀x∈p,x.params<=3/\tN x
  |[],_,_,x,hx=>by cases hx
  |y::p,i,h,x,hx=>by
    unfold heads at h;split at h
    · rename_i a;exact absurd h a
    · rename_i a;rcases bn.1 hx with rfl|hx
      · exact headOk_zero<|ef.1 a
      · exact ZN p (i+1) h x hx
theorem b35_tot(a:List bu)(x:bu)(k:Unit->Option Int)(hp:∀x∈a,x.params<=3)(Q:Prop)(g:∃y,k ()=aj y/\(y=0->Q)):∀(l:List Ins) (i:Int),∃y,gW (kC a x) k i l ()=aj y/\(y=0->Q/\∀c∈l,c.args.length<=3)
  |[],i=>by
    obtain⟨y,f,b⟩:=g;exact⟨y,f,fun h=>⟨b h,by intro c j;cases j⟩⟩
  |c::l,i=>by
    obtain⟨y,f,b⟩:=b35_tot a x k hp Q g l<|i+1;have m:gW (kC a x) k i (c::l) ()=kC a x i c () (gW (kC a x) k (i+1) l):=rfl;rw[m];unfold kC;obtain⟨z,g1,g2⟩:=check_ins c i a x.regs (x.code.length:Int) hp;rw[g1,cJ];by_cases hz:z=0
    · rw[dF V,cond_false];refine⟨y,f,fun h=>⟨(b h).1,fun d e=>?_⟩⟩;rcases bn.1 e with rfl|e
      · exact g2 hz
      · exact(b h).2 d e
    · rw[dT hz,cond_true];exact⟨z,Z,fun h=>absurd h hz⟩
theorem b37_tot(a:List bu)(hp:∀x∈a,x.params<=3/\tN x):∀l:List bu,(∀x∈l,x.params<=3/\tN x)->∃y,each (sF a) zn l ()=aj y/\(y=0->∀x∈l,∀c∈x.code,c.args.length<=3)
  |[],_=>⟨0,rfl,fun _ x b=>by cases b⟩
  |x::l,hl=>by
    obtain⟨y,f,g⟩:=b37_tot a hp l fun z hz=>hl z<|bk _ hz;rw[gD];unfold sF;have b:=hl x zq3;obtain⟨z,g1,g2⟩:=b35_tot a x (zm x (each (sF a) zn l)) (fun x b=>(hp x b).1) (∀x∈l,∀c∈x.code,c.args.length<=3) (by
      unfold zm;have e:=b.2;unfold tN at e;rw[gI,show((x.code.length:Int)-1)=((x.code.length-1:Nat):Int) by omega,xg V,cJ];cases (ab ((x.code[x.code.length-1].op:Int)≠8)&&ab ((x.code[x.code.length-1].op:Int)≠12))with
      |true=>exact⟨4,rfl,fun h=>absurd h zq1⟩
      |false=>exact⟨y,f,g⟩) x.code 0
    refine⟨z,g1,fun h=>?_⟩;intro w d;rcases bn.1 d with rfl|d
    · exact(g2 h).2
    · exact(g2 h).1 w d
theorem check_tot(a:List bu):∃y,sG a=aj y/\(y=0->Good a):=by
  unfold sG;generalize c:(ab (((a.length:Int):Int)=0)||ab ((4:Int)<(a.length:Int)))=C;cases C with
  |true=>exact⟨2,rfl,fun h=>absurd h zq1⟩
  |false=>
    simp only[cP,decide_eq_false_iff_not]at c;have d:gW nY (wu a) 0 a ()=_:=ZL (wu a) a 0;rw[cond_false,d];by_cases hz:heads 0 a=0
    · rw[if_neg V];have hp:=ZN a 0 hz;obtain⟨y,g1,g2⟩:=b37_tot a hp a hp;exact⟨y,g1,fun h=>⟨by omega,fun x b=>⟨(hp x b).2,g2 h x b⟩⟩⟩
    · rw[if_pos hz];exact⟨_,Z,fun h=>absurd h hz⟩
def Jc(a:List bu):Int:=(sG a).getD 0
theorem Wt(a:List bu):sG a=aj (Jc a):=by
 obtain⟨y,h,_⟩:=check_tot a;unfold Jc;rw[h];rfl
def Gp(R x:Int):Prop:=0<=x/\x<R
def NG(a:List bu)(R L:Int)(c:Ins):Prop:=
 (c.op=1/\Gp R c.a/\(-1000000000<=c.b/\c.b<=1000000000))\/
 (c.op=2/\Gp R c.a/\Gp R c.b)\/
 (c.op=3/\Gp R c.a/\Gp R c.b/\Gp R c.c/\∃n,c.args=[n]/\1<=n/\n<=5)\/
 ((c.op=4\/c.op=6)/\Gp R c.a/\Gp R c.b/\(0<=c.c/\c.c<4))\/
 (c.op=5/\Gp R c.a/\(1<=c.b/\c.b<=4))\/
 (c.op=7/\Gp R c.a/\(∃p,idx a c.b=aj p/\(c.args.length:Int)=p.params)/\∀x∈c.args,Gp R x)\/
 ((c.op=8\/c.op=9\/c.op=11)/\Gp R c.a)\/
 c.op=10\/
 (c.op=12/\(0<=c.b/\c.b<L))\/
 (c.op=13/\Gp R c.a/\(0<=c.b/\c.b<L))
theorem each_b8(R:Int):∀l:List Int,each (xZ R) EY l ()=aj 0->∀x∈l,Gp R x
  |[],_,x,hx=>by cases hx
  |y::l,h,x,hx=>by
    rw[gD]at h;unfold xZ at h;cases e:(!(ab ((0:Int)<=y)&&ab ((y:Int)<R)))with
    |true=>rw[e,cond_true]at h;cases h
    |false=>
      rw[e,cond_false]at h;rcases bn.1 hx with rfl|hx
      · simp at e;exact e
      · exact each_b8 R l h x hx
theorem insG_of{c:Ins}{i:Int}{a:List bu}{R L:Int}(h:kH c i a R L=aj 0):NG a R L c:=by
  obtain⟨op,w,u,v,args⟩:=c;by_cases l:op=1
  · subst l;simp[kH,fE,gK,jm,jK,iZ,eu,ig,gz,gy,fQ,de]at h;simp[NG,Gp]
    (repeat (split at h;·simp at h))
    omega
  by_cases j:op=2
  · subst j;simp[kH,fE,gK,jm,jK,iZ,eu,ig,gz,gy,fQ,de]at h;simp[NG,Gp]
    (repeat (split at h;·simp at h))
    omega
  by_cases q:op=3
  · subst q;simp[kH,fE,gK,jm,jK,iZ,eu,ig,gz,gy,fQ,de]at h;simp[NG,Gp];by_cases r:args.length=1
    · obtain⟨y,rfl⟩:=len_one.1 r;simp[idx0]at h;split at h
      · simp at h
      split at h
      · simp at h
      refine⟨by omega,by omega,by omega,y,Z,by omega,by omega⟩
    · exfalso;rw[if_neg (show¬((args.length:Int)=1) by omega)]at h;split at h<;>simp at h
  by_cases g:op=4
  · subst g;simp[kH,fE,gK,jm,jK,iZ,eu,ig,gz,gy,fQ,de]at h;simp[NG,Gp]
    (repeat (split at h;·simp at h))
    omega
  by_cases t:op=5
  · subst t;simp[kH,fE,gK,jm,jK,iZ,eu,ig,gz,gy,fQ,de]at h;simp[NG,Gp]
    (repeat (split at h;·simp at h))
    omega
  by_cases s:op=6
  · subst s;simp[kH,fE,gK,jm,jK,iZ,eu,ig,gz,gy,fQ,de]at h;simp[NG,Gp]
    (repeat (split at h;·simp at h))
    omega
  by_cases o:op=7
  · subst o;simp[kH,fE,gK,jm,jK,iZ,eu,ig,gz,gy,fQ,de]at h;simp[NG,Gp];split at h
    · simp at h
    split at h
    · simp at h
    obtain⟨p,hp,h⟩:=az h
    (repeat (split at h;·simp at h))
    refine⟨by omega,⟨p,hp,by omega⟩,fun x m=>each_b8 R args h x m⟩
  by_cases n:op=8
  · subst n;simp[kH,fE,gK,jm,jK,iZ,eu,ig,gz,gy,fQ,de]at h;simp[NG,Gp]
    (repeat (split at h;·simp at h))
    omega
  by_cases k:op=9
  · subst k;simp[kH,fE,gK,jm,jK,iZ,eu,ig,gz,gy,fQ,de]at h;simp[NG,Gp]
    (repeat (split at h;·simp at h))
    omega
  by_cases f:op=10
  · subst f;simp[NG,Gp]
  by_cases d:op=11
  · subst d;simp[kH,fE,gK,jm,jK,iZ,eu,ig,gz,gy,fQ,de]at h;simp[NG,Gp]
    (repeat (split at h;·simp at h))
    omega
  by_cases e:op=12
  · subst e;simp[kH,fE,gK,jm,jK,iZ,eu,ig,gz,gy,fQ,de]at h;simp[NG,Gp]
    (repeat (split at h;·simp at h))
    omega
  by_cases b:op=13
  · subst b;simp[kH,fE,gK,jm,jK,iZ,eu,ig,gz,gy,fQ,de]at h;simp[NG,Gp]
    (repeat (split at h;·simp at h))
    omega
  · exfalso;simp[kH,fE,gK,jm,jK,iZ,eu,ig,gz,gy,fQ,de, *]at h
structure mF(a:List bu):Prop where
 many:1<=a.length/\a.length<=4
 head:∀(i:Nat) x,a[i]? =aj x->(0<=x.params/\x.params<=3)/\(1<=x.regs/\x.params<=x.regs/\x.regs<=40)/\¬(i=0/\x.params≠0)/\tN x
 last:∀x∈a,∃c,idx x.code ((x.code.length:Int)-1)=aj c/\(c.op=8\/c.op=12)
 ins:∀x∈a,∀c∈x.code,NG a x.regs x.code.length c
theorem heads_all:∀(p:List bu) (j:Nat),heads j p=0->∀(i:Nat) x,p[i]? =aj x->Kl (j+i) x=0
  |[],j,_,i,x,hx=>by simp at hx
  |y::p,j,h,i,x,hx=>by
    unfold heads at h;split at h
    · rename_i a;exact absurd h a
    · rename_i a;cases i with
      |zero=>simp at hx;subst hx;exact ef.1 a
      |succ i=>rw[show j+(i+1)=(j+1)+i by omega];exact heads_all p (j+1) h i x (by simpa using hx)
theorem b35_ins(a:List bu)(x:bu)(k:Unit->Option Int):∀(l:List Ins) (i:Int),gW (kC a x) k i l ()=aj 0->k ()=aj 0/\∀c∈l,NG a x.regs x.code.length c
  |[],i,h=>⟨h,fun c b=>by cases b⟩
  |y::l,i,h=>by
    have g:gW (kC a x) k i (y::l) ()=kC a x i y () (gW (kC a x) k (i+1) l):=rfl;rw[g]at h;unfold kC at h;obtain⟨z,hz,h⟩:=az h;by_cases d:z=0
    · subst d;rw[dF zq3,cond_false]at h;obtain⟨f,e⟩:=b35_ins a x k l (i+1) h;refine⟨f,fun c b=>?_⟩;rcases bn.1 b with rfl|b
      · exact insG_of hz
      · exact e c b
    · rw[dT d,cond_true]at h;exact absurd (osi h) d
theorem b37_ins(a:List bu):∀l:List bu,each (sF a) zn l ()=aj 0->∀x∈l,(∃c,idx x.code ((x.code.length:Int)-1)=aj c/\(c.op=8\/c.op=12))/\∀c∈x.code,NG a x.regs x.code.length c
  |[],_,x,hx=>by cases hx
  |y::l,h,x,hx=>by
    rw[gD]at h;unfold sF at h;obtain⟨b,f⟩:=b35_ins a y _ y.code 0 h;unfold zm at b;obtain⟨_,b⟩:=bD b;obtain⟨c,d,b⟩:=az b;cases e:(ab ((c.op:Int)≠8)&&ab ((c.op:Int)≠12))with
    |true=>rw[e,cond_true]at b;cases b
    |false=>
      rw[e,cond_false]at b;rcases bn.1 hx with rfl|hx
      · exact⟨⟨c,d,by simp only[cE,decide_eq_false_iff_not,ef]at e;exact e⟩,f⟩
      · exact b37_ins a l b x hx
theorem ng{a:List bu}(h:Jc a=0):mF a:=by
  have b:=Wt a;rw[h]at b;unfold sG at b;generalize e:(ab (((a.length:Int):Int)=0)||ab ((4:Int)<(a.length:Int)))=C at b;cases C with
  |true=>cases b
  |false=>
    simp only[cP,decide_eq_false_iff_not]at e;have f:gW nY (wu a) 0 a ()=_:=ZL (wu a) a 0;rw[cond_false,f]at b;by_cases hz:heads 0 a=0
    · rw[if_neg V]at b;have d:=b37_ins a a b;refine⟨by omega,fun i x c=>?_,fun x c=>(d x c).1,fun x c=>(d x c).2⟩;have:=heads_all a 0 hz i x c;rw[Nat.zero_add]at this;unfold Kl at this;split at this
      · rename_i g;split at this
        · rename_i g2;exact⟨g.1,g.2.1,g.2.2,g2⟩
        · cases this
      · cases this
    · rw[if_pos hz]at b;exact absurd (osi b) hz
theorem yK{α σ ρ:Type}{body:Int->α->σ->(σ->ρ)->ρ}{k:σ->ρ}(i:Int)(x:α)(l:List α)(s:σ):gW body k i (x::l) s=body i x s (gW body k (i+1) l):=rfl
theorem Wu{σ ρ:Type}{body:Int->σ->(σ->ρ)->ρ}{k:σ->ρ}(i:Int)(m:Nat)(s:σ):upto body k i (m+1) s=body i s (upto body k (i+1) m):=rfl
theorem DV{σ β:Type}{body:σ->(σ->Option β)->Option β}{m:Nat}{s:σ}:again body (m+1) s=body s (again body m):=rfl
def j3(n:Nat)(v:Val):Prop:=(v.kind=0/\v.n=0)\/(v.kind=1/\ -1000000000<=v.n/\v.n<=1000000000)\/(v.kind=2/\0<=v.n/\v.n<n)
instance (n:Nat) (v:Val):Decidable (j3 n v):=inferInstanceAs (Decidable (_\/_))
theorem wM(n:Nat)(v:Val):je v (n:Int)=0↔j3 n v:=by
  obtain⟨k,m⟩:=v;simp only[je,j3,de,dt,decide_eq_true_eq];constructor
  · intro h
    (repeat' split at h)<;>first|omega|(exfalso;omega)
  · intro h;rcases h with⟨h1,h2⟩|⟨h1,h2⟩|⟨h1,h2⟩
    · rw[if_pos h1,if_neg V]
    · rw[if_neg V,if_pos h1,if_neg V]
    · rw[if_neg V,if_neg V,if_pos h1,if_neg V]
theorem value_eq(v:Val)(n:Int):gL v n=je v n:=by
 obtain⟨k,m⟩:=v;simp only[je,gL,uy,bz,jR,bF,de,dt,cN,gn,decide_eq_true_eq,decide_eq_false_iff_not,cE]
 (repeat' split)<;>first|rfl|(exfalso;omega)
def vL(l:List (List Val)):Prop:=l.length<=24/\∀c∈l,(1<=c.length/\c.length<=4)/\∀v∈c,j3 l.length v
theorem cells_eq(a:List (List Val)):rf a=mr a:=by
 unfold rf mr;have k1:∀(l:List Val) (f:Unit->Int),each (oh a) (om f) l ()=each (mh a) (kN f) l ():=by
  intro l f;induction l with
  |nil=>rfl
  |cons x l ih=>
   show(bif ab ((gL x (a.length:Int):Int)≠0)then gL x (a.length:Int)else each (oh a) (om f) l ())=(bif ab ((je x (a.length:Int):Int)≠0)then je x (a.length:Int)else each (mh a) (kN f) l ());rw[value_eq,ih]
 have k2:∀l:List (List Val),each (oo a) oq l ()=each (og a) mi l ():=by
  intro l;induction l with
  |nil=>rfl
  |cons x l ih=>
   show(bif (!(bz (x.length:Int) 1 4))then 2 else each (oh a) (om<|each (oo a) oq l) x ())=(bif (ab (((x.length:Int):Int)=0)||ab ((4:Int)<(x.length:Int)))then 2 else each (mh a) (kN<|each (og a) mi l) x ());have e:(!(bz (x.length:Int) 1 4))=(ab (((x.length:Int):Int)=0)||ab ((4:Int)<(x.length:Int))):=by
    unfold bz;rw[ez];simp only[dt,gn,cE,decide_eq_true_eq,decide_eq_false_iff_not];omega
   rw[e,k1];have:each (oo a) oq l=each (og a) mi l:=by funext u;exact ih
   rw[this]
 rw[k2]
theorem all_ok(a:List (List Val)):mr a=0↔vL a:=by
  have k1:∀(l:List Val) (f:Unit->Int),each (mh a) (kN f) l ()=0↔(∀v∈l,j3 a.length v)/\f ()=0:=by
    intro l f;induction l with
    |nil=>simp[qN,kN]
    |cons x l ih=>
      show(bif ab ((je x (a.length:Int):Int)≠0)then je x (a.length:Int)else each (mh a) (kN f) l ())=0↔_;by_cases h:je x (a.length:Int)=0
      · rw[dF V,cond_false,ih];have:=(wM _ _).1 h;simp[this]
      · rw[dT h,cond_true];have b:¬j3 a.length x:=fun e=>h ((wM _ _).2 e);simp[h,b]
  have k2:∀l:List (List Val),each (og a) mi l ()=0↔∀c∈l,(1<=c.length/\c.length<=4)/\∀v∈c,j3 a.length v:=by
    intro l;induction l with
    |nil=>simp[qN,mi]
    |cons x l ih=>
      show(bif (ab (((x.length:Int):Int)=0)||ab ((4:Int)<(x.length:Int)))then 2 else each (mh a) (kN<|each (og a) mi l) x ())=0↔_;by_cases h:1<=x.length/\x.length<=4
      · rw[show(ab (((x.length:Int):Int)=0)||ab ((4:Int)<(x.length:Int)))=aq by simp only[cP,decide_eq_false_iff_not];omega,cond_false,k1,ih];simp[h]
      · rw[show(ab (((x.length:Int):Int)=0)||ab ((4:Int)<(x.length:Int)))=ba by simp only[dt,decide_eq_true_eq];omega,cond_true];simp[h]
  unfold mr vL;by_cases h:a.length<=24
  · rw[dF V,cond_false,k2];simp[h]
  · rw[dT V,cond_true];simp[h]
structure Km(a:List bu)(n:Nat)(f:LX.Frame)(x:bu):Prop where
 proc:idx a f.proc=aj x
 at_:0<=f.at_/\f.at_<x.code.length
 regs:(f.regs.length:Int)=x.regs
 vals:∀v∈f.regs,j3 n v
def ni(a:List bu)(n:Nat):Int->List LX.Frame->Prop
 |_,[]=>True
 |ahead,f::l=>(∃x,Km a n f x)/\(0<=f.jy/\f.jy<ahead)/\ni a n f.regs.length l
structure vz(a:List bu)(s:LX.State):Prop where
 status:0<=s.status/\s.status<=3
 bM: -1000000000<=s.bM/\s.bM<=1000000000
 stay:s.status≠3->s.bM=0
 ended:s.status=1↔s.frames=[]
 many:s.frames.length<=10
 cells:vL s.cells
 frames:ni a s.cells.length 1 s.frames
def ahead(pre:List LX.Frame):Int:=match pre.getLast? with|none=>1|some f=>f.regs.length
theorem ahead_nil:ahead []=1:=rfl
theorem R5(pre:List LX.Frame)(f:LX.Frame):ahead (pre++[f])=f.regs.length:=by simp[ahead]
theorem Wv(b:LX.State)(f:LX.Frame)(c:Unit->Option Int)(a:Int->Option Int)(hn:c ()=a f.regs.length):∀l:List Val,each (xB b) (xC c) l ()=each (sU b) (sV a f) l ()
 |[]=>hn
 |x::l=>by
  show(bif ab ((je x (b.cells.length:Int):Int)≠0)then aj (je x (b.cells.length:Int))else each (xB b) (xC c) l ())=(bif ab ((gL x (b.cells.length:Int):Int)≠0)then aj (gL x (b.cells.length:Int))else each (sU b) (sV a f) l ());rw[value_eq,Wv b f c a hn l]
theorem vals_tot(b:LX.State)(a:Unit->Option Int)(Q:Prop)(hn:∃y,a ()=aj y/\(y=0↔Q)):∀l:List Val,∃y,each (xB b) (xC a) l ()=aj y/\(y=0↔(∀v∈l,j3 b.cells.length v)/\Q)
  |[]=>by obtain⟨y,c,d⟩:=hn;exact⟨y,c,by simp[d]⟩
  |x::l=>by
    obtain⟨y,c,d⟩:=vals_tot b a Q hn l;have e:each (xB b) (xC a) (x::l) ()=(bif ab ((je x (b.cells.length:Int):Int)≠0)then aj (je x (b.cells.length:Int))else each (xB b) (xC a) l ()):=rfl;rw[e];by_cases h:je x (b.cells.length:Int)=0
    · rw[dF V,cond_false];have:=(wM _ _).1 h;exact⟨y,c,by rw[d];simp[this]⟩
    · rw[dT h,cond_true];refine⟨_,Z,?_⟩;have f:¬j3 b.cells.length x:=fun e=>h ((wM _ _).2 e);simp[h,f]
theorem Xj(a:List bu)(b:LX.State)(k:b.frames.length<=10):∀(l pre:List LX.Frame),b.frames=pre++l->
    gW (Dn a b) GN (pre.length:Int) l ()=each (iV a b) lJ l (ahead pre)
  |[],pre,h=>rfl
  |f::l,pre,h=>by
    have e:=Xj a b k l (pre++[f]) (by simpa using h);rw[R5]at e;have o:(((pre++[f]).length:Nat):Int)=(pre.length:Int)+1:=by simp
    rw[o]at e;rw[yK,gD];generalize gW (Dn a b) GN ((pre.length:Int)+1) l=K1 at e⊢;generalize each (iV a b) lJ l=K2 at e⊢;unfold Dn iV;have n:pre.length<=10:=by have:=congrArg fb h;simp at this;omega
    have m:(ab ((f.proc:Int)<0)||ab (((a.length:Int):Int)<=f.proc))= !bF f.proc (a.length:Int):=TQ _ _;rw[m];cases hp:bF f.proc (a.length:Int)with
    |false=>rfl
    |true=>
      simp only[dI,cond_false];cases hx:idx a f.proc with
      |none=>rfl
      |some x=>
        simp only[bnd];cases ha:bF f.at_ (x.code.length:Int)with
        |false=>
          rw[show(((ab ((f.at_:Int)<0)||ab (((x.code.length:Int):Int)<=f.at_))||ab ((f.jy:Int)<0))||(ab ((pre.length:Int)=0)&&ab ((f.jy:Int)≠0)))=ba by
            have:=TQ f.at_ (x.code.length:Int);rw[ha]at this;rw[this];rfl]
          rfl
        |true=>
          have j:=TQ f.at_ (x.code.length:Int);rw[ha]at j;rw[j];simp only[dI,oB,cond_false];have i:∀t,Ab f x b K1 t=jV a f b K2 t:=by
            intro t;unfold Ab jV;rw[hx,bnd,Wv b f _ _ e]
          simp only[i];rcases gh pre with rfl|⟨q,g,rfl⟩
          · rw[ahead_nil];by_cases c:f.jy=0
            · rw[show(ab ((f.jy:Int)<0)||(ab ((([]:List LX.Frame).length:Int)=0)&&ab ((f.jy:Int)≠0)))=aq by simp[c],cond_false,dF zq3,cond_false,show(!bF f.jy 1)=aq by simp[c,bF]]
            · rw[show(ab ((f.jy:Int)<0)||(ab ((([]:List LX.Frame).length:Int)=0)&&ab ((f.jy:Int)≠0)))=ba by simp[c],cond_true,show(!bF f.jy 1)=ba by simp[bF];omega]
          · rw[gi]at*;rw[R5];have d:((q++[g]).length:Int)=(q.length:Int)+1:=by simp
            rw[d,show(ab ((q.length:Int)+1=0))=aq from dF V,Bool.false_and,Bool.or_false];by_cases c:f.jy<0
            · rw[dT c,cond_true,show(!bF f.jy (g.regs.length:Int))=ba by simp[bF];omega]
            · rw[dF c,cond_false,dT V,cond_true,gI V (by simp at n;omega),show(q.length:Int)+1-1=((q.length:Nat):Int) by omega,kL,h];simp only[cf,gA (bt _),Nat.sub_self,ew,cF,kO,bnd];congr 1;rw[ez];simp[bF];omega
theorem ZO(a:List bu)(b:LX.State):Im a b=xG a b:=by
  unfold Im xG;have d:(((ab ((b.status:Int)<0)||ab ((3:Int)<b.status))||ab ((b.bM:Int)< -1000000000))||ab ((1000000000:Int)<b.bM))=((!(bz b.status 0 3))||(!(jR b.bM))):=by
    unfold jR bz;rw[ez];simp only[dt,gn,cE,decide_eq_true_eq,decide_eq_false_iff_not];omega
  have f:((ab ((b.status:Int)≠3)&&ab ((b.bM:Int)≠0))||(ab ((b.status:Int)=1) !=ab (((b.frames.length:Int):Int)=0)))=(((ab ((b.bM:Int)≠0)&&ab ((b.status:Int)≠3))||(ab ((b.status:Int)=1)&&ab ((0:Int)<(b.frames.length:Int))))||(ab ((b.status:Int)≠1)&&ab (((b.frames.length:Int):Int)=0))):=by
    by_cases i:b.status=1<;>by_cases g:b.frames.length=0<;>by_cases e:b.status=3<;>by_cases c:b.bM=0<;>simp[i,g,e,c]<;>omega
  rw[d,f,cells_eq];by_cases h:b.frames.length<=10
  · have:=Xj a b h b.frames [] Z;rw[ahead_nil]at this;rw[<-this];rfl
  · rw[show(ab ((10:Int)<(b.frames.length:Int)))=ba from dT V];rfl
theorem ZP(a:List bu)(b:LX.State):∀(l:List LX.Frame) (t:Int),∃y,each (iV a b) lJ l t=aj y/\(y=0↔ni a b.cells.length t l)
  |[],t=>⟨0,rfl,by simp[ni]⟩
  |f::l,t=>by
    obtain⟨y,e,m⟩:=ZP a b l f.regs.length;rw[gD];generalize each (iV a b) lJ l=K2 at e⊢;unfold iV;cases hp:bF f.proc (a.length:Int)with
    |false=>
      refine⟨5,Z,?_⟩;have:¬ni a b.cells.length t (f::l):=by
        rintro⟨⟨x,g⟩,-,-⟩;have:=aF g.proc;have j:=(kn.1 this.2).1;unfold bF at hp;simp only[cE,decide_eq_false_iff_not]at hp;omega
      simp[this]
    |true=>
      unfold bF at hp;simp only[cN,decide_eq_true_eq]at hp;simp only[dI,cond_false];obtain⟨n,hn⟩:=bs hp.1;have d:idx a f.proc=aj (a[n]'V):=by rw[hn,xg V]
      generalize a[n]'V=x at d;rw[d,bnd];have kB:∃y,jV a f b K2 ba=aj y/\y≠0:=⟨3,Z,by decide⟩;have c:∀z,Km a b.cells.length f z->z=x:=fun z g=>by have:=g.proc;rw[d]at this;exact(osi this).symm
      cases ha:bF f.at_ (x.code.length:Int)with
      |false=>
        obtain⟨y,g1,g2⟩:=kB;refine⟨y,g1,?_⟩;have:¬ni a b.cells.length t (f::l):=by
          rintro⟨⟨z,g⟩,-,-⟩;have:=c z g;subst this;have:=g.at_;unfold bF at ha;simp only[cE,decide_eq_false_iff_not]at ha;omega
        simp[this,g2]
      |true=>
        simp only[dI,cond_false];cases ht:bF f.jy t with
        |false=>
          obtain⟨y,g1,g2⟩:=kB;refine⟨y,g1,?_⟩;have:¬ni a b.cells.length t (f::l):=by
            rintro⟨⟨z,g⟩,j,-⟩;unfold bF at ht;simp only[cE,decide_eq_false_iff_not]at ht;omega
          simp[this,g2]
        |true=>
          simp only[dI];unfold jV;rw[d,cond_false,bnd];unfold bF at ha ht;simp only[cN,decide_eq_true_eq]at ha ht;by_cases i:(f.regs.length:Int)=x.regs
          · rw[dF V,cond_false,<-Wv b f (fun _=>K2 f.regs.length) _ rfl];obtain⟨z,g1,g2⟩:=vals_tot b (fun _=>K2 f.regs.length) _ ⟨y,e,m⟩ f.regs;refine⟨z,g1,g2.trans ⟨fun h=>⟨⟨x,d,ha,i,h.1⟩,ht,h.2⟩,?_⟩⟩;rintro⟨⟨z,g⟩,j,k⟩;exact⟨g.vals,k⟩
          · rw[dT V,cond_true];refine⟨4,Z,?_⟩;have:¬ni a b.cells.length t (f::l):=by
              rintro⟨⟨z,g⟩,-,-⟩;have:=c z g;subst this;exact i g.regs
            simp[this]
theorem ZQ(a:List bu)(b:LX.State):∃y,Im a b=aj y/\(y=0↔vz a b):=by
  rw[ZO];unfold xG;cases c1:((!(bz b.status 0 3))||(!(jR b.bM)))with
  |true=>
    refine⟨3,Z,⟨fun h=>absurd h zq1,fun h=>?_⟩⟩;unfold jR bz at c1;simp only[dt,gn,cE,decide_eq_false_iff_not]at c1;have:=h.status;have:=h.bM;omega
  |false=>
    unfold jR bz at c1;simp only[cP,Bool.not_eq_false',cN,decide_eq_true_eq]at c1;rw[cond_false];cases c2:(((ab ((b.bM:Int)≠0)&&ab ((b.status:Int)≠3))||(ab ((b.status:Int)=1)&&ab ((0:Int)<(b.frames.length:Int))))||(ab ((b.status:Int)≠1)&&ab (((b.frames.length:Int):Int)=0)))with
    |true=>
      refine⟨4,Z,⟨fun h=>absurd h zq1,fun h=>?_⟩⟩;simp only[dt,cN,decide_eq_true_eq]at c2;rcases c2 with(c2|c2)|c2
      · exact absurd (h.stay c2.2) c2.1
      · have:=h.ended.1 c2.1;rw[this]at c2;simp at c2
      · exact absurd (h.ended.2<|cl V) c2.1
    |false=>
      simp only[cP,cE,decide_eq_false_iff_not]at c2;rw[cond_false];by_cases e:b.frames.length<=10
      · rw[dF V,cond_false,cells_eq];by_cases c:mr b.cells=0
        · rw[dF V,cond_false];obtain⟨y,g,f⟩:=ZP a b b.frames 1;refine⟨y,g,f.trans ⟨fun h=>⟨by omega,by omega,fun d=>by omega,⟨fun d=>?_,fun d=>?_⟩,e,(all_ok _).1 c,h⟩,fun h=>h.frames⟩⟩
          · exact cl V
          · rw[d]at c2;simp at c2;omega
        · rw[dT c,cond_true];exact⟨_,Z,⟨fun h=>absurd h c,fun h=>absurd ((all_ok _).2 h.cells) c⟩⟩
      · rw[dT V,cond_true];exact⟨2,Z,⟨fun h=>absurd h zq1,fun h=>absurd h.many e⟩⟩
def ckS(a:List bu)(s:LX.State):Int:=(Im a s).getD 0
theorem ckS_eq(a:List bu)(s:LX.State):Im a s=aj (ckS a s):=by obtain⟨y,h,-⟩:=ZQ a s;unfold ckS;rw[h];rfl
theorem EP{a:List bu}{s:LX.State}:ckS a s=0↔vz a s:=by obtain⟨y,h,b⟩:=ZQ a s;unfold ckS;rw[h];exact b
theorem JU(a:List bu)(s:LX.State):FL a s=aj (if Jc a≠0 then Jc a else ckS a s):=by
  unfold FL;rw[Wt,bnd];by_cases h:Jc a=0
  · rw[dF V,cond_false,ckS_eq,bnd,if_neg V]
  · rw[dT h,cond_true,if_pos h]
theorem eqVals(a b:List Val):pJ a b=aj (ab (a=b)):=by
  unfold pJ;by_cases h:a.length=b.length
  · rw[dF V];simp only[cond_false,bj];rw[Uz (fun x y=>ab (x=y)) a b h rfl (fun i x y j c g=>by
      unfold yt;rw[kL,kL,c,g];obtain⟨k,n⟩:=x;obtain⟨k2,d⟩:=y;by_cases e:k=k2<;>by_cases f:n=d<;>simp[e,f]),Me (fun _ _=>rfl)]
  · rw[dT V];have:a≠b:=fun e=>h (by rw[e]);rw[dF this];rfl
theorem eqCells(a b:List (List Val)):PH a b=aj (ab (a=b)):=by
  unfold PH;by_cases h:a.length=b.length
  · rw[dF V,cond_false,QK (fun x y=>ab (x=y)) a b h rfl (fun i x y d c=>by
      unfold MO;rw[kL,c,bnd,eqVals,bnd];by_cases e:x=y<;>simp[e]),Me (fun _ _=>rfl)]
  · rw[dT V];have:a≠b:=fun e=>h (by rw[e]);rw[dF this];rfl
theorem fr_eq(x y:LX.Frame)(a:Unit->Option Bool):(bif ((ab ((x.proc:Int)=y.proc)&&ab ((x.at_:Int)=y.at_))&&ab ((x.jy:Int)=y.jy))then(pJ x.regs y.regs).bind fun b=>BZ a (!b)else BZ a ba)=bif ab (x=y)then a ()else aj false:=by
 obtain⟨p,t,r,o⟩:=x;obtain⟨e,c,i,o2⟩:=y;simp only[eqVals,bnd,BZ];by_cases d:p=e<;>by_cases g:t=c<;>by_cases f:r=i<;>by_cases h:o=o2<;>simp[d,g,f,h]
theorem st_eq(a b:LX.State):ab (a=b)=((ab (a.status=b.status)&&ab (a.bM=b.bM))&&(ab (a.cells=b.cells)&&ab (a.frames=b.frames))):=by
 obtain⟨f,c,s,w⟩:=a;obtain⟨d,c2,e,g⟩:=b;rw[ez];simp;constructor<;>(intro h;simp[h])
theorem eqState(a b:LX.State):Tp a b=aj (ab (a=b)):=by
  rw[st_eq];unfold Tp;cases (ab ((a.status:Int)=b.status)&&ab ((a.bM:Int)=b.bM))with
  |false=>rfl
  |true=>
    rw[cond_true,eqCells,bnd];cases ab (a.cells=b.cells)with
    |false=>rfl
    |true=>
      rw[cond_true];by_cases h:a.frames.length=b.frames.length
      · rw[dF V,cond_false,QK (fun x y=>ab (x=y)) a.frames b.frames h rfl (fun i x y c d=>by
          unfold Ot;rw[kL,d,bnd];exact fr_eq x y c),Me (fun _ _=>rfl)];rfl
      · rw[dT V];have:a.frames≠b.frames:=fun e=>h (by rw[e]);rw[dF this];rfl
structure Small(s:LX.State):Prop where
 frames:s.frames.length<=10
 regs:∀f∈s.frames,f.regs.length<=40
 cells:s.cells.length<=24
 fields:∀c∈s.cells,c.length<=4
theorem Ah{a:List bu}{n:Nat}:∀{l:List LX.Frame} {t:Int},ni a n t l->∀f∈l,∃x,Km a n f x
  |[],_,_,f,hf=>by cases hf
  |g::l,t,h,f,hf=>by
    rcases bn.1 hf with rfl|hf
    · exact h.1
    · exact Ah h.2.2 f hf
theorem mF.mem{a:List bu}(h:mF a){k:Int}{x:bu}(c:idx a k=aj x):x∈a/\(0<=x.params/\x.params<=3)/\(1<=x.regs/\x.params<=x.regs/\x.regs<=40)/\tN x:=by
 have b:=(aF c).2;have:=h.head _ x b;exact⟨fp b,this.1,this.2.1,this.2.2.2⟩
theorem vz.small{a:List bu}{s:LX.State}(h:vz a s)(ha:mF a):Small s where
 frames:=h.many
 regs f hf:=by
  obtain⟨x,g⟩:=Ah h.frames f hf;have:=(ha.mem g.proc).2.2.1;have:=g.regs;omega
 cells:=h.cells.1
 fields c hc:=(h.cells.2 c hc).1.2
theorem TR{α:Type}{b:Nat}{a:List α}(h:a.length<=400)(c:b<=48):clone b a=aj a:=by
 have:a.length*b<=400*48:=ov h c;unfold clone;exact jN ⟨by simp;omega,by simp;omega⟩
theorem Ww{ρ:Type}{body:Int->Unit->(Unit->ρ)->ρ}{k:Unit->ρ}:∀(m:Nat) (i:Nat),(∀j:Nat,i<=j->j<i+m->∀a,body (j:Int) () a=a ())->upto body k (i:Int) m ()=k ()
 |0,i,_=>rfl
 |m+1,i,h=>by
  rw[Wu,h i (bt _) V,show((i:Int)+1)=((i+1:Nat):Int) by omega];exact Ww m (i+1) fun j c b=>h j V V
theorem cellCopy_eq{l:List (List Val)}(h:l.length<=24)(a:∀c∈l,c.length<=4):PD l=aj l:=by
 unfold PD;rw[TR V zq1,bnd,bj];exact Ww (k:=MJ l) l.length 0 (fun j e d b=>by
  unfold MI;rw[xg V,bnd,TR (by have:=a _ (cx (by omega:j<l.length));omega) zq1,bnd])
theorem copy_eq{s:LX.State}(h:Small s):MK s=aj s:=by
 unfold MK;rw[TR (by have:=h.frames;omega) zq1,bnd,cellCopy_eq h.cells h.fields,bnd];unfold Ra;rw[bj];exact Ww (k:=Q9 s s.cells) s.frames.length 0 (fun j c b a=>by
  unfold Q8;rw[xg V,bnd,TR (by have:=h.regs _ (cx (by omega:j<s.frames.length));omega) zq1,bnd])
theorem room_le{α:Type}{a:Nat}{l m:List α}(h:l.length+m.length<=100000)(b:a<=48):Room a l m:=by
 have:(l.length+m.length)*a<=100000*48:=ov h b;exact⟨by omega,by omega⟩
def TS(l:List Int)(v:Val):List Int:=if v.kind=2/\v.n∉l then l++[v.n]else l
def TT(l:List Int)(vs:List Val):List Int:=vs.foldl TS l
def cellAt(cells:List (List Val))(k:Int):List Val:=(idx cells k).getD []
def bfs(cells:List (List Val)):Nat->Nat->List Int->List Int
 |0,_,l=>l
 |m+1,k,l=>if h:k<l.length then bfs cells m (k+1) (TT l (cellAt cells l[k]))else l
def OZ(cells:List (List Val))(vs:List Val):List Int:=bfs cells 25 0 (TT [] vs)
theorem PZ(l:List Int)(v:Val)(vs:List Val):TT l (v::vs)=TT (TS l v) vs:=rfl
theorem metV_pre(l:List Int)(v:Val):l<+:TS l v:=by
  unfold TS;split
  · exact eE _ _
  · exact cr _
theorem O0:∀(vs:List Val) (l:List Int),l<+:TT l vs
 |[],l=>cr _
 |v::vs,l=>(metV_pre l v).trans (O0 vs _)
theorem bfs_pre(cells:List (List Val)):∀(m k:Nat) (l:List Int),l<+:bfs cells m k l
  |0,_,l=>cr _
  |m+1,k,l=>by
    unfold bfs;split
    · exact(O0 _ _).trans<|bfs_pre cells m _ _
    · exact cr _
theorem nodup_len:∀(n:Nat) (l:List Int),l.Nodup->(∀x∈l,0<=x/\x<n)->l.length<=n
  |0,l,_,h=>by
    cases l with
    |nil=>simp
    |cons x l=>have:=h x zq3;omega
  |n+1,l,hn,h=>by
    have e:=nodup_len n (l.erase (n:Int)) (hn.erase _) (fun x b=>by
      have a:=(hn.mem_erase_iff).1 b;have:=h x a.2;have d:=a.1;constructor
      · omega
      · push_cast at this;omega)
    have c:l.length<=(l.erase (n:Int)).length+1:=by rw[List.length_erase];split<;>omega
    omega
def yF(n:Nat)(l:List Int):Prop:=l.Nodup/\∀x∈l,0<=x/\x<n
theorem yF.len{n:Nat}{l:List Int}(h:yF n l):l.length<=n:=nodup_len n l h.1 h.2
theorem yF.nil{n:Nat}:yF n []:=⟨List.nodup_nil,fun x a=>by cases a⟩
theorem j3.ref{n:Nat}{v:Val}(h:j3 n v)(a:v.kind=2):0<=v.n/\v.n<n:=by unfold j3 at h;omega
theorem yF.v{n:Nat}{l:List Int}(h:yF n l){v:Val}(i:j3 n v):yF n (TS l v):=by
  unfold TS;split
  · rename_i d;refine⟨ri.2 ⟨h.1,by simp,fun a g b f=>?_⟩,fun x c=>?_⟩
    · simp at f;subst f;intro e;subst e;exact d.2 g
    · rcases cV.1 c with c|c
      · exact h.2 x c
      · simp at c;subst c;exact i.ref d.1
  · exact h
theorem yF.l{n:Nat}:∀{vs:List Val} {l:List Int},yF n l->(∀v∈vs,j3 n v)->yF n (TT l vs)
 |[],l,h,_=>h
 |v::vs,l,h,hv=>yF.l (vs:=vs) (l:=TS l v) (h.v (hv v zq3)) (fun w a=>hv w (bk _ a))
theorem M4{cells:List (List Val)}{k:Int}(h:0<=k/\k<cells.length):idx cells k=aj (cellAt cells k)/\cellAt cells k∈cells:=by
 obtain⟨n,rfl⟩:=bs h.1;unfold cellAt;rw[xg V];exact⟨Z,cx _⟩
theorem vL.at{cells:List (List Val)}(h:vL cells){k:Int}(a:0<=k/\k<cells.length):(1<=(cellAt cells k).length/\(cellAt cells k).length<=4)/\∀v∈cellAt cells k,j3 cells.length v:=h.2 _ (M4 a).2
theorem yF.bfs{cells:List (List Val)}(a:vL cells):∀{m k:Nat} {l:List Int},yF cells.length l->yF cells.length (bfs cells m k l)
  |0,_,l,h=>h
  |m+1,k,l,h=>by
    unfold Proofs.YtodkbibbgakkdaaGreatDoor.bfs;split
    · rename_i b;exact yF.bfs a<|h.l (a.at<|h.2 _<|cx b).2
    · exact h
def jX(vs:List Val)(l:List Int):Prop:=∀v∈vs,v.kind=2->v.n∈l
theorem jX.pre{vs:List Val}{l m:List Int}(h:jX vs l)(hp:l<+:m):jX vs m:=fun v b a=>hp.subset (h v b a)
theorem metV_in(l:List Int)(v:Val)(b:v.kind=2):v.n∈TS l v:=by
  unfold TS;split
  · simp
  · rename_i a;exact ef.1 fun h=>a ⟨b,h⟩
theorem metL_in:∀(vs:List Val) (l:List Int),jX vs (TT l vs)
  |[],l,v,hv,_=>by cases hv
  |w::vs,l,v,hv,hk=>by
    rw[PZ];rcases bn.1 hv with rfl|hv
    · exact(O0 vs _).subset<|metV_in l v hk
    · exact metL_in vs _ v hv hk
theorem bfs_in{cells:List (List Val)}(d:vL cells):∀{m k:Nat} {l:List Int},yF cells.length l->cells.length<k+m->(∀j (b:j<l.length),j<k->jX (cellAt cells l[j]) l)->∀x∈bfs cells m k l,jX (cellAt cells x) (bfs cells m k l)
  |0,k,l,h,hm,b,x,hx=>by
    have:=h.len;obtain⟨j,a,rfl⟩:=pP hx;exact b j a (by have g:j<l.length:=a;omega)
  |m+1,k,l,h,hm,b,x,hx=>by
    unfold Proofs.YtodkbibbgakkdaaGreatDoor.bfs at hx⊢;split at hx
    · rename_i c;rw[dif_pos c];have n:=(d.at<|h.2 _<|cx c).2;have hp:=O0 (cellAt cells l[k]) l;refine bfs_in d (h.l n) V (fun j a o=>?_) x hx;by_cases e:j<l.length
      · have i:(TT l<|cellAt cells l[k])[j]=l[j]:=(hp.getElem e).symm;rw[i];by_cases f:j<k
        · exact(b j e f).pre hp
        · have:j=k:=by omega
          subst this;exact metL_in _ _
      · omega
    · rename_i c;rw[dif_neg c];obtain⟨j,a,rfl⟩:=pP hx;exact b j a V
theorem reach_ok{cells:List (List Val)}(a:vL cells){vs:List Val}(d:∀v∈vs,j3 cells.length v):yF cells.length (OZ cells vs)/\jX vs (OZ cells vs)/\∀x∈OZ cells vs,jX (cellAt cells x) (OZ cells vs):=by
 have b:yF cells.length (TT [] vs):=yF.nil.l d;refine⟨yF.bfs a b,(metL_in vs []).pre (bfs_pre _ _ _ _),bfs_in a b (by have:=a.1;omega) (fun j e c=>absurd c (eN _))⟩
theorem P5{α:Type}(k a:Int)(v:α):∀l:List (Int×α),lk k (yG a v l)=if k=a then aj v else lk k l
  |[]=>by unfold yG lk;by_cases h:k=a<;>simp[h,lk]
  |p::l=>by
    unfold yG;by_cases h:a=p.1
    · rw[if_pos h];show(if k=p.1 then aj v else lk k l)=if k=a then aj v else(if k=p.1 then aj p.2 else lk k l)
      by_cases e:k=p.1
      · rw[if_pos e,if_pos V]
      · rw[if_neg e,if_neg V,if_neg e]
    · rw[if_neg h];show(if k=p.1 then aj p.2 else lk k (yG a v l))=if k=a then aj v else(if k=p.1 then aj p.2 else lk k l)
      by_cases e:k=p.1
      · rw[if_pos e,if_pos e,if_neg V]
      · rw[if_neg e,if_neg e,P5 k a v l]
def Seen(l:List Int)(m:List (Int×Bool)):Prop:=∀k,(lk k m).getD aq=ab (k∈l)
theorem Seen.nil:Seen [] []:=fun k=>rfl
theorem Seen.put{l:List Int}{m:List (Int×Bool)}(h:Seen l m)(n:Int):Seen (l++[n]) (yG n ba m):=by
  intro k;rw[P5];by_cases e:k=n
  · simp[e]
  · rw[if_neg e,h k,ez];simp[e]
theorem TU{ρ:Type}{body:Val->List Int×List (Int×Bool)->(List Int×List (Int×Bool)->Option ρ)->Option ρ}{K:List Int×List (Int×Bool)->Option ρ}
    (c:∀x l m b,l.length<=1000->body x (l,m) b=bif (ab (x.kind=2)&&(!((lk x.n m).getD aq)))then b (l++[x.n],yG x.n ba m)else b (l,m)):
    ∀(vs:List Val) (l:List Int) (m:List (Int×Bool)),Seen l m->l.length+vs.length<=1000->∃d,Seen (TT l vs) d/\each body K vs (l,m)=K (TT l vs,d)
  |[],l,m,h,_=>⟨m,h,rfl⟩
  |v::vs,l,m,h,hl=>by
    simp only[bq]at hl;rw[gD,c v l m _ V,h v.n,PZ];unfold TS;by_cases a:v.kind=2/\v.n∉l
    · rw[if_pos a,dT a.1,dF a.2,mL,ir,cond_true];exact TU c vs _ _ (h.put v.n) (by simp;omega)
    · rw[if_neg a,show(ab (v.kind=2)&& !decide (v.n∈l))=aq by rw[cE];simp;simp only[not_and,ef]at a;by_cases e:v.kind=2<;>simp[e,a],cond_false];exact TU c vs _ _ h V
theorem bfs_loop{cells:List (List Val)}(d:vL cells):∀(m N k:Nat) (l:List Int) (s:List (Int×Bool)),yF cells.length l->Seen l s->cells.length<k+m->m<N->k<=l.length->again (sN cells) N ((k:Int),l,s)=aj (bfs cells m k l,0)
  |m,0,k,l,s,h,hs,hm,hN,hk=>by omega
  |0,N+1,k,l,s,h,hs,hm,hN,hk=>by have:=h.len;omega
  |m+1,N+1,k,l,s,h,hs,hm,hN,hk=>by
    rw[DV];unfold sN Proofs.YtodkbibbgakkdaaGreatDoor.bfs;simp only;have q:=h.len;have hn:=d.1;by_cases a:k<l.length
    · rw[dT V,cond_true,xg a,bnd,dif_pos a];have g:=h.2 _<|cx a;have i:=d.at g;rw[(M4 g).1,bnd];have j:(fun(s:Int×List Int×List (Int×Bool))(c:Int×List Int×List (Int×Bool)->Option (List Int×Int))=>match s with|(b,JE,He)=>bif ab ((b:Int)<(JE.length:Int))then(idx JE b).bind fun e=>(idx cells e).bind fun f=>each zt (zu b c) f (JE,He)else aj (JE,0))=sN cells:=rfl;rw[j];obtain⟨r,p,o⟩:=TU (body:=zt) (K:=zu (k:Int) (again (sN cells) N)) (fun x l m t q=>by
        unfold zt;simp only[Dq];cases (ab (x.kind=2)&&(!((lk x.n m).getD aq)))with
        |false=>rfl
        |true=>rw[cond_true,cond_true,jN (room_le (by simp;omega) zq1)]) (cellAt cells l[k]) l s hs (by have:=i.1.2;omega)
      rw[o];unfold zu;simp only;rw[gI V V];have hp:=(O0 (cellAt cells l[k]) l).length_le;exact bfs_loop d m N (k+1) _ r (h.l i.2) p V V V
    · rw[dF V,cond_false,dif_neg a]
theorem reach_eq{N:Nat}(hN:100<=N){cells:List (List Val)}(b:vL cells){vs:List Val}(a:∀v∈vs,j3 cells.length v)(e:vs.length<=400):MH N cells vs=aj (OZ cells vs,0):=by
 unfold MH;rw[(all_ok cells).2 b,dF zq3,cond_false,dF V,cond_false];have k1:∀l:List Val,(∀v∈l,j3 cells.length v)->each (Dt cells) (zw N cells vs) l ()=zw N cells vs ():=by
  intro l;induction l with
  |nil=>intro _;rfl
  |cons x l ih=>
   intro h;rw[gD];unfold Dt;rw[(wM _ _).2 (h x zq3),dF zq3,cond_false];exact ih fun v a=>h v<|bk _ a
 rw[k1 vs a];unfold zw;obtain⟨f,d,c⟩:=TU (body:=Dr) (K:=Io N cells) (fun x l m g e=>by
  unfold Dr;simp only[Dp];cases (ab (x.kind=2)&&(!((lk x.n m).getD aq)))with
  |false=>rfl
  |true=>rw[cond_true,cond_true,jN (room_le (by simp;omega) zq1)]) vs [] [] Seen.nil (by simp;omega)
 rw[c];exact bfs_loop b 25 N 0 _ f (yF.nil.l a) d (by have:=b.1;omega) V V
def ren(l:List Int)(v:Val):Val:=if v.kind=2 then⟨v.kind,(l.idxOf v.n:Nat)⟩else v
def Kn(l:List Int)(f:LX.Frame):LX.Frame:={f with regs:=f.regs.map (ren l)}
def roots(fr:List LX.Frame):List Val:=fr.flatMap (·.regs)
def fD(s:LX.State):List Int:=OZ s.cells (roots s.frames)
def dM(s:LX.State):LX.State:=⟨s.frames.map (Kn (fD s)),(fD s).map (fun k=>(cellAt s.cells k).map (ren (fD s))),s.status,s.bM⟩
structure O3(s:LX.State):Prop where
 small:Small s
 cells:vL s.cells
 vals:∀f∈s.frames,∀v∈f.regs,j3 s.cells.length v
theorem vz.sw{a:List bu}{s:LX.State}(h:vz a s)(ha:mF a):O3 s where
 small:=h.small ha
 cells:=h.cells
 vals f hf:=by obtain⟨x,g⟩:=Ah h.frames f hf;exact g.vals
theorem O3.roots{s:LX.State}(h:O3 s):∀v∈roots s.frames,j3 s.cells.length v:=by
 intro v a;unfold YtodkbibbgakkdaaGreatDoor.roots at a;obtain⟨f,b,a⟩:=lp.1 a;exact h.vals f b v a
theorem roots_len(fr:List LX.Frame)(h:∀f∈fr,f.regs.length<=40):(roots fr).length<=40*fr.length:=by
 induction fr with
 |nil=>simp[roots]
 |cons f l ih=>
  have:=h f zq3;have:=ih fun g a=>h g<|bk _ a;unfold roots at*;rw[eL,bc,bq];omega
theorem O3.rlen{s:LX.State}(h:O3 s):(YtodkbibbgakkdaaGreatDoor.roots s.frames).length<=400:=by
 have:=roots_len s.frames h.small.regs;have:=h.small.frames;omega
theorem O3.reach{s:LX.State}(h:O3 s):yF s.cells.length (fD s)/\jX (YtodkbibbgakkdaaGreatDoor.roots s.frames) (fD s)/\∀x∈fD s,jX (cellAt s.cells x) (fD s):=reach_ok h.cells h.roots
theorem map_loop{α ρ:Type}{body:Int->List α->(List α->Option ρ)->Option ρ}{K:List α->Option ρ}{g:α->α}{P:α->Prop}
  (e:∀(i:Nat) (x:List α) a nx,x[i]? =aj a->P a->body (i:Int) x nx=nx (x.set i (g a))):
  ∀(d c:List α),(∀a∈d,P a)->upto body K (c.length:Int) d.length (c++d)=K (c++d.map g)
 |[],c,_=>by simp[upto]
 |a::d,c,h=>by
  rw[bq,Wu,e c.length (c++a::d) a _ zq3 (h a zq3)];have:=map_loop (K:=K) e d (c++[g a]) fun b e=>h b<|bk _ e;rw[show(c++a::d).set c.length (g a)=(c++[g a])++d by simp,show((c.length:Int)+1)=((c++[g a]).length:Nat) by simp,this];simp
theorem Wx{α ρ:Type}{body:Int->List α->(List α->Option ρ)->Option ρ}{K:List α->Option ρ}{g:α->α}{P:α->Prop}
  (b:∀(i:Nat) (x:List α) a nx,x[i]? =aj a->P a->body (i:Int) x nx=nx (x.set i (g a))) (l:List α) (hp:∀a∈l,P a):upto body K 0 l.length l=K (l.map g):=by
 have:=map_loop (K:=K) b l [] hp;simpa using this
def ZR(l:List Int)(m:List (Int×Int)):Prop:=∀k,lk k m=if k∈l then aj ((l.idxOf k:Nat):Int)else aw
theorem turn_eq{l:List Int}{m:List (Int×Int)}(h:ZR l m)(vs:List Val)(e:jX vs l):YM vs m=aj (vs.map (ren l)):=by
  unfold YM;rw[bj];refine Wx (P:=fun v=>v.kind=2->v.n∈l) (fun i x a g c hp=>?_) vs fun v f=>e v f;unfold Vb PG;rw[kL,c,bnd];by_cases b:a.kind=2
  · rw[dT b,cond_true,h a.n,if_pos (hp b)];simp[ren,b]
  · rw[dF b,cond_false];have:x.set i a=x:=by
      obtain⟨d,rfl⟩:=kn.1 c;exact lI d
    simp[ren,b,this]
theorem ZT{s:LX.State}(j:vL s.cells){K:List (List Val)×List Int×List (Int×Int)->Option LX.State}:∀(b a:List Int) (m:List (Int×Int)),yF s.cells.length (a++b)->ZR a m->
    ∃f,ZR (a++b) f/\gW (Ac s) K (a.length:Int) b (a.map (cellAt s.cells),a,m)=K ((a++b).map (cellAt s.cells),a++b,f)
  |[],a,m,_,h=>⟨m,by simpa using h,by simp[gW]⟩
  |k::b,a,m,hm,h=>by
    have i:a++k::b=(a++[k])++b:=by simp
    have g:k∉a:=by
      intro g;exact(ri.1 hm.1).2.2 k g k zq3 Z
    have p:=hm.len;have hn:=j.1;simp only[bc,bq]at p;have o:=hm.2 k zq3;rw[yK];obtain⟨f,n,l⟩:=ZT j (K:=K) b (a++[k]) (yG k (a.length:Int) m) (by rw[<-i];exact hm) (fun q=>by
      rw[P5];by_cases e:q=k
      · subst e;rw[if_pos rfl,if_pos zq3,rj,if_neg g];simp
      · rw[if_neg e,h q];by_cases d:q∈a
        · rw[if_pos d,if_pos (by simp[d]),rj,if_pos d]
        · rw[if_neg d,if_neg (by simp[d,e])])
    refine⟨f,by rw[i];exact n,?_⟩;have c:(((a++[k]).length:Nat):Int)=(a.length:Int)+1:=by simp
    rw[c]at l;rw[i,<-l];generalize gW (Ac s) K ((a.length:Int)+1) b=K1;unfold Ac;simp only;rw[(M4 o).1,bnd,jN g,jN (room_le (by simp;omega) zq1),cI];rfl
theorem frames_sweep{l:List Int}{m:List (Int×Int)}(h:ZR l m)(K:List LX.Frame->Option LX.State)(fr:List LX.Frame)(c:∀f∈fr,jX f.regs l):upto (GQ m) K 0 fr.length fr=K (fr.map (Kn l)):=
 Wx (P:=fun f=>jX f.regs l) (fun i x a d b hp=>by
  unfold GQ;rw[kL,b,bnd,turn_eq h a.regs hp,bnd];simp[Kn]) fr c
theorem cells_sweep{l:List Int}{m:List (Int×Int)}(h:ZR l m)(K:List (List Val)->Option LX.State)(cs:List (List Val))(d:∀c∈cs,jX c l):upto (JJ m) K 0 cs.length cs=K (cs.map (fun c=>c.map (ren l))):=
 Wx (P:=fun c=>jX c l) (fun i x a e b hp=>by
  unfold JJ;rw[kL,b,bnd,turn_eq h a hp,bnd];simp) cs d
theorem root_loop{K:List Val->Option LX.State}:∀(fr:List LX.Frame) (a:List Val),a.length+(roots fr).length<=1000->each Dv K fr a=K (a++roots fr)
 |[],a,_=>by simp[qN,roots]
 |f::fr,a,h=>by
  have e:roots (f::fr)=f.regs++roots fr:=rfl;rw[e,bc]at h;rw[gD];have b:=root_loop (K:=K) fr (a++f.regs) (by simp;omega);generalize each Dv K fr=K1 at b⊢;unfold Dv;rw[jN (room_le V zq1),b,e,cf]
theorem Jd{fr:List LX.Frame}{l:List Int}(h:jX (roots fr) l):∀f∈fr,jX f.regs l:=fun f c v a b=>h v (lp.2 ⟨f,c,a⟩) b
theorem ZU{N:Nat}(hN:100<=N){s:LX.State}(h:O3 s):Ip N s=aj (dM s):=by
 have b:=h.reach;unfold Ip;rw[root_loop s.frames [] (by have:=h.rlen;simp;omega),cF];unfold MN;rw[reach_eq hN h.cells h.roots h.rlen,bnd,dF zq3,cond_false,copy_eq h.small,bnd];have e:OZ s.cells (roots s.frames)=fD s:=rfl;simp only[e];obtain⟨j,d,i⟩:=ZT h.cells (K:=Du s) (fD s) [] [] (by simpa using b.1) (fun k=>by simp[lk]);have a:gW (Ac s) (Du s) 0 (fD s) ([],([]:List Int),([]:List (Int×Int)))=_:=i;rw[a];simp only[cF]at d⊢;unfold Du;simp only[bj];rw[frames_sweep d _ _ (Jd b.2.1)];unfold MM;rw[bj,cells_sweep d _ _ (fun c f=>by
  obtain⟨k,g,rfl⟩:=ea.1 f;exact b.2.2 k g)]
 unfold ML dM;rw[jw];rfl
def jJ(r:List Val)(i:Int):Val:=(idx r i).getD ⟨0,0⟩
def opP(k:Int)(b c:Val):Option Val:=
 if k=5 then aj ⟨1,if b=c then 1 else 0⟩else if b.kind≠1\/c.kind≠1 then aw else if k=4 then aj ⟨1,if b.n<c.n then 1 else 0⟩else
 let n:=if k=1 then b.n+c.n else if k=2 then b.n-c.n else b.n*c.n
 if-1000000000<=n/\n<=1000000000 then aj ⟨1,n⟩else aw
def Ku(f:LX.Frame)(x:bu):LX.Frame:={f with at_:=min (f.at_+1) ((x.code.length:Int)-1)}
def newP(s:LX.State)(c:Ins):Option LX.State:=
 if s.cells.length=24 then aw else aj ⟨s.frames.dropLast++(s.frames.getLast?.map fun h=>{h with regs:=h.regs.set c.a.toNat ⟨2,s.cells.length⟩}).toList,s.cells++[cc c.b.toNat ⟨0,0⟩],s.status,s.bM⟩
def sW(a:List bu)(pre:List LX.Frame)(f:LX.Frame)(cells:List (List Val))(st wh:Int)(x:bu)(c:Ins):Option (LX.State×Option Int×Bool):=
  let g:=Ku f x;let r:=jJ f.regs;let put:=fun(v:Val)=>(⟨pre++[{g with regs:=f.regs.set c.a.toNat v}],cells,st,wh⟩:LX.State);let d:=(⟨pre++[g],cells,st,wh⟩:LX.State);let jump:=(⟨pre++[{g with at_:=c.b}],cells,st,wh⟩:LX.State);let e:=fun(v:Val)=>v.kind≠2\/((cellAt cells v.n).length:Int)<=c.c
  if c.op=1 then aj (put ⟨1,c.b⟩,aw,aq)else
  if c.op=2 then aj (put (r c.b),aw,aq)else
  if c.op=3 then(opP (c.args.headD 0) (r c.b) (r c.c)).map fun v=>(put v,aw,aq)else
  if c.op=4 then(if e (r c.b)then aw else aj (put (jJ (cellAt cells (r c.b).n) c.c),aw,aq))else
  if c.op=6 then(if e (r c.a)then aw else aj (⟨pre++[g],cells.set (r c.a).n.toNat ((cellAt cells (r c.a).n).set c.c.toNat (r c.b)),st,wh⟩,aw,aq))else
  if c.op=5 then(newP (if cells.length=24 then dM d else d) c).map fun t=>(t,aw,aq)else
  if c.op=7 then(if pre.length+1=10 then aw else aj (⟨pre++[g]++[⟨c.b,0,c.args.map r++cc (((idx a c.b).map (·.regs)).getD 0-c.args.length).toNat ⟨0,0⟩,c.a⟩],cells,st,wh⟩,aw,aq))else
  if c.op=8 then aj (match pre.getLast? with
    |none=>⟨[],cells,1,wh⟩
    |some h=>⟨pre.dropLast++[{h with regs:=h.regs.set f.jy.toNat (r c.a)}],cells,st,wh⟩,aw,aq)else
  if c.op=9 then(if(r c.a).kind=1 then aj (d,aj (r c.a).n,aq)else aw)else
  if c.op=11 then(if(r c.a).kind=1 then aj (⟨pre++[g],cells,3,(r c.a).n⟩,aw,ba)else aw)else
  if c.op=12 then aj (jump,aw,aq)else
  if c.op=13 then aj (if(r c.a).kind≠2/\(r c.a).n=0 then jump else d,aw,aq)else
  aj (d,aw,ba)
def R1(r:Option (QO×Bool×LX.State))(q:Option (LX.State×Option Int×Bool)):Prop:=∃o a b,r=aj (o,a,b)/\match q with|none=>a=aq|some (t,said,p)=>a=ba/\b=t/\o=⟨said.isSome,said.getD 0,p⟩
theorem Je{R:Int}{r:List Val}(b:(r.length:Int)=R){i:Int}(h:Gp R i):idx r i=aj (jJ r i)/\jJ r i∈r:=by
 obtain⟨a,c⟩:=h;obtain⟨n,rfl⟩:=bs a;unfold jJ;rw[xg V];exact⟨Z,cx _⟩
theorem TV(pre:List LX.Frame)(f:LX.Frame):idx (pre++[f]) (pre.length:Int)=aj f:=by rw[kL];simp
theorem Ai(pre:List LX.Frame)(f g:LX.Frame):(pre++[f]).set pre.length g=pre++[g]:=by simp
theorem xH(pre:List LX.Frame)(f:LX.Frame):(((pre++[f]).length:Int)-1)=(pre.length:Int):=by simp
theorem mul_bd{x y:Int}(c: -1000000000<=x/\x<=1000000000)(a: -1000000000<=y/\y<=1000000000): -1000000000000000000<=x*y/\x*y<=1000000000000000000:=by
 have b:(x*y).natAbs<=1000000000*1000000000:=by
  rw[Int.natAbs_mul];exact ov V V
 omega
theorem j3.int{n:Nat}{v:Val}(h:j3 n v)(a:v.kind=1): -1000000000<=v.n/\v.n<=1000000000:=by unfold j3 at h;omega
theorem op_eq{n:Nat}{k:Int}{b c:Val}(q:1<=k/\k<=5)(m:j3 n b)(i:j3 n c):∃v,vm_op k b c=aj (v,(opP k b c).isSome)/\∀w,opP k b c=aj w->v=w:=by
  unfold vm_op opP Ls;by_cases f:k=5
  · rw[dT f,cond_true,if_pos f];by_cases e:b=c
    · subst e;simp
    · rw[if_neg e];have:(ab (b.kind=c.kind)&&ab (b.n=c.n))=false:=by
        obtain⟨k1,r⟩:=b;obtain⟨k2,p⟩:=c;rw[cE];simp at e⊢;by_cases h:k1=k2
        · right;exact e h
        · left;exact h
      rw[this];simp
  rw[dF f,cond_false,if_neg f];by_cases d:b.kind=1/\c.kind=1
  · rw[show(ab ((b.kind:Int)≠1)||ab ((c.kind:Int)≠1))=aq by simp[d.1,d.2],cond_false,if_neg (by simp[d.1,d.2])];have o:=m.int d.1;have c1:=i.int d.2;have m1:=mul_bd o c1;have a:∀z:Int,∃v,aj ((⟨1,z⟩:Val),(ab ((-1000000000:Int)<=z)&&ab ((z:Int)<=1000000000)))=aj (v,(if-1000000000<=z/\z<=1000000000 then aj (⟨1,z⟩:Val)else aw).isSome)/\∀w,(if-1000000000<=z/\z<=1000000000 then aj (⟨1,z⟩:Val)else aw)=aj w->v=w:=by
      intro z;by_cases h: -1000000000<=z/\z<=1000000000
      · rw[if_pos h,dT h.1,dT h.2];exact⟨_,Z,fun w e=>by cases e;rfl⟩
      · rw[if_neg h];refine⟨⟨1,z⟩,?_,fun w e=>by cases e⟩
        · congr 2;rw[py,cE];simp only[decide_eq_false_iff_not];omega
    by_cases g:k=4
    · subst g;rw[if_pos rfl];simp only[bm,decide_false,decide_true,cond_false,cond_true];by_cases e:b.n<c.n<;>simp[e]
    rw[if_neg g];by_cases l:k=1
    · subst l;simp only[bm,decide_true,cond_true,if_true];rw[gI V V];exact a _
    by_cases j:k=2
    · subst j;simp only[bm,decide_true,decide_false,cond_true,cond_false,if_true,if_false];rw[gI V V];exact a _
    · obtain rfl:k=3:=by omega
      simp only[bm,decide_true,decide_false,cond_true,cond_false,if_true,if_false];rw[gI V V];exact a _
  · rw[show(ab ((b.kind:Int)≠1)||ab ((c.kind:Int)≠1))=ba by simp;omega,cond_true,if_pos V];exact⟨_,Z,fun w e=>by cases e⟩
theorem rC{a:List bu}{n:Nat}{f:LX.Frame}:∀{l:List LX.Frame} {t:Int},ni a n t (l++[f])↔ni a n t l/\(∃x,Km a n f x)/\(0<=f.jy/\f.jy<(match l.getLast? with|none=>t|some g=>g.regs.length))
 |[],t=>by simp[ni]
 |g::l,t=>by
  show((∃x,Km a n g x)/\(0<=g.jy/\g.jy<t)/\ni a n g.regs.length (l++[f]))↔_;rw[rC (l:=l)];have e:(match (g::l).getLast? with|none=>t|some g=>((g.regs.length:Int)))=(match l.getLast? with|none=>((g.regs.length:Int))|some g=>(g.regs.length:Int)):=by
   rw[List.getLast?_cons];cases l.getLast?<;>rfl
  rw[e];simp only[ni,and_assoc]
structure wN(a:List bu)(pre:List LX.Frame)(f:LX.Frame)(cells:List (List Val))(x:bu)(c:Ins):Prop where
 fr:Km a cells.length f x
 ins:idx x.code f.at_=aj c
 good:NG a x.regs x.code.length c
 chain:ni a cells.length 1 pre
 jy:0<=f.jy/\f.jy<ahead pre
 many:pre.length+1<=10
 cok:vL cells
 proc:(1<=x.regs/\x.regs<=40)/\tN x
theorem top_ok{a:List bu}(e:mF a){pre:List LX.Frame}{f:LX.Frame}{cells:List (List Val)}{st wh:Int}(h:vz a ⟨pre++[f],cells,st,wh⟩):∃x c,wN a pre f cells x c:=by
 obtain⟨i,⟨x,g⟩,j⟩:=rC.1 h.frames;have d:=e.mem g.proc;have hat:=g.at_;obtain⟨n,hn⟩:=bs hat.1;have b:n<x.code.length:=by omega
 refine⟨x,x.code[n],g,by rw[hn,xg b],e.ins x d.1 _<|cx _,i,j,?_,h.cells,⟨by omega,d.2.2.2⟩⟩;have:=h.many;simpa using this
theorem wN.Ku{a:List bu}{pre:List LX.Frame}{f:LX.Frame}{cells:List (List Val)}{x:bu}{c:Ins}(h:wN a pre f cells x c):Km a cells.length (Ku f x) x where
 proc:=h.fr.proc
 at_:=by
  have:=h.fr.at_;have:=h.proc.2;unfold tN at this;simp only[YtodkbibbgakkdaaGreatDoor.Ku];omega
 regs:=h.fr.regs
 vals:=h.fr.vals
theorem wN.reg{a:List bu}{pre:List LX.Frame}{f:LX.Frame}{cells:List (List Val)}{x:bu}{c:Ins}(h:wN a pre f cells x c){i:Int}(b:Gp x.regs i):idx f.regs i=aj (jJ f.regs i)/\j3 cells.length (jJ f.regs i):=by
 have:=Je h.fr.regs b;exact⟨this.1,h.fr.vals _ this.2⟩
theorem wN.sw{a:List bu}{pre:List LX.Frame}{f:LX.Frame}{cells:List (List Val)}{x:bu}{c:Ins}(ha:mF a)(h:wN a pre f cells x c){st wh:Int}{g:LX.Frame}(hg:Km a cells.length g x):O3 ⟨pre++[g],cells,st,wh⟩ where
  small:=⟨by have:=h.many;simp;omega,fun k hk=>by
    rcases cV.1 hk with hk|hk
    · obtain⟨y,hy⟩:=Ah h.chain k hk;have:=hy.regs;have:=(ha.mem hy.proc).2.2.1;omega
    · simp at hk;subst hk;have:=hg.regs;have:=h.proc.1;omega,h.cok.1,fun c hc=>(h.cok.2 c hc).1.2⟩
  cells:=h.cok
  vals k hk:=by
    rcases cV.1 hk with hk|hk
    · obtain⟨y,hy⟩:=Ah h.chain k hk;exact hy.vals
    · simp at hk;subst hk;exact hg.vals
section
variable{a:List bu}{pre:List LX.Frame}{f:LX.Frame}{cells:List (List Val)}{st wh:Int}{x:bu}{c:Ins}{N:Nat}
theorem DW(h:wN a pre f cells x c):xD N ⟨pre++[f],cells,st,wh⟩ a=(bif ab ((c.op:Int)=1)then(idx f.regs c.a).bind fun n=>qJ aq (pre++[{Ku f x with regs:=(f.regs.set (c.a).toNat (⟨1,c.b⟩:Val))}]) cells st wh else bif ab ((c.op:Int)=2)then(idx f.regs c.b).bind fun l=>(idx f.regs c.a).bind fun k=>qJ aq (pre++[{Ku f x with regs:=(f.regs.set (c.a).toNat l)}]) cells st wh else bif ab ((c.op:Int)=3)then(idx c.args 0).bind fun i=>(idx f.regs c.b).bind fun g=>(idx f.regs c.c).bind fun e=>(vm_op i g e).bind fun d=>(idx f.regs c.a).bind fun m=>M0 ⟨pre++[f],cells,st,wh⟩ d.2 (pre++[{Ku f x with regs:=(f.regs.set (c.a).toNat d.1)}])else bif ab ((c.op:Int)=4)then mO N ⟨pre++[f],cells,st,wh⟩ f x c a (ab ((c.op:Int)=4))else mO N ⟨pre++[f],cells,st,wh⟩ f x c a (ab ((c.op:Int)=6))):=by
 have o:=h.many;have hat:=h.fr.at_;have j:=h.proc.2;unfold tN at j;unfold xD;simp only[xH];rw[gI V V,TV,bnd,h.fr.proc,bnd,h.ins,bnd,gI V V,gI V V];simp only[bj,Ai];rfl
theorem step1(h:wN a pre f cells x c)(b:c.op=1)(d:Gp x.regs c.a):R1 (xD N ⟨pre++[f],cells,st,wh⟩ a) (sW a pre f cells st wh x c):=by
 rw[DW h,b];simp only[bm,decide_true,decide_false,cond_true,cond_false];rw[(h.reg d).1,bnd];unfold sW;simp only[b,if_true];exact⟨_,_,_,Z,Z,Z,Z⟩
theorem step2(h:wN a pre f cells x c)(d:c.op=2)(g:Gp x.regs c.a)(e:Gp x.regs c.b):R1 (xD N ⟨pre++[f],cells,st,wh⟩ a) (sW a pre f cells st wh x c):=by
 rw[DW h,d];simp only[bm,decide_true,decide_false,cond_true,cond_false];rw[(h.reg e).1,bnd,(h.reg g).1,bnd];unfold sW;simp only[d,bm,if_true,if_false];exact⟨_,_,_,Z,Z,Z,Z⟩
theorem step3(h:wN a pre f cells x c)(d:c.op=3)(m:Gp x.regs c.a)(j:Gp x.regs c.b)(i:Gp x.regs c.c){n:Int}(hn:c.args=[n])(g:1<=n/\n<=5):R1 (xD N ⟨pre++[f],cells,st,wh⟩ a) (sW a pre f cells st wh x c):=by
 rw[DW h,d,hn];simp only[bm,decide_true,decide_false,cond_true,cond_false];obtain⟨v,l,k⟩:=op_eq g (h.reg j).2 (h.reg i).2;rw[idx0,bnd,(h.reg j).1,bnd,(h.reg i).1,bnd,l,bnd,(h.reg m).1,bnd];unfold sW M0;simp only[d,hn,bm,if_true,if_false,nq];cases e:opP n (jJ f.regs c.b) (jJ f.regs c.c)with
 |none=>exact⟨_,_,_,rfl,rfl⟩
 |some w=>rw[k w e];exact⟨_,_,_,Z,Z,Z,Z⟩
theorem idx_cell{v:Val}(b:vL cells)(h:j3 cells.length v)(c:v.kind=2):idx cells v.n=aj (cellAt cells v.n)/\(1<=(cellAt cells v.n).length/\(cellAt cells v.n).length<=4):=by
 have a:=h.ref c;exact⟨(M4 a).1,(b.at a).1⟩
theorem idx_fld{v:Val}{i:Int}(a:0<=i)(h:i<((cellAt cells v.n).length:Int)):idx (cellAt cells v.n) i=aj (jJ (cellAt cells v.n) i):=(Je Z ⟨a,h⟩).1
theorem field_get(h:wN a pre f cells x c)(e:c.op=4)(l:Gp x.regs c.a)(m:Gp x.regs c.b)(k:0<=c.c/\c.c<4):R1 (xD N ⟨pre++[f],cells,st,wh⟩ a) (sW a pre f cells st wh x c):=by
  rw[DW h,e];simp only[bm,decide_true,decide_false,cond_true,cond_false];unfold mO TC FW FV;simp only[xH,bj,Ai,e,bm,decide_true,decide_false,cond_true,cond_false];have j:=h.reg m;rw[j.1];simp only[bnd];unfold sW;simp only[e,bm,if_true,if_false];by_cases g:(jJ f.regs c.b).kind=2
  · have d:=idx_cell h.cok j.2 g;rw[dF V,cond_false,d.1];simp only[bnd];by_cases i:((cellAt cells (jJ f.regs c.b).n).length:Int)<=c.c
    · rw[dT i,cond_true,if_pos V];exact⟨_,_,_,Z,Z⟩
    · rw[dF i,cond_false,if_neg V,idx_fld k.1 V,bnd,(h.reg l).1,bnd];exact⟨_,_,_,Z,Z,Z,Z⟩
  · rw[dT g,cond_true,if_pos (.inl g)];exact⟨_,_,_,Z,Z⟩
theorem field_put(h:wN a pre f cells x c)(e:c.op=6)(l:Gp x.regs c.a)(m:Gp x.regs c.b)(k:0<=c.c/\c.c<4):R1 (xD N ⟨pre++[f],cells,st,wh⟩ a) (sW a pre f cells st wh x c):=by
  rw[DW h,e];simp only[bm,decide_true,decide_false,cond_true,cond_false];unfold mO TC FW FV;simp only[xH,bj,Ai,e,bm,decide_true,decide_false,cond_true,cond_false];have j:=h.reg l;rw[j.1];simp only[bnd];unfold sW;simp only[e,bm,if_true,if_false];by_cases g:(jJ f.regs c.a).kind=2
  · have d:=idx_cell h.cok j.2 g;rw[dF V,cond_false,d.1];simp only[bnd];by_cases i:((cellAt cells (jJ f.regs c.a).n).length:Int)<=c.c
    · rw[dT i,cond_true,if_pos V];exact⟨_,_,_,Z,Z⟩
    · rw[dF i,cond_false,if_neg V,(h.reg m).1,bnd,idx_fld k.1 V,bnd];exact⟨_,_,_,Z,Z,Z,Z⟩
  · rw[dT g,cond_true,if_pos (.inl g)];exact⟨_,_,_,Z,Z⟩
theorem LM(g:LX.Frame):dM ⟨pre++[g],cells,st,wh⟩=⟨pre.map (Kn (fD ⟨pre++[g],cells,st,wh⟩))++[Kn (fD ⟨pre++[g],cells,st,wh⟩) g],(dM ⟨pre++[g],cells,st,wh⟩).cells,st,wh⟩:=by
 unfold dM;simp
theorem sweep_len{s:LX.State}(h:O3 s):(dM s).cells.length<=s.cells.length/\(dM s).cells.length<=24:=by
 have a:=h.reach.1.len;have:=h.cells.1;unfold dM;simp;omega
theorem fresh_j1(e:List LX.Frame)(g:LX.Frame)(cs:List (List Val))(j:e.length<=20)(i:cs.length<=24)(f:Gp g.regs.length c.a)(k:1<=c.b/\c.b<=4):∃d t,zF c (e++[g]) cs st wh=aj (d,t)/\match newP ⟨e++[g],cs,st,wh⟩ c with|none=>d=aq|some u=>d=ba/\t=u:=by
  unfold zF newP;simp only[xH];by_cases h:cs.length=24
  · rw[dT V,cond_true,if_pos h];exact⟨_,_,Z,Z⟩
  · rw[dF V,cond_false,if_neg h,gI V V,TV,bnd,(Je rfl f).1,bnd,jN V,jN (room_le (by simp;omega) zq1),bj,Ai];refine⟨_,_,Z,Z,?_⟩;simp
theorem step5(r:mF a)(hN:100<=N)(h:wN a pre f cells x c)(g:c.op=5)(q:Gp x.regs c.a)(o:1<=c.b/\c.b<=4):R1 (xD N ⟨pre++[f],cells,st,wh⟩ a) (sW a pre f cells st wh x c):=by
  rw[DW h,g];simp only[bm,decide_true,decide_false,cond_true,cond_false];unfold mO Za;simp only[xH,bj,Ai,g,bm,decide_true,decide_false,cond_true,cond_false];unfold sW;simp only[g,bm,if_true,if_false];have v:=h.many;have j:=wN.sw r h (st:=st) (wh:=wh) h.Ku;have m:Gp (Ku f x).regs.length c.a:=by have:=h.Ku.regs;rw[this];exact q
  have i:∀d:LX.State,(∃n t,zF c d.frames d.cells d.status d.bM=aj (n,t)/\match newP d c with|none=>n=aq|some u=>n=ba/\t=u)->
      R1 ((zF c d.frames d.cells d.status d.bM).bind fun y=>aj ((⟨aq,0,aq⟩:QO),y.1,y.2)) ((newP d c).map fun t=>(t,aw,aq)):=by
    rintro d⟨n,t,p,k⟩;rw[p,bnd];cases e:newP d c with
    |none=>rw[e]at k;exact⟨_,_,_,Z,k⟩
    |some u=>rw[e]at k;exact⟨_,_,_,Z,k.1,k.2,Z⟩
  by_cases l:cells.length=24
  · rw[dT V,cond_true,if_pos l];have s:({f with at_:=min (f.at_+1) ((x.code.length:Int)-1)}:LX.Frame)=Ku f x:=rfl;rw[s,ZU hN j,bnd];refine i _ ?_;rw[LM];exact fresh_j1 _ _ _ (by simp;omega) (sweep_len j).2 (by simpa[Kn]using m) o
  · rw[dF V,cond_false,if_neg l];exact i ⟨pre++[Ku f x],cells,st,wh⟩<|fresh_j1 _ _ _ V h.cok.1 m o
theorem fill_loop{ρ:Type}{body:Int->Int->List Val->(List Val->Option ρ)->Option ρ}{K:List Val->Option ρ}{r:Int->Val}{P:Int->Prop}
  (b:∀(i:Nat) k y nx,i<y.length->P k->body (i:Int) k y nx=nx (y.set i (r k))):∀(l:List Int) (a rest:List Val),(∀k∈l,P k)->l.length<=rest.length->gW body K (a.length:Int) l (a++rest)=K (a++l.map r++rest.drop l.length)
 |[],a,rest,_,_=>by simp[gW]
 |k::l,a,z::rest,h,hl=>by
  rw[yK,b a.length k (a++z::rest) _ zq3 (h k zq3),show(a++z::rest).set a.length (r k)=(a++[r k])++rest by simp,show((a.length:Int)+1)=((a++[r k]).length:Nat) by simp,fill_loop b l (a++[r k]) rest (fun q c=>h q (bk _ c)) (by simpa using hl)];simp
 |k::l,a,[],h,hl=>by simp at hl
theorem step7(q:mF a)(h:wN a pre f cells x c)(g:c.op=7)(z:Gp x.regs c.a){p:bu}(hp:idx a c.b=aj p)(A:(c.args.length:Int)=p.params)(j:∀k∈c.args,Gp x.regs k):R1 (xD N ⟨pre++[f],cells,st,wh⟩ a) (sW a pre f cells st wh x c):=by
  rw[DW h,g];simp only[bm,decide_true,decide_false,cond_true,cond_false];unfold mO vm_call;simp only[xH,bj,Ai,g,bm,decide_true,decide_false,cond_true,cond_false];unfold sW;simp only[g,bm,if_true,if_false];have w:=h.many;have n:=q.mem hp;by_cases l:pre.length+1=10
  · rw[dT (by simp;omega),cond_true,if_pos l];exact⟨_,_,_,Z,Z⟩
  · rw[dF (by simp;omega),cond_false,if_neg l,hp,bnd,jN V];have e:=fill_loop (K:=IL ⟨pre++[Ku f x],cells,st,wh⟩ c a) (body:=IK ⟨pre++[Ku f x],cells,st,wh⟩) (r:=jJ f.regs) (P:=fun k=>Gp x.regs k) (fun i k y m t o=>by
      unfold IK;simp only[xH];rw[gI V V,TV,bnd];show((idx f.regs k).bind fun u=>(idx y (i:Int)).bind fun v=>m<|y.set ((i:Int)).toNat u)=_;rw[(h.reg o).1,bnd,xg t,bnd,bj]) c.args [] (cc p.regs.toNat ⟨0,0⟩) j (by simp;omega)
    have d:gW (IK ⟨pre++[Ku f x],cells,st,wh⟩) (IL ⟨pre++[Ku f x],cells,st,wh⟩ c a) 0 c.args (cc p.regs.toNat ⟨0,0⟩)=_:=e;have s:({f with at_:=min (f.at_+1) ((x.code.length:Int)-1)}:LX.Frame)=Ku f x:=rfl;rw[s,d];unfold IL;simp only;rw[jN (room_le (by simp;omega) zq1),bnd];refine⟨_,_,_,Z,Z,?_,Z⟩;simp only[cF,List.drop_replicate,hp,db,eM];rw[show p.regs.toNat-c.args.length=(p.regs-(c.args.length:Int)).toNat by omega]
theorem step8(j:mF a)(h:wN a pre f cells x c)(b:c.op=8)(i:Gp x.regs c.a):R1 (xD N ⟨pre++[f],cells,st,wh⟩ a) (sW a pre f cells st wh x c):=by
  rw[DW h,b];simp only[bm,decide_true,decide_false,cond_true,cond_false];unfold mO vm_back;simp only[xH,bj,Ai,b,bm,decide_true,decide_false,cond_true,cond_false];unfold sW;simp only[b,bm,if_true,if_false];have e:=h.many;rw[(h.reg i).1,bnd,gI V V];rw[show sub? (pre++[({f with at_:=min (f.at_+1) ((x.code.length:Int)-1)}:LX.Frame)]) 0 (pre.length:Int)=aj pre by unfold sub?;rw[if_pos (by simp;omega)];simp[cut],bnd];rw[show(pre++[({f with at_:=min (f.at_+1) ((x.code.length:Int)-1)}:LX.Frame)]).take pre.length=pre by simp];rcases gh pre with hp|⟨q,g,hp⟩
  · subst hp;exact⟨_,_,_,Z,Z,Z,Z⟩
  · rw[gi]at hp;subst hp;have d:=h.jy;rw[R5]at d;simp only[bc,bq,eA]at e;rw[dF (by simp;omega),cond_false,xH,gI V V,TV,bnd,(Je Z d).1,bnd,bj,Ai,bnd];simp only[eI,eh,fy,fm];exact⟨_,_,_,Z,Z,Z,Z⟩
theorem LP(h:wN a pre f cells x c)(b:(c.op=9\/c.op=11\/c.op=13)/\Gp x.regs c.a\/c.op=10\/c.op=12):R1 (xD N ⟨pre++[f],cells,st,wh⟩ a) (sW a pre f cells st wh x c):=by
  rw[DW h];rcases b with⟨b|b|b,hr⟩|b|b
  · rw[b];simp only[bm,decide_true,decide_false,cond_true,cond_false];unfold mO;simp only[xH,bj,Ai,b,bm,decide_true,decide_false,cond_true,cond_false];unfold sW;simp only[b,bm,if_true,if_false];rw[(h.reg hr).1,bnd];by_cases d:(jJ f.regs c.a).kind=1
    · rw[dT d,if_pos d];exact⟨_,_,_,Z,Z,Z,Z⟩
    · rw[dF d,if_neg d];exact⟨_,_,_,Z,Z⟩
  · rw[b];simp only[bm,decide_true,decide_false,cond_true,cond_false];unfold mO;simp only[xH,bj,Ai,b,bm,decide_true,decide_false,cond_true,cond_false];unfold sW;simp only[b,bm,if_true,if_false];rw[(h.reg hr).1,bnd];by_cases d:(jJ f.regs c.a).kind=1
    · rw[dF V,cond_false,if_pos d];exact⟨_,_,_,Z,Z,Z,Z⟩
    · rw[dT d,cond_true,if_neg d];exact⟨_,_,_,Z,Z⟩
  · rw[b];simp only[bm,decide_true,decide_false,cond_true,cond_false];unfold mO;simp only[xH,bj,Ai,b,bm,decide_true,decide_false,cond_true,cond_false];unfold sW;simp only[b,bm,if_true,if_false];have g:=h.reg hr;rw[g.1,bnd];have e:=g.2;unfold j3 at e;by_cases d:(jJ f.regs c.a).kind≠2/\(jJ f.regs c.a).n=0
    · rw[if_pos d,show(ab ((jJ f.regs c.a).kind=0)||(ab ((jJ f.regs c.a).kind=1)&&ab ((jJ f.regs c.a).n=0)))=ba by simp;omega,cond_true];exact⟨_,_,_,Z,Z,Z,Z⟩
    · rw[if_neg d,show(ab ((jJ f.regs c.a).kind=0)||(ab ((jJ f.regs c.a).kind=1)&&ab ((jJ f.regs c.a).n=0)))=aq by rw[cP,cE];simp only[decide_eq_false_iff_not];omega,cond_false];exact⟨_,_,_,Z,Z,Z,Z⟩
  · rw[b];simp only[bm,decide_true,decide_false,cond_true,cond_false];unfold mO;simp only[xH,bj,Ai,b,bm,decide_true,decide_false,cond_true,cond_false];unfold sW;simp only[b,bm,if_true,if_false];exact⟨_,_,_,Z,Z,Z,Z⟩
  · rw[b];simp only[bm,decide_true,decide_false,cond_true,cond_false];unfold mO;simp only[xH,bj,Ai,b,bm,decide_true,decide_false,cond_true,cond_false];unfold sW;simp only[b,bm,if_true,if_false];exact⟨_,_,_,Z,Z,Z,Z⟩
theorem vm_step_ok(i:mF a)(hN:100<=N)(h:wN a pre f cells x c):R1 (xD N ⟨pre++[f],cells,st,wh⟩ a) (sW a pre f cells st wh x c):=by
  rcases h.good with g|g|g|g|g|g|g|g|g|g
  · exact step1 h g.1 g.2.1
  · exact step2 h g.1 g.2.1 g.2.2
  · obtain⟨g1,g2,b,d,n,e,k,j⟩:=g;exact step3 h g1 g2 b d e ⟨k,j⟩
  · obtain⟨g1|g1,g2,b,d⟩:=g
    · exact field_get h g1 g2 b d
    · exact field_put h g1 g2 b d
  · exact step5 i hN h g.1 g.2.1 g.2.2
  · obtain⟨g1,g2,⟨p,b,d⟩,e⟩:=g;exact step7 i h g1 g2 b d e
  · obtain⟨g1|g1|g1,g2⟩:=g
    · exact step8 i h g1 g2
    · exact LP h<|.inl ⟨.inl g1,g2⟩
    · exact LP h<|.inl ⟨.inr<|.inl g1,g2⟩
  · exact LP h<|.inr<|.inl g
  · exact LP h<|.inr<|.inr g.1
  · exact LP h<|.inl ⟨.inr<|.inr g.1,g.2.1⟩
end
open Go Go.Proofs Go.LX
theorem j3.up{n m:Nat}{v:Val}(h:j3 n v)(a:n<=m):j3 m v:=by unfold j3 at*;omega
theorem Km.up{a:List bu}{n m:Nat}{f:LX.Frame}{x:bu}(h:Km a n f x)(b:n<=m):Km a m f x:=⟨h.proc,h.at_,h.regs,fun v c=>(h.vals v c).up b⟩
theorem O4{a:List bu}{n m:Nat}(b:n<=m):∀{l:List LX.Frame} {t:Int},ni a n t l->ni a m t l
 |[],_,_=>trivial
 |f::l,t,h=>by obtain⟨⟨x,g⟩,c,d⟩:=h;exact⟨⟨x,g.up b⟩,c,O4 b d⟩
theorem ren_ok{n:Nat}{l:List Int}{v:Val}(h:j3 n v)(b:v.kind=2->v.n∈l):j3 l.length (ren l v):=by
  unfold ren;by_cases a:v.kind=2
  · rw[if_pos a];have:=eg<|b a;unfold j3;simp only;omega
  · rw[if_neg a];unfold j3 at*;omega
theorem Km.ren{a:List bu}{n:Nat}{l:List Int}{f:LX.Frame}{x:bu}(h:Km a n f x)(hr:jX f.regs l):Km a l.length (Kn l f) x where
 proc:=h.proc
 at_:=h.at_
 regs:=by unfold Kn;simpa using h.regs
 vals v hv:=by
  unfold Kn at hv;simp only[ea]at hv;obtain⟨w,hw,rfl⟩:=hv;exact ren_ok (h.vals w hw)<|hr w hw
theorem TW{a:List bu}{n:Nat}{r:List Int}:∀{l:List LX.Frame} {t:Int},ni a n t l->(∀f∈l,jX f.regs r)->ni a r.length t (l.map (Kn r))
 |[],_,_,_=>trivial
 |f::l,t,h,hr=>by
  obtain⟨⟨x,g⟩,b,d⟩:=h;refine⟨⟨x,g.ren<|hr f zq3⟩,b,?_⟩;have:=TW d fun k c=>hr k<|bk _ c;simpa[Kn]using this
theorem O5{s:LX.State}(h:O3 s):vL (dM s).cells:=by
 have b:=h.reach;have i:=b.1.len;have hn:=h.cells.1;refine⟨by simp[dM];omega,fun c d=>?_⟩;unfold dM at d⊢;simp only[ea,cG]at d⊢;obtain⟨k,f,rfl⟩:=d;have a:=h.cells.at<|b.1.2 k f;refine⟨by simpa using a.1,fun v g=>?_⟩;obtain⟨w,e,rfl⟩:=ea.1 g;exact ren_ok (a.2 w e)<|b.2.2 k f w e
theorem TY{a:List bu}(ha:mF a){s:LX.State}(h:vz a s):vz a (dM s) where
 status:=h.status
 bM:=h.bM
 stay:=h.stay
 ended:=by rw[show(dM s).status=s.status from rfl,h.ended];simp[dM]
 many:=by simpa[dM]using h.many
 cells:=O5 (h.sw ha)
 frames:=by
  have hr:=(h.sw ha).reach;have:=TW h.frames<|Jd hr.2.1;simpa[dM]using this
theorem set_vals{n:Nat}{r:List Val}{i:Nat}{v:Val}(h:∀w∈r,j3 n w)(b:j3 n v):∀w∈r.set i v,j3 n w:=fun w a=>by
  rcases ki a with a|rfl
  · exact h w a
  · exact b
section
variable{a:List bu}{pre:List LX.Frame}{f:LX.Frame}{cells:List (List Val)}{wh:Int}{x:bu}{c:Ins}{N:Nat}
theorem wN.st(h:wN a pre f cells x c){g:LX.Frame}{y:bu}{cs:List (List Val)}{s w:Int}(hg:Km a cs.length g y)(hto:g.jy=f.jy)(hc:vL cs)(hl:cells.length<=cs.length)(hs:(s=0/\w=0)\/(s=3/\ -1000000000<=w/\w<=1000000000)):vz a ⟨pre++[g],cs,s,w⟩ where
 status:=by simp only;omega
 bM:=by simp only;omega
 stay:=by simp only;omega
 ended:=by simp;omega
 many:=by have:=h.many;simp;omega
 cells:=hc
 frames:=rC.2 ⟨O4 hl h.chain,⟨y,hg⟩,by rw[hto];exact h.jy⟩
theorem opP_ok{n:Nat}{k:Int}{b c v:Val}(a:1<=k/\k<=5)(h:opP k b c=aj v):j3 n v:=by
  unfold opP at h;split at h
  · cases h;split<;>(unfold j3;simp)
  split at h
  · cases h
  split at h
  · cases h;split<;>(unfold j3;simp)
  simp only at h;generalize (if k=1 then b.n+c.n else if k=2 then b.n-c.n else b.n*c.n)=z at h;split at h
  · rename_i hz;cases h;exact .inr (.inl ⟨Z,hz.1,hz.2⟩)
  · cases h
theorem Km.put{n:Nat}{f:LX.Frame}{x:bu}(h:Km a n f x){i:Nat}{v:Val}(b:j3 n v):Km a n {f with regs:=f.regs.set i v} x:=⟨h.proc,h.at_,by simpa using h.regs,set_vals h.vals b⟩
theorem Km.jump{n:Nat}{f:LX.Frame}{x:bu}(h:Km a n f x){b:Int}(c:0<=b/\b<x.code.length):Km a n {f with at_:=b} x:=⟨h.proc,c,h.regs,h.vals⟩
theorem newP_ok{s t:LX.State}{g:LX.Frame}(h:newP ⟨pre++[g],cells,0,wh⟩ c=aj t)(i:vz a ⟨pre++[g],cells,0,wh⟩)(p:1<=c.b/\c.b<=4):vz a t/\t.status=0:=by
  unfold newP at h;split at h
  · cases h
  rename_i k;simp only[fm,eI,eh,fy,db,pA]at h k;cases h;obtain⟨n,⟨x,m⟩,o⟩:=rC.1 i.frames;have j:=i.cells;simp only at n m o j;have e:cells.length<=(cells++[cc c.b.toNat (⟨0,0⟩:Val)]).length:=by simp
  refine⟨⟨i.status,i.bM,i.stay,by simp,by simpa using i.many,⟨?_,?_⟩,rC.2 ⟨O4 e n,⟨x,(m.up e).put ?_⟩,o⟩⟩,Z⟩
  · have:=j.1;simp;omega
  · intro d f;rcases cV.1 f with f|f
    · have:=j.2 d f;exact⟨this.1,fun v l=>(this.2 v l).up e⟩
    · simp at f;subst f;refine⟨by simp;omega,fun v l=>?_⟩;have:=ft l;subst this;unfold j3;simp
  · unfold j3;simp;try omega
theorem step_keeps(P:mF a)(h:wN a pre f cells x c)(S:wh=0){t:LX.State}{A:Option Int}{p:Bool}(i:sW a pre f cells 0 wh x c=aj (t,A,p)):
    vz a t/\(t.status=0\/t.status=1/\p=aq\/t.status=3/\p=ba)/\(A.isSome->t.status=0/\c.op=9):=by
  subst S;have j:=h.Ku;have o:∀{v:Val},j3 cells.length v->vz a ⟨pre++[{Ku f x with regs:=f.regs.set c.a.toNat v}],cells,0,0⟩:=fun r=>h.st (j.put r) Z h.cok (bt _)<|.inl ⟨Z,Z⟩;have E:vz a ⟨pre++[Ku f x],cells,0,0⟩:=h.st j Z h.cok (bt _)<|.inl ⟨Z,Z⟩;have z:(0<=c.b/\c.b<x.code.length)->vz a ⟨pre++[{Ku f x with at_:=c.b}],cells,0,0⟩:=fun m=>h.st (j.jump m) Z h.cok (bt _)<|.inl ⟨Z,Z⟩;unfold sW at i;rcases h.good with g|g|g|g|g|g|g|g|g|g
  · obtain⟨e,w,m⟩:=g;simp only[e,bm,if_true,if_false]at i;cases i;exact⟨o<|.inr<|.inl ⟨Z,m.1,m.2⟩,.inl Z,by simp⟩
  · obtain⟨e,w,m⟩:=g;simp only[e,bm,if_true,if_false]at i;cases i;exact⟨o (h.reg m).2,.inl Z,by simp⟩
  · obtain⟨e,w,m,O,n,hn,L⟩:=g;simp only[e,hn,bm,if_true,if_false,nq]at i;obtain⟨v,r,i⟩:=oE.1 i;cases i;exact⟨o<|opP_ok L r,.inl Z,by simp⟩
  · obtain⟨e,w,m,O⟩:=g;rcases e with e|e
    · simp only[e,bm,if_true,if_false]at i;split at i
      · cases i
      · rename_i G;cases i;have C:(jJ f.regs c.b).kind=2:=by omega
        have r:=(h.reg m).2;have l:=h.cok.at<|r.ref C;exact⟨o<|l.2 _ (Je Z ⟨O.1,by omega⟩).2,.inl Z,by simp⟩
    · simp only[e,bm,if_true,if_false]at i;split at i
      · cases i
      · rename_i G;cases i;have C:(jJ f.regs c.a).kind=2:=by omega
        have r:=(h.reg w).2;have l:=h.cok.at<|r.ref C;refine⟨h.st (by simpa using j) Z ⟨by simpa using h.cok.1,fun d K=>?_⟩ zq3<|.inl ⟨Z,Z⟩,.inl Z,by simp⟩;rw[List.length_set];rcases ki K with K|rfl
        · exact h.cok.2 d K
        · exact⟨by simpa using l.1,set_vals l.2 (h.reg m).2⟩
  · obtain⟨e,w,m⟩:=g;simp only[e,bm,if_true,if_false]at i;obtain⟨u,I,i⟩:=oE.1 i;cases i;split at I
    · have F:=TY P E;rw[LM]at I F;have:=newP_ok (s:=t) I F m;exact⟨this.1,.inl this.2,by simp⟩
    · have:=newP_ok (s:=t) I E m;exact⟨this.1,.inl this.2,by simp⟩
  · obtain⟨e,w,⟨Q,hp,hl⟩,B⟩:=g;simp only[e,bm,if_true,if_false]at i;split at i
    · cases i
    · rename_i X;cases i;have M:=P.mem hp;have N:=h.many;refine⟨⟨by simp,by simp,by simp,by simp,by simp;omega,h.cok,rC.2 ⟨E.frames,⟨Q,⟨hp,?_,?_,?_⟩⟩,?_⟩⟩,.inl Z,by simp⟩
      · have:=M.2.2.2;unfold tN at this;simp only;omega
      · simp only[hp,db,eM,bc,cG,jq];omega
      · intro v r;rcases cV.1 r with r|r
        · obtain⟨k,C,rfl⟩:=ea.1 r;exact(h.reg<|B k C).2
        · have:=ft r;subst this;unfold j3;simp
      · simp only[eI,eh,fy];have T:=j.regs;rw[T];exact w
  · obtain⟨e,w⟩:=g;rcases e with e|e|e
    · simp only[e,bm,if_true,if_false]at i;rcases gh pre with hp|⟨q,g,hp⟩
      · subst hp;simp only[List.getLast?_nil]at i;cases i;exact⟨⟨by simp,by simp,by simp,by simp,by simp,h.cok,U⟩,.inr<|.inl ⟨Z,Z⟩,by simp⟩
      · rw[gi]at hp;subst hp;simp only[eI,eh,fy,fm]at i;cases i;obtain⟨c1,⟨y,c2⟩,R⟩:=rC.1 h.chain;have N:=h.many;simp only[bc,bq,eA]at N;exact⟨⟨by simp,by simp,by simp,by simp,by simp;omega,h.cok,rC.2 ⟨c1,⟨y,c2.put (h.reg w).2⟩,R⟩⟩,.inl Z,by simp⟩
    · simp only[e,bm,if_true,if_false]at i;split at i
      · cases i;exact⟨E,.inl Z,fun _=>⟨Z,e⟩⟩
      · cases i
    · simp only[e,bm,if_true,if_false]at i;split at i
      · rename_i C;cases i;exact⟨h.st j Z h.cok (bt _)<|.inr ⟨Z,(h.reg w).2.int C⟩,.inr<|.inr ⟨Z,Z⟩,by simp⟩
      · cases i
  · simp only[g,bm,if_true,if_false]at i;cases i;exact⟨E,.inl Z,by simp⟩
  · obtain⟨e,m⟩:=g;simp only[e,bm,if_true,if_false]at i;cases i;exact⟨z m,.inl Z,by simp⟩
  · obtain⟨e,w,m⟩:=g;simp only[e,bm,if_true,if_false]at i;cases i;split
    · exact⟨z m,.inl Z,by simp⟩
    · exact⟨E,.inl Z,by simp⟩
end
open Go Go.Proofs Go.LX
def insOf(a:List bu)(f:LX.Frame):Option (bu×Ins):=(idx a f.proc).bind fun x=>(idx x.code f.at_).map fun c=>(x,c)
def zK(a:List bu)(s:LX.State):Option (LX.State×Option Int×Bool):=
 s.frames.getLast?.bind fun f=>(insOf a f).bind fun q=>sW a s.frames.dropLast f s.cells s.status s.bM q.1 q.2
def LU(a:List bu)(s:LX.State):Int:=((s.frames.getLast?.bind fun f=>insOf a f).map fun q=>q.2.op).getD 0
def tZ(a:List bu):Nat->List Int->Nat->LX.State->LX.State×List Int×Nat
 |0,said,n,s=>(s,said,n)
 |m+1,said,n,s=>
  if s.status≠0 then(s,said,n)else
  if said.length=40/\LU a s=9 then(s,said,n)else
  match zK a s with
  |none=>({s with status:=2},said,n+1)
  |some (t,o,p)=>if p then(t,said++o.toList,n+1)else tZ a m (said++o.toList) (n+1) t
theorem Ht{a:List bu}(d:mF a){s:LX.State}(h:vz a s)(b:s.status=0):∃pre f x c,s=⟨pre++[f],s.cells,0,0⟩/\wN a pre f s.cells x c/\zK a s=sW a pre f s.cells 0 0 x c/\LU a s=c.op:=by
  obtain⟨fr,cells,st,wh⟩:=s;simp only at b;subst b;have e:wh=0:=h.stay zq3;subst e;rcases gh fr with hp|⟨pre,f,hp⟩
  · have:=h.ended.2 hp;simp at this
  · rw[gi]at hp;subst hp;obtain⟨x,c,g⟩:=top_ok d h;refine⟨pre,f,x,c,Z,g,?_,?_⟩
    · unfold zK insOf;simp only[eI,eh,fy,fm,bnd,g.fr.proc,g.ins,db]
    · unfold LU insOf;simp only[eI,eh,fy,bnd,g.fr.proc,g.ins,db,eM]
theorem vm_step_P{a:List bu}(b:mF a){s:LX.State}(h:vz a s)(g:s.status=0){N:Nat}(hN:100<=N):R1 (xD N s a) (zK a s):=by
 obtain⟨pre,f,x,c,e,d,i,-⟩:=Ht b h g;rw[i];generalize s.cells=cells at*;subst e;exact vm_step_ok b hN d
theorem zL{a:List bu}(b:mF a){s:LX.State}(h:vz a s)(g:s.status=0){t:LX.State}{o:Option Int}{p:Bool}(d:zK a s=aj (t,o,p)):
  vz a t/\(t.status=0\/t.status=1/\p=aq\/t.status=3/\p=ba)/\(o.isSome->t.status=0/\LU a s=9):=by
 obtain⟨pre,f,x,c,k,i,j,e⟩:=Ht b h g;rw[j]at d;rw[e];exact step_keeps b i Z d
theorem top_reads{a:List bu}(i:mF a){s:LX.State}(h:vz a s)(g:s.status=0):(s.frames.length<=10/\1<=s.frames.length)/\∃f x c,idx s.frames ((s.frames.length:Int)-1)=aj f/\idx a f.proc=aj x/\idx x.code f.at_=aj c/\c.op=LU a s:=by
 obtain⟨pre,f,x,c,d,b,j,e⟩:=Ht i h g;refine⟨⟨h.many,by rw[d];simp⟩,f,x,c,?_,b.fr.proc,b.ins,e.symm⟩;have:s.frames=pre++[f]:=by rw[d]
 rw[this,xH,TV]
theorem fail_ok{a:List bu}{s:LX.State}(h:vz a s)(c:s.status=0):vz a {s with status:=2}:=by
  have b:s.bM=0:=h.stay V;refine⟨by simp,h.bM,fun _=>b,?_,h.many,h.cells,h.frames⟩;constructor
  · intro e;simp at e
  · intro e;have:=h.ended.2 e;omega
theorem run_loop{a:List bu}(w:mF a){N:Nat}(hN:100<=N)(c:Int):∀(m M:Nat) (b:List Int) (n:Nat) (s:LX.State),vz a s->b.length<=40->c=(n:Int)+m->c<=2000->m<M->
    again (BG N c a) M (b,(n:Int),s.frames,s.cells,s.status,s.bM)=aj ((tZ a m b n s).1,(tZ a m b n s).2.1,((tZ a m b n s).2.2:Int),0)
  |m,0,b,n,s,h,hl,hc,hb,hM=>by omega
  |0,M+1,b,n,s,h,hl,hc,hb,hM=>by
    rw[DV];unfold BG Ck tZ;simp only;rw[show(ab ((n:Int)<c)&&ab ((s.status:Int)=0))=aq by rw[dF V];rfl,cond_false]
  |m+1,M+1,b,n,s,h,hl,hc,hb,hM=>by
    rw[DV];have C:=run_loop w hN c m M;generalize again (BG N c a) M=K at C⊢;unfold BG tZ;simp only;by_cases k:s.status=0
    · rw[dT V,dT k,mL,cond_true,if_neg V];obtain⟨L,f,x,i,F,G,E,I⟩:=top_reads w h k;rw[gI V V,F,bnd];have go:IX N b n s.frames s.cells s.status s.bM a K aq=aj (match zK a s with
          |none=>({s with status:=2},b,((n+1:Nat):Int),0)
          |some (t,o,p)=>if p then(t,b++o.toList,((n+1:Nat):Int),0)else((tZ a m (b++o.toList) (n+1) t).1,(tZ a m (b++o.toList) (n+1) t).2.1,((tZ a m (b++o.toList) (n+1) t).2.2:Int),0))\/(b.length=40/\LU a s=9):=by
        by_cases d:b.length=40/\LU a s=9
        · exact .inr d
        left;unfold IX;rw[cond_false,show(⟨s.frames,s.cells,s.status,s.bM⟩:LX.State)=s from rfl,copy_eq (h.small w),bnd];obtain⟨o,P,r,O,u⟩:=vm_step_P w h k hN;rw[O,bnd,gI V V];cases eq:zK a s with
        |none=>
          rw[eq]at u;simp only at u;subst u;simp only[ir,cond_true];unfold Ck
          push_cast;rfl
        |some q=>
          obtain⟨t,o2,p⟩:=q;rw[eq]at u;obtain⟨rfl,rfl,rfl⟩:=u;have B:=zL w h k eq;simp only[dI,cond_false];have v:∀l,l=b++o2.toList->l.length<=40->IW (⟨o2.isSome,o2.getD 0,p⟩,ba,r) n K l=aj (if p then(r,b++o2.toList,((n+1:Nat):Int),0)else((tZ a m (b++o2.toList) (n+1) r).1,(tZ a m (b++o2.toList) (n+1) r).2.1,((tZ a m (b++o2.toList) (n+1) r).2.2:Int),0)):=by
            intro l y A;subst y;unfold IW Ck;simp only;cases p with
            |true=>rw[cond_true,if_pos Z];push_cast;rfl
            |false=>
              rw[cond_false,if_neg zq3];have:=C (b++o2.toList) (n+1) r B.1 A (by push_cast;omega) hb V;rw[<-this];push_cast;rfl
          cases o2 with
          |none=>
            simp only[py,cond_false];exact v b zq3 hl
          |some z=>
            have j:=(B.2.2 Z).2;simp only[Option.isSome_some,cond_true];rw[jN (room_le (by simp;omega) zq1)];exact v (b++[z]) zq3 (by simp;omega)
      by_cases g:b.length=40
      · rw[dT V,cond_true,G,bnd,E,bnd,I];by_cases j:LU a s=9
        · rw[if_pos ⟨g,j⟩,dT j];rfl
        · rw[if_neg (fun e=>j e.2),dF j];rcases go with go|go
          · rw[go];cases zK a s with
            |none=>rfl
            |some q=>obtain⟨t,o,p⟩:=q;cases p<;>rfl
          · exact absurd go.2 j
      · rw[dF V,cond_false,if_neg (fun e=>g e.1)];rcases go with go|go
        · rw[go];cases zK a s with
          |none=>rfl
          |some q=>obtain⟨t,o,p⟩:=q;cases p<;>rfl
        · exact absurd go.1 g
    · rw[dF k,Bool.and_false,cond_false,if_pos k];rfl
theorem P6{a:List bu}(i:mF a):∀(m:Nat) (b:List Int) (n:Nat) (s:LX.State),vz a s->b.length<=40->
    vz a (tZ a m b n s).1/\(tZ a m b n s).2.1.length<=40/\n<=(tZ a m b n s).2.2/\(tZ a m b n s).2.2<=n+m/\b<+:(tZ a m b n s).2.1/\(tZ a m b n s).2.1.length<=b.length+((tZ a m b n s).2.2-n)/\((tZ a m b n s).2.2=n->(tZ a m b n s).1=s)
  |0,b,n,s,h,hl=>⟨h,hl,bt _,bt _,cr _,by simp[tZ],fun _=>rfl⟩
  |m+1,b,n,s,h,hl=>by
    unfold tZ;by_cases g:s.status=0
    · rw[if_neg V];by_cases d:b.length=40/\LU a s=9
      · rw[if_pos d];exact⟨h,hl,bt _,by simp,cr _,by simp,fun _=>rfl⟩
      · rw[if_neg d];cases eq:zK a s with
        |none=>exact⟨fail_ok h g,hl,by simp,by simp,cr _,by simp,fun e=>by simp at e⟩
        |some q=>
          obtain⟨t,o,p⟩:=q;have f:=zL i h g eq;have c:(b++o.toList).length<=40:=by
            cases o with
            |none=>simpa using hl
            |some z=>have w:=(f.2.2 Z).2;simp;omega
          have ho:o.toList.length<=1:=by cases o<;>simp
          simp only;split
          · exact⟨f.1,c,by simp,by simp,eE _ _,by show(b++o.toList).length<=b.length+(n+1-n);rw[bc];omega,fun e=>by simp at e⟩
          · obtain⟨k,l,u,x,r,j,v⟩:=P6 i m (b++o.toList) (n+1) t f.1 c;refine⟨k,l,by omega,by omega,(eE _ _).trans r,?_,fun e=>by omega⟩;rw[bc]at j;omega
    · rw[if_pos g];exact⟨h,hl,bt _,by simp,cr _,by simp,fun _=>rfl⟩
theorem Wy(a:List bu)(s:LX.State)(c:Int){N:Nat}(hN:3000<=N):RH N a s c=aj (if Jc a≠0 then(⟨[],[],0,0⟩,[],0,Jc a)else if ckS a s≠0 then(⟨[],[],0,0⟩,[],0,ckS a s)else if c<0\/2000<c then(⟨[],[],0,0⟩,[],0,3)else if s.status≠0 then(⟨[],[],0,0⟩,[],0,7)else((tZ a c.toNat [] 0 s).1,(tZ a c.toNat [] 0 s).2.1,((tZ a c.toNat [] 0 s).2.2:Int),0)):=by
  unfold RH;rw[JU,bnd];by_cases b:Jc a=0
  · rw[if_neg V,if_neg V];by_cases e:ckS a s=0
    · rw[dF V,cond_false,if_neg V];by_cases d:c<0\/2000<c
      · rw[show(ab ((c:Int)<0)||ab ((2000:Int)<c))=ba by rw[dt];simp only[decide_eq_true_eq];exact d,cond_true,if_pos d]
      · rw[show(ab ((c:Int)<0)||ab ((2000:Int)<c))=aq by rw[cP];simp only[decide_eq_false_iff_not];omega,cond_false,if_neg d];by_cases f:s.status=0
        · rw[dF V,cond_false,if_neg V];have h:=ng b;have g:=EP.1 e;rw[copy_eq (g.small h),bnd];have:=run_loop h (N:=N) V c c.toNat N [] 0 s g zq3 V V V;exact this
        · rw[dT f,cond_true,if_pos f]
    · rw[dT e,cond_true,if_pos e]
  · rw[if_pos b,if_pos b,dT b,cond_true]
theorem ZV(a:List bu)(s:LX.State):PQ a s=aj (if Jc a≠0 then(⟨[],[],0,0⟩,Jc a)else if ckS a s≠0 then(⟨[],[],0,0⟩,ckS a s)else if s.status≠3 then(⟨[],[],0,0⟩,7)else(⟨s.frames,s.cells,0,0⟩,0)):=by
  unfold PQ;rw[JU,bnd];by_cases b:Jc a=0
  · rw[if_neg V,if_neg V];by_cases c:ckS a s=0
    · rw[dF V,cond_false,if_neg V];by_cases d:s.status=3
      · rw[dF V,cond_false,if_neg V,copy_eq ((EP.1 c).small (ng b)),bnd]
      · rw[dT d,cond_true,if_pos d]
    · rw[dT c,cond_true,if_pos c]
  · rw[if_pos b,if_pos b,dT b,cond_true]
def kP(a:List bu):LX.State:=⟨[⟨0,0,cc (((idx a 0).map (fun x:bu=>x.regs)).getD 0).toNat ⟨0,0⟩,0⟩],[],0,0⟩
theorem ZW{a:List bu}(b:mF a):∃x,idx a 0=aj x:=by
 have:=b.many;cases a with
 |nil=>simp at this
 |cons x l=>exact⟨x,idx0 x l⟩
theorem vm_New_eq(a:List bu):Vs a=aj (if Jc a≠0 then(⟨[],[],0,0⟩,Jc a)else(kP a,0)):=by
  unfold Vs;rw[Wt,bnd];by_cases b:Jc a=0
  · rw[dF V,cond_false,if_neg V];obtain⟨x,c⟩:=ZW<|ng b;have:=((ng b).mem c).2.2.1;rw[c,bnd,jN V];unfold kP;rw[c];rfl
  · rw[dT b,cond_true,if_pos b]
theorem TZ{a:List bu}(d:mF a):vz a (kP a):=by
  obtain⟨x,b⟩:=ZW d;have e:=d.mem b;have g:=e.2.2.2;unfold tN at g;refine⟨by simp[kP],by simp[kP],by simp[kP],by simp[kP],by simp[kP],⟨by simp[kP],fun c f=>by simp[kP]at f⟩,⟨x,b,by simp only;omega,?_,fun v h=>?_⟩,by simp,trivial⟩
  · simp only[b,db,eM,jq];omega
  · have:=ft h;subst this;unfold j3;simp
def wO(ρ:Int->Int)(v:Val):Val:=if v.kind=2 then⟨v.kind,ρ v.n⟩else v
def mG(ρ:Int->Int)(f:LX.Frame):LX.Frame:={f with regs:=f.regs.map (wO ρ)}
structure XB(ρ:Int->Int)(R:List Int)(s t:LX.State):Prop where
 frames:t.frames=s.frames.map (mG ρ)
 status:t.status=s.status
 bM:t.bM=s.bM
 roots:jX (YtodkbibbgakkdaaGreatDoor.roots s.frames) R
 range:∀x∈R,0<=x/\x<s.cells.length
 range':∀x∈R,0<=ρ x/\ρ x<t.cells.length
 inj:∀x∈R,∀y∈R,ρ x=ρ y->x=y
 cells:∀x∈R,cellAt t.cells (ρ x)=(cellAt s.cells x).map (wO ρ)/\jX (cellAt s.cells x) R
theorem Cq(ρ:Int->Int)(v:Val):(wO ρ v).kind=v.kind:=by unfold wO;split<;>rfl
theorem T9(ρ:Int->Int){v:Val}(h:v.kind=2):wO ρ v=⟨v.kind,ρ v.n⟩:=if_pos h
theorem JV(ρ:Int->Int){v:Val}(h:v.kind≠2):wO ρ v=v:=if_neg h
section
variable{ρ:Int->Int}{R:List Int}{s t:LX.State}
theorem mem_map_inj(d:∀x∈R,∀y∈R,ρ x=ρ y->x=y){l:List Int}(c:∀x∈l,x∈R){x:Int}(b:x∈R):ρ x∈l.map ρ↔x∈l:=by
  constructor
  · intro h;obtain⟨y,a,e⟩:=ea.1 h;rw[<-d y (c y a) x b e];exact a
  · exact fun h=>List.mem_map_of_mem h
theorem QD(a:∀x∈R,∀y∈R,ρ x=ρ y->x=y):∀{l:List Int},(∀x∈l,x∈R)->∀{x:Int},x∈R->(l.map ρ).idxOf (ρ x)=l.idxOf x
  |[],_,x,_=>rfl
  |y::l,hl,x,hx=>by
    rw[ck,sv,sv,QD a (fun z hz=>hl z (bk _ hz)) hx];by_cases e:y=x
    · subst e;simp
    · have b:ρ y≠ρ x:=fun h=>e<|a y (hl y zq3) x hx h;rw[show(ρ y==ρ x)=aq by simpa using b,show(y==x)=aq by simpa using e]
theorem metV_map(g:∀x∈R,∀y∈R,ρ x=ρ y->x=y){l:List Int}(e:∀x∈l,x∈R){v:Val}(f:v.kind=2->v.n∈R):TS (l.map ρ) (wO ρ v)=(TS l v).map ρ/\∀x∈TS l v,x∈R:=by
  unfold TS;by_cases a:v.kind=2
  · rw[T9 ρ a];simp only[a,true_and];have c:=mem_map_inj g e<|f a;by_cases d:v.n∈l
    · rw[if_neg (fun h=>h (c.2 d)),if_neg (fun h=>h d)];exact⟨Z,e⟩
    · rw[if_pos (fun h=>d (c.1 h)),if_pos d];refine⟨by simp,fun x b=>?_⟩;rcases cV.1 b with b|b
      · exact e x b
      · simp at b;subst b;exact f a
  · rw[JV ρ a,if_neg (fun h=>a h.1),if_neg (fun h=>a h.1)];exact⟨Z,e⟩
theorem ZX(a:∀x∈R,∀y∈R,ρ x=ρ y->x=y):∀{vs:List Val} {l:List Int},(∀x∈l,x∈R)->jX vs R->TT (l.map ρ) (vs.map (wO ρ))=(TT l vs).map ρ/\∀x∈TT l vs,x∈R
 |[],l,hl,_=>⟨rfl,hl⟩
 |v::vs,l,hl,hv=>by
  obtain⟨c,b⟩:=metV_map a hl<|hv v zq3;rw[ck,PZ,PZ,c];exact ZX a b fun w d=>hv w<|bk _ d
theorem XB.bfs(h:XB ρ R s t):∀(m k:Nat) (l:List Int),(∀x∈l,x∈R)->bfs t.cells m k (l.map ρ)=(bfs s.cells m k l).map ρ/\∀x∈bfs s.cells m k l,x∈R
  |0,k,l,hl=>⟨rfl,hl⟩
  |m+1,k,l,hl=>by
    unfold YtodkbibbgakkdaaGreatDoor.bfs;by_cases a:k<l.length
    · rw[dif_pos a,dif_pos (by simpa using a)];have e:=hl _<|cx a;have b:=h.cells _ e;rw[rK,b.1];obtain⟨c,d⟩:=ZX h.inj hl b.2;rw[c];exact XB.bfs h m (k+1) _ d
    · rw[dif_neg a,dif_neg (by simpa using a)];exact⟨Z,hl⟩
theorem roots_map(ρ:Int->Int):∀fr:List LX.Frame,YtodkbibbgakkdaaGreatDoor.roots (fr.map (mG ρ))=(YtodkbibbgakkdaaGreatDoor.roots fr).map (wO ρ)
 |[]=>rfl
 |f::fr=>by
  have:=roots_map ρ fr;unfold YtodkbibbgakkdaaGreatDoor.roots at*;rw[ck,eL,eL,cI,this];rfl
theorem XB.reach(h:XB ρ R s t):fD t=(fD s).map ρ/\∀x∈fD s,x∈R:=by
 unfold fD OZ;rw[h.frames,roots_map];obtain⟨a,b⟩:=ZX h.inj (l:=[]) (fun x c=>by cases c) h.roots;rw[et]at a;rw[a];exact h.bfs 25 0 _ b
theorem ren_map(h:XB ρ R s t){v:Val}(b:v.kind=2->v.n∈R):ren (fD t) (wO ρ v)=ren (fD s) v:=by
  unfold ren;rw[Cq];by_cases a:v.kind=2
  · rw[if_pos a,if_pos a,T9 ρ a,h.reach.1,QD h.inj h.reach.2 (b a)]
  · rw[if_neg a,if_neg a,JV ρ a]
theorem zM{α β:Type}{f g:α->β}:∀{l:List α},(∀x∈l,f x=g x)->l.map f=l.map g:=fun h=>List.map_congr_left h
theorem XB.sweep(h:XB ρ R s t):dM t=dM s:=by
 have b:t.frames.map (Kn<|fD t)=s.frames.map (Kn<|fD s):=by
  rw[h.frames,jw];refine zM fun f g=>?_;have:(f.regs.map<|wO ρ).map (ren<|fD t)=f.regs.map (ren<|fD s):=by
   rw[jw];exact zM fun v a=>ren_map h<|Jd h.roots f g v a
  show Kn (fD t) (mG ρ f)=Kn (fD s) f;unfold Kn mG;simp only[this]
 have c:(fD t).map (fun k=>(cellAt t.cells k).map<|ren<|fD t)=(fD s).map (fun k=>(cellAt s.cells k).map<|ren<|fD s):=by
  conv=>lhs;rw[h.reach.1]
  rw[jw];refine zM fun k e=>?_;have d:=h.cells k<|h.reach.2 k e;show(cellAt t.cells<|ρ k).map (ren _)=_;rw[d.1,jw,<-h.reach.1];exact zM fun v a=>ren_map h<|d.2 v a
 unfold dM;rw[b,c,h.status,h.bM]
end
theorem M5{cells:List (List Val)}{i:Nat}(h:i<cells.length):cellAt cells (i:Int)=cells[i]:=by unfold cellAt;rw[xg h];rfl
theorem iso_sweep{s:LX.State}(h:O3 s):XB (fun x=>((fD s).idxOf x:Nat)) (fD s) s (dM s) where
 frames:=rfl
 status:=rfl
 bM:=rfl
 roots:=h.reach.2.1
 range:=h.reach.1.2
 range' x hx:=by
  have:=eg hx;simp only[dM,cG];omega
 inj x hx y hy e:=by
  have e':(fD s).idxOf x=(fD s).idxOf y:=by omega
  have h1:=hJ<|eg hx;have h2:=hJ<|eg hy;rw[<-h1,<-h2];simp only[e']
 cells x hx:=by
  have hlt:=eg hx;refine⟨?_,h.reach.2.2 x hx⟩;rw[M5 (by simpa[dM]using hlt)];simp only[dM,rK];rw[hJ hlt];rfl
theorem M6{s:LX.State}(h:O3 s):dM (dM s)=dM s:=(iso_sweep h).sweep
open Go Go.Proofs Go.LX
theorem map_eq_map{α β:Type}{f g:α->β}{k:α->α}:∀{l m:List α},l.map f=m.map g->(∀x∈l,∀y∈m,f x=g y->y=k x)->m=l.map k
 |[],[],_,_=>rfl
 |[],y::m,h,_=>by simp at h
 |x::l,[],h,_=>by simp at h
 |x::l,y::m,h,hk=>by
  rw[ck,ck,kb]at h;rw[ck,hk x zq3 y zq3 h.1,map_eq_map h.2 (fun a c b d=>hk a (bk _ c) b (bk _ d))]
theorem ren_eq{l m:List Int}(c:l.length=m.length){v w:Val}(j:v.kind=2->v.n∈l)(f:w.kind=2->w.n∈m)(h:ren l v=ren m w):w=wO (fun x=>m[l.idxOf x]?.getD 0) v:=by
  obtain⟨k,n⟩:=v;obtain⟨d,i⟩:=w;unfold ren at h;by_cases b:k=2
  · subst b;by_cases a:d=2
    · subst a;simp only[if_true,Val.mk.injEq,true_and]at h;have g:l.idxOf n=m.idxOf i:=by omega
      have e:=eg<|f Z;unfold wO;simp only[if_true];rw[g,bh e,eM,hJ e]
    · simp only[if_true,if_neg a,Val.mk.injEq]at h;exact absurd h.1.symm a
  · by_cases a:d=2
    · subst a;simp only[if_true,if_neg b,Val.mk.injEq]at h;exact absurd h.1 b
    · simp only[if_neg b,if_neg a]at h;unfold wO;simp only[if_neg b];exact h.symm
theorem nodup_inj{l:List Int}(h:l.Nodup){i j:Nat}(a:i<l.length)(b:j<l.length)(e:l[i]=l[j]):i=j:=by
  rcases Nat.lt_trichotomy i j with hlt|rfl|hlt
  · exact absurd e<|ox.1 h i j a b hlt
  · rfl
  · exact absurd e.symm<|ox.1 h j i b a hlt
theorem Ua{s t:LX.State}(q:O3 s)(A:O3 t)(h:dM s=dM t):XB (fun x=>(fD t)[(fD s).idxOf x]?.getD 0) (fD s) s t:=by
  have d:(fD s).length=(fD t).length:=by
    have:=congrArg (fun u:LX.State=>u.cells.length) h;simpa[dM]using this
  have M:s.frames.map (Kn<|fD s)=t.frames.map (Kn<|fD t):=congrArg (fun u:LX.State=>u.frames) h;have Q:(fD s).map (fun k=>(cellAt s.cells k).map<|ren<|fD s)=(fD t).map (fun k=>(cellAt t.cells k).map<|ren<|fD t):=congrArg (fun u:LX.State=>u.cells) h;have c:∀x∈fD s,∃i,∃(l:i<(fD s).length) (m:i<(fD t).length),(fD s).idxOf x=i/\(fD s)[i]=x/\(fD t)[(fD s).idxOf x]?.getD 0=(fD t)[i]:=by
    intro x b;have l:=eg b;refine⟨_,l,by omega,Z,hJ l,?_⟩;rw[bh V,eM]
  refine⟨?_,?_,?_,q.reach.2.1,q.reach.1.2,?_,?_,?_⟩
  · refine map_eq_map M fun f G g E e=>?_;have N:f.regs.map (ren<|fD s)=g.regs.map (ren<|fD t):=congrArg (fun u:LX.Frame=>u.regs) e;have I:=map_eq_map (k:=wO fun x=>(fD t)[(fD s).idxOf x]?.getD 0) N fun v C w F e=>ren_eq d (Jd q.reach.2.1 f G v C) (Jd A.reach.2.1 g E w F) e;obtain⟨p,a,r,o⟩:=f;obtain⟨R,a',S,T⟩:=g;simp only[Kn,LX.Frame.mk.injEq]at e;simp only at I;unfold mG;simp only[LX.Frame.mk.injEq];exact⟨e.1.symm,e.2.1.symm,I,e.2.2.2.symm⟩
  · exact(congrArg (fun u:LX.State=>u.status) h).symm
  · exact(congrArg (fun u:LX.State=>u.bM) h).symm
  · intro x b;obtain⟨i,l,m,K,B,z⟩:=c x b;rw[z];exact A.reach.1.2 _<|cx _
  · intro x b y O e;obtain⟨i,l,m,K,B,z⟩:=c x b;obtain⟨j,g1,g2,X,P,L⟩:=c y O;rw[z,L]at e;have:i=j:=nodup_inj A.reach.1.1 m g2 e;subst this;rw[<-B,<-P]
  · intro x b;obtain⟨i,l,m,K,B,z⟩:=c x b;refine⟨?_,q.reach.2.2 x b⟩;rw[z];have n:(cellAt s.cells (fD s)[i]).map (ren<|fD s)=(cellAt t.cells (fD t)[i]).map (ren<|fD t):=by
      have:=congrArg (fun u:List (List Val)=>u[i]?) Q;simp only[ej,bh l,bh m,db,eJ]at this;exact this
    rw[B]at n;exact map_eq_map n fun v C w F e=>ren_eq d (q.reach.2.2 x b v C) (A.reach.2.2 _ (cx _) w F) e
section
variable{a:List bu}{ρ:Int->Int}{R:List Int}{s t:LX.State}
theorem XB.mk'(h:XB ρ R s t){fr:List LX.Frame}(a:jX (YtodkbibbgakkdaaGreatDoor.roots fr) R)(st wh:Int):XB ρ R ⟨fr,s.cells,st,wh⟩ ⟨fr.map (mG ρ),t.cells,st,wh⟩:=
 ⟨rfl,rfl,rfl,a,h.range,h.range',h.inj,h.cells⟩
theorem ZY{cells:List (List Val)}{k j:Int}{c:List Val}(a:0<=k/\k<cells.length)(b:0<=j/\j<cells.length):cellAt (cells.set k.toNat c) j=if j=k then c else cellAt cells j:=by
  obtain⟨n,rfl⟩:=bs a.1;obtain⟨m,rfl⟩:=bs b.1;unfold cellAt;rw[bj,kL,kL,List.getElem?_set];by_cases e:n=m
  · subst e;rw[if_pos rfl,if_pos V,if_pos rfl];rfl
  · rw[if_neg e,if_neg V]
theorem Ub{vs:List Val}{i:Nat}{v:Val}(h:jX vs R)(c:v.kind=2->v.n∈R):jX (vs.set i v) R:=fun w a b=>by
  rcases ki a with a|rfl
  · exact h w a b
  · exact c b
theorem XB.put(h:XB ρ R s t){fr:List LX.Frame}(d:jX (YtodkbibbgakkdaaGreatDoor.roots fr) R){k:Int}(b:k∈R){i:Nat}{v:Val}(f:v.kind=2->v.n∈R)(st wh:Int):
    XB ρ R ⟨fr,s.cells.set k.toNat ((cellAt s.cells k).set i v),st,wh⟩ ⟨fr.map (mG ρ),t.cells.set (ρ k).toNat ((cellAt t.cells (ρ k)).set i (wO ρ v)),st,wh⟩:=by
  refine⟨Z,Z,Z,d,fun x a=>by simpa using h.range x a,fun x a=>by simpa using h.range' x a,h.inj,fun x a=>?_⟩;simp only;rw[ZY (h.range' k b) (h.range' x a),ZY (h.range k b) (h.range x a)];have c:=h.cells x a;by_cases e:x=k
  · subst e;rw[if_pos rfl,if_pos rfl,c.1,gE];exact⟨Z,Ub c.2 f⟩
  · rw[if_neg e,if_neg (fun q=>e (h.inj x a k b q))];exact c
theorem renFr_congr{a:Int->Int}{f:LX.Frame}(e:jX f.regs R)(d:∀x∈R,a x=ρ x):mG a f=mG ρ f:=by
  unfold mG;have:f.regs.map (wO a)=f.regs.map (wO ρ):=zM (fun v c=>by
    unfold wO;by_cases b:v.kind=2
    · rw[if_pos b,if_pos b,d _ (e v c b)]
    · rw[if_neg b,if_neg b])
  rw[this]
theorem ZZ{b:Int->Int}{vs:List Val}(e:jX vs R)(d:∀x∈R,b x=ρ x):vs.map (wO b)=vs.map (wO ρ):=zM (fun v c=>by
    unfold wO;by_cases a:v.kind=2
    · rw[if_pos a,if_pos a,d _ (e v c a)]
    · rw[if_neg a,if_neg a])
theorem Z0{cells:List (List Val)}{z:List Val}{k:Int}(a:0<=k/\k<cells.length):cellAt (cells++[z]) k=cellAt cells k:=by
 obtain⟨n,rfl⟩:=bs a.1;rw[M5 (by simp;omega),M5 V,List.getElem_append_left V]
theorem Xk{cells:List (List Val)}{z:List Val}:cellAt (cells++[z]) (cells.length:Int)=z:=by
 rw[M5 zq3];simp
theorem Cr(p:List LX.Frame)(f:LX.Frame):roots (p++[f])=roots p++f.regs:=by unfold roots;simp
theorem jX.app{u v:List Val}:jX (u++v) R↔jX u R/\jX v R:=⟨fun h=>⟨fun w a=>h w (List.mem_append_left _ a),fun w a=>h w (List.mem_append_right _ a)⟩,fun h w a=>(cV.1 a).elim (h.1 w) (h.2 w)⟩
theorem XB.new{p:List LX.Frame}{f:LX.Frame}{cells cs:List (List Val)}{st wh:Int}{q:List LX.Frame}{t:LX.Frame}(h:XB ρ R ⟨p++[f],cells,st,wh⟩ ⟨q++[t],cs,st,wh⟩)(i:Nat)(z:Nat):
    dM ⟨q++[{t with regs:=t.regs.set i ⟨2,cs.length⟩}],cs++[cc z ⟨0,0⟩],st,wh⟩=dM ⟨p++[{f with regs:=f.regs.set i ⟨2,cells.length⟩}],cells++[cc z ⟨0,0⟩],st,wh⟩:=by
  have r:=h.frames;simp only[cI,ck,et]at r;obtain⟨B,v⟩:=rL r Z;simp only[kb,and_true]at v;subst B v;have n:=h.roots;simp only[Cr,jX.app]at n;have c:=h.range;have b:=h.range';simp only at c b;have o:∀x∈R,x≠cells.length:=fun x a=>by have:=c x a;omega
  let l:Int->Int:=fun x=>if x=cells.length then cs.length else ρ x
  have d:∀x∈R,l x=ρ x:=fun x a=>if_neg<|o x a;have s:l cells.length=cs.length:=if_pos Z;have I:XB l ((cells.length:Int)::R) ⟨p++[{f with regs:=f.regs.set i ⟨2,cells.length⟩}],cells++[cc z ⟨0,0⟩],st,wh⟩ ⟨p.map (mG ρ)++[{mG ρ f with regs:=(mG ρ f).regs.set i ⟨2,cs.length⟩}],cs++[cc z ⟨0,0⟩],st,wh⟩:=by
    refine⟨?_,Z,Z,?_,?_,?_,?_,?_⟩
    · simp only[cI,ck,et];congr 1
      · exact zM fun g A=>(renFr_congr (Jd n.1 g A) d).symm
      · unfold mG;simp only[gE];rw[ZZ n.2 d];congr 2;simp only[wO,if_true,s]
    · simp only[Cr,jX.app];refine⟨fun w k j=>bk _<|n.1 w k j,Ub (fun w k j=>bk _<|n.2 w k j) (fun _=>by simp)⟩
    · intro x a;simp only[bc,bq,eA];rcases bn.1 a with rfl|a
      · omega
      · have:=c x a;omega
    · intro x a;simp only[bc,bq,eA];rcases bn.1 a with rfl|a
      · rw[s];omega
      · rw[d x a];have:=b x a;omega
    · intro x a y m e;rcases bn.1 a with rfl|a<;>rcases bn.1 m with rfl|m
      · rfl
      · rw[s,d y m]at e;have:=b y m;omega
      · rw[s,d x a]at e;have:=b x a;omega
      · rw[d x a,d y m]at e;exact h.inj x a y m e
    · intro x a;simp only;rcases bn.1 a with rfl|a
      · rw[s,Xk,Xk];refine⟨by simp[wO],fun w k j=>?_⟩;have:=ft k;subst this;simp at j
      · rw[d x a,Z0 (c x a),Z0 (b x a)];have u:=h.cells x a;rw[ZZ u.2 d];exact⟨u.1,fun w k j=>bk _<|u.2 w k j⟩
  exact I.sweep
end
def Sim(x y:Option (LX.State×Option Int×Bool)):Prop:=match x,y with
 |none,aw=>True
 |some (s,o,p),aj (t,o',p')=>o=o'/\p=p'/\dM s=dM t
 |_,_=>False
section
variable{a:List bu}{ρ:Int->Int}{R:List Int}{pre:List LX.Frame}{f:LX.Frame}{cells cs:List (List Val)}{x:bu}{c:Ins}
theorem regAt_map{r:List Val}{n:Int}(a:(r.length:Int)=n){i:Int}(h:Gp n i):jJ (r.map (wO ρ)) i=wO ρ (jJ r i):=by
 obtain⟨k,rfl⟩:=bs h.1;have:=h.2;unfold jJ;rw[kL,kL,ej,bh V];rfl
theorem opP_ren{k:Int}{b d:Val}(r:∀x∈R,∀y∈R,ρ x=ρ y->x=y)(s:b.kind=2->b.n∈R)(p:d.kind=2->d.n∈R):opP k (wO ρ b) (wO ρ d)=opP k b d/\∀v,opP k b d=aj v->v.kind=1:=by
  obtain⟨k1,c⟩:=b;obtain⟨k2,a⟩:=d;have o:∀v,opP k ⟨k1,c⟩ ⟨k2,a⟩=aj v->v.kind=1:=by
    intro v h;unfold opP at h;split at h
    · cases h;rfl
    split at h
    · cases h
    split at h
    · cases h;rfl
    simp only at h;generalize (if k=1 then c+a else if k=2 then c-a else c*a)=z at h;split at h
    · cases h;rfl
    · cases h
  refine⟨?_,o⟩;unfold opP;by_cases m:k=5
  · rw[if_pos m,if_pos m];have:(wO ρ ⟨k1,c⟩=wO ρ ⟨k2,a⟩)↔((⟨k1,c⟩:Val)=⟨k2,a⟩):=by
      unfold wO;simp only;by_cases g:k1=2
      · by_cases f:k2=2
        · rw[if_pos g,if_pos f];simp only[Val.mk.injEq];constructor
          · rintro⟨i,j⟩;exact⟨i,r _ (s g) _ (p f) j⟩
          · rintro⟨i,j⟩;exact⟨i,by rw[j]⟩
        · rw[if_pos g,if_neg f];simp only[Val.mk.injEq];constructor<;>(rintro⟨i,j⟩;omega)
      · by_cases f:k2=2
        · rw[if_neg g,if_pos f];simp only[Val.mk.injEq];constructor<;>(rintro⟨i,j⟩;omega)
        · rw[if_neg g,if_neg f]
    by_cases e:(⟨k1,c⟩:Val)=⟨k2,a⟩
    · rw[if_pos e,if_pos (this.2 e)]
    · rw[if_neg e,if_neg (fun q=>e (this.1 q))]
  · rw[if_neg m,if_neg m,Cq,Cq];by_cases l:k1≠1\/k2≠1
    · rw[if_pos l,if_pos l]
    · rw[if_neg l,if_neg l];have g:wO ρ ⟨k1,c⟩=⟨k1,c⟩:=JV ρ (by simp only;omega);have f:wO ρ ⟨k2,a⟩=⟨k2,a⟩:=JV ρ (by simp only;omega);rw[g,f]
theorem put_ren(i:Nat)(v:Val)(g:LX.Frame):({mG ρ g with regs:=(mG ρ g).regs.set i (wO ρ v)}:LX.Frame)=mG ρ {g with regs:=g.regs.set i v}:=by unfold mG;simp only[gE]
end
open Go Go.Proofs Go.LX
section
variable{a:List bu}{ρ:Int->Int}{R:List Int}{pre:List LX.Frame}{f:LX.Frame}{cells cs:List (List Val)}{x:bu}{c:Ins}
theorem BH{p:LX.State}{q:LX.State}{o:Option Int}{b:Bool}(h:XB ρ R p q):Sim (aj (p,o,b)) (aj (q,o,b)):=⟨rfl,rfl,h.sweep.symm⟩
theorem newP_top(p:List LX.Frame)(g:LX.Frame)(d:List (List Val))(st wh:Int):newP ⟨p++[g],d,st,wh⟩ c=if d.length=24 then aw else aj ⟨p++[{g with regs:=g.regs.set c.a.toNat ⟨2,d.length⟩}],d++[cc c.b.toNat ⟨0,0⟩],st,wh⟩:=by
 unfold newP;simp only[fm,eI,eh,fy,db,pA]
theorem step_sim(ha:mF a)(h:wN a pre f cells x c)(h2:wN a (pre.map (mG ρ)) (mG ρ f) cs x c)(hI:XB ρ R ⟨pre++[f],cells,0,0⟩ ⟨(pre++[f]).map (mG ρ),cs,0,0⟩):
    Sim (sW a pre f cells 0 0 x c) (sW a (pre.map (mG ρ)) (mG ρ f) cs 0 0 x c):=by
  have y:=hI.roots;simp only[Cr,jX.app]at y;have C:∀{i:Int},Gp x.regs i->jJ (mG ρ f).regs i=wO ρ (jJ f.regs i):=fun hi=>regAt_map h.fr.regs hi;have l:∀{i:Int},Gp x.regs i->(jJ f.regs i).kind=2->(jJ f.regs i).n∈R:=fun hi j=>y.2 _ (Je h.fr.regs hi).2 j
  --a frame on B
  have B:∀(g:LX.Frame) (st wh:Int),jX g.regs R->XB ρ R ⟨pre++[g],cells,st,wh⟩ ⟨pre.map (mG ρ)++[mG ρ g],cs,st,wh⟩:=by
    intro g st wh hg;have:=hI.mk' (fr:=pre++[g]) (by simp only[Cr,jX.app];exact⟨y.1,hg⟩) st wh;simpa using this
  have s:∀(i:Nat) (v:Val),(v.kind=2->v.n∈R)->XB ρ R ⟨pre++[{Ku f x with regs:=f.regs.set i v}],cells,0,0⟩ ⟨pre.map (mG ρ)++[{Ku (mG ρ f) x with regs:=(mG ρ f).regs.set i (wO ρ v)}],cs,0,0⟩:=by
    intro i v E;have:=B {Ku f x with regs:=f.regs.set i v} 0 0<|Ub y.2 E;have e:({Ku (mG ρ f) x with regs:=(mG ρ f).regs.set i (wO ρ v)}:LX.Frame)=mG ρ {Ku f x with regs:=f.regs.set i v}:=put_ren i v<|Ku f x;rw[e];exact this
  have M:XB ρ R ⟨pre++[Ku f x],cells,0,0⟩ ⟨pre.map (mG ρ)++[Ku (mG ρ f) x],cs,0,0⟩:=B (Ku f x) 0 0 y.2;have z:XB ρ R ⟨pre++[{Ku f x with at_:=c.b}],cells,0,0⟩ ⟨pre.map (mG ρ)++[{Ku (mG ρ f) x with at_:=c.b}],cs,0,0⟩:=B {Ku f x with at_:=c.b} 0 0 y.2;unfold sW;rcases h.good with g|g|g|g|g|g|g|g|g|g
  · obtain⟨d,t,u⟩:=g;simp only[d,bm,if_true,if_false];exact BH (by have:=s c.a.toNat ⟨1,c.b⟩ zq3;simpa[wO]using this)
  · obtain⟨d,t,u⟩:=g;simp only[d,bm,if_true,if_false];rw[C u];exact BH<|s _ _<|l u
  · obtain⟨d,t,u,N,n,hn,a2⟩:=g;simp only[d,hn,bm,if_true,if_false,nq];rw[C u,C N];obtain⟨e1,e2⟩:=opP_ren (k:=n) hI.inj (l u)<|l N;rw[e1];cases e:opP n (jJ f.regs c.b) (jJ f.regs c.c)with
    |none=>trivial
    |some v=>
      have j:=e2 v e;have:=s c.a.toNat v V;rw[JV ρ V]at this;exact BH this
  · obtain⟨d,t,u,N⟩:=g;rcases d with d|d
    · simp only[d,bm,if_true,if_false];rw[C u,Cq];by_cases j:(jJ f.regs c.b).kind=2
      · have hin:=l u j;have w:=hI.cells _ hin;simp only at w;rw[T9 ρ j];simp only[j];rw[w.1,cG];by_cases O:((cellAt cells (jJ f.regs c.b).n).length:Int)<=c.c
        · rw[if_pos (.inr O),if_pos (.inr O)];trivial
        · rw[if_neg (by simp;omega),if_neg (by simp;omega)];have P:Gp ((cellAt cells (jJ f.regs c.b).n).length:Int) c.c:=⟨N.1,by omega⟩;rw[regAt_map rfl P];exact BH<|s _ _<|w.2 _ (Je Z P).2
      · rw[if_pos (.inl j),if_pos (.inl j)];trivial
    · simp only[d,bm,if_true,if_false];rw[C t,C u,Cq];by_cases j:(jJ f.regs c.a).kind=2
      · have hin:=l t j;have w:=hI.cells _ hin;simp only at w;rw[T9 ρ j];simp only[j];have r:(cellAt cs<|ρ (jJ f.regs c.a).n).length=(cellAt cells (jJ f.regs c.a).n).length:=by rw[w.1,cG]
        rw[r];by_cases O:((cellAt cells (jJ f.regs c.a).n).length:Int)<=c.c
        · rw[if_pos (.inr O),if_pos (.inr O)];trivial
        · rw[if_neg (by simp;omega),if_neg (by simp;omega)];have:=hI.put (fr:=pre++[Ku f x]) (by simp only[Cr,jX.app];exact y) hin (i:=c.c.toNat) (l u) 0 0;simp only[cI,ck,et]at this;exact BH this
      · rw[if_pos (.inl j),if_pos (.inl j)];trivial
  · obtain⟨d,t,u⟩:=g;simp only[d,bm,if_true,if_false];have X:=wN.sw ha h (st:=0) (wh:=0) h.Ku;have T:=wN.sw ha h2 (st:=0) (wh:=0) h2.Ku;have hE:=M.sweep;have r:(fD ⟨pre.map (mG ρ)++[Ku (mG ρ f) x],cs,0,0⟩).length=(fD ⟨pre++[Ku f x],cells,0,0⟩).length:=by rw[M.reach.1,cG]
    --what is left of each
    have L:∀(p:List LX.Frame) (g:LX.Frame) (I:List (List Val)),O3 ⟨p++[g],I,0,0⟩->∃p' g' G,(if I.length=24 then dM ⟨p++[g],I,0,0⟩else(⟨p++[g],I,0,0⟩:LX.State))=⟨p'++[g'],G,0,0⟩/\O3 ⟨p'++[g'],G,0,0⟩/\dM ⟨p'++[g'],G,0,0⟩=dM ⟨p++[g],I,0,0⟩/\(G.length=24↔(fD ⟨p++[g],I,0,0⟩).length=24):=by
      intro p g I m;have a1:=m.reach.1.len;by_cases o:I.length=24
      · rw[if_pos o];refine⟨_,_,_,LM g,?_,?_,?_⟩
        · rw[<-LM];refine⟨⟨by simpa[dM]using m.small.frames,?_,(sweep_len m).2,fun c N=>((O5 m).2 c N).1.2⟩,O5 m,?_⟩
          · intro k j;simp only[dM,ea]at j;obtain⟨S,F,rfl⟩:=j;simpa[Kn]using m.small.regs S F
          · intro k j v E;simp only[dM,ea]at j;obtain⟨S,F,rfl⟩:=j;simp only[Kn,ea]at E;obtain⟨v0,Q,rfl⟩:=E;have:=ren_ok (m.vals S F v0 Q)<|Jd m.reach.2.1 S F v0 Q;simpa[dM]using this
        · rw[<-LM,M6 m]
        · simp[dM]
      · rw[if_neg o];refine⟨p,g,I,Z,m,Z,?_⟩;simp only at a1;have:=m.cells.1;simp only at this;omega
    obtain⟨p1,g1,d1,e1,w1,s1,l1⟩:=L pre (Ku f x) cells X;obtain⟨p2,g2,d2,e2,w2,s2,l2⟩:=L (pre.map<|mG ρ) (Ku (mG ρ f) x) cs T;rw[e1,e2,newP_top,newP_top];by_cases o:d1.length=24
    · rw[if_pos o,if_pos (by rw[l2,r,<-l1];exact o)];trivial
    · rw[if_neg o,if_neg (by rw[l2,r,<-l1];exact o)];have J:=Ua w1 w2 (by rw[s1,s2,hE]);exact⟨Z,Z,(J.new c.a.toNat c.b.toNat).symm⟩
  · obtain⟨d,t,⟨p1,hp,O⟩,A⟩:=g;simp only[d,bm,if_true,if_false,cG];by_cases K:pre.length+1=10
    · rw[if_pos K,if_pos K];trivial
    · rw[if_neg K,if_neg K];have hm:c.args.map (jJ (mG ρ f).regs)=(c.args.map<|jJ f.regs).map (wO ρ):=by
        rw[jw];exact zM fun k j=>C<|A k j
      have hz:∀n:Nat,(cc n (⟨0,0⟩:Val)).map (wO ρ)=cc n ⟨0,0⟩:=by intro n;rw[List.map_replicate];rfl
      have:=hI.mk' (fr:=pre++[Ku f x]++[⟨c.b,0,c.args.map (jJ f.regs)++cc (((idx a c.b).map (·.regs)).getD 0-c.args.length).toNat ⟨0,0⟩,c.a⟩]) (by
        simp only[Cr,jX.app];refine⟨y,fun v E j=>?_,fun v E j=>?_⟩
        · obtain⟨k,a0,rfl⟩:=ea.1 E;exact l (A k a0) j
        · have:=ft E;subst this;simp at j) 0 0
      simp only[cI,ck,et]at this;rw[hm];have e:mG ρ ⟨c.b,0,c.args.map (jJ f.regs)++cc (((idx a c.b).map (·.regs)).getD 0-c.args.length).toNat ⟨0,0⟩,c.a⟩=⟨c.b,0,(c.args.map<|jJ f.regs).map (wO ρ)++cc (((idx a c.b).map (·.regs)).getD 0-c.args.length).toNat ⟨0,0⟩,c.a⟩:=by
        unfold mG;simp only[cI,hz]
      rw[e]at this;exact BH this
  · obtain⟨d,t⟩:=g;rcases d with d|d|d
    · simp only[d,bm,if_true,if_false];rcases gh pre with hp|⟨q,g,hp⟩
      · subst hp;have:=hI.mk' (fr:=[]) (fun v E=>by cases E) 1 0;exact BH this
      · rw[gi]at hp;subst hp;simp only[cI,ck,et,eI,eh,fy,fm];rw[C t];simp only[Cr,jX.app]at y;have:=hI.mk' (fr:=q++[{g with regs:=g.regs.set f.jy.toNat (jJ f.regs c.a)}]) (by
          simp only[Cr,jX.app];exact⟨y.1.1,Ub y.1.2 (l t)⟩) 0 0
        simp only[cI,ck,et]at this;rw[<-put_ren]at this;exact BH this
    · simp only[d,bm,if_true,if_false];rw[C t,Cq];by_cases j:(jJ f.regs c.a).kind=1
      · rw[if_pos j,if_pos j,JV ρ V];exact BH M
      · rw[if_neg j,if_neg j];trivial
    · simp only[d,bm,if_true,if_false];rw[C t,Cq];by_cases j:(jJ f.regs c.a).kind=1
      · rw[if_pos j,if_pos j,JV ρ V];exact BH<|B (Ku f x) 3 _ y.2
      · rw[if_neg j,if_neg j];trivial
  · simp only[g,bm,if_true,if_false];exact BH M
  · obtain⟨d,u⟩:=g;simp only[d,bm,if_true,if_false];exact BH z
  · obtain⟨d,t,u⟩:=g;simp only[d,bm,if_true,if_false];rw[C t,Cq];by_cases j:(jJ f.regs c.a).kind=2
    · rw[if_neg (by simp[j]),if_neg (by simp[j])];exact BH M
    · rw[JV ρ j];by_cases hz:(jJ f.regs c.a).n=0
      · rw[if_pos ⟨j,hz⟩,if_pos ⟨j,hz⟩];exact BH z
      · rw[if_neg (fun e=>hz e.2),if_neg (fun e=>hz e.2)];exact BH M
end
open Go Go.Proofs Go.LX
theorem fail_sweep{s t:LX.State}(h:dM s=dM t)(k:Int):dM {s with status:=k}=dM {t with status:=k}:=congrArg (fun u:LX.State=>{u with status:=k}) h
theorem wake_sweep{s t:LX.State}(h:dM s=dM t)(k w:Int):dM ⟨s.frames,s.cells,k,w⟩=dM ⟨t.frames,t.cells,k,w⟩:=congrArg (fun u:LX.State=>(⟨u.frames,u.cells,k,w⟩:LX.State)) h
theorem stepP_sim{a:List bu}(e:mF a){s t:LX.State}(u:vz a s)(v:vz a t)(q:s.status=0)(A:dM s=dM t):Sim (zK a s) (zK a t)/\LU a s=LU a t:=by
 have I:=Ua (u.sw e) (v.sw e) A;generalize (fun x=>(fD t)[(fD s).idxOf x]?.getD 0)=ρ at I;have l:t.status=0:=by rw[I.status];exact q
 obtain⟨pre,f,x,c,C,m,n,h⟩:=Ht e u q;obtain⟨g,B,x',p,y,T2,j,i⟩:=Ht e v l;have b:=I.frames;have o:s.frames=pre++[f]:=by rw[C]
 have E:t.frames=g++[B]:=by rw[y]
 rw[o,E]at b;simp only[cI,ck,et]at b;obtain⟨hp,r⟩:=rL b Z;simp only[kb,and_true]at r;subst hp r;have z:x'=x:=by
  have k:=m.fr.proc;have d:idx a f.proc=aj x':=T2.fr.proc;rw[k]at d;exact(osi d).symm
 subst z;have w:p=c:=by
  have k:=m.ins;have d:idx x'.code f.at_=aj p:=T2.ins;rw[k]at d;exact(osi d).symm
 subst w;refine⟨?_,by rw[h,i]⟩;rw[n,j];refine step_sim e m T2 (R:=fD s) ?_;exact I.mk' (fr:=pre++[f]) (by have:=I.roots;rw[o]at this;exact this) 0 0
def iter(a:List bu):Nat->LX.State->LX.State×List Int
 |0,s=>(s,[])
 |n+1,s=>if s.status≠0 then(s,[])else match zK a s with
  |none=>({s with status:=2},[])
  |some (t,o,_)=>((iter a n t).1,o.toList++(iter a n t).2)
theorem Z5{a:List bu}:∀(m:Nat) (b:List Int) (n:Nat) (s:LX.State),∃k,k<=m/\tZ a m b n s=((iter a k s).1,b++(iter a k s).2,n+k)/\(∀j,j<k->(iter a j s).1.status=0)/\(1<=m->s.status=0->b=[]->1<=k)
  |0,b,n,s=>⟨0,bt _,by simp[tZ,iter],fun j c=>absurd c (eN _),fun h=>absurd h V⟩
  |m+1,b,n,s=>by
    unfold tZ;by_cases g:s.status≠0
    · rw[if_pos g];exact⟨0,by omega,by simp[iter],fun j c=>absurd c<|eN _,fun _ h=>absurd h g⟩
    · rw[if_neg g];by_cases f:b.length=40/\LU a s=9
      · rw[if_pos f];exact⟨0,by omega,by simp[iter],fun j c=>absurd c (eN _),fun _ _ h=>by subst h;simp at f⟩
      · rw[if_neg f];have d:s.status=0:=ef.1 g;cases e:zK a s with
        |none=>
          refine⟨1,by omega,?_,fun j c=>?_,fun _ _ _=>bt _⟩
          · unfold iter;rw[if_neg g,e];simp
          · obtain rfl:j=0:=by omega
            exact d
        |some q=>
          obtain⟨t,o,p⟩:=q;have i:∀q,iter a (q+1) s=((iter a q t).1,o.toList++(iter a q t).2):=fun q=>by
            conv=>lhs;unfold iter
            rw[if_neg g,e]
          simp only;cases p with
          |true=>
            refine⟨1,by omega,?_,fun j c=>?_,fun _ _ _=>bt _⟩
            · rw[i];simp[iter]
            · obtain rfl:j=0:=by omega
              exact d
          |false=>
            obtain⟨k,k1,k2,l,-⟩:=Z5 m (b++o.toList) (n+1) t;refine⟨k+1,by omega,?_,fun j c=>?_,fun _ _ _=>by omega⟩
            · simp only[cM,if_false];rw[k2,i];simp only[cf];congr 2;omega
            · cases j with
              |zero=>exact d
              |succ j=>rw[i];exact l j V
def Z6(l:List Val):List Int:=l.flatMap fun v=>[v.kind,v.n]
def rowP(l:List Val):List Int:=(l.length:Int)::Z6 l
def frP(f:LX.Frame):List Int:=f.proc::f.at_::f.jy::rowP f.regs
def wP(s:LX.State):List Int:=s.status::s.bM::(s.frames.length:Int)::(s.frames.flatMap frP++(s.cells.length:Int)::s.cells.flatMap rowP)
def Rdr(α:Type):=List Int->Option (α×List Int)
def xW{α:Type}(x:α):Rdr α:=fun l=>aj (x,l)
def iM{α β:Type}(R:Rdr α)(f:α->Rdr β):Rdr β:=fun l=>(R l).bind fun q=>f q.1 q.2
def G6:Rdr Int:=fun l=>match l with
 |[]=>aw
 |x::r=>aj (x,r)
def sZ(m:Int):Rdr Nat:=fun l=>match l with
 |[]=>aw
 |x::r=>if 0<=x/\x<=m then aj (x.toNat,r)else aw
def j6{α:Type}(R:Rdr α):Nat->Rdr (List α)
 |0=>xW []
 |n+1=>iM R fun x=>iM (j6 R n) fun l=>xW (x::l)
def XM:Rdr Val:=iM G6 fun k=>iM G6 fun n=>xW ⟨k,n⟩
def DX(m:Int):Rdr (List Val):=iM (sZ m) fun n=>j6 XM n
def R6:Rdr LX.Frame:=iM G6 fun p=>iM G6 fun a=>iM G6 fun t=>iM (DX 40) fun r=>xW ⟨p,a,r,t⟩
def R7:Rdr LX.State:=iM G6 fun s=>iM G6 fun w=>iM (sZ 10) fun n=>iM (j6 R6 n) fun f=>iM (sZ 24) fun k=>iM (j6 (DX 4) k) fun c=>xW ⟨f,c,s,w⟩
theorem M7{α:Type}{R:Rdr α}{g:α->List Int}:∀(l:List α) (t:List Int),(∀x∈l,∀t,R (g x++t)=aj (x,t))->j6 R l.length (l.flatMap g++t)=aj (l,t)
 |[],t,_=>rfl
 |x::l,t,h=>by
  show(R<|g x++l.flatMap g++t).bind _=_;rw[cf,h x zq3,cJ];show(j6 R l.length<|l.flatMap g++t).bind _=_;rw[M7 l t (fun y a=>h y (bk _ a)),cJ];rfl
theorem rRow_row{m:Nat}(l:List Val)(h:l.length<=m)(t:List Int):DX m (rowP l++t)=aj (l,t):=by
 unfold DX iM rowP sZ;simp only[ew];rw[if_pos V,cJ,bj];exact M7 l t fun v _ t=>rfl
theorem rFr_fr(f:LX.Frame)(h:f.regs.length<=40)(t:List Int):R6 (frP f++t)=aj (f,t):=by
 show((DX (40:Nat)<|rowP f.regs++t).bind fun q=>xW (⟨f.proc,f.at_,q.1,f.jy⟩:LX.Frame) q.2)=_;rw[rRow_row f.regs h];rfl
theorem Z7{s:LX.State}(h:Small s)(t:List Int):R7 (wP s++t)=aj (s,t):=by
 have k:=h.frames;have j:=h.cells;show((sZ 10 ((s.frames.length:Int)::((s.frames.flatMap frP++(s.cells.length:Int)::s.cells.flatMap rowP)++t))).bind fun q=>(j6 R6 q.1 q.2).bind fun d=>(sZ 24 d.2).bind fun a=>(j6 (DX 4) a.1 a.2).bind fun b=>xW (⟨d.1,b.1,s.status,s.bM⟩:LX.State) b.2)=_;rw[show sZ 10 ((s.frames.length:Int)::((s.frames.flatMap frP++(s.cells.length:Int)::s.cells.flatMap rowP)++t))=aj (s.frames.length,(s.frames.flatMap frP++(s.cells.length:Int)::s.cells.flatMap rowP)++t) by
  show(if _ then _ else _)=_;rw[if_pos V,bj],cJ]
 simp only;rw[cf,M7 s.frames _ (fun f i t=>rFr_fr f (h.regs f i) t),cJ];simp only[ew];rw[show sZ 24 ((s.cells.length:Int)::(s.cells.flatMap rowP++t))=aj (s.cells.length,s.cells.flatMap rowP++t) by
  show(if _ then _ else _)=_;rw[if_pos V,bj],cJ]
 simp only;rw[M7 (R:=DX 4) (g:=rowP) s.cells _ (fun c e t=>rRow_row (m:=4) c (h.fields c e) t),cJ];rfl
theorem pack_inj{s t:LX.State}(b:Small s)(c:Small t)(h:wP s=wP t):s=t:=by
 have a:=Z7 b [];rw[h,Z7 c []]at a;cases a;rfl
theorem Wz(l:List Val):(Z6 l).length=2*l.length:=by
 induction l with
 |nil=>rfl
 |cons v l ih=>show([v.kind,v.n]++Z6 l).length=_;simp[ih];omega
theorem rows_len(m:Nat):∀l:List (List Val),(∀c∈l,c.length<=m)->(l.flatMap rowP).length<=(2*m+1)*l.length
 |[],_=>by simp
 |c::l,h=>by
  have e:=h c zq3;have b:=rows_len m l fun d a=>h d<|bk _ a;rw[eL,bc];unfold rowP;rw[bq,Wz,bq,Nat.mul_succ];unfold rowP at b;omega
theorem frs_len:∀l:List LX.Frame,(∀f∈l,f.regs.length<=40)->(l.flatMap frP).length<=84*l.length
 |[],_=>by simp
 |f::l,h=>by
  have c:=h f zq3;have b:=frs_len l fun d a=>h d<|bk _ a;rw[eL,bc];unfold frP rowP;simp only[bq,Wz];unfold frP rowP at b;omega
theorem Z8{s:LX.State}(h:Small s):(wP s).length<=1060:=by
 have d:=rows_len 4 s.cells h.fields;have c:=frs_len s.frames h.regs;have b:=h.frames;have a:=h.cells;unfold wP;simp only[bq,bc];omega
def wake(s:LX.State):LX.State:=if s.status=3 then⟨s.frames,s.cells,0,0⟩else s
def stepW(a:List bu)(s:LX.State):Option (LX.State×List Int):=
 if(wake s).status≠0 then aw else match zK a (wake s)with
  |none=>aj ({wake s with status:=2},[])
  |some (t,o,_)=>aj (t,o.toList)
def nH(a:List bu):Nat->LX.State->LX.State×List Int
 |0,s=>(s,[])
 |n+1,s=>match stepW a s with
  |none=>(s,[])
  |some (t,o)=>((nH a n t).1,o++(nH a n t).2)
theorem Jf{a:List bu}{s:LX.State}(h:(wake s).status≠0):∀n,nH a n s=(s,[])
 |0=>rfl
 |n+1=>by unfold nH stepW;rw[if_pos h]
theorem M8{a:List bu}{s:LX.State}(h:stepW a s=aw):∀n,nH a n s=(s,[])
 |0=>rfl
 |n+1=>by unfold nH;rw[h]
theorem tq{a:List bu}{s t:LX.State}{o:List Int}(h:stepW a s=aj (t,o))(n:Nat):nH a (n+1) s=((nH a n t).1,o++(nH a n t).2):=by
 conv=>lhs;unfold nH
 rw[h]
theorem P7{a:List bu}:∀(j k:Nat) (s:LX.State),nH a (j+k) s=((nH a k (nH a j s).1).1,(nH a j s).2++(nH a k (nH a j s).1).2)
 |0,k,s=>by rw[Nat.zero_add];rfl
 |j+1,k,s=>by
  rw[show j+1+k=(j+k)+1 by omega];cases e:stepW a s with
  |none=>rw[M8 e,M8 e,M8 e];rfl
  |some q=>
   obtain⟨t,o⟩:=q;rw[tq e,tq e,P7 j k t];simp only[cf]
theorem Z9{s:LX.State}(h:s.status=0):wake s=s:=by unfold wake;rw[if_neg V]
theorem wake_wake(s:LX.State):wake (wake s)=wake s:=by
  unfold wake;by_cases h:s.status=3
  · rw[if_pos h,if_neg zq3]
  · rw[if_neg h,if_neg h]
theorem stepW_wake(a:List bu)(s:LX.State):stepW a (wake s)=stepW a s:=by unfold stepW;rw[wake_wake]
theorem aaa{a:List bu}{s:LX.State}{n:Nat}(h:1<=n)(b:(wake s).status=0):nH a n (wake s)=nH a n s:=by
 obtain⟨m,rfl⟩:∃m,n=m+1:=⟨n-1,by omega⟩;have e:=stepW_wake a s;cases e2:stepW a s with
 |none=>
  exfalso;unfold stepW at e2;rw[if_neg V]at e2;cases e3:zK a (wake s)with
  |none=>rw[e3]at e2;cases e2
  |some q=>rw[e3]at e2;cases e2
 |some q=>
  obtain⟨t,o⟩:=q;rw[tq e2,tq (e.trans e2)]
theorem iter_W{a:List bu}:∀(k:Nat) (s:LX.State),(∀j,j<k->(iter a j s).1.status=0)->iter a k s=nH a k s
 |0,s,_=>rfl
 |k+1,s,h=>by
  have d:s.status=0:=h 0 V;cases e:zK a s with
  |none=>
   have b:iter a (k+1) s=({s with status:=2},[]):=by unfold iter;rw[if_neg V,e]
   have c:stepW a s=aj ({s with status:=2},[]):=by unfold stepW;rw[Z9 d,if_neg V,e]
   rw[b,tq c,Jf (by unfold wake;simp)];rfl
  |some q=>
   obtain⟨t,o,p⟩:=q;have b:∀q,iter a (q+1) s=((iter a q t).1,o.toList++(iter a q t).2):=fun q=>by
    conv=>lhs;unfold iter
    rw[if_neg V,e]
   have c:stepW a s=aj (t,o.toList):=by unfold stepW;rw[Z9 d,if_neg V,e]
   rw[b,tq c,iter_W k t (fun j f=>by have:=h (j+1) V;rw[b]at this;exact this)]
def Ar(a:List bu)(fuel:Nat):Nat->List Int->LX.State->List Int×LX.State
 |0,all,s=>(all,s)
 |t+1,all,s=>if(wake s).status≠0 then(all,s)else Ar a fuel t (all++(tZ a fuel [] 0 (wake s)).2.1) (tZ a fuel [] 0 (wake s)).1
theorem soloP_stop{a:List bu}{fuel:Nat}{s:LX.State}(h:(wake s).status≠0)(b:List Int):∀t,Ar a fuel t b s=(b,s)
 |0=>rfl
 |t+1=>by unfold Ar;rw[if_pos h]
theorem soloP_go{a:List bu}{fuel:Nat}{s:LX.State}(h:¬(wake s).status≠0)(b:List Int)(t:Nat):Ar a fuel (t+1) b s=Ar a fuel t (b++(tZ a fuel [] 0 (wake s)).2.1) (tZ a fuel [] 0 (wake s)).1:=by
 conv=>lhs;unfold Ar
 rw[if_neg h]
theorem aab{a:List bu}{fuel:Nat}(d:1<=fuel):∀(t:Nat) (b:List Int) (s:LX.State),∃k,Ar a fuel t b s=(b++(nH a k s).2,(nH a k s).1)
  |0,b,s=>⟨0,by simp[Ar,nH]⟩
  |t+1,b,s=>by
    unfold Ar;by_cases h:(wake s).status≠0
    · rw[if_pos h];exact⟨0,by simp[nH]⟩
    · rw[if_neg h];have c:(wake s).status=0:=ef.1 h;obtain⟨k,k1,k2,f,i⟩:=Z5 (a:=a) fuel [] 0<|wake s;have e:=i d c Z;rw[k2];simp only[cF];rw[iter_W k _ f,aaa e c];obtain⟨j,g⟩:=aab d t (b++(nH a k s).2) (nH a k s).1;exact⟨k+j,by rw[g,P7,cf]⟩
theorem app_loop{α ρ:Type}{body:Int->List Int->(List Int->Option ρ)->Option ρ}{K:List Int->Option ρ}{g:α->List Int}{l:List α}{m B:Nat}(c:∀x∈l,(g x).length<=m)
  (d:∀(i:Nat) (h:i<l.length) a nx,a.length<=B+m*i->body (i:Int) a nx=nx (a++g l[i])):
  ∀(k i:Nat) (a:List Int),i+k=l.length->a.length<=B+m*i->upto body K (i:Int) k a=K (a++(l.drop i).flatMap g)
 |0,i,a,h,_=>by rw[cC V];simp[upto]
 |k+1,i,a,h,hl=>by
  have b:i<l.length:=by omega
  rw[Wu,d i b a _ hl,show((i:Int)+1)=((i+1:Nat):Int) by omega,app_loop c d k (i+1) _ V (by
   have:=c _<|cx b;rw[bc,Nat.mul_add];omega),cX b,eL,cf]
theorem app_loop0{α ρ:Type}{body:Int->List Int->(List Int->Option ρ)->Option ρ}{K:List Int->Option ρ}{g:α->List Int}{l:List α}(m B:Nat)(b:∀x∈l,(g x).length<=m)
  (c:∀(i:Nat) (h:i<l.length) a nx,a.length<=B+m*i->body (i:Int) a nx=nx (a++g l[i])) (a:List Int) (d:a.length<=B):upto body K 0 l.length a=K (a++l.flatMap g):=by
 have:=app_loop (K:=K) b c l.length 0 a V V;rw[ke]at this;exact this
theorem values_eq:∀(l:List Val) (a:List Int),a.length+2*l.length<=50000->Cf a l=aj (a++Z6 l)
 |[],a,_=>by simp[Cf,qN,DF,Z6]
 |v::l,a,h=>by
  simp only[bq]at h;have b:=values_eq l (a++[v.kind,v.n]) (by simp[-eK];omega);unfold Cf at b⊢;rw[gD];generalize each DD DF l=K at b⊢;unfold DD;rw[jN (room_le (by simp[-eK];omega) zq1),b];simp[Z6]
theorem row_len{c:List Val}{m:Nat}(h:c.length<=m):(rowP c).length<=2*m+1:=by
 unfold rowP;rw[bq,Wz];omega
theorem fr_len{f:LX.Frame}(h:f.regs.length<=40):(frP f).length<=84:=by
 unfold frP;have:=row_len h;simp only[bq];omega
theorem O6{a:List bu}(b:mF a){s:LX.State}(h:vz a s):Small (dM s):=(TY b h).small b
theorem pack_loop{s:LX.State}(h:Small s):upto (GV s) (GX s) 0 ((s.frames.length:Int)).toNat [s.status,s.bM,(s.frames.length:Int)]=aj (wP s,0):=by
 have p:=h.frames;have q:=h.cells;have o:=frs_len s.frames h.regs;rw[bj,app_loop0 (g:=frP) (l:=s.frames) 84 3 (fun f n=>fr_len (h.regs f n)) (fun i a d k b=>by
  have j:=h.regs _<|cx a;unfold GV;rw[xg a,bnd,jN (room_le (by simp[-eK];omega) zq1),values_eq _ _ (by simp[-eK];omega),bnd];unfold frP rowP;simp) _ zq3]
 unfold GX;rw[jN (room_le (by simp[-eK];omega) zq1),bj,app_loop0 (g:=rowP) (l:=s.cells) 9 1000 (fun c m=>row_len (h.fields c m)) (fun i a d k b=>by
  have j:=h.fields _<|cx a;unfold MX;rw[xg a,bnd,jN (room_le (by simp[-eK];omega) zq1),values_eq _ _ (by simp[-eK];omega),bnd];unfold rowP;simp) _ (by simp[-eK];omega)]
 unfold MZ;have hp:=Z8 h;have e:([s.status,s.bM,(s.frames.length:Int)]++s.frames.flatMap frP++[(s.cells.length:Int)]++s.cells.flatMap rowP)=wP s:=by
  unfold wP;simp
 rw[e,dF V,cond_false]
theorem Uc(a:List bu)(s:LX.State){N:Nat}(hN:100<=N):EK N a s=aj (if Jc a≠0 then([],Jc a)else if ckS a s≠0 then([],ckS a s)else(wP (dM s),0)):=by
  unfold EK;rw[JU,bnd];by_cases b:Jc a=0
  · rw[if_neg V,if_neg V];by_cases c:ckS a s=0
    · have e:=ng b;have d:=EP.1 c;rw[dF V,cond_false,ZU hN (d.sw e),bnd,if_neg V];exact pack_loop<|O6 e d
    · rw[dT c,cond_true,if_pos c]
  · rw[if_pos b,dT b,cond_true,if_pos b]
structure Rel{α:Type}(o:Option (α×List Int))(b:Bool)(x':α)(l':List Int)(b':Bool):Prop where
 stay:b=ba->b'=ba
 ok:b=aq->match o with
  |some (x,r)=>x'=x/\l'=r/\b'=aq
  |none=>b'=ba
theorem Rel.pure{α:Type}(x:α)(l:List Int)(b:Bool):Rel (xW x l) b x l b:=⟨id,fun h=>⟨rfl,rfl,h⟩⟩
theorem Rel.bind{α β:Type}{R:Rdr α}{f:α->Rdr β}{l i a:List Int}{b b' c:Bool}{x':α}{g:β}(j:Rel (R l) b x' i b')(d:Rel (f x' i) b' g a c):Rel (iM R f l) b g a c:=by
 refine⟨fun h=>d.stay<|j.stay h,fun h=>?_⟩;have:=j.ok h;unfold iM;cases e:R l with
 |none=>rw[e]at this;exact d.stay this
 |some q=>
  obtain⟨x,r⟩:=q;rw[e]at this;obtain⟨rfl,rfl,k⟩:=this;exact d.ok k
theorem F6(l:List Int)(b:Bool):∃x c b',jT ⟨l,b⟩=aj (x,⟨c,b'⟩)/\Rel (G6 l) b x c b':=by
 unfold jT;cases l with
 |nil=>exact⟨0,[],ba,rfl,fun _=>rfl,fun _=>rfl⟩
 |cons x l=>
  simp only;rw[dF (by simp;omega),cond_false,show idx (x::l) 0=aj x from idx0 x l,bnd,show sub? (x::l) 1 ((x::l).length:Int)=aj l by
   have:=Sv (l:=x::l) (a:=1) (b:=(x::l).length) zq3<|bt _;rw[rN]at this;exact this,bnd]
  exact⟨x,l,b,Z,id,fun h=>⟨Z,Z,h⟩⟩
theorem Ud(m:Nat)(l:List Int)(b:Bool):∃(x:Nat) (a:List Int) (b':Bool),pI ⟨l,b⟩ m=aj ((x:Int),⟨a,b'⟩)/\x<=m/\Rel (sZ m l) b x a b':=by
  unfold pI;obtain⟨x,a,b',h,e⟩:=F6 l b;rw[h,bnd];simp only;by_cases d:0<=x/\x<=(m:Int)
  · rw[dF V,dF V,Bool.or_self,cond_false];refine⟨x.toNat,a,b',by rw[Int.toNat_of_nonneg d.1],by omega,e.stay,fun f=>?_⟩;have:=e.ok f;cases l with
    |nil=>exact this
    |cons y l=>
      obtain⟨rfl,rfl,c⟩:=this;rw[show sZ (m:Int) (x::a)=aj (x.toNat,a)from if_pos d];exact⟨Z,Z,c⟩
  · rw[show(ab (x<0)||ab ((m:Int)<x))=ba by
      rw[dt,decide_eq_true_eq,decide_eq_true_eq];omega,cond_true]
    refine⟨0,a,ba,Z,by omega,fun _=>rfl,fun f=>?_⟩;have:=e.ok f;cases l with
    |nil=>rfl
    |cons y l=>
      obtain⟨rfl,rfl,c⟩:=this;rw[show sZ (m:Int) (x::a)=aw from if_neg d]
theorem QE(n:Nat)(hn:n<=100):∀(m M i:Nat) (a:List Val) (l:List Int) (b:Bool),i+m=n->a.length=i->m<M->
    ∃vs c b',again (kJ n) M (a,(i:Int),l,b)=aj (a++vs,⟨c,b'⟩)/\vs.length=m/\Rel (j6 XM m l) b vs c b'
  |m,0,i,a,l,b,_,_,hM=>by omega
  |0,M+1,i,a,l,b,hi,_,_=>by
    rw[DV];unfold kJ;simp only;rw[dF V,cond_false];exact⟨[],l,b,by simp,Z,Rel.pure [] l b⟩
  |m+1,M+1,i,a,l,b,hi,ha,hM=>by
    rw[DV];have d:=QE n hn m M<|i+1;generalize again (kJ n) M=K at d⊢;unfold kJ;simp only;rw[dT V,cond_true];obtain⟨x,j,u,p,f⟩:=F6 l b;rw[p,bnd];simp only;obtain⟨y,k,t,g,h⟩:=F6 j u;rw[g,bnd];simp only;rw[jN (room_le (by simp;omega) zq1),gI V V];obtain⟨vs,o,r,s,q,e⟩:=d (a++[⟨x,y⟩]) k t V (by simp;omega) V;refine⟨⟨x,y⟩::vs,o,r,?_,by simp[q],?_⟩
    · rw[show((i:Int)+1)=((i+1:Nat):Int) by omega,s];simp
    · exact Rel.bind (Rel.bind f<|Rel.bind h<|Rel.pure _ _ _)<|Rel.bind e<|Rel.pure _ _ _
theorem aac{N n:Nat}(hn:n<=100)(hN:200<=N)(l:List Int)(b:Bool):∃vs a b',sM N ⟨l,b⟩ n=aj (vs,⟨a,b'⟩)/\vs.length=n/\Rel (j6 XM n l) b vs a b':=by
 unfold sM;obtain⟨vs,a,b',e,d,c⟩:=QE n hn n N 0 [] l b V Z V;exact⟨vs,a,b',by simpa using e,d,c⟩
def none0:LX.State:=⟨[],[],0,0⟩
def endP(a:List bu)(s:LX.State):LX.State×Int:=
 if Jc a≠0 then(none0,Jc a)else if ckS a s≠0 then(none0,ckS a s)else if dM s=s then(s,0)else(none0,4)
def dO(a:List bu)(l:List Int):LX.State×Int:=
 if 1200<l.length then(none0,2)else match R7 l with
  |some (s,[])=>endP a s
  |_=>(none0,8)
theorem un_end(a:List bu)(s:LX.State){N:Nat}(hN:100<=N):((FL a s).bind fun b=>bif ab ((b:Int)≠0)then aj (none0,b)else(Ip N s).bind fun x=>(Tp x s).bind fun y=>bif (!y)then aj (none0,4)else aj (s,0))=aj (endP a s):=by
  rw[JU,bnd];unfold endP;by_cases d:Jc a=0
  · rw[if_neg V,if_neg V];by_cases e:ckS a s=0
    · have f:=ng d;rw[dF V,cond_false,ZU hN ((EP.1 e).sw f),bnd,eqState,bnd,if_neg V];by_cases c:dM s=s
      · rw[dT c,if_pos c];rfl
      · rw[dF c,if_neg c];rfl
    · rw[dT e,cond_true,if_pos e]
  · rw[if_pos d,dT d,cond_true,if_pos d]
theorem cells_rel{N:Nat}(hN:200<=N)(f:Int×nM)(a:List bu)(fr:List LX.Frame)(d e:Int×nM)(n:Nat)(t:f.1=n)(hn:n<=24):
    ∀(m M i:Nat) (c:List (List Val)) (l:List Int) (b:Bool),i+m=n->c.length=i->m<M->
    ∃cs g b',again (sO N f a fr d e) M ((i:Int),l,b,c)=(bif (b'||ab ((0:Int)<(g.length:Int)))then aj (none0,8)else aj (endP a ⟨fr,c++cs,d.1,e.1⟩))/\Rel (j6 (DX 4) m l) b cs g b'
  |m,0,i,c,l,b,_,_,hM=>by omega
  |0,M+1,i,c,l,b,hi,_,_=>by
    rw[DV];unfold sO;simp only;rw[dF V,cond_false];refine⟨[],l,b,?_,Rel.pure [] l b⟩;rw[du,<-un_end a ⟨fr,c,d.1,e.1⟩ (N:=N) V];rfl
  |m+1,M+1,i,c,l,b,hi,ha,hM=>by
    rw[DV];have j:=cells_rel hN f a fr d e n t hn m M<|i+1;generalize again (sO N f a fr d e) M=K at j⊢;unfold sO;simp only;rw[dT V,cond_true];obtain⟨x,r,z,h,B,o⟩:=Ud 4 l b;rw[show((4:Nat):Int)=4 from rfl]at h;rw[h,bnd];simp only;obtain⟨vs,s,u,p,A,q⟩:=aac (N:=N) (n:=x) V hN r z;rw[p,bnd];simp only;rw[jN (room_le (by simp;omega) zq1)];unfold Iq;rw[gI V V];obtain⟨cs,v,w,y,k⟩:=j (c++[vs]) s u V (by simp;omega) V;refine⟨vs::cs,v,w,?_,?_⟩
    · rw[show((i:Int)+1)=((i+1:Nat):Int) by omega,y];simp
    · exact Rel.bind (Rel.bind o q)<|Rel.bind k<|Rel.pure _ _ _
theorem times_bind{α β:Type}{R:Rdr α}{m:Nat}{G:List α->Rdr β}{l:List Int}:iM (j6 R (m+1)) G l=iM R (fun x=>iM (j6 R m) fun a=>G (x::a)) l:=by
 show((iM R (fun x=>iM (j6 R m) fun l=>xW<|x::l) l).bind _)=_;unfold iM;cases R l with
 |none=>rfl
 |some q=>
  rw[cJ,cJ];simp only;cases j6 R m q.2 with
  |none=>rfl
  |some q2=>rfl
theorem aad{N:Nat}(hN:200<=N)(e:Int×nM)(a:List bu)(g h:Int×nM)(n:Nat)(T:e.1=n)(hn:n<=10):
    ∀(m M i:Nat) (d:List LX.Frame) (l:List Int) (b:Bool),i+m=n->d.length=i->m<M->
    ∃(s:LX.State) (B:List Int) (b':Bool),again (qI N e a g h) M ((i:Int),l,b,d)=(bif (b'||ab ((0:Int)<(B.length:Int)))then aj (none0,8)else aj (endP a s))/\
      Rel (iM (j6 R6 m) (fun f=>iM (sZ 24) fun k=>iM (j6 (DX 4) k) fun c=>xW (⟨d++f,c,g.1,h.1⟩:LX.State)) l) b s B b'
  |m,0,i,d,l,b,_,_,hM=>by omega
  |0,M+1,i,d,l,b,hi,_,_=>by
    rw[DV];unfold qI;simp only;rw[dF V,cond_false];obtain⟨x,o,r,j,C,u⟩:=Ud 24 l b;rw[show((24:Nat):Int)=24 from rfl]at j;rw[j,bnd];simp only;obtain⟨cs,z,A,v,y⟩:=cells_rel hN ((x:Int),⟨o,r⟩) a d g h x Z C x N 0 [] o r V Z V;refine⟨⟨d++[],[]++cs,g.1,h.1⟩,z,A,?_,?_⟩
    · rw[du];exact v
    · exact Rel.bind (Rel.pure [] l b)<|Rel.bind u<|Rel.bind y<|Rel.pure _ _ _
  |m+1,M+1,i,d,l,b,hi,ha,hM=>by
    rw[DV];have I:=aad hN e a g h n T hn m M<|i+1;generalize again (qI N e a g h) M=K at I⊢;unfold qI;simp only;rw[dT V,cond_true];obtain⟨p,o,r,j,u⟩:=F6 l b;rw[j,bnd];simp only;obtain⟨q,z,A,v,y⟩:=F6 o r;rw[v,bnd];simp only;obtain⟨t,l3,b3,e3,R⟩:=F6 z A;rw[e3,bnd];simp only;obtain⟨x,l4,S,G,C,r4⟩:=Ud 40 l3 b3;rw[show((40:Nat):Int)=40 from rfl]at G;rw[G,bnd];simp only;obtain⟨vs,F,E,P,hv,X⟩:=aac (N:=N) (n:=x) V hN l4 S;rw[P,bnd];simp only;rw[jN (room_le (by simp;omega) zq1),gI V V];obtain⟨s,l6,b6,O,L⟩:=I (d++[⟨p,q,vs,t⟩]) F E V (by simp;omega) V;refine⟨s,l6,b6,?_,?_⟩
    · rw[show((i:Int)+1)=((i+1:Nat):Int) by omega,O]
    · have w:Rel (R6 l) b ⟨p,q,vs,t⟩ F E:=Rel.bind u<|Rel.bind y<|Rel.bind R<|Rel.bind (Rel.bind r4 X)<|Rel.pure _ _ _;simp only[cf,ew,cF]at L;rw[times_bind];exact Rel.bind (f:=fun x=>iM (j6 R6 m) fun Q=>iM (sZ 24) fun k=>iM (j6 (DX 4) k) fun c=>xW (⟨d++x::Q,c,g.1,h.1⟩:LX.State)) w L
theorem end_rel{a:List bu}{l b:List Int}{b':Bool}{s:LX.State}{y:Option (LX.State×Int)}(d:¬1200<l.length)(c:Rel (R7 l) aq s b b')(h:y=(bif (b'||ab ((0:Int)<(b.length:Int)))then aj (none0,8)else aj (endP a s))):y=aj (dO a l):=by
 rw[h];unfold dO;rw[if_neg d];have:=c.ok Z;cases e:R7 l with
 |none=>rw[e]at this;simp only at this;subst this;rfl
 |some q=>
  obtain⟨f,r⟩:=q;rw[e]at this;obtain⟨rfl,rfl,rfl⟩:=this;cases b with
  |nil=>rfl
  |cons x b=>rw[oB,dT zq3,cond_true]
theorem DY(a:List bu)(l:List Int){N:Nat}(hN:200<=N):rA N a l=aj (dO a l):=by
  unfold rA;by_cases f:1200<l.length
  · rw[dT V,cond_true];unfold dO;rw[if_pos f];rfl
  · rw[dF V,cond_false];obtain⟨st,b,i,r,k⟩:=F6 l aq;rw[r,bnd];simp only;obtain⟨wh,c,d,m,n⟩:=F6 b i;rw[m,bnd];simp only;obtain⟨x,e,g,h,q,j⟩:=Ud 10 c d;rw[show((10:Nat):Int)=10 from rfl]at h;rw[h,bnd];simp only;obtain⟨s,u,t,p,o⟩:=aad hN ((x:Int),⟨e,g⟩) a (st,⟨b,i⟩) (wh,⟨c,d⟩) x Z q x N 0 [] e g V Z V;exact end_rel f (Rel.bind k<|Rel.bind n<|Rel.bind j o) p
section
variable{I:List Int}(hI:I.length<=1200)
include hI
omit hI in
end
open Go Go.Proofs Go.LX
theorem read_all{s:LX.State}(h:Small s):R7 (wP s)=aj (s,[]):=by
 have:=Z7 h [];rw[du]at this;exact this
theorem unpack_pack{a:List bu}(d:Jc a=0){s:LX.State}(h:vz a s):dO a (wP (dM s))=(dM s,0):=by
 have b:=ng d;have c:=O6 b h;unfold dO;rw[if_neg (by have:=Z8 c;omega),read_all c];simp only;unfold endP;rw[if_neg V,if_neg (by rw[EP.2 (TY b h)];omega),if_pos (M6 (h.sw b))]
theorem P8{a:List bu}{s:LX.State}(h:vz a s):vz a (wake s):=by
  unfold wake;by_cases b:s.status=3
  · rw[if_pos b];refine⟨by simp,by simp,fun _=>rfl,?_,h.many,h.cells,h.frames⟩;have:=h.ended;constructor
    · intro e;simp at e
    · intro e;have:=h.ended.2 e;omega
  · rw[if_neg b];exact h
theorem wake_eq(s:LX.State)(h:s.status=3):wake s=⟨s.frames,s.cells,0,0⟩:=if_pos h
theorem solo_loop{a:List bu}(l:Jc a=0){b c:Int}(p:1<=b/\b<=2000)(g:c<=120){N:Nat}(hN:3000<=N):∀(m M i:Nat) (d:List Int) (s:LX.State),(i:Int)+m=c->m<M->d.length<=40*i->vz a s->
    again (xE N c a b) M (d,(i:Int),s.frames,s.cells,s.status,s.bM)=aj ((Ar a b.toNat m d s).1,(Ar a b.toNat m d s).2,0)
  |m,0,i,d,s,hi,hM,hl,hs=>by omega
  |0,M+1,i,d,s,hi,hM,hl,hs=>by
    rw[DV];unfold xE F5 Ar;simp only;rw[dF V,cond_false]
  |m+1,M+1,i,d,s,hi,hM,hl,hs=>by
    rw[DV];have o:=ng l;have n:=solo_loop l p g hN m M<|i+1;generalize again (xE N c a b) M=K at n⊢;have go:DU N d a b i K (wake s).frames (wake s).cells (wake s).status (wake s).bM=aj ((Ar a b.toNat (m+1) d s).1,(Ar a b.toNat (m+1) d s).2,0):=by
      unfold DU;by_cases f:(wake s).status=0
      · have k:=P8 hs;rw[dF V,cond_false,show(⟨(wake s).frames,(wake s).cells,(wake s).status,(wake s).bM⟩:LX.State)=wake s from rfl,Wy a _ b hN,bnd,if_neg V,if_neg (by rw[EP.2 k];omega),if_neg V,if_neg V];simp only;obtain⟨k1,j,-⟩:=P6 o b.toNat [] 0 (wake s) k zq3;rw[dF zq3,cond_false,soloP_go V];rw[jN (room_le V zq1),gI V V];have:=n (d++(tZ a b.toNat [] 0 (wake s)).2.1) (tZ a b.toNat [] 0 (wake s)).1 (by push_cast;omega) V (by rw[bc];omega) k1;rw[<-this];push_cast;rfl
      · have e:s.status≠3:=fun h=>f (by rw[wake_eq s h]);rw[dT f,cond_true,soloP_stop f];unfold F5;rw[show(⟨(wake s).frames,(wake s).cells,(wake s).status,(wake s).bM⟩:LX.State)=wake s from rfl,show wake s=s from if_neg e]
    unfold xE;simp only;rw[dT V,cond_true];by_cases e:s.status=3
    · rw[dT e,cond_true,show(⟨s.frames,s.cells,s.status,s.bM⟩:LX.State)=s from rfl,ZV,bnd,if_neg V,if_neg (by rw[EP.2 hs];omega),if_neg V];simp only;rw[dF zq3,cond_false];rw[wake_eq s e]at go;exact go
    · rw[dF e,cond_false];rw[show wake s=s from if_neg e]at go;exact go
theorem solo_Run_eq(a:List bu)(b c:Int){N:Nat}(hN:3000<=N):TN N a b c=aj (if Jc a≠0 then([],⟨[],[],0,0⟩,Jc a)else if b<1\/2000<b\/c<0\/120<c then([],⟨[],[],0,0⟩,3)else((Ar a b.toNat c.toNat [] (kP a)).1,(Ar a b.toNat c.toNat [] (kP a)).2,0)):=by
  unfold TN;rw[vm_New_eq,bnd];by_cases d:Jc a=0
  · have f:=ng d;rw[if_neg V,if_neg V];simp only;rw[dF zq3,cond_false];by_cases e:b<1\/2000<b\/c<0\/120<c
    · rw[if_pos e,show(((ab ((b:Int)<1)||ab ((2000:Int)<b))||ab ((c:Int)<0))||ab ((120:Int)<c))=ba by
        simp only[dt,decide_eq_true_eq];omega,cond_true]
    · rw[if_neg e,show(((ab ((b:Int)<1)||ab ((2000:Int)<b))||ab ((c:Int)<0))||ab ((120:Int)<c))=aq by
        simp only[cP,decide_eq_false_iff_not];omega,cond_false]
      exact solo_loop d V V hN c.toNat N 0 [] (kP a) V V zq3<|TZ f
  · rw[if_pos d,if_pos d];simp only;rw[dT d,cond_true]
namespace Dk
open Go Go.Proofs Go.LX
theorem eqInt(a b:List Int):slices_Equal_int a b=aj (ab (a=b)):=by
  unfold slices_Equal_int;by_cases h:a.length=b.length
  · rw[dF V];simp only[cond_false,bj];rw[Uz (fun x y=>ab (x=y)) a b h rfl (fun i x y f c d=>by
      unfold vK;rw[kL,kL,c,d];by_cases e:x=y<;>simp[e]),Me (fun _ _=>rfl)]
  · rw[dT V];have:a≠b:=fun e=>h (by rw[e]);rw[dF this];rfl
theorem rec_eq(r:Rec):dV r=gU r:=by
  unfold dV gU Aq uz l7 fe;have d:(((!(bz r.co 0 2))||(!(bz r.aJ 0 100)))||(!(bz r.place 0 2)))=(((((ab ((r.co:Int)<0)||ab ((3:Int)<=r.co))||ab ((r.aJ:Int)<0))||ab ((100:Int)<r.aJ))||ab ((r.place:Int)<0))||ab ((3:Int)<=r.place)):=by
    unfold bz;rw[ez];simp;omega
  rw[d];generalize (((((ab ((r.co:Int)<0)||ab ((3:Int)<=r.co))||ab ((r.aJ:Int)<0))||ab ((100:Int)<r.aJ))||ab ((r.place:Int)<0))||ab ((3:Int)<=r.place))=C1;generalize (ab ((40:Int)<(r.says.length:Int))||ab ((1200:Int)<(r.image.length:Int)))=C2;generalize ab ((r.place:Int)≠0)=p0;generalize ab ((0:Int)<(r.says.length:Int))=s1;generalize ab ((0:Int)<(r.image.length:Int))=i1;generalize ab ((r.aJ:Int)=0)=e0;have e:∀l:Str,(hasB l 73=ba\/hasB l 73=aq):=fun l=>by cases hasB l 73<;>simp
  by_cases k1:r.kind=1
  · rw[k1,show hasB ((lk (1:Int) ([(1,[73]),(2,[83,73]),(3,[80]),(4,[73]),(5,[])]:List (Int×Str))).getD []) 80=aq by decide,show hasB ((lk (1:Int) ([(1,[73]),(2,[83,73]),(3,[80]),(4,[73]),(5,[])]:List (Int×Str))).getD []) 83=aq by decide,show hasB ((lk (1:Int) ([(1,[73]),(2,[83,73]),(3,[80]),(4,[73]),(5,[])]:List (Int×Str))).getD []) 73=ba by decide];cases C1<;>cases C2<;>cases p0<;>cases s1<;>cases i1<;>cases e0<;>rfl
  by_cases k2:r.kind=2
  · rw[k2,show hasB ((lk (2:Int) ([(1,[73]),(2,[83,73]),(3,[80]),(4,[73]),(5,[])]:List (Int×Str))).getD []) 80=aq by decide,show hasB ((lk (2:Int) ([(1,[73]),(2,[83,73]),(3,[80]),(4,[73]),(5,[])]:List (Int×Str))).getD []) 83=ba by decide,show hasB ((lk (2:Int) ([(1,[73]),(2,[83,73]),(3,[80]),(4,[73]),(5,[])]:List (Int×Str))).getD []) 73=ba by decide];cases C1<;>cases C2<;>cases p0<;>cases s1<;>cases i1<;>cases e0<;>rfl
  by_cases b:r.kind=3
  · rw[b,show hasB ((lk (3:Int) ([(1,[73]),(2,[83,73]),(3,[80]),(4,[73]),(5,[])]:List (Int×Str))).getD []) 80=ba by decide,show hasB ((lk (3:Int) ([(1,[73]),(2,[83,73]),(3,[80]),(4,[73]),(5,[])]:List (Int×Str))).getD []) 83=aq by decide,show hasB ((lk (3:Int) ([(1,[73]),(2,[83,73]),(3,[80]),(4,[73]),(5,[])]:List (Int×Str))).getD []) 73=aq by decide];cases C1<;>cases C2<;>cases p0<;>cases s1<;>cases i1<;>cases e0<;>rfl
  by_cases c:r.kind=4
  · rw[c,show hasB ((lk (4:Int) ([(1,[73]),(2,[83,73]),(3,[80]),(4,[73]),(5,[])]:List (Int×Str))).getD []) 80=aq by decide,show hasB ((lk (4:Int) ([(1,[73]),(2,[83,73]),(3,[80]),(4,[73]),(5,[])]:List (Int×Str))).getD []) 83=aq by decide,show hasB ((lk (4:Int) ([(1,[73]),(2,[83,73]),(3,[80]),(4,[73]),(5,[])]:List (Int×Str))).getD []) 73=ba by decide];cases C1<;>cases C2<;>cases p0<;>cases s1<;>cases i1<;>cases e0<;>rfl
  by_cases a:r.kind=5
  · rw[a,show hasB ((lk (5:Int) ([(1,[73]),(2,[83,73]),(3,[80]),(4,[73]),(5,[])]:List (Int×Str))).getD []) 80=aq by decide,show hasB ((lk (5:Int) ([(1,[73]),(2,[83,73]),(3,[80]),(4,[73]),(5,[])]:List (Int×Str))).getD []) 83=aq by decide,show hasB ((lk (5:Int) ([(1,[73]),(2,[83,73]),(3,[80]),(4,[73]),(5,[])]:List (Int×Str))).getD []) 73=aq by decide];cases C1<;>cases C2<;>cases p0<;>cases s1<;>cases i1<;>cases e0<;>rfl
  rw[show lk r.kind ([(1,[73]),(2,[83,73]),(3,[80]),(4,[73]),(5,[])]:List (Int×Str))=aw by simp[lk,k1,k2,b,c,a]];rw[show(ab ((r.kind:Int)<1)||ab ((5:Int)<r.kind))=ba by simp;omega];rfl
structure GoodR(r:Rec):Prop where
 kind:1<=r.kind/\r.kind<=5
 co:0<=r.co/\r.co<=2
 aJ:1<=r.aJ/\r.aJ<=100
 place:0<=r.place/\r.place<=2
 says:r.says.length<=40
 image:r.image.length<=1200
 has:(r.kind=1\/r.kind=2\/r.kind=4)->1<=r.image.length
theorem Ue(r:Rec)(h:gU r=0):GoodR r:=by
 rw[<-rec_eq]at h;unfold dV at h;have hn:0<=(r.image.length:Int):=by omega
 generalize d:(ab ((r.kind:Int)<1)||ab ((5:Int)<r.kind))=A at h;cases A with
 |true=>simp only[cond_true]at h;exact absurd h zq1
 |false=>
 simp only[cond_false]at h;generalize c:(((((ab ((r.co:Int)<0)||ab ((3:Int)<=r.co))||ab ((r.aJ:Int)<0))||ab ((100:Int)<r.aJ))||ab ((r.place:Int)<0))||ab ((3:Int)<=r.place))=B at h;cases B with
 |true=>simp only[cond_true]at h;exact absurd h zq1
 |false=>
 simp only[cond_false]at h;generalize e:(ab ((40:Int)<(r.says.length:Int))||ab ((1200:Int)<(r.image.length:Int)))=C at h;cases C with
 |true=>simp only[cond_true]at h;exact absurd h zq1
 |false=>
 simp only[cond_false]at h;generalize b:((((ab ((r.kind:Int)≠3)&&ab ((r.place:Int)≠0))||(ab ((r.kind:Int)≠2)&&ab ((0:Int)<(r.says.length:Int))))||(((ab ((r.kind:Int)=1)||ab ((r.kind:Int)=2))||ab ((r.kind:Int)=4)) !=ab ((0:Int)<(r.image.length:Int))))||ab ((r.aJ:Int)=0))=D at h;cases D with
 |true=>simp only[cond_true]at h;exact absurd h zq1
 |false=>
 simp only[cP,decide_eq_false_iff_not,bne_eq_false_iff_eq]at d c e b;obtain⟨⟨⟨_,_⟩,a⟩,g⟩:=b;refine⟨by omega,by omega,by omega,by omega,by omega,by omega,fun i=>?_⟩;have:((ab ((r.kind:Int)=1)||ab ((r.kind:Int)=2))||ab ((r.kind:Int)=4))=true:=by
  simp;omega
 rw[this]at a;have f:ab ((0:Int)<(r.image.length:Int))=true:=by
  cases hq:ab ((0:Int)<(r.image.length:Int))with
  |true=>rfl
  |false=>rw[hq]at a;cases a
 have:=odt f;omega
def Qm(r:Rec):Prop:=kr r.kind/\kr r.co/\kr r.aJ/\kr r.place/\(∀x∈r.says,kr x)/\(∀x∈r.image,kr x)
def nl(r:Rec):List Int:=[r.kind,r.co,r.aJ,r.place,(r.says.length:Int)]++r.says++r.image
def zR:Rec:=⟨0,0,0,0,[],[]⟩
def xI(r:Rec):Str×Int:=if dV r=0 then(vS 32 ((nl r).map dr),0)else([],dV r)
def O7(l:List Int)(n:Nat):Rec:=⟨l.getD 0 0,l.getD 1 0,l.getD 2 0,l.getD 3 0,(l.take (5+n)).drop 5,l.drop (5+n)⟩
def LV(l:List Int):Rec×Int:=
 if l.length<5 then(zR,1)else if l.getD 4 0<0\/(l.length:Int)-5<l.getD 4 0 then(zR,1)else
 if dV (O7 l (l.getD 4 0).toNat)=0 then(O7 l (l.getD 4 0).toNat,0)else(zR,dV (O7 l (l.getD 4 0).toNat))
def nC(s:Str):Rec×Int:=match WU 32 s with|none=>(zR,1)|some l=>LV l
def Uf(s:Str):Rec×Int:=if(60000:Int)<(s.length:Int)then(zR,2)else nC s
theorem concat5:∀(l:List (List Int)) (a:List Int),a.length+(l.map fb).sum<=1000000->each uQ uR l a=aj (a++l.flatten)
 |[],a,_=>by simp[qN,uR]
 |x::l,a,h=>by
  simp only[ck,my]at h;rw[gD,uQ,jN ⟨by omega,by omega⟩,concat5 l (a++x) (by rw[bc];omega)];simp
theorem concat7(a:List (List Int)):∀(l:List (List Int)) (n:Nat),n+(l.map fb).sum<=1000000->each uS (qi a) l (n:Int)=qi a ((n+(l.map fb).sum:Nat):Int)
 |[],n,_=>by simp[qN]
 |x::l,n,h=>by
  simp only[ck,my]at h⊢;rw[gD,uS,gI,dF V,cond_false,show((n:Int)+(x.length:Int))=((n+x.length:Nat):Int) by omega,concat7 a l (n+x.length) V,jt]
theorem concat_eq(a:List (List Int))(h:(a.map fb).sum<=1000000):uT a=aj a.flatten:=by
 unfold uT;have:=concat7 a a 0 V;rw[show((0:Nat):Int)=0 from rfl]at this;rw[this];unfold qi;rw[show Qs 8 ((0+(a.map fb).sum:Nat):Int)=aj ([]:List Int) by unfold Qs;rw[jN ⟨by omega,by omega⟩],bnd,concat5 a [] (by simpa using h)];simp
theorem concat3(a b c:List Int)(h:a.length+b.length+c.length<=1000000):uT [a,b,c]=aj (a++b++c):=by
 rw[concat_eq _ (by simp;omega)];simp
theorem nl_len(r:Rec):(nl r).length=5+r.says.length+r.image.length:=by simp[nl];omega
theorem nl_ok{r:Rec}(g:GoodR r)(w:Qm r):∀x∈nl r,kr x:=by
  obtain⟨f,h,e,c,d,b⟩:=w;have i:=g.says;intro x a;simp only[nl,cV,bn,List.not_mem_nil,or_false]at a;rcases a with((rfl|rfl|rfl|rfl|rfl)|a)|a
  · exact f
  · exact h
  · exact e
  · exact c
  · exact kr.mk V V
  · exact d x a
  · exact b x a
theorem aae{r:Rec}(g:GoodR r):(nl r).length<=1245:=by rw[nl_len];have:=g.says;have:=g.image;omega
theorem nl_ne(r:Rec):nl r≠[]:=by simp[nl]
theorem aaf:∀(l:List Int) (pre:List Str),(∀x∈l,kr x)->gW xS uE (pre.length:Int) l (pre++cc l.length ([]:Str))=uE (pre++l.map dr)
 |[],pre,_=>by simp[Uv]
 |x::l,pre,h=>by
  rw[yK,xS,X6 (h x zq3),bnd,kL];have a:(pre++cc (x::l).length ([]:Str))[pre.length]? =aj []:=by rw[gA (bt _)];simp
  rw[a,bnd,bj];have d:(pre++cc (x::l).length ([]:Str)).set pre.length (dr x)=(pre++[dr x])++cc l.length ([]:Str):=by
   rw[List.set_append_right _ _ (bt _)];simp[List.replicate_succ]
  have c:((pre.length:Int)+1)=((pre++[dr x]).length:Int):=by simp
  rw[d,c,aaf l (pre++[dr x]) (fun y b=>h y (bk _ b))];simp
theorem join_ok{l:List Int}(h:∀x∈l,kr x)(d:l.length<=1245):X4 (l.map dr) [32]=aj (vS 32 (l.map dr)):=by
 have b:=UD 32 21 (l.map dr) (by intro x c;obtain⟨y,a,rfl⟩:=ea.1 c;exact itoa_len (h y a));rw[cG]at b;exact joinS_eq 32 (by rw[cG];omega) V
theorem print_eq(r:Rec)(b:dV r=0->Qm r):GR r=aj (xI r):=by
  unfold GR xI;by_cases h:dV r=0
  · have g:=Ue r (by rw[<-rec_eq];exact h);have e:=g.says;have f:=g.image;rw[dF V,cond_false,if_pos h,concat3 _ _ _ (by simp;omega),bnd];have c:=aae g;have a:=nl_ok g<|b h;show iy _ (gW xS uE 0 (nl r)<|cc ((nl r).length:Int).toNat ([]:Str))=_;have d:(r.kind::r.co::r.aJ::r.place::(r.says.length:Int)::(r.says++r.image)).length=(nl r).length:=by simp[nl]
    rw[jN (by
      refine⟨by omega,?_⟩;have:([r.kind,r.co,r.aJ,r.place,(r.says.length:Int)]++r.says++r.image).length=(nl r).length:=rfl;rw[this];omega),bj]
    have:=aaf (nl r) [] a;simp only[eA,cF]at this;rw[show((0:Nat):Int)=0 from rfl]at this;rw[this];unfold uE;rw[join_ok a c,bnd]
  · rw[dT h,cond_true,if_neg h]
theorem numbers_each:∀(w:List Str) (a:List Int),(∀x∈w,x.length<=60000)->a.length+w.length<=1000000->
    each Cm Cn w a=aj (match w.mapM numOf with|some v=>(a++v,ba)|none=>([],aq))
  |[],a,_,_=>by simp[qN,Cn]
  |x::w,a,h,hl=>by
    have f:=h x zq3;simp only[bq]at hl;have d:=fun y=>numbers_each w (a++[y]) (fun z hz=>h z (bk _ hz)) (by simp;omega);rw[gD,Cm,parseS_eq V,bnd,mu];cases e:Lib.atoiAll x with
    |ok v=>
      have c:kr v:=rk e;simp only[cond_false];rw[X6 c,bnd,wK];by_cases b:dr v=x
      · rw[dF (by simpa using b),cond_false,jN ⟨by simp;omega,by simp;omega⟩,d];have:numOf x=aj v:=by simp[numOf,e,b]
        rw[this];cases e2:w.mapM numOf with
        |none=>rfl
        |some m=>simp
      · rw[dT b,cond_true];have:numOf x=none:=by simp[numOf,e,b]
        rw[this];rfl
    |range=>
      have:numOf x=none:=by simp[numOf,e]
      rw[this];rfl
    |_=>
      have:numOf x=none:=by simp[numOf,e]
      rw[this];rfl
theorem aag:∀(w:List Str) (a:List Int),(∀x∈w,x.length<=60000)->a.length+w.length<=1000000->
    each zZ rD w a=match w.mapM numOf with|some v=>rD (a++v)|none=>aj (zR,1)
  |[],a,_,_=>by simp[qN]
  |x::w,a,h,hl=>by
    have f:=h x zq3;simp only[bq]at hl;have d:=fun y=>aag w (a++[y]) (fun z hz=>h z (bk _ hz)) (by simp;omega);rw[gD,zZ,atoiS_eq V,bnd,mu];cases e:Lib.atoiAll x with
    |ok v=>
      have c:kr v:=rk e;simp only[cond_false];rw[X6 c,bnd,zY];by_cases b:dr v=x
      · rw[dF (by simpa using b),cond_false,jN ⟨by simp;omega,by simp;omega⟩,d];have:numOf x=aj v:=by simp[numOf,e,b]
        rw[this];cases e2:w.mapM numOf with
        |none=>rfl
        |some m=>simp
      · rw[dT b,cond_true];have:numOf x=none:=by simp[numOf,e,b]
        rw[this];rfl
    |range=>
      have:numOf x=none:=by simp[numOf,e]
      rw[this];rfl
    |_=>
      have:numOf x=none:=by simp[numOf,e]
      rw[this];rfl
theorem five{l:List Int}(h:¬l.length<5):∃a b c d n r,l=a::b::c::d::n::r:=by
 match l,h with
 |a::b::c::d::n::r,_=>exact⟨a,b,c,d,n,r,rfl⟩
 |[],h=>simp at h
 |[a],h=>simp at h
 |[a,b],h=>simp at h
 |[a,b,c],h=>simp at h
 |[a,b,c,d],h=>simp at h
theorem parse_k31(l:List Int)(o:l.length<=1000000)(hI:∀x∈l,kr x):rD l=aj (LV l):=by
  unfold rD LV;by_cases h:l.length<5
  · rw[dT V,if_pos h];rfl
  · rw[dF V,if_neg h,cond_false];obtain⟨a,b,c,d,n,r,rfl⟩:=five h;have hn:kr n:=hI n zq3;have k:idx (a::b::c::d::n::r) 4=aj n:=rfl;rw[k,bnd];have j:(a::b::c::d::n::r).getD 4 0=n:=rfl;rw[j];by_cases e:n<0
    · rw[dT e,if_pos (.inl e)];rfl
    · rw[dF e,cond_false];simp only[bq]at o⊢;rw[gI];by_cases g:((r.length+1+1+1+1+1:Nat):Int)-5<n
      · rw[dT g,if_pos (.inr g)];rfl
      · rw[dF g,if_neg V];unfold wy;obtain⟨m,rfl⟩:=bs (show 0<=n by omega);rw[cond_false,show idx (a::b::c::d::(m:Int)::r) 0=aj a from rfl,bnd,show idx (a::b::c::d::(m:Int)::r) 1=aj b from rfl,bnd,show idx (a::b::c::d::(m:Int)::r) 2=aj c from rfl,bnd,show idx (a::b::c::d::(m:Int)::r) 3=aj d from rfl,bnd,show idx (a::b::c::d::(m:Int)::r) 4=aj (m:Int)from rfl,bnd,gI];rw[show(5+(m:Int))=((5+m:Nat):Int) by omega,show(5:Int)=((5:Nat):Int)from rfl,Sv V (by simp;omega),bnd,gI,Sv (by simp;omega) (bt _),bnd,qY (by simp;omega) (by simp;omega),bnd,qY (by simp;omega) (by simp;omega),bnd];have i:((a::b::c::d::(m:Int)::r).take (a::b::c::d::(m:Int)::r).length).drop (5+m)=(a::b::c::d::(m:Int)::r).drop (5+m):=by rw[rN]
        rw[i];unfold Eu;show(bif ab ((dV (O7 (a::b::c::d::(m:Int)::r) m):Int)≠0)then aj (zR,dV<|O7 (a::b::c::d::(m:Int)::r) m)else aj (O7 (a::b::c::d::(m:Int)::r) m,0))=_;rw[bj];by_cases f:dV (O7 (a::b::c::d::(m:Int)::r) m)=0
        · rw[dF V,if_pos f];rfl
        · rw[dT f,if_neg f];rfl
theorem parse_eq(s:Str):GL s=aj (Uf s):=by
  unfold GL Uf;by_cases h:(60000:Int)<(s.length:Int)
  · rw[dT h,if_pos h];rfl
  · rw[dF h,if_neg h,cond_false];have d:=Mf 32 s;rw[splitS_eq 32 V,bnd,aag _ [] (fun x c=>by have:=El 32 s x c;omega) (by simp;omega)];unfold nC;cases e:WU 32 s with
    |none=>unfold WU at e;rw[e]
    |some l=>
      have:=JY (show(jH 32 s).mapM numOf=aj l from e);unfold WU at e;rw[e];have a:l.length<=1000000:=by
        have b:=congrArg fb this.1;rw[cG]at b;omega
      simp only[cF];exact parse_k31 l a this.2
theorem mkRec_nl(r:Rec):O7 (nl r) r.says.length=r:=by
 obtain⟨k,c,e,p,s,i⟩:=r;unfold O7 nl;have a:((([k,c,e,p,(s.length:Int)]++s++i).take (5+s.length)).drop 5)=s:=by
  rw[cf,show 5+s.length=([k,c,e,p,(s.length:Int)]).length+s.length from rfl,List.take_length_add_append,List.take_left];rfl
 have b:([k,c,e,p,(s.length:Int)]++s++i).drop (5+s.length)=i:=by
  rw[show 5+s.length=([k,c,e,p,(s.length:Int)]++s).length by simp;omega,List.drop_left]
 simp only[a,b];rfl
theorem fromNums_nl{r:Rec}(h:dV r=0):LV (nl r)=(r,0):=by
 have a:=nl_len r;unfold LV;rw[if_neg V,show(nl r).getD 4 0=(r.says.length:Int)from rfl,if_neg V,bj,mkRec_nl,if_pos h]
theorem aah{r:Rec}(h:dV r=0)(w:Qm r):nC (vS 32 ((nl r).map dr))=(r,0):=by
 unfold nC;rw[nums_join zq1 (nl_ne r) (nl_ok (Ue r (by rw[<-rec_eq];exact h)) w)];exact fromNums_nl h
theorem nl_mk{l:List Int}{n:Nat}(g:5+n<=l.length)(e:l.getD 4 0=n):nl (O7 l n)=l:=by
 obtain⟨a,b,c,d,m,r,rfl⟩:=five (l:=l) V;have f:m=n:=e;subst f;simp only[bq]at g;have i:((a::b::c::d::(n:Int)::r).take (5+n)).drop 5=r.take n:=by
  rw[show 5+n=n+1+1+1+1+1 by omega];rfl
 have h:(a::b::c::d::(n:Int)::r).drop (5+n)=r.drop n:=by
  rw[show 5+n=n+1+1+1+1+1 by omega];rfl
 show [a,b,c,d,((((a::b::c::d::(n:Int)::r).take (5+n)).drop 5).length:Int)]++((a::b::c::d::(n:Int)::r).take (5+n)).drop 5++(a::b::c::d::(n:Int)::r).drop (5+n)=_;rw[i,h,List.length_take,show min n r.length=n by omega,cf,List.take_append_drop];rfl
theorem read_ok{s:Str}{r:Rec}(h:nC s=(r,0)):dV r=0/\Qm r/\s=vS 32 ((nl r).map dr):=by
  unfold nC at h;cases e:WU 32 s with
  |none=>rw[e]at h;cases h
  |some l=>
    rw[e]at h;obtain⟨i,j,o⟩:=join_nums e;simp only at h;unfold LV at h;split at h
    · cases h
    · rename_i p;split at h
      · cases h
      · rename_i k;split at h
        · rename_i c;obtain⟨m,f⟩:=bs (show 0<=l.getD 4 0 by omega);rw[f]at h c k;simp only[bj]at h c;have g:O7 l m=r:=by injection h
          have b:=nl_mk (l:=l) (n:=m) V f;rw[g]at b c;refine⟨c,?_,by rw[b];exact i⟩;have a:∀x∈nl r,kr x:=by rw[b];exact j
          refine⟨a _ (by simp[nl]),a _ (by simp[nl]),a _ (by simp[nl]),a _ (by simp[nl]),fun x d=>a x (by simp[nl,d]),fun x d=>a x (by simp[nl,d])⟩
        · rename_i c;exact absurd (congrArg Prod.snd h) c
theorem text_ok{r:Rec}(h:dV r=0):xI r=(vS 32 ((nl r).map dr),0):=by unfold xI;rw[if_pos h]
def r0:Rec:=⟨2,1,2,0,[7,-8],[1]⟩
def Sc(most:Int):List Str->List Rec->Int->List Rec×Int×Int
 |[],l,n=>(l,n,0)
 |[x],l,n=>if x=[]then(l,n,0)else(l,n,8)
 |x::y::r,l,n=>if(nC x).2≠0 then(l,n,(nC x).2)else if most<=(l.length:Int)then(l,n,2)else Sc most (y::r) (l++[(nC x).1]) (n+(x.length:Int)+1)
def ln(most:Int)(s:Str):List Rec×Int×Int:=Sc most (jH 10 s) [] 0
theorem lnP_cons{most:Int}{x:Str}{q:List Str}{l:List Rec}{n:Int}(a:q≠[]):Sc most (x::q) l n=if(nC x).2≠0 then(l,n,(nC x).2)else if most<=(l.length:Int)then(l,n,2)else Sc most q (l++[(nC x).1]) (n+(x.length:Int)+1):=by
 cases q with
 |nil=>exact absurd Z a
 |cons y r=>rfl
theorem joinC_len2(c:UInt8)(x y:Str)(l:List Str):(vS c (x::y::l)).length=x.length+1+(vS c (y::l)).length:=by
 rw[yM,bc,bq];omega
theorem lnP_len(most:Int):∀(p:List Str) (l:List Rec) (n:Int),0<=n->n<=(Sc most p l n).2.1/\(Sc most p l n).2.1<=n+(vS 10 p).length/\(Sc most p l n).1.length+0<=l.length+p.length/\l.length<=(Sc most p l n).1.length/\((l.length:Int)<=most->((Sc most p l n).1.length:Int)<=most)
  |[],l,n,hn=>by simp[Sc];omega
  |[x],l,n,hn=>by
    unfold Sc;split<;>simp<;>omega
  |x::y::r,l,n,hn=>by
    have b:=joinC_len2 10 x y r;unfold Sc;split
    · simp;omega
    · split
      · simp;omega
      · have a:=lnP_len most (y::r) (l++[(nC x).1]) (n+(x.length:Int)+1) V;simp only[bc,bq,eA]at a⊢;omega
theorem lines_loop(a:Str)(b:Int)(m:a.length<=60000):∀(p:List Str) (s:Str) (l:List Rec) (N:Nat),jH 10 s=p->s.length<=a.length->p.length<=N->l.length+p.length<=60001->(l.length:Int)<=b->
    again (AR a b) N (s,l)=aj (Sc b p l ((a.length:Int)-(s.length:Int))):=by
  intro p;induction p with
  |nil=>intro s l N hp;exact absurd hp (G9 10 s)
  |cons x q ih=>
    intro s l N hp k hN j n;cases N with
    |zero=>simp at hN
    |succ N=>
    rw[again,AR];cases q with
    |nil=>
      obtain⟨rfl,e⟩:=splitC_single hp;by_cases c:s=[]
      · subst c;rw[dF zq3,cond_false];simp[Sc]
      · rw[dT c,cond_true,cutS_free e V,bnd];simp only[ir,cond_true];rw[gI];simp[Sc,c]
    |cons y r=>
      obtain⟨t,rfl,i,e⟩:=splitC_cons hp;have f:(x++10::t).length=x.length+1+t.length:=by simp;omega
      rw[dT zq3,cond_true,cutS_hit e V,bnd];simp only[dI,cond_false];have d:Uf x=nC x:=by unfold Uf;rw[if_neg V]
      rw[parse_eq,bnd,d,lnP_cons zq3];by_cases h:(nC x).2=0
      · rw[dF V,cond_false,if_neg V];by_cases g:(l.length:Int)=b
        · rw[dT g,cond_true,gI,if_pos V]
        · rw[dF g,cond_false,if_neg V];simp only[bq]at hN j;rw[jN ⟨by simp;omega,by simp;omega⟩,ih t (l++[(nC x).1]) N i V (by simp;omega) (by simp;omega) (by simp;omega)];congr 2;omega
      · rw[dT h,cond_true,gI,if_pos h]
theorem aai(N:Nat)(a:Str)(b:Int)(hN:60002<=N)(d:a.length<=60000)(c:0<=b):Ew N a b=aj (ln b a):=by
 unfold Ew ln;have e:=Mf 10 a;rw[lines_loop a b d (jH 10 a) a [] N rfl (bt _) V (by simp;omega) (by simpa using c)];congr 2;omega
theorem bcat5:∀(l:List Str) (a:Str),a.length+(l.map fb).sum<=1000000->each tJ tK l a=aj (a++l.flatten)
 |[],a,_=>by simp[qN,tK]
 |x::l,a,h=>by
  simp only[ck,my]at h;rw[gD,tJ,jN ⟨by omega,by omega⟩,bcat5 l (a++x) (by rw[bc];omega)];simp
theorem bcat7(a:List Str):∀(l:List Str) (n:Nat),n+(l.map fb).sum<=1000000->each tL (oV a) l (n:Int)=oV a ((n+(l.map fb).sum:Nat):Int)
 |[],n,_=>by simp[qN]
 |x::l,n,h=>by
  simp only[ck,my]at h⊢;rw[gD,tL,gI,dF V,cond_false,show((n:Int)+(x.length:Int))=((n+x.length:Nat):Int) by omega,bcat7 a l (n+x.length) V,jt]
theorem bcat(a b:Str)(h:a.length+b.length<=1000000):sI [a,b]=aj (a++b):=by
 unfold sI;have:=bcat7 [a,b] [a,b] 0 (by simp;omega);rw[show((0:Nat):Int)=0 from rfl]at this;rw[this];unfold oV;rw[show Qs 1 ((0+([a,b].map fb).sum:Nat):Int)=aj ([]:Str) by unfold Qs;rw[jN ⟨by omega,by simp;omega⟩],bnd,bcat5 [a,b] [] (by simp;omega)];simp
def zD:iB:=⟨[],[]⟩
def iP(d:iB):Int:=if 60000<d.safe.length\/60000<d.safe.length+d.wait.length then 2 else(ln 120 d.safe).2.2
theorem LW(N:Nat)(hN:60002<=N)(d:iB)(b:d.wait.length<=9223372036854775807):vk N d=aj (iP d):=by
  unfold vk iP;by_cases h:60000<d.safe.length
  · rw[dT V,cond_true,if_pos (.inl h)];rfl
  · rw[dF V,cond_false,gI];by_cases a:60000<d.safe.length+d.wait.length
    · rw[dT V,if_pos (.inr a)];rfl
    · rw[dF V,if_neg V];unfold E5;rw[cond_false,aai N d.safe 120 hN V V,bnd]
theorem wM{d:iB}(h:iP d=0):d.safe.length+d.wait.length<=60000/\(ln 120 d.safe).2.2=0:=by
  unfold iP at h;split at h
  · cases h
  · exact⟨by omega,h⟩
def putT(d:iB)(r:Rec):iB×Int:=
 if(xI r).2≠0 then(zD,(xI r).2)else if 60000<d.safe.length+d.wait.length+(xI r).1.length+1 then(zD,2)else(⟨d.safe,d.wait++(xI r).1++[10]⟩,0)
def wQ(d:iB)(r:Rec):iB×Int:=if iP d≠0 then(zD,iP d)else putT d r
theorem text_len{r:Rec}(w:Qm r):(xI r).1.length<=27390:=by
  unfold xI;split
  · rename_i h;have g:=Ue r (by rw[<-rec_eq];exact h);have b:=UD 32 21 ((nl r).map dr) (by intro x c;obtain⟨y,a,rfl⟩:=ea.1 c;exact itoa_len (nl_ok g w y a));have d:=aae g;rw[cG]at b;show(vS 32 ((nl r).map dr)).length<=_;omega
  · simp
theorem put_eq(N:Nat)(hN:60002<=N)(d:iB)(r:Rec)(c:d.wait.length<=9223372036854775807)(w:Qm r):IB N d r=aj (wQ d r):=by
  unfold IB wQ putT;rw[LW N hN d c,bnd];by_cases h:iP d=0
  · obtain⟨e,_⟩:=wM h;have f:=text_len w;rw[dF V,cond_false,if_neg V,print_eq r (fun _=>w),bnd];by_cases a:(xI r).2=0
    · rw[dF V,cond_false,if_neg V,gI,gI,gI];by_cases b:60000<d.safe.length+d.wait.length+(xI r).1.length+1
      · rw[dT V,cond_true,if_pos b];rfl
      · rw[dF V,cond_false,if_neg b,qY V V,bnd,qY V V,bnd,jN ⟨by omega,by omega⟩,jN ⟨by simp;omega,by simp;omega⟩]
    · rw[dT a,cond_true,if_pos a];rfl
  · rw[dT h,cond_true,if_pos h];rfl
def syncT(d:iB):iB×Int:=if iP ⟨d.safe++d.wait,[]⟩≠0 then(zD,iP ⟨d.safe++d.wait,[]⟩)else(⟨d.safe++d.wait,[]⟩,0)
def Gv(d:iB):iB×Int:=if iP d≠0 then(zD,iP d)else syncT d
theorem sync_eq(N:Nat)(hN:60002<=N)(d:iB)(b:d.wait.length<=9223372036854775807):Lr N d=aj (Gv d):=by
  unfold Lr Gv syncT;rw[LW N hN d b,bnd];by_cases h:iP d=0
  · obtain⟨c,_⟩:=wM h;rw[dF V,cond_false,if_neg V,bcat _ _ V,bnd,LW N hN _ zq3,bnd];by_cases a:iP ⟨d.safe++d.wait,[]⟩=0
    · rw[dF V,cond_false,if_neg V]
    · rw[dT a,cond_true,if_pos a];rfl
  · rw[dT h,cond_true,if_pos h];rfl
def Ko(d:iB)(n:Int):iB×Int:=if iP d≠0 then(zD,iP d)else if n<0\/(d.wait.length:Int)<n then(zD,3)else(⟨d.safe,d.wait.take n.toNat⟩,0)
theorem crash_eq(N:Nat)(hN:60002<=N)(d:iB)(n:Int)(b:d.wait.length<=9223372036854775807):IZ N d n=aj (Ko d n):=by
  unfold IZ Ko;rw[LW N hN d b,bnd];by_cases h:iP d=0
  · obtain⟨c,_⟩:=wM h;rw[dF V,cond_false,if_neg V];by_cases a:n<0\/(d.wait.length:Int)<n
    · rw[show(ab (n<0)||ab ((d.wait.length:Int)<n))=ba by simpa using a,cond_true,if_pos a];rfl
    · rw[show(ab (n<0)||ab ((d.wait.length:Int)<n))=aq by simp;omega,cond_false,if_neg a];obtain⟨m,rfl⟩:=bs (show 0<=n by omega);rw[show(0:Int)=((0:Nat):Int)from rfl,Sv V V,bnd,qY V V,bnd,qY (by simp;omega) (by simp;omega),bnd,ke,bj]
  · rw[dT h,cond_true,if_pos h];rfl
def Qn(d:iB):iB×List Rec:=
 (⟨d.safe++d.wait.take (ln (120-((ln 120 d.safe).1.length:Int)) d.wait).2.1.toNat,[]⟩,(ln 120 d.safe).1++(ln (120-((ln 120 d.safe).1.length:Int)) d.wait).1)
def Ug(d:iB):iB×List Rec×Int:=if iP d≠0 then(zD,[],iP d)else((Qn d).1,(Qn d).2,0)
theorem aaj(most:Int)(s:Str):0<=(ln most s).2.1/\(ln most s).2.1<=s.length/\(ln most s).1.length<=s.length+1/\(0<=most->((ln most s).1.length:Int)<=most):=by
 have h:=lnP_len most (jH 10 s) [] 0<|Int.le_refl 0;have a:=Mf 10 s;rw[BL]at h;unfold ln;simp only[eA]at h;omega
theorem aak(N:Nat)(hN:60002<=N)(d:iB)(a:d.wait.length<=9223372036854775807):nZ N d=aj (Ug d):=by
  unfold nZ Ug Qn;rw[LW N hN d a,bnd];by_cases h:iP d=0
  · obtain⟨e,_⟩:=wM h;have k1:=aaj 120 d.safe;rw[dF V,cond_false,if_neg V,aai N d.safe 120 hN V V,bnd,gI,aai N d.wait _ hN V V,bnd];have k2:=aaj (120-((ln 120 d.safe).1.length:Int)) d.wait;generalize ln (120-((ln 120 d.safe).1.length:Int)) d.wait=y at*;obtain⟨b,c,f⟩:=y;simp only at k2⊢;obtain⟨m,rfl⟩:=bs k2.1;rw[show(0:Int)=((0:Nat):Int)from rfl,Sv V V,bnd,ke,bcat _ _ (by simp;omega),bnd,jN ⟨by omega,by omega⟩,bj]
  · rw[dT h,cond_true,if_pos h];rfl
def zN(r:Rec):Str:=vS 32 ((nl r).map dr)
def Eh(l:List Rec):Prop:=∀r∈l,dV r=0/\Qm r
def txt:List Rec->Str
 |[]=>[]
 |r::l=>zN r++10::txt l
theorem M9:∀(a b:List Rec),txt (a++b)=txt a++txt b
 |[],b=>rfl
 |r::a,b=>by simp[txt,M9 a b]
theorem mem_joinC(c:UInt8):∀(l:List Str) (x:UInt8),x∈vS c l->x=c\/∃w∈l,x∈w
  |[],x,h=>by simp[vS,Lib.join_nil]at h
  |[y],x,h=>by rw[BK]at h;exact .inr ⟨y,by simp,h⟩
  |y::z::l,x,h=>by
    rw[yM]at h;rcases cV.1 h with h|h
    · exact .inr ⟨y,by simp,h⟩
    · rcases bn.1 h with h|h
      · exact .inl h
      · rcases mem_joinC c (z::l) x h with h|⟨w,hw,h⟩
        · exact .inl h
        · exact .inr ⟨w,bk _ hw,h⟩
theorem line_free(r:Rec):(10:UInt8)∉zN r:=by
  intro h;rcases mem_joinC 32 _ _ h with h|⟨w,hw,h⟩
  · exact absurd h zq1
  · obtain⟨n,_,rfl⟩:=ea.1 hw;exact itoa_free zq1 h
theorem WA:∀(l:List Rec) (t:Str),jH 10 (txt l++t)=l.map zN++jH 10 t
 |[],t=>rfl
 |r::l,t=>by
  rw[txt,cf,ew,Bt (line_free r),WA l t];rfl
theorem lnP_txt(most:Int):∀(rs:List Rec) (q:List Str) (l:List Rec) (n:Int),Eh rs->q≠[]->((l.length+rs.length:Nat):Int)<=most->Sc most (rs.map zN++q) l n=Sc most q (l++rs) (n+((txt rs).length:Int))
 |[],q,l,n,_,_,_=>by simp[txt]
 |r::rs,q,l,n,h,hq,hl=>by
  obtain⟨b,a⟩:=h r zq3;simp only[bq]at hl;have d:nC (zN r)=(r,0):=aah b a;rw[ck,ew,lnP_cons (by simp[hq]),d,if_neg zq3,if_neg V,lnP_txt most rs q (l++[r]) _ (fun x c=>h x (bk _ c)) hq (by simp;omega)];simp only[txt,bc,bq,cf,ew,cF];congr 1;omega
theorem ln_txt{most:Int}{rs:List Rec}(t:Str)(h:Eh rs)(a:(rs.length:Int)<=most):ln most (txt rs++t)=Sc most (jH 10 t) rs ((txt rs).length:Int):=by
 unfold ln;rw[WA,lnP_txt most rs _ [] 0 h (G9 10 t) (by simpa using a)];simp
theorem ln_all{most:Int}{rs:List Rec}(h:Eh rs)(a:(rs.length:Int)<=most):ln most (txt rs)=(rs,((txt rs).length:Int),0):=by
 have:=ln_txt (most:=most) [] h a;rw[du]at this;rw[this];simp[jH,Sc]
theorem ln_torn{most:Int}{rs:List Rec}{t:Str}(h:Eh rs)(a:(rs.length:Int)<=most)(b:(10:UInt8)∉t):(ln most (txt rs++t)).1=rs/\(ln most (txt rs++t)).2.1=((txt rs).length:Int):=by
 rw[ln_txt t h a,Jv b];unfold Sc;split<;>simp
theorem Hu{a:List Rec}{w:Str}(h:Eh a)(b:a.length<=120)(c:(txt a).length+w.length<=60000):iP ⟨txt a,w⟩=0:=by
 unfold iP;show(if 60000<(txt a).length\/60000<(txt a).length+w.length then(2:Int)else(ln 120<|txt a).2.2)=0;rw[if_neg V,ln_all h V]
theorem put_txt{a b:List Rec}{r:Rec}(f:Eh a)(i:a.length<=120)(g:(txt a).length+(txt b).length<=60000)(w:Qm r):
    (wQ ⟨txt a,txt b⟩ r).2≠0\/(wQ ⟨txt a,txt b⟩ r=(⟨txt a,txt (b++[r])⟩,0)/\dV r=0/\(txt a).length+(txt (b++[r])).length<=60000):=by
  unfold wQ putT;rw[if_neg (by rw[Hu f i g];simp)];by_cases h:dV r=0
  · have e:xI r=(zN r,0):=text_ok h;rw[e];simp only[ne_eq,not_true_eq_false,if_false];by_cases d:60000<(txt a).length+(txt b).length+(zN r).length+1
    · rw[if_pos d];left;simp
    · rw[if_neg d];right;have c:txt (b++[r])=txt b++zN r++[10]:=by rw[M9];simp[txt]
      refine⟨by rw[c],h,by rw[c];simp;omega⟩
  · have e:xI r=([],dV r):=by unfold xI;rw[if_neg h]
    rw[e,if_pos h];exact .inl h
theorem sync_txt{a b:List Rec}(c:Eh a)(h:Eh b)(g:a.length+b.length<=120)(f:(txt a).length+(txt b).length<=60000):Gv ⟨txt a,txt b⟩=(⟨txt (a++b),[]⟩,0):=by
 have d:Eh (a++b):=fun r e=>(cV.1 e).elim (c r)<|h r;unfold Gv syncT;rw[if_neg (by rw[Hu c V f];simp)];show(if iP ⟨txt a++txt b,[]⟩≠0 then _ else _)=_;rw[<-M9,if_neg (by rw[Hu d (by simpa using g) (by rw[M9];simp;omega)];simp)]
theorem take_txt:∀(b:List Rec) (m:Nat),∃k t,(txt b).take m=txt (b.take k)++t/\(10:UInt8)∉t
  |[],m=>⟨0,[],by simp[txt],by simp⟩
  |r::b,m=>by
    by_cases h:m<=(zN r).length
    · refine⟨0,(zN r).take m,?_,fun a=>line_free r<|List.mem_of_mem_take a⟩;simp only[sT,txt,cF];rw[List.take_append_of_le_length h]
    · obtain⟨k,t,d,c⟩:=take_txt b<|m-(zN r).length-1;refine⟨k+1,t,?_,c⟩;rw[pS,txt,txt,List.take_append,List.take_of_length_le V,cf,ew,<-d];congr 1;rw[show m-(zN r).length=(m-(zN r).length-1)+1 by omega,pS];simp
theorem Jg:Eh []:=fun r h=>by cases h
theorem coSame(a b:List Co):ME a b=aj (ab (a=b)):=by
  unfold ME;by_cases h:a.length=b.length
  · rw[dF V];simp only[cond_false];rw[QK (fun x y=>ab (x=y)) a b h rfl (fun i x y j c=>by
      unfold Il Dm;rw[kL,c];simp only[bnd,eqInt];have e:(((ab (x.kv=y.kv)&&ab (x.aJ=y.aJ))&&ab (x.offered=y.offered))&&ab (x.image=y.image))=ab (x=y):=by
        cases x;cases y;rw[ez];simp;exact⟨fun⟨⟨⟨f,c⟩,g⟩,d⟩=>⟨f,c,d,g⟩,fun⟨f,c,d,g⟩=>⟨⟨⟨f,c⟩,g⟩,d⟩⟩
      rw[<-e];cases ((ab (x.kv=y.kv)&&ab (x.aJ=y.aJ))&&ab (x.offered=y.offered))<;>cases ab (x.image=y.image)<;>rfl),Me (fun _ _=>rfl)]
  · rw[dT V];have:a≠b:=fun e=>h (by rw[e]);rw[dF this];rfl
def coOk(x:Co):Prop:=0<=x.kv/\x.kv<=2/\1<=x.aJ/\x.aJ<=100/\ -1<=x.offered/\x.offered<=2/\1<=x.image.length/\x.image.length<=1200
def rg(x:Co):Bool:=(((((ab ((x.kv:Int)<0)||ab ((3:Int)<=x.kv))||ab ((x.aJ:Int)<1))||ab ((100:Int)<x.aJ))||ab ((x.offered:Int)< -1))||ab ((3:Int)<=x.offered))
def mn(x:Co):Bool:=(ab (((x.image.length:Int):Int)=0)||ab ((1200:Int)<(x.image.length:Int)))
theorem rg_eq(x:Co):(((!(bz x.kv 0 2))||(!(bz x.aJ 1 100)))||(!(bz x.offered (-1) 2)))=rg x:=by
 unfold bz rg;rw[ez];simp;omega
theorem mn_eq(x:Co):(!(bz (x.image.length:Int) 1 1200))=mn x:=by
 have hn:0<=(x.image.length:Int):=by omega
 unfold bz mn;generalize (x.image.length:Int)=n at hn⊢;rw[ez];simp;omega
theorem coOk_iff(x:Co):coOk x↔rg x=aq/\mn x=false:=by
 have hn:0<=(x.image.length:Int):=by omega
 unfold coOk rg mn;rw[show(1<=x.image.length)=(1<=(x.image.length:Int)) by simp;omega,show(x.image.length<=1200)=((x.image.length:Int)<=1200) by simp;omega];generalize (x.image.length:Int)=n at hn⊢;simp;omega
theorem chkEq(a:List Co):JI a=aj (gV a):=by
  unfold JI gV;by_cases h:(3:Int)<(a.length:Int)
  · rw[dT h];rfl
  · rw[dF h];simp only[cond_false];have d:∀(k:List Co) (i:Nat) (b:Int),(∀j,k[j]? =a[i+j]?)->(i=0->b= -1)->(∀j,i=j+1->∃y,a[j]? =aj y/\y.kv=b)->i<=a.length->gW (xR a) Bi (i:Int) k ()=aj (each jW kX k b):=by
      intro k;induction k with
      |nil=>intro i b _ _ _ _;rfl
      |cons x k ih=>
        intro i b l m p r;rw[yK,gD];have f:a[i]? =aj x:=by have:=l 0;simpa using this.symm
        have q:i<a.length:=by
          rcases cD i a.length with h|h
          · exact h
          · rw[bw h]at f;cases f
        have c:=ih (i+1) x.kv (fun j=>by have:=l (j+1);simpa[jt,Nat.add_comm 1 j]using this) V (fun j n=>⟨x,by rw[show j=i by omega];exact f,Z⟩) V;rw[show((i+1:Nat):Int)=(i:Int)+1 from rfl]at c;generalize gW (xR a) Bi ((i:Int)+1) k=nx at c⊢;generalize each jW kX k=nx2 at c⊢;unfold xR jW;rw[rg_eq,mn_eq,<-rg,<-mn];cases hr:rg x with
        |true=>rfl
        |false=>
        cases hm:mn x with
        |true=>rfl
        |false=>
        have g:=(coOk_iff x).2 ⟨hr,hm⟩;simp only[cond_false];unfold Bh;cases i with
        |zero=>
          rw[m rfl,dF (show¬x.kv<= -1 by have:=g.1;omega)];simpa using c
        |succ j=>
          obtain⟨y,o,e⟩:=p j Z;rw[dT (show(0:Int)<((j+1:Nat):Int) by omega),show((j+1:Nat):Int)-1=(j:Int) by omega,gI,kL,o];simp only[cond_true,bnd,e];cases ab (x.kv<=b)with
          |true=>rfl
          |false=>exact c
    exact d a 0 (-1) (fun j=>by simp) (fun _=>rfl) (fun j n=>by omega) V
abbrev Up(l:List Co):Prop:=l.Pairwise (fun x y=>x.kv<y.kv)
theorem each_ok:∀(l:List Co) (a:Int),each jW kX l a=0↔(∀x∈l,coOk x)/\Up l/\∀x∈l,a<x.kv
  |[],a=>by simp[qN,kX]
  |x::r,a=>by
    rw[gD];have g:=each_ok r x.kv;generalize each jW kX r=nx at g⊢;unfold jW;rw[rg_eq,mn_eq];have c:=coOk_iff x;cases hr:rg x with
    |true=>
      simp only[cond_true];constructor
      · intro h;exact absurd h zq1
      · intro h;have:=(c.1<|h.1 x fa).1;rw[hr]at this;cases this
    |false=>
    cases hm:mn x with
    |true=>
      simp only[cond_true,cond_false];constructor
      · intro h;exact absurd h zq1
      · intro h;have:=(c.1<|h.1 x fa).2;rw[hm]at this;cases this
    |false=>
    have ho:=c.2 ⟨hr,hm⟩;simp only[cond_false];by_cases i:x.kv<=a
    · rw[dT i];simp only[cond_true];constructor
      · intro h;exact absurd h zq1
      · intro h;have:=h.2.2 x fa;omega
    · rw[dF i];simp only[cond_false];rw[g];show _↔_/\oR _ (x::r)/\_;rw[eo];constructor
      · rintro⟨e,f,d⟩;refine⟨?_,⟨d,f⟩,?_⟩
        · intro y b;rcases bn.1 b with rfl|b
          · exact ho
          · exact e y b
        · intro y b;rcases bn.1 b with rfl|b
          · omega
          · have:=d y b;omega
      · rintro⟨e,⟨f,d⟩,j⟩;exact⟨fun y b=>e y<|bk _ b,d,f⟩
structure Good(l:List Co):Prop where
 len:l.length<=3
 ok:∀x∈l,coOk x
 up:Up l
theorem good_iff(l:List Co):gV l=0↔Good l:=by
  unfold gV;by_cases h:(3:Int)<(l.length:Int)
  · rw[dT h];simp only[cond_true];exact⟨fun h=>absurd h zq1,fun g=>by have:=g.len;omega⟩
  · rw[dF h];simp only[cond_false];rw[each_ok];exact⟨fun⟨b,a,_⟩=>⟨by omega,b,a⟩,fun g=>⟨g.ok,g.up,fun x c=>by have:=(g.ok x c).1;omega⟩⟩
def G7(c:Co):List Co->List Co
 |[]=>[c]
 |x::r=>if x.kv<c.kv then x::G7 c r else c::x::r
def NK(b:Rec)(l:List Co):List Co:=l.filter fun x=>ab (x.kv≠b.co)
def R8(b:Rec)(l:List Co):Option Co:=l.find? fun x=>ab (x.kv=b.co)
def iD(a:List Co)(b:Rec):List Co×Int:=
 if gV a≠0 then([],gV a)else if gU b≠0 then([],gU b)else
 match R8 b a with
 |none=>if b.kind=1\/b.kind=4 then(if(ab (b.aJ=1) !=ab (b.kind=1))=ba then([],7)else(G7 ⟨b.co,b.aJ,b.image,-1⟩ (NK b a),0))else([],5)
 |some c=>if b.kind=1\/b.kind=4 then([],6)else if(ab (b.aJ≠c.aJ)||(ab (c.offered≠ -1) !=ab (b.kind=5)))=ba then([],7)else
  if b.kind=5 then(NK b a,0)else if b.kind=2 then(G7 ⟨c.kv,c.aJ,b.image,c.offered⟩ (NK b a),0)else if c.aJ=100 then([],2)else(G7 ⟨c.kv,c.aJ,c.image,b.place⟩ (NK b a),0)
theorem oth_up(b:Rec){l:List Co}(h:Up l):Up (NK b l):=h.filter _
theorem XN{b:Rec}{l:List Co}{x:Co}(h:x∈NK b l):x∈l/\x.kv≠b.co:=by
 unfold NK at h;rw[sx]at h;exact⟨h.1,by simpa using h.2⟩
theorem coCopy{a:List Co}(h:a.length<=3)(e:∀x∈a,x.image.length<=1200):Ii a=aj a:=by
 unfold Ii;rw[qY V V];simp only[bnd,bj];have c:∀(m i:Nat),i+m=a.length->upto vo AU (i:Int) m a=aj a:=by
  intro m;induction m with
  |zero=>intro i _;rfl
  |succ m ih=>
   intro i f;have d:i<a.length:=by omega
   show vo (i:Int) a (upto vo AU ((i:Int)+1) m)=_;have b:=ih (i+1) V;rw[show((i+1:Nat):Int)=(i:Int)+1 from rfl]at b;generalize upto vo AU ((i:Int)+1) m=nx at b⊢;unfold vo;rw[xg d];have:=e a[i]<|cx d;simp only[bnd];rw[qY V V];simp only[bnd,bj];rw[show({a[i]with image:=a[i].image}:Co)=a[i]from rfl,lI];exact b
 simpa using c a.length 0 V
theorem findEq(a:List Co)(k:Int):qH a k=aj (match a.findIdx? (fun x=>ab (x.kv=k))with|some n=>(n:Int)|none=> -1):=by
 unfold qH;simp only[bj];rw[UA (fun x=>ab (x.kv=k)) (fun i=>aj i) a (fun i x c b=>by
  unfold J7;rw[kL,b];rfl)]
 cases a.findIdx? (fun x=>ab (x.kv=k))<;>rfl
theorem Uh(b:Rec):∀(a:List Co),(R8 b a=aw/\a.findIdx? (fun x=>ab (x.kv=b.co))=aw/\NK b a=a)\/
    ∃n x,R8 b a=aj x/\a.findIdx? (fun x=>ab (x.kv=b.co))=aj n/\a[n]? =aj x/\x.kv=b.co
  |[]=>.inl ⟨rfl,rfl,rfl⟩
  |x::r=>by
    unfold R8 NK;rw[List.find?_cons,qn,gR];by_cases h:x.kv=b.co
    · exact .inr ⟨0,x,by simp[h],by simp[h],Z,h⟩
    · simp only[h,decide_false,cM,if_false,ne_eq,not_false_eq_true,decide_true,if_true];rcases Uh b r with⟨h1,h2,h3⟩|⟨n,y,h1,h2,h3,h4⟩
      · exact .inl ⟨h1,by rw[h2];rfl,by unfold NK at h3;rw[h3]⟩
      · exact .inr ⟨n+1,y,h1,by rw[h2];rfl,by simpa using h3,h4⟩
theorem XO(b:Rec):∀(a:List Co) (n:Nat) (x y:Co),Up a->a[n]? =aj x->x.kv=b.co->y.kv=b.co->a.set n y=G7 y (NK b a)
 |[],n,x,y,_,h,_,_=>by simp at h
 |z::r,0,x,y,hu,h,hx,hy=>by
  simp only[kO,eJ]at h;subst h;rw[Up,eo]at hu;have c:NK b (z::r)=r:=by
   unfold NK;rw[gR,if_neg (by simp[hx]),mC];intro u d;have:=hu.1 u d;simp;omega
  rw[c,List.set_cons_zero];cases r with
  |nil=>rfl
  |cons u r=>
   have:=hu.1 u fa;simp only[G7];rw[if_neg V]
 |z::r,n+1,x,y,hu,h,hx,hy=>by
  simp only[oY]at h;rw[Up,eo]at hu;have hz:=hu.1 x<|fp h;have c:NK b (z::r)=z::NK b r:=by unfold NK;rw[gR,if_pos (by simp;omega)]
  rw[c,List.set_cons_succ,XO b r n x y hu.2 h hx hy];simp only[G7];rw[if_pos V]
theorem del_oth(b:Rec):∀(a:List Co) (n:Nat) (x:Co),Up a->a[n]? =aj x->x.kv=b.co->a.take n++a.drop (n+1)=NK b a
 |[],n,x,_,h,_=>by simp at h
 |z::r,0,x,hu,h,hx=>by
  simp only[kO,eJ]at h;subst h;rw[Up,eo]at hu;unfold NK;rw[gR,if_neg (by simp[hx])];have:r.filter (fun x=>decide<|x.kv≠b.co)=r:=by
   rw[mC];intro u c;have:=hu.1 u c;simp;omega
  rw[this];simp
 |z::r,n+1,x,hu,h,hx=>by
  simp only[oY]at h;rw[Up,eo]at hu;have hz:=hu.1 x<|fp h;have d:NK b (z::r)=z::NK b r:=by unfold NK;rw[gR,if_pos (by simp;omega)]
  rw[d,<-del_oth b r n x hu.2 h hx];simp
theorem ins_loop(b:Rec)(a:List Co)(f:a.length<=3)(g:b.image.length<=1200):∀(k i N:Nat),i+k=a.length->k<N->again (kD a b) N (i:Int)=aj (a.take i++G7 ⟨b.co,b.aJ,b.image,-1⟩ (a.drop i),0)
  |0,i,N+1,h,_=>by
    show kD a b (i:Int) (again (kD a b) N)=_;generalize again (kD a b) N=nx;unfold kD zq;rw[dF V];simp only[cond_false];rw[qY V V];simp only[bnd];rw[jN (Room.mk (by simp;omega) (by simp;omega)),ins1,if_pos ⟨by omega,by omega⟩];rw[cC (show a.length<=i by omega)];simp[G7,show a.drop i=[]from cC V]
  |k+1,i,N+1,h,hN=>by
    have d:i<a.length:=by omega
    have e:=ins_loop b a f g k (i+1) N V V;rw[show((i+1:Nat):Int)=(i:Int)+1 from rfl]at e;show kD a b (i:Int) (again (kD a b) N)=_;generalize again (kD a b) N=nx at e⊢;unfold kD zq;rw[dT V,xg d];simp only[cond_true,bnd];by_cases c:a[i].kv<b.co
    · rw[dT c];simp only[cond_true];rw[gI,e,cX d];simp only[G7];rw[if_pos c,List.take_succ_eq_append_getElem d,cf,po]
    · rw[dF c];simp only[cond_false];rw[qY V V];simp only[bnd];rw[jN (Room.mk (by simp;omega) (by simp;omega)),ins1,if_pos ⟨by omega,by omega⟩];simp only[bnd,bj];rw[cX d];simp only[G7];rw[if_neg c,cf,po]
theorem next_eq(N:Nat)(hN:5<N)(a:List Co)(b:Rec):Ex N a b=aj (iD a b):=by
  unfold Ex iD;rw[chkEq];simp only[bnd];by_cases f:gV a=0
  · rw[rec_eq];by_cases i:gU b=0
    · have g:=(good_iff a).1 f;have gr:=Ue b i;have gl:=g.len;rw[f,i];simp only[ne_eq,not_true_eq_false,decide_false,cond_false,if_false];rw[coCopy g.len (fun x r=>(g.ok x r).2.2.2.2.2.2.2)];simp only[bnd];rw[findEq];simp only[bnd];have t:=gr.kind;have e:(ab ((b.kind:Int)=1)||ab ((b.kind:Int)=4))=ab (b.kind=1\/b.kind=4):=by simp
      rw[e];rcases Uh b a with⟨e1,e2,e3⟩|⟨n,c,e1,e2,e3,e4⟩
      · rw[e1,e2];simp only;by_cases d:b.kind=1\/b.kind=4
        · rw[dT d,if_pos d];simp only[cond_true];rw[show ab ((0:Int)<= -1)=aq by decide];simp only[cond_false];have p:((ab ((b.kind:Int)=1)&&ab ((b.aJ:Int)≠1))||(ab ((b.kind:Int)=4)&&ab ((b.aJ:Int)=1)))=(ab (b.aJ=1) !=ab (b.kind=1)):=by
            by_cases q:b.aJ=1
            · rcases d with k|k<;>simp[q,k]
            · rcases d with k|k<;>simp[q,k]
          rw[p];cases (ab (b.aJ=1) !=ab (b.kind=1))with
          |true=>rfl
          |false=>
            simp only[cond_false,cM,if_false];have:=ins_loop b a g.len gr.image a.length 0 N V V;simp only[Int.natCast_zero,sT,ke,cF]at this;rw[this,e3]
        · rw[dF d,if_neg d];simp only[cond_false];rw[show ab ((-1:Int)<0)=ba by decide];rfl
      · have hn:n<a.length:=by
          rcases cD n a.length with h|h
          · exact h
          · rw[bw h]at e3;cases e3
        have l:=g.ok c<|fp e3;rw[e1,e2];simp only;by_cases d:b.kind=1\/b.kind=4
        · rw[dT d,if_pos d];simp only[cond_true];rw[dT (show(0:Int)<=(n:Int) by omega)];rfl
        · rw[dF d,if_neg d];simp only[cond_false];rw[dF (show¬(n:Int)<0 by omega),kL,e3];simp only[cond_false,bnd];have ho:ab ((0:Int)<=c.offered)=ab (c.offered≠ -1):=by
            rw[decide_eq_decide];have:=l.2.2.2.2.1;omega
          have s:(bif ab (c.aJ≠b.aJ)then sJ b a (n:Int) c ba else sJ b a (n:Int) c (ab (b.kind=5) !=ab ((0:Int)<=c.offered)))=sJ b a (n:Int) c (ab (b.aJ≠c.aJ)||(ab (c.offered≠ -1) !=ab (b.kind=5))):=by
            rw[ho];by_cases q:b.aJ=c.aJ
            · rw[q];simp only[ne_eq,not_true_eq_false,decide_false,cond_false,oB];cases ab (b.kind=5)<;>cases ab (¬c.offered= -1)<;>rfl
            · rw[show ab (c.aJ≠b.aJ)=ba from dT (fun h=>q h.symm),show ab (b.aJ≠c.aJ)=ba from dT q];rfl
          refine s.trans ?_;unfold sJ;cases (ab (b.aJ≠c.aJ)||(ab (c.offered≠ -1) !=ab (b.kind=5)))with
          |true=>rfl
          |false=>
            simp only[cond_false,cM,if_false];by_cases k2:b.kind=2
            · rw[dT k2,if_neg V,if_pos k2];simp only[cond_true];rw[qY (by have:=gr.image;omega) (by have:=gr.image;omega)];simp only[bnd,bj];rw[XO b a n c {c with image:=b.image} g.up e3 e4 e4]
            · rw[dF k2,if_neg k2];simp only[cond_false];by_cases o:b.kind=3
              · rw[dT o,if_neg V];simp only[cond_true];by_cases j:c.aJ=100
                · rw[dT j,if_pos j];rfl
                · rw[dF j,if_neg j];simp only[cond_false,bj];rw[XO b a n c {c with offered:=b.place} g.up e3 e4 e4]
              · have m:b.kind=5:=by omega
                rw[dF o,dT m,if_pos m];simp only[cond_false,cond_true];rw[gI,del_s1 hn];simp only[bnd];rw[del_oth b a n c g.up e3 e4]
    · rw[f];simp only[ne_eq,not_true_eq_false,decide_false,cond_false,if_false];rw[show ab (¬gU b=0)=ba from dT i,if_pos i];rfl
  · rw[show ab (gV a≠0)=ba from dT f,if_pos f];rfl
def jG:List Co->List Rec->List Co×Int
 |s,[]=>(s,0)
 |s,r::l=>if(iD s r).2≠0 then([],(iD s r).2)else jG (iD s r).1 l
theorem rep_each(N:Nat)(hN:5<N):∀(l:List Rec) (s:List Co),each (Bj N) Bl l s=aj (jG s l)
  |[],s=>by simp[qN,Bl,jG]
  |r::l,s=>by
    rw[gD,Bj,next_eq N hN,bnd,jG];by_cases h:(iD s r).2=0
    · rw[dF V,cond_false,if_neg V,rep_each N hN l]
    · rw[dT h,cond_true,if_pos h]
theorem replay_eq(N:Nat)(hN:5<N)(l:List Rec):Aa N l=aj (if 120<l.length then([],2)else jG [] l):=by
  unfold Aa;by_cases h:120<l.length
  · rw[dT V,cond_true,if_pos h]
  · rw[dF V,cond_false,if_neg h,rep_each N hN]
theorem pRep_app:∀(a b:List Rec) (s:List Co),jG s (a++b)=if(jG s a).2≠0 then([],(jG s a).2)else jG (jG s a).1 b
  |[],b,s=>by simp[jG]
  |r::a,b,s=>by
    rw[ew,jG,jG];by_cases h:(iD s r).2=0
    · simp only[h,ne_eq,not_true_eq_false,if_false];exact pRep_app a b _
    · simp[h]
theorem O8{c y:Co}:∀{l:List Co},y∈G7 c l↔y=c\/y∈l
  |[]=>by simp[G7]
  |x::r=>by
    unfold G7;split
    · rw[bn,O8,bn];constructor
      · rintro(h|h|h)
        · exact .inr<|.inl h
        · exact .inl h
        · exact .inr<|.inr h
      · rintro(h|h|h)
        · exact .inr<|.inl h
        · exact .inl h
        · exact .inr<|.inr h
    · rw[bn]
theorem F7{c:Co}:∀{l:List Co},(G7 c l).length=l.length+1
  |[]=>rfl
  |x::r=>by
    unfold G7;split
    · rw[bq,F7,bq]
    · rfl
theorem insC_up{c:Co}:∀{l:List Co},Up l->(∀x∈l,x.kv≠c.kv)->Up (G7 c l)
  |[],_,_=>by simp[G7,Up]
  |x::r,h,hn=>by
    rw[Up,eo]at h;have b:=hn x fa;unfold G7;split
    · next hl=>
      show oR _ _;rw[eo];refine⟨fun y a=>?_,insC_up h.2 fun y a=>hn y<|bk _ a⟩;rcases O8.1 a with rfl|a
      · exact hl
      · exact h.1 y a
    · next hl=>
      show oR _ _;rw[eo,eo];refine⟨fun y a=>?_,h.1,h.2⟩;rcases bn.1 a with rfl|a
      · omega
      · have:=h.1 y a;omega
theorem find_of{l:List Co}(b:Up l){x:Co}(a:x∈l):∃n,l.findIdx? (fun y=>ab (y.kv=x.kv))=aj n/\l[n]? =aj x/\n<l.length:=by
  induction l with
  |nil=>cases a
  |cons z r ih=>
    rw[Up,eo]at b;rw[qn];rcases bn.1 a with rfl|a
    · exact⟨0,by simp,Z,by simp⟩
    · have:=b.1 x a;obtain⟨n,c,d,e⟩:=ih b.2 a;exact⟨n+1,by rw[if_neg (by simp;omega),c];rfl,by simpa using d,by simp;omega⟩
theorem next_ok(a:List Co)(b:Rec)(h:(iD a b).2=0):Good a/\Good (iD a b).1/\a.length<=(iD a b).1.length+1/\(iD a b).1.length<=a.length+1/\(∀x∈a,x.kv≠b.co->x∈(iD a b).1)/\(∀x∈a,x.kv=b.co->0<=x.offered->b.kind=5):=by
  unfold iD at h⊢;by_cases s:gV a=0
  · by_cases t:gU b=0
    · have g:=(good_iff a).1 s;have gr:=Ue b t;have gl:=g.len;have F:=gr.co;rw[if_neg (by simpa using s),if_neg (by simpa using t)]at h⊢;have j:∀x∈a,x.kv≠b.co->x∈NK b a:=fun x f hn=>by unfold NK;rw[sx];exact⟨f,by simpa using hn⟩
      have i:∀c:Co,coOk c->c.kv=b.co->(NK b a).length<=2->Good (G7 c (NK b a)):=fun c M N S=>⟨by rw[F7];omega,fun x f=>by
        rcases O8.1 f with rfl|f
        · exact M
        · exact g.ok x (XN f).1,insC_up (oth_up b g.up) (fun x f=>by have:=(XN f).2;omega)⟩
      rcases Uh b a with⟨e1,e2,e3⟩|⟨n,c,e1,e2,e3,e4⟩
      · rw[e1]at h⊢;simp only at h⊢;have hno:∀x∈a,x.kv≠b.co:=fun x f e=>by
          unfold R8 at e1;rw[List.find?_eq_none]at e1;exact e1 x f (by simpa using e)
        by_cases q:b.kind=1\/b.kind=4
        · rw[if_pos q]at h⊢;cases hq:(ab (b.aJ=1) !=ab (b.kind=1))with
          |true=>rw[hq,if_pos Z]at h;exact absurd h zq1
          |false=>
            rw[hq]at h;simp only[cM,if_false]at h⊢;have A:a.length<=2:=by
              match a,g,hno with
              |[],_,_=>simp
              |[x],_,_=>simp
              |[x,y],_,_=>simp
              |[x,y,z],g,hno=>
                have K:=g.up;simp[Up]at K;have o1:=g.ok x zq3;have o2:=g.ok y zq3;have L:=g.ok z zq3;have R:=hno x zq3;have Q:=hno y zq3;have P:=hno z zq3;unfold coOk at o1 o2 L;omega
              |x::y::z::u::r,g,_=>have:=g.len;simp at this
            have v:=gr.has V;refine⟨g,i _ ⟨F.1,F.2,gr.aJ.1,gr.aJ.2,by simp,by simp,v,gr.image⟩ Z (by rw[e3];exact A),?_,?_,fun x f hn=>O8.2 (.inr (j x f hn)),fun x f e=>absurd e (hno x f)⟩
            · rw[F7,e3];omega
            · rw[F7,e3];omega
        · rw[if_neg q]at h;exact absurd h zq1
      · rw[e1]at h⊢;simp only at h⊢;have hn:n<a.length:=by
          rcases cD n a.length with h|h
          · exact h
          · rw[bw h]at e3;cases e3
        have I:(NK b a).length+1=a.length:=by
          rw[<-del_oth b a n c g.up e3 e4];simp;omega
        have d:=g.ok c<|fp e3;have o:∀x∈a,x.kv=b.co->x=c:=by
          intro x f p;obtain⟨m,B,G,_⟩:=find_of g.up f;rw[p,e2]at B;cases B;rw[e3]at G;exact(osi G).symm
        by_cases q:b.kind=1\/b.kind=4
        · rw[if_pos q]at h;exact absurd h zq1
        · rw[if_neg q]at h⊢;cases hq:(ab (b.aJ≠c.aJ)||(ab (c.offered≠ -1) !=ab (b.kind=5)))with
          |true=>rw[hq,if_pos Z]at h;exact absurd h zq1
          |false=>
            rw[hq]at h;simp only[cM,if_false]at h⊢;have k:∀x∈a,x.kv=b.co->0<=x.offered->b.kind=5:=by
              intro x f p O;have:=o x f p;subst this;rw[cP]at hq;have w:=hq.2;rw[show ab (x.offered≠ -1)=ba from dT V]at w;cases h5:ab (b.kind=5)with
              |true=>exact odt h5
              |false=>rw[h5]at w;cases w
            have l:∀(E:Co) x,x∈a->x.kv≠b.co->x∈G7 E (NK b a):=fun E x f hn=>O8.2<|.inr<|j x f hn;by_cases C:b.kind=5
            · rw[if_pos C]at h⊢;exact⟨g,⟨by show(NK b a).length<=3;omega,fun x f=>g.ok x (XN f).1,oth_up b g.up⟩,by show a.length<=(NK b a).length+1;omega,by show(NK b a).length<=a.length+1;omega,j,k⟩
            · rw[if_neg C]at h⊢;by_cases k2:b.kind=2
              · rw[if_pos k2]at h⊢;have v:=gr.has V;refine⟨g,i _ ⟨d.1,d.2.1,d.2.2.1,d.2.2.2.1,d.2.2.2.2.1,d.2.2.2.2.2.1,v,gr.image⟩ e4 V,?_,?_,l _,k⟩
                · rw[F7];omega
                · rw[F7];omega
              · rw[if_neg k2]at h⊢;by_cases p:c.aJ=100
                · rw[if_pos p]at h;exact absurd h zq1
                · rw[if_neg p]at h⊢;have hp:=gr.place;refine⟨g,i _ ⟨d.1,d.2.1,d.2.2.1,d.2.2.2.1,by show-1<=b.place;omega,hp.2,d.2.2.2.2.2.2.1,d.2.2.2.2.2.2.2⟩ e4 V,?_,?_,l _,k⟩
                  · rw[F7];omega
                  · rw[F7];omega
    · rw[if_neg (by simpa using s),if_pos t]at h;exact absurd h t
  · rw[if_pos s]at h;exact absurd h s
theorem WB{a:List fJ}(h:dN a=0):a.length<=40/\∀x∈a,x.image.length<=1200:=by
  unfold dN at h;by_cases c:(40:Int)<(a.length:Int)
  · rw[decide_eq_true c]at h;cases h
  · rw[decide_eq_false c]at h;refine⟨by omega,?_⟩;simp only[cond_false]at h;clear c;induction a with
    |nil=>intro x b;cases b
    |cons y r ih=>
      rw[gD]at h;unfold zX at h;generalize e:(((((((ab ((y.from_:Int)<0)||ab ((3:Int)<=y.from_))||ab ((y.jy:Int)<0))||ab ((3:Int)<=y.jy))||ab ((y.co:Int)<0))||ab ((3:Int)<=y.co))||ab ((y.aJ:Int)<2))||ab ((100:Int)<y.aJ))=A at h;cases A with
      |true=>cases h
      |false=>
        simp only[cond_false]at h;generalize d:((y.taken !=ab (((y.image.length:Int):Int)=0))||ab ((1200:Int)<(y.image.length:Int)))=B at h;cases B with
        |true=>cases h
        |false=>
          simp only[cond_false]at h;intro x b;rcases bn.1 b with rfl|b
          · simp only[cP,decide_eq_false_iff_not]at d;omega
          · exact ih h x b
theorem wCopy{a:List fJ}(h:a.length<=40)(d:∀x∈a,x.image.length<=1200):Dy a=aj a:=by
 unfold Dy;rw[qY V V];simp only[bnd,bj];have b:∀(m i:Nat),i+m=a.length->upto Ce JM (i:Int) m a=aj a:=by
  intro m;induction m with
  |zero=>intro i _;rfl
  |succ m ih=>
   intro i e;have c:i<a.length:=by omega
   show Ce (i:Int) a (upto Ce JM ((i:Int)+1) m)=_;unfold Ce;rw[xg c];have:=d a[i]<|cx c;simp only[bnd];rw[qY V V];simp only[bnd,bj];rw[show({a[i]with image:=a[i].image}:fJ)=a[i]from rfl,lI];exact ih (i+1) V
 simpa using b a.length 0 V
theorem b_t{p:Prop} [Decidable p](h:p):decide p=true:=decide_eq_true h
theorem b_f{p:Prop} [Decidable p](h:¬p):decide p=false:=decide_eq_false h
theorem wSend(a:List fJ)(b:fJ):OB a b=aj (if dN a≠0 then([],dN a)else if dN [b]≠0 then([],dN [b])else(if a.length<40 then a++[b]else a,0)):=by
  unfold OB;by_cases d:dN a≠0
  · rw[b_t d,if_pos d];rfl
  · rw[b_f d,if_neg d];by_cases c:dN [b]≠0
    · rw[b_t c,if_pos c];rfl
    · rw[b_f c,if_neg c];have c1:=WB<|ef.1 d;have c2:=WB<|ef.1 c;simp only[cond_false,wCopy c1.1 c1.2,wCopy c2.1 c2.2,bnd];by_cases e:(a.length:Int)<40
      · rw[b_t e,if_pos V];simp only[cond_true];exact jN (Room.mk (by simp;omega) (by simp;omega))
      · rw[b_f e,if_neg V];rfl
def zMail:fJ:=⟨0,0,0,0,aq,[]⟩
theorem wTake(a:List fJ)(k:Int)(t:Bool):IA a k t=aj (if dN a≠0 then([],zMail,dN a)else if k<0\/(a.length:Int)<=k then([],zMail,5)else(if t then a else a.take k.toNat++a.drop (k.toNat+1),(a[k.toNat]?).getD zMail,0)):=by
  unfold IA JN;by_cases b:dN a≠0
  · rw[b_t b,if_pos b];rfl
  · rw[b_f b,if_neg b];have c1:=WB<|ef.1 b;by_cases c:k<0\/(a.length:Int)<=k
    · rw[show(ab (k<0)||ab ((a.length:Int)<=k))=ba by simpa using c,if_pos c];rfl
    · rw[show(ab (k<0)||ab ((a.length:Int)<=k))=aq by simpa using c,if_neg c];obtain⟨n,rfl⟩:=bs (show 0<=k by omega);have hn:n<a.length:=by omega
      simp only[cond_false,wCopy c1.1 c1.2,bnd,bj];have g1:kr ((n:Int)+1):=kr.mk V V;rw[jN g1];have e:(n:Int)+1=((n+1:Nat):Int):=rfl;rw[e,Sv V V];have f:=one_at hn;rw[f];simp only[bnd];rw[wCopy zq3 (by intro x d;simp at d;subst d;exact c1.2 _ (cx hn))];simp only[bnd];rw[show idx [a[n]] 0=aj a[n]from rfl];simp only[bnd,bh hn,eM];cases t with
      |true=>simp only[dI,cond_false,if_true]
      |false=>
        simp only[ir,cond_true];rw[jN (show kr (((n+1:Nat):Int))from kr.mk V V),del_s V V];simp only[bnd,cM,if_false]
end Dk
end Go.Proofs.YtodkbibbgakkdaaGreatDoor