/-
  What the law StoryMoves needs of our own library and of the walks, no more.
-/
import Derived.Test.YtodkbibbgakkdaaGreatDoorStoryMovesTg
set_option linter.unusedSimpArgs false
set_option linter.unusedVariables false
set_option maxRecDepth 10000
open Go.LX renaming State->X2
open Go.LX renaming Frame->X1
open Bool renaming and_eq_false_iff->cJ,and_eq_true->cP,cond_eq_ite->df,eq_iff_iff->ez,false_eq_true->cv,false_or->pc,not_eq_true'->gC,not_false->iS,not_true->ea,or_eq_false_iff->da,or_eq_true->dy,true_and->nj,false->aq,true->aT
open Decidable renaming not_not->ep,decide->ab
open Go.Lib renaming atoiAll_bounds->sa,itoa->dt
open Int renaming eq_ofNat_of_zero_le->bs,reduceEq->bn,toNat_natCast->bh
open List renaming Pairwise->pe,all_eq_true->lP,append_assoc->ck,append_inj'->sl,append_nil->eL,concat_eq_append->gn,cons_append->ew,dropLast_concat->fv,drop_eq_getElem_cons->cS,drop_eq_nil_of_le->cG,drop_zero->ga,eq_nil_of_length_eq_zero->cl,eq_nil_or_concat->gk,eq_of_mem_replicate->fy,exists_of_findSome?_eq_some->nu,filter_cons->hO,filter_eq_self->nd,findIdx?_cons->ra,findSome?_cons->qu,findSome?_eq_none_iff->oA,flatMap_cons->gA,getElem?_append_right->gS,getElem?_cons_succ->pn,getElem?_cons_zero->fg,getElem?_eq_getElem->bc,getElem?_eq_none->bt,getElem?_eq_some_iff->ld,getElem?_map->ej,getElem_idxOf->ia,getElem_map->sk,getElem_mem->cA,getElem_of_mem->qv,getLast?_append->eE,getLast?_singleton->eh,headD_cons->oc,idxOf_append->rS,idxOf_cons->ta,idxOf_lt_length_of_mem->eg,length->fb,length_append->bj,length_cons->bq,length_flatMap->eK,length_map->cH,length_nil->eA,length_replicate->jI,mapM_cons->mL,map_append->cL,map_cons->cg,map_map->ke,map_nil->et,map_set->hJ,mem_append->cE,mem_cons->bm,mem_cons_of_mem->bl,mem_cons_self->eV,mem_filter->tb,mem_flatMap->lR,mem_map->ec,mem_of_getElem?->fx,mem_or_eq_of_mem_set->kt,nil_append->cr,nodup_append->rN,pairwise_cons->ee,pairwise_iff_getElem->pa,prefix_append->fk,prefix_refl->ct,replicate->cc,set_getElem_self->mm,singleton_append->pN,sum_cons->na,take_length->sn,take_succ_cons->qE,take_zero->jj
open List.cons renaming injEq->km
open Nat renaming add_assoc->kb,le_refl->bE,lt_or_ge->cI,mul_le_mul->oY,not_lt_zero->eM
open Option renaming bind_some->cM,getD_none->qW,getD_some->dw,isNone_iff_eq_none->ov,isSome_none->pZ,map_eq_some_iff->pd,map_some->dd,some_or->fR,toList_some->qe,none->ar,some->ak
open Option.some renaming injEq->eJ
namespace Go.Proofs.YtodkbibbgakkdaaGreatDoor
open Go Go.Proofs Go.LX
noncomputable section
abbrev preL:ZD (Int×Str):=[(2,[118]),(4,[46]),(5,[110,101,119]),(6,[102]),(1,[])]
theorem bnd{α β:Type}(a:α)(f:α->Zs β):(ak a).bind f=f a:=rfl
theorem find_uniq{α σ:Type}{g:α->Zs σ}{l:ZD α}(b:∀p∈l,∀q∈l,g p≠ar->g q≠ar->p=q){p:α}(hp:p∈l){t:σ}(h:g p=ak t):l.findSome? g=ak t:=by
 cases e:l.findSome? g with
 |none=>
  rw[oA]at e;rw[e p hp]at h;cases h
 |some u=>
  obtain⟨q,c,a⟩:=nu e;have:=b p hp q c (by rw[h];simp) (by rw[a];simp);subst this;rw[h]at a;exact a.symm
theorem fold_none{α σ:Type}{step:α->σ->Zs σ}{g:α->Zs σ}:∀{l:ZD α},(∀p∈l,∀s,step p s=ak ((g p).getD s))->(∀p∈l,g p=ar)->∀s,Zk step l s=ak s
 |[],_,_,s=>rfl
 |p::l,h,hn,s=>by
  unfold Zk;rw[h p zq3,hn p zq3,qW,bnd];exact fold_none (fun q a=>h q<|bl _ a) (fun q a=>hn q<|bl _ a) s
theorem fold_find{α σ:Type}{step:α->σ->Zs σ}{g:α->Zs σ}:∀{l:ZD α},(∀p∈l,∀s,step p s=ak ((g p).getD s))->(∀p∈l,∀q∈l,g p≠ar->g q≠ar->p=q)->l.Nodup->∀s,Zk step l s=ak ((l.findSome? g).getD s)
  |[],_,_,_,s=>rfl
  |p::l,h,hu,hn,s=>by
    unfold Zk;rw[h p zq3,bnd];have d:=List.nodup_cons.1 hn;cases e:g p with
    |none=>
      rw[qW,fold_find (fun q c=>h q (bl _ c)) (fun a f b i=>hu a (bl _ f) b (bl _ i)) d.2 s,qu,e]
    |some t=>
      rw[dw,fold_none (fun q c=>h q (bl _ c)) (fun q c=>?_) t,qu,e]
      · rfl
      · cases e2:g q with
        |none=>rfl
        |some u=>
          have:=hu p zq3 q (bl _ c) (by rw[e];simp) (by rw[e2];simp);subst this;exact ZJ c d.1
theorem folds_one{α σ:Type}{step:α->σ->Zs σ}{g:α->Zs σ}{L:ZD α}(h:∀p∈L,∀s,step p s=ak ((g p).getD s))(c:∀p∈L,∀q∈L,g p≠ar->g q≠ar->p=q)(hn:L.Nodup)(s:σ):BN step L s ((L.findSome? g).getD s):=by
 intro l a;rw[fold_find (fun p hp=>h p (a.mem_iff.1 hp)) (fun p hp q b=>c p (a.mem_iff.1 hp) q (a.mem_iff.1 b)) (a.nodup_iff.2 hn) s];congr 2;cases e:L.findSome? g with
 |none=>
  rw[oA]at e⊢;exact fun x d=>e x<|a.mem_iff.1 d
 |some t=>
  obtain⟨p,hp,f⟩:=nu e;exact find_uniq (fun p hp q b=>c p (a.mem_iff.1 hp) q<|a.mem_iff.1 b) (a.mem_iff.2 hp) f
def joO(a:Int×Str)(y:Int×Ys)(x:Ys):Zs (Int×Int):=bif x then ak (a.1,y.1)else ar
def stepO(s:Str)(b:Int×Str):Zs (Zs (Int×Int)):=
 (strings_TrimPrefix s b.2).bind fun c=>(Kc c).bind fun a=>bif (!a.2)then(oZ (⟨b.1,a.1⟩:Tok)).bind fun d=>ak (joO b a (ab ((d:Str)=s)))else ak (joO b a aq)
theorem j227_eq(c:Int×Str)(y:Int×Ys)(a b:Int)(x:Ys):DU c y a b x=ak ((joO c y x).getD (a,b)):=by
 unfold DU joO;cases x<;>rfl
theorem b228_eq(s:Str)(c:Int×Str)(st:Int×Int):xO s c st=(stepO s c).bind fun o=>ak (o.getD st):=by
 obtain⟨a,b⟩:=st;unfold xO stepO;simp only[j227_eq];cases strings_TrimPrefix s c.2 with
 |none=>rfl
 |some y=>
  simp only[bnd];cases Kc y with
  |none=>rfl
  |some z=>
   simp only[bnd];cases z.2 with
   |true=>rfl
   |false=>
    simp only[iS,ZS];cases oZ (⟨c.1,z.1⟩:Tok)<;>rfl
def gO(s:Str)(p:Int×Str):Zs (Int×Int):=(stepO s p).join
def okW(s:Str):Ys:=preL.all (fun p=>(stepO s p).isSome)&&preL.all (fun p=>preL.all fun q=>(gO s p).isNone||(gO s q).isNone||ab (p=q))
def preC(s:Str):Int×Int:=(preL.findSome? (gO s)).getD (0,0)
theorem fold_ok{s:Str}(h:okW s=aT):Ki (xO s) preL (0,0)=ak (preC s):=by
  unfold okW at h;rw[cP,lP,lP]at h;refine foldAny_eq<|folds_one (g:=gO s) (fun p hp st=>?_) (fun p hp q b a c=>?_) zq1 (0,0)
  · have a:=h.1 p hp;rw[b228_eq];unfold gO;cases e:stepO s p with
    |none=>rw[e]at a;cases a
    |some o=>cases o<;>rfl
  · have:=lP.1 (h.2 p hp) q b;rw[dy,dy]at this;rcases this with(e|e)|e
    · exact ZJ (ov.1 e) a
    · exact ZJ (ov.1 e) c
    · exact odt e
def foldC(s:Str):Zs (Int×Int):=bif okW s then ak (preC s)else Ki (xO s) preL (0,0)
theorem foldC_eq(s:Str):foldC s=Ki (xO s) preL (0,0):=by
 unfold foldC;cases e:okW s with
 |false=>rfl
 |true=>exact(fold_ok e).symm
def FP(N:Nat)(e:ZD Tok)(F:ZD jq)(d:Int)(f:(ZD Tok×Int×Ys×Int)->Zs (ZD Tok×gM))(b:Str)(g:Ys)(c:Int):Zs (ZD Tok×gM):=
 (foldC b).bind fun a=>(Ur N b e F c d f g) a
theorem aa3: @FP= @DV:=by
 funext a b c d e f g h;unfold FP DV;rw[foldC_eq]
def K4(N:Nat)(a:ZD Str)(F:ZD jq)(s:ZD Tok×Int×Ys×Int)(c:ZD Tok×Int×Ys×Int->Zs (ZD Tok×gM)):Zs (ZD Tok×gM):=
 match s with|(yc,zO,Vy,y20)=>bif (ab ((0:Int)<zO)&&Vy)then bif ab (((a.length:Int):Int)<=y20)then FP N yc F zO c [] aq y20 else iG (kN (y20+1)) (iG (kN ((y20+1)-1)) ((idx a ((y20+1)-1)).bind fun b=>FP N yc F zO c b Vy (y20+1)))else ak (yc,(⟨y20,Vy⟩:gM))
theorem aa4: @K4= @DW:=by
 unfold K4 DW;rw[aa3]
def U4(N:Nat)(b:gM)(a:ZD Str)(F:ZD jq):Zs (ZD Tok×gM):=
 again (K4 N a F) N ([],1,b.ok,b.at_)
theorem srdExpr_p: @U4= @Us:=by
 unfold U4 Us;rw[aa4]
def FQ(N:Nat)(k:gM->ZD Str->ZD jq->Int->Zs (ZD dh×gM))(d:Int)(b:ZD Str)(F:ZD jq)(a:Int)(g:ZD dh)(j:Int)(e:(ZD dh×Int×Ys)->Zs (ZD dh×gM))(h:Int)(i:Ys)(f:ZD Tok):Zs (ZD dh×gM):=
 bif ab (((d+1):Int)=2)then(U4 N (⟨h,i⟩:gM) b F).bind fun c=>DX k d a b F g j f e c.2.at_ c.2.ok c.1 else DX k d a b F g j f e h i []
theorem aa5: @FQ= @DY:=by
 unfold FQ DY;rw[srdExpr_p]
def BH(N:Nat)(i:gM->ZD Str->ZD jq->Int->Zs (ZD dh×gM))(d:Int)(b:ZD Str)(F:ZD jq)(a:Int)(f:ZD dh)(e:(ZD dh×Int×Ys)->Zs (ZD dh×gM))(h:Int)(j:Ys)(g:Int):Zs (ZD dh×gM):=
 bif ab (((d+1):Int)≠4)then(U4 N (⟨h,j⟩:gM) b F).bind fun c=>FQ N i d b F a f g e c.2.at_ c.2.ok c.1 else FQ N i d b F a f g e h j []
theorem aa6: @BH= @Aw:=by
 unfold BH Aw;rw[srdExpr_p,aa5]
def FR(N:Nat)(l:gM->ZD Str->ZD jq->Int->Zs (ZD dh×gM))(j:ZD dh)(b:ZD Str)(F:ZD jq)(a:Int)(k:(ZD dh×Int×Ys)->Zs (ZD dh×gM))(h:Str)(c:Int)(d:Ys):Zs (ZD dh×gM):=
 bif ab ((h:Str)=[125])then ak (j,(⟨c,d⟩:gM))else(Ud [115,101,116,32,112,117,116,32,115,97,121,32,112,97,117,115,101,32,103,111,32,105,102,32,119,104,105,108,101,32,114,101,116,117,114,110]).bind fun m=>(slices_Index_string m h).bind fun e=>iG (kN (e+1)) (bif (!(d&&ab ((0:Int)<(e+1))))then ak ([],(⟨c,(d&&ab ((0:Int)<(e+1)))⟩:gM))else bif ab (((e+1):Int)<=2)then bif ab (((b.length:Int):Int)<=c)then(Kc []).bind fun g=>BH N l e b F a j k c aq g.1 else iG (kN (c+1)) (iG (kN ((c+1)-1)) ((idx b ((c+1)-1)).bind fun i=>(Kc i).bind fun f=>BH N l e b F a j k (c+1) (d&&ab ((0:Int)<(e+1))) f.1))else BH N l e b F a j k c (d&&ab ((0:Int)<(e+1))) 0)
theorem aa7: @FR= @DZ:=by
 unfold FR DZ;rw[aa6]
def K5(N:Nat)(e:gM->ZD Str->ZD jq->Int->Zs (ZD dh×gM))(b:ZD Str)(F:ZD jq)(a:Int)(s:ZD dh×Int×Ys)(d:ZD dh×Int×Ys->Zs (ZD dh×gM)):Zs (ZD dh×gM):=
 match s with|(rC,O3,Hw)=>bif Hw then bif ab (((b.length:Int):Int)<=O3)then FR N e rC b F a d [] O3 aq else iG (kN (O3+1)) (iG (kN ((O3+1)-1)) ((idx b ((O3+1)-1)).bind fun c=>FR N e rC b F a d c (O3+1) Hw))else ak ([],(⟨O3,Hw⟩:gM))
theorem aa8: @K5= @D5:=by
 unfold K5 D5;rw[aa7]
def Ie(N:Nat)(e:gM->ZD Str->ZD jq->Int->Zs (ZD dh×gM))(b:ZD Str)(F:ZD jq)(a:Int)(d:Int)(c:Ys):Zs (ZD dh×gM):=
 again (K5 N e b F a) N ([],d,c)
theorem srdBlock_j2_p: @Ie= @Ga:=by
 unfold Ie Ga;rw[aa8]
def FT(N:Nat)(d:gM->ZD Str->ZD jq->Int->Zs (ZD dh×gM))(b:ZD Str)(F:ZD jq)(a:Int)(f:Ys)(c:Int)(e:Ys):Zs (ZD dh×gM):=
 bif f then Ie N d b F a c aq else Ie N d b F a c e
theorem aa9: @FT= @D6:=by
 unfold FT D6;rw[srdBlock_j2_p]
def KC(N:Nat)(e:gM->ZD Str->ZD jq->Int->Zs (ZD dh×gM))(c:gM)(b:ZD Str)(F:ZD jq)(a:Int):Zs (ZD dh×gM):=
 bif ab (((b.length:Int):Int)<=c.at_)then FT N e b F a aT c.at_ aq else iG (kN (c.at_+1)) (iG (kN ((c.at_+1)-1)) ((idx b ((c.at_+1)-1)).bind fun d=>FT N e b F a (ab ((d:Str)≠[123])||ab ((6:Int)<a)) (c.at_+1) c.ok))
theorem srdBlock_r_p: @KC= @IX:=by
 unfold KC IX;rw[aa9]
def MI:Nat->gM->ZD Str->ZD jq->Int->Zs (ZD dh×gM)
 |0=>fun _ _ _ _=>ar
 |N+1=>KC N (MI N)
theorem aba:∀N,MI N=Gb N
 |0=>rfl
 |N+1=>by show KC N (MI N)=IX N (Gb N);rw[srdBlock_r_p,aba N]
def nW(N:Nat)(h:ZD Str)(e:ZD jq)(a:Int)(g:(ZD jq×Int×Ys)->Zs (ZD jq×Int))(b:Int)(c:Ys):Zs (ZD jq×Int):=
 (MI N (⟨b,c⟩:gM) h e 1).bind fun d=>(idx e a).bind fun f=>g ((e.set (a).toNat {f with body:=d.1}),d.2.at_,d.2.ok)
theorem GQ: @nW= @lX:=by
 unfold nW lX;rw[show @MI= @Gb from funext aba]
def nX(N:Nat)(d:ZD Str)(f:ZD jq)(a:Int)(e:(ZD jq×Int×Ys)->Zs (ZD jq×Int))(b:Int)(c:Ys):Zs (ZD jq×Int):=
 bif ab (((d.length:Int):Int)<=b)then nW N d f a e b aq else iG (kN (b+1)) (iG (kN ((b+1)-1)) ((idx d ((b+1)-1)).bind fun g=>nW N d f a e (b+1) c))
theorem GR: @nX= @lY:=by
 unfold nX lY;rw[GQ]
def nY(N:Nat)(d:ZD Str)(f:ZD jq)(a:Int)(e:(ZD jq×Int×Ys)->Zs (ZD jq×Int))(b:Int)(c:Ys):Zs (ZD jq×Int):=
 bif ab (((d.length:Int):Int)<=b)then nX N d f a e b aq else iG (kN (b+1)) (iG (kN ((b+1)-1)) ((idx d ((b+1)-1)).bind fun g=>nX N d f a e (b+1) c))
theorem GU: @nY= @lZ:=by
 unfold nY lZ;rw[GR]
def nZ(N:Nat)(f:ZD Str)(e:ZD jq)(a:Int)(d:(ZD jq×Int×Ys)->Zs (ZD jq×Int))(c:Ys)(g:Int)(b:Ys):Zs (ZD jq×Int):=
 bif c then nY N f e a d g aq else nY N f e a d g b
theorem GV: @nZ= @l7:=by
 unfold nZ l7;rw[GU]
def rV(N:Nat)(c:ZD Str)(a:Int)(s:ZD jq×Int×Ys)(d:ZD jq×Int×Ys->Zs (ZD jq×Int)):Zs (ZD jq×Int):=
 match s with|(zh,y98,y99)=>bif ab (((c.length:Int):Int)<=y98)then nZ N c zh a d aT y98 aq else iG (kN (y98+1)) (iG (kN ((y98+1)-1)) ((idx c ((y98+1)-1)).bind fun b=>nZ N c zh a d (ab ((b:Str)≠[102,117,110])) (y98+1) y99))
theorem GX: @rV= @oH:=by
 unfold rV oH;rw[GV]
def rW(N:Nat)(c:ZD Str)(a:Str)(b:ZD jq)(s:Unit):Zs (ZD jq×Int):=
 upto (rV N c) (tC N c a) 0 ((b.length:Int)).toNat (b,0,aT)
theorem GY: @rW= @oI:=by
 unfold rW oI;rw[GX]
def rX(N:Nat)(c:ZD Str)(a:Str)(b:ZD jq):Zs (ZD jq×Int):=
 bif (ab (((b.length:Int):Int)=0)||ab ((4:Int)<(b.length:Int)))then ak ([],1)else upto (tF b) (rW N c a b) 0 ((b.length:Int)).toNat ()
theorem GZ: @rX= @oJ:=by
 unfold rX oJ;rw[GY]
def xm(N:Nat)(a:Str):Zs (ZD jq×Int):=
 (RN a [32]).bind fun b=>ib (tH b) (rX N b a) 0 b []
theorem K6: @xm= @rT:=by
 unfold xm rT;rw[GZ]
def qO(N:Nat):Zs (ZD jq):=
 (xm N [102,117,110,32,48,32,49,32,123,32,115,101,116,32,48,32,51,32,119,104,105,108,101,32,118,48,32,123,32,115,97,121,32,102,49,32,118,48,32,118,48,32,103,111,32,118,48,32,112,97,117,115,101,32,115,101,116,32,48,32,45,32,118,48,32,49,32,125,32,125,32,102,117,110,32,50,32,50,32,123,32,114,101,116,117,114,110,32,42,32,118,48,32,118,49,32,125]).bind fun a=>ak a.1
theorem Oy: @qO= @pg:=by
 unfold qO pg;rw[K6]
abbrev NN:Nat:=70000
theorem program_p:pg NN=qO NN:=by rw[Oy]
end
open Go Go.Proofs Go.LX
theorem U5(a b:Int):(ab (a<0)||ab (b<=a))= !bG a b:=by
 unfold bG;rw[ez];simp;try omega
theorem idx0{α:Type}(x:α)(l:ZD α):idx (x::l) 0=ak x:=by simp[idx]
theorem len_one{l:ZD Int}:l.length=1↔∃x,l=[x]:=by
 match l with
 |[]=>simp
 |[x]=>simp
 |x::y::r=>simp
def K7(i:Nat)(x:aX):Int:=
 if(0<=x.params/\x.params<=3)/\(1<=x.regs/\x.params<=x.regs/\x.regs<=40)/\¬(i=0/\x.params≠0)then(if 1<=x.code.length/\x.code.length<=2000 then 0 else 2)else 3
theorem b39_eq(i:Nat)(x:aX)(a:Unit->Zs Int):oK (i:Int) x () a=if K7 i x≠0 then ak (K7 i x)else a ():=by
  unfold oK K7;by_cases c:(0<=x.params/\x.params<=3)/\(1<=x.regs/\x.params<=x.regs/\x.regs<=40)/\¬(i=0/\x.params≠0)
  · have e:(((((ab ((x.params:Int)<0)||ab ((3:Int)<x.params))||ab ((x.regs:Int)<1))||ab ((x.regs:Int)<x.params))||ab ((40:Int)<x.regs))||(ab ((i:Int)=0)&&ab ((0:Int)<x.params)))=false:=by
      simp only[da,cJ,decide_eq_false_iff_not];omega
    rw[e,Z2 c];simp only[Z1];by_cases b:1<=x.code.length/\x.code.length<=2000
    · rw[Z2 b,show(ab (((x.code.length:Int):Int)=0)||ab ((2000:Int)<(x.code.length:Int)))=aq by simp only[da,decide_eq_false_iff_not];omega];rfl
    · rw[Z3 b,show(ab (((x.code.length:Int):Int)=0)||ab ((2000:Int)<(x.code.length:Int)))=aT by simp only[dy,decide_eq_true_eq];omega];rfl
  · have e:(((((ab ((x.params:Int)<0)||ab ((3:Int)<x.params))||ab ((x.regs:Int)<1))||ab ((x.regs:Int)<x.params))||ab ((40:Int)<x.regs))||(ab ((i:Int)=0)&&ab ((0:Int)<x.params)))=true:=by
      simp only[dy,cP,decide_eq_true_eq];omega
    rw[e,Z3 c];rfl
def heads:Nat->ZD aX->Int
 |_,[]=>0
 |i,x::p=>if K7 i x≠0 then K7 i x else heads (i+1) p
theorem abb(k:Unit->Zs Int):∀(p:ZD aX) (i:Nat),ib oK k (i:Int) p ()=if heads i p≠0 then ak (heads i p)else k ()
 |[],i=>by simp[heads,ib]
 |x::p,i=>by
  show oK (i:Int) x () (ib oK k ((i:Int)+1) p)=_;rw[b39_eq,show((i:Int)+1)=((i+1:Nat):Int) by omega,abb k p (i+1),heads];by_cases h:K7 i x=0<;>simp[h]
def uB(x:aX):Prop:=1<=x.code.length/\x.code.length<=2000
theorem gV{α σ ρ:Type}{body:α->σ->(σ->ρ)->ρ}{k:σ->ρ}(x:α)(l:ZD α)(s:σ):each body k (x::l) s=body x s (each body k l):=rfl
theorem b8_tot(d:Int):∀l:ZD Int,∃y,each (yH d) FL l ()=ak y
 |[]=>⟨0,rfl⟩
 |x::l=>by
  obtain⟨y,a⟩:=b8_tot d l;rw[gV];unfold yH;cases (!(ab ((0:Int)<=x)&&ab ((x:Int)<d)))with
  |true=>exact⟨3,rfl⟩
  |false=>exact⟨y,a⟩
theorem j5_tot(j:Ys)(a:Ins)(b f:Int)(c:ZD aX)(e g d k:Int):∃y,iD j a b f c e g d k=ak y/\(y=0->(a.args.length:Int)=g):=by
 unfold iD;cases j with
 |false=>exact⟨3,rfl,fun h=>ZJ h zq1⟩
 |true=>
  simp only[ea,Z1];generalize i:(((ab ((a.a:Int)≠k)||ab ((a.b:Int)≠f))||ab ((a.c:Int)≠e))||ab (((a.args.length:Int):Int)≠g))=C;cases C with
  |true=>exact⟨4,rfl,fun h=>ZJ h zq1⟩
  |false=>
   simp only[da,decide_eq_false_iff_not,ep]at i;simp only[Z1];cases ab ((a.op:Int)=7)with
   |true=>obtain⟨y,l⟩:=b8_tot d a.args;exact⟨y,l,fun _=>i.2⟩
   |false=>exact⟨0,rfl,fun _=>i.2⟩
theorem j4_tot(a:Ins)(b:Int)(c:ZD aX)(d:Int)(h:Ys)(g i f e:Int):∃y,eG a b c d h g i f e=ak y/\(y=0->(a.args.length:Int)=g):=by
 unfold eG;cases ab ((a.op:Int)=12)with
 |true=>exact j5_tot h a b f c e g d 0
 |false=>exact j5_tot h a b f c e g d i
def InsT(a:Ins)(r:Zs Int):Prop:=∃y,r=ak y/\(y=0->a.args.length<=3)
theorem j4_t(a:Ins)(b:Int)(c:ZD aX)(d:Int)(j:Ys){g:Int}(i f e:Int)(h:g<=3):InsT a (eG a b c d j g i f e):=by
 obtain⟨y,m,l⟩:=j4_tot a b c d j g i f e;exact⟨y,m,fun k=>by have:=l k;omega⟩
theorem yB{a:Ins}{c:Ys}{x y:Zs Int}(d:InsT a x)(b:InsT a y):InsT a (bif c then x else y):=by
  cases c
  · exact b
  · exact d
theorem abd{a:Ins}{e:Int}(h:e≠0):InsT a (ak e):=⟨e,rfl,fun b=>ZJ b h⟩
theorem check_ins(a:Ins)(b:Int)(c:ZD aX)(d e:Int)(hp:∀x∈c,x.params<=3):InsT a (lh a b c d e):=by
  unfold lh;refine yB (abd zq1)<|yB (abd zq1)<|yB (j4_t _ _ _ _ _ _ _ _ zq1)<|yB (j4_t _ _ _ _ _ _ _ _ zq1) ?_;have f:∀x,InsT a (gq a b c d x):=fun x=>by
    unfold gq;exact yB (j4_t _ _ _ _ _ _ _ _ zq1)<|yB (j4_t _ _ _ _ _ _ _ _ zq1)<|j4_t _ _ _ _ _ _ _ _ zq1
  have g:∀x,InsT a (gJ a b c d e x):=fun x=>by
    unfold gJ;refine yB (j4_t _ _ _ _ _ _ _ _ zq1) ?_;cases ab ((a.op:Int)=7)with
    |false=>
      rw[Z1];exact yB (f _)<|yB (f _)<|f _
    |true=>
      simp only[ZS];rw[U5];cases hb:bG a.b (c.length:Int)with
      |false=>exact abd zq1
      |true=>
        simp only[ea,Z1];unfold bG at hb;simp only[cP,decide_eq_true_eq]at hb;obtain⟨n,hn⟩:=bs hb.1;rw[hn,xI V,cM];exact j4_t _ _ _ _ _ _ _ _<|hp _<|cA _
  have h:∀x,InsT a (gK a b c d e x):=fun x=>by
    unfold gK;refine yB (j4_t _ _ _ _ _ _ _ _ zq1) ?_;cases ab ((a.op:Int)=3)with
    |false=>
      rw[Z1];exact yB (g _)<|g _
    |true=>
      simp only[ZS];by_cases j:a.args.length=1
      · rw[dT (show((a.args.length:Int):Int)=1 by omega)];obtain⟨y,i⟩:=len_one.1 j;simp only[ZS];rw[show idx a.args 0=ak y by rw[i,idx0],cM];exact j4_t _ _ _ _ _ _ _ _ zq1
      · rw[dF (show¬((a.args.length:Int):Int)=1 by omega)];exact j4_t _ _ _ _ _ _ _ _ zq1
  exact yB (h _)<|h _
def Good(a:ZD aX):Prop:=a.length<=4/\∀x∈a,uB x/\∀c∈x.code,c.args.length<=3
theorem headOk_zero{i:Nat}{x:aX}(h:K7 i x=0):x.params<=3/\uB x:=by
  unfold K7 at h;split at h
  · split at h
    · exact⟨by omega,by unfold uB;omega⟩
    · cases h
  · cases h
theorem abe:∀(p:ZD aX) (i:Nat),heads i p=0->∀x∈p,x.params<=3/\uB x
  |[],_,_,x,hx=>by cases hx
  |y::p,i,h,x,hx=>by
    unfold heads at h;split at h
    · rename_i a;exact ZJ h a
    · rename_i a;rcases bm.1 hx with rfl|hx
      · exact headOk_zero<|ep.1 a
      · exact abe p (i+1) h x hx
theorem b35_tot(a:ZD aX)(x:aX)(k:Unit->Zs Int)(hp:∀x∈a,x.params<=3)(Q:Prop)(g:∃y,k ()=ak y/\(y=0->Q)):∀(l:ZD Ins) (i:Int),∃y,ib (kW a x) k i l ()=ak y/\(y=0->Q/\∀c∈l,c.args.length<=3)
  |[],i=>by
    obtain⟨y,f,b⟩:=g;exact⟨y,f,fun h=>⟨b h,by intro c j;cases j⟩⟩
  |c::l,i=>by
    obtain⟨y,f,b⟩:=b35_tot a x k hp Q g l<|i+1;have m:ib (kW a x) k i (c::l) ()=kW a x i c () (ib (kW a x) k (i+1) l):=rfl;rw[m];unfold kW;obtain⟨z,g1,g2⟩:=check_ins c i a x.regs (x.code.length:Int) hp;rw[g1,cM];by_cases hz:z=0
    · rw[dF V,Z1];refine⟨y,f,fun h=>⟨(b h).1,fun d e=>?_⟩⟩;rcases bm.1 e with rfl|e
      · exact g2 hz
      · exact(b h).2 d e
    · rw[dT hz,ZS];exact⟨z,Z,fun h=>ZJ h hz⟩
theorem b37_tot(a:ZD aX)(hp:∀x∈a,x.params<=3/\uB x):∀l:ZD aX,(∀x∈l,x.params<=3/\uB x)->∃y,each (tK a) zS l ()=ak y/\(y=0->∀x∈l,∀c∈x.code,c.args.length<=3)
  |[],_=>⟨0,rfl,fun _ x b=>by cases b⟩
  |x::l,hl=>by
    obtain⟨y,g,f⟩:=b37_tot a hp l fun z hz=>hl z<|bl _ hz;rw[gV];unfold tK;have b:=hl x zq3;obtain⟨z,g1,g2⟩:=b35_tot a x (zQ x (each (tK a) zS l)) (fun x b=>(hp x b).1) (∀x∈l,∀c∈x.code,c.args.length<=3) (by
      unfold zQ;have e:=b.2;unfold uB at e;rw[gI,show((x.code.length:Int)-1)=((x.code.length-1:Nat):Int) by omega,xI V,cM];cases (ab ((x.code[x.code.length-1].op:Int)≠8)&&ab ((x.code[x.code.length-1].op:Int)≠12))with
      |true=>exact⟨4,rfl,fun h=>ZJ h zq1⟩
      |false=>exact⟨y,g,f⟩) x.code 0
    refine⟨z,g1,fun h=>?_⟩;intro w d;rcases bm.1 d with rfl|d
    · exact(g2 h).2
    · exact(g2 h).1 w d
theorem check_tot(a:ZD aX):∃y,tL a=ak y/\(y=0->Good a):=by
  unfold tL;generalize c:(ab (((a.length:Int):Int)=0)||ab ((4:Int)<(a.length:Int)))=C;cases C with
  |true=>exact⟨2,rfl,fun h=>ZJ h zq1⟩
  |false=>
    simp only[da,decide_eq_false_iff_not]at c;have d:ib oK (wU a) 0 a ()=_:=abb (wU a) a 0;rw[Z1,d];by_cases hz:heads 0 a=0
    · rw[Z3 V];have hp:=abe a 0 hz;obtain⟨y,g1,g2⟩:=b37_tot a hp a hp;exact⟨y,g1,fun h=>⟨by omega,fun x b=>⟨(hp x b).2,g2 h x b⟩⟩⟩
    · rw[Z2 hz];exact⟨_,Z,fun h=>ZJ h hz⟩
def KD(a:ZD aX):Int:=(tL a).getD 0
theorem XK(a:ZD aX):tL a=ak (KD a):=by
 obtain⟨y,h,_⟩:=check_tot a;unfold KD;rw[h];rfl
def G5(R x:Int):Prop:=0<=x/\x<R
def Oz(a:ZD aX)(R L:Int)(c:Ins):Prop:=
 (c.op=1/\G5 R c.a/\(-1000000000<=c.b/\c.b<=1000000000))\/
 (c.op=2/\G5 R c.a/\G5 R c.b)\/
 (c.op=3/\G5 R c.a/\G5 R c.b/\G5 R c.c/\∃n,c.args=[n]/\1<=n/\n<=5)\/
 ((c.op=4\/c.op=6)/\G5 R c.a/\G5 R c.b/\(0<=c.c/\c.c<4))\/
 (c.op=5/\G5 R c.a/\(1<=c.b/\c.b<=4))\/
 (c.op=7/\G5 R c.a/\(∃p,idx a c.b=ak p/\(c.args.length:Int)=p.params)/\∀x∈c.args,G5 R x)\/
 ((c.op=8\/c.op=9\/c.op=11)/\G5 R c.a)\/
 c.op=10\/
 (c.op=12/\(0<=c.b/\c.b<L))\/
 (c.op=13/\G5 R c.a/\(0<=c.b/\c.b<L))
theorem each_b8(R:Int):∀l:ZD Int,each (yH R) FL l ()=ak 0->∀x∈l,G5 R x
  |[],_,x,hx=>by cases hx
  |y::l,h,x,hx=>by
    rw[gV]at h;unfold yH at h;cases e:(!(ab ((0:Int)<=y)&&ab ((y:Int)<R)))with
    |true=>rw[e,ZS]at h;cases h
    |false=>
      rw[e,Z1]at h;rcases bm.1 hx with rfl|hx
      · simp at e;exact e
      · exact each_b8 R l h x hx
theorem insG_of{c:Ins}{i:Int}{a:ZD aX}{R L:Int}(h:lh c i a R L=ak 0):Oz a R L c:=by
  obtain⟨op,u,v,w,args⟩:=c;by_cases t:op=1
  · subst t;simp[lh,fP,gQ,jD,jU,jl,eG,iD,gK,gJ,gq,df]at h;simp[Oz,G5]
    (repeat (split at h;·simp at h))
    omega
  by_cases k:op=2
  · subst k;simp[lh,fP,gQ,jD,jU,jl,eG,iD,gK,gJ,gq,df]at h;simp[Oz,G5]
    (repeat (split at h;·simp at h))
    omega
  by_cases r:op=3
  · subst r;simp[lh,fP,gQ,jD,jU,jl,eG,iD,gK,gJ,gq,df]at h;simp[Oz,G5];by_cases l:args.length=1
    · obtain⟨y,rfl⟩:=len_one.1 l;simp[idx0]at h;split at h
      · simp at h
      split at h
      · simp at h
      refine⟨by omega,by omega,by omega,y,Z,by omega,by omega⟩
    · exfalso;rw[Z3 (show¬((args.length:Int)=1) by omega)]at h;split at h<;>simp at h
  by_cases o:op=4
  · subst o;simp[lh,fP,gQ,jD,jU,jl,eG,iD,gK,gJ,gq,df]at h;simp[Oz,G5]
    (repeat (split at h;·simp at h))
    omega
  by_cases j:op=5
  · subst j;simp[lh,fP,gQ,jD,jU,jl,eG,iD,gK,gJ,gq,df]at h;simp[Oz,G5]
    (repeat (split at h;·simp at h))
    omega
  by_cases n:op=6
  · subst n;simp[lh,fP,gQ,jD,jU,jl,eG,iD,gK,gJ,gq,df]at h;simp[Oz,G5]
    (repeat (split at h;·simp at h))
    omega
  by_cases s:op=7
  · subst s;simp[lh,fP,gQ,jD,jU,jl,eG,iD,gK,gJ,gq,df]at h;simp[Oz,G5];split at h
    · simp at h
    split at h
    · simp at h
    obtain⟨p,hp,h⟩:=az h
    (repeat (split at h;·simp at h))
    refine⟨by omega,⟨p,hp,by omega⟩,fun x g=>each_b8 R args h x g⟩
  by_cases m:op=8
  · subst m;simp[lh,fP,gQ,jD,jU,jl,eG,iD,gK,gJ,gq,df]at h;simp[Oz,G5]
    (repeat (split at h;·simp at h))
    omega
  by_cases q:op=9
  · subst q;simp[lh,fP,gQ,jD,jU,jl,eG,iD,gK,gJ,gq,df]at h;simp[Oz,G5]
    (repeat (split at h;·simp at h))
    omega
  by_cases d:op=10
  · subst d;simp[Oz,G5]
  by_cases e:op=11
  · subst e;simp[lh,fP,gQ,jD,jU,jl,eG,iD,gK,gJ,gq,df]at h;simp[Oz,G5]
    (repeat (split at h;·simp at h))
    omega
  by_cases f:op=12
  · subst f;simp[lh,fP,gQ,jD,jU,jl,eG,iD,gK,gJ,gq,df]at h;simp[Oz,G5]
    (repeat (split at h;·simp at h))
    omega
  by_cases b:op=13
  · subst b;simp[lh,fP,gQ,jD,jU,jl,eG,iD,gK,gJ,gq,df]at h;simp[Oz,G5]
    (repeat (split at h;·simp at h))
    omega
  · exfalso;simp[lh,fP,gQ,jD,jU,jl,eG,iD,gK,gJ,gq,df, *]at h
structure ny(a:List aX):Prop where
 many:1<=a.length/\a.length<=4
 head:∀(i:Nat) x,a[i]? =ak x->(0<=x.params/\x.params<=3)/\(1<=x.regs/\x.params<=x.regs/\x.regs<=40)/\¬(i=0/\x.params≠0)/\uB x
 last:∀x∈a,∃c,idx x.code ((x.code.length:Int)-1)=ak c/\(c.op=8\/c.op=12)
 ins:∀x∈a,∀c∈x.code,Oz a x.regs x.code.length c
theorem heads_all:∀(p:ZD aX) (j:Nat),heads j p=0->∀(i:Nat) x,p[i]? =ak x->K7 (j+i) x=0
  |[],j,_,i,x,hx=>by simp at hx
  |y::p,j,h,i,x,hx=>by
    unfold heads at h;split at h
    · rename_i a;exact ZJ h a
    · rename_i a;cases i with
      |zero=>simp at hx;subst hx;exact ep.1 a
      |succ i=>rw[show j+(i+1)=(j+1)+i by omega];exact heads_all p (j+1) h i x (by simpa using hx)
theorem b35_ins(a:ZD aX)(x:aX)(k:Unit->Zs Int):∀(l:ZD Ins) (i:Int),ib (kW a x) k i l ()=ak 0->k ()=ak 0/\∀c∈l,Oz a x.regs x.code.length c
  |[],i,h=>⟨h,fun c b=>by cases b⟩
  |y::l,i,h=>by
    have f:ib (kW a x) k i (y::l) ()=kW a x i y () (ib (kW a x) k (i+1) l):=rfl;rw[f]at h;unfold kW at h;obtain⟨z,hz,h⟩:=az h;by_cases d:z=0
    · subst d;rw[dF zq3,Z1]at h;obtain⟨g,e⟩:=b35_ins a x k l (i+1) h;refine⟨g,fun c b=>?_⟩;rcases bm.1 b with rfl|b
      · exact insG_of hz
      · exact e c b
    · rw[dT d,ZS]at h;exact ZJ (osi h) d
theorem b37_ins(a:ZD aX):∀l:ZD aX,each (tK a) zS l ()=ak 0->∀x∈l,(∃c,idx x.code ((x.code.length:Int)-1)=ak c/\(c.op=8\/c.op=12))/\∀c∈x.code,Oz a x.regs x.code.length c
  |[],_,x,hx=>by cases hx
  |y::l,h,x,hx=>by
    rw[gV]at h;unfold tK at h;obtain⟨b,f⟩:=b35_ins a y _ y.code 0 h;unfold zQ at b;obtain⟨_,b⟩:=bD b;obtain⟨c,d,b⟩:=az b;cases e:(ab ((c.op:Int)≠8)&&ab ((c.op:Int)≠12))with
    |true=>rw[e,ZS]at b;cases b
    |false=>
      rw[e,Z1]at b;rcases bm.1 hx with rfl|hx
      · exact⟨⟨c,d,by simp only[cJ,decide_eq_false_iff_not,ep]at e;exact e⟩,f⟩
      · exact b37_ins a l b x hx
theorem nU{a:ZD aX}(h:KD a=0):ny a:=by
  have b:=XK a;rw[h]at b;unfold tL at b;generalize e:(ab (((a.length:Int):Int)=0)||ab ((4:Int)<(a.length:Int)))=C at b;cases C with
  |true=>cases b
  |false=>
    simp only[da,decide_eq_false_iff_not]at e;have f:ib oK (wU a) 0 a ()=_:=abb (wU a) a 0;rw[Z1,f]at b;by_cases hz:heads 0 a=0
    · rw[Z3 V]at b;have d:=b37_ins a a b;refine⟨by omega,fun i x c=>?_,fun x c=>(d x c).1,fun x c=>(d x c).2⟩;have:=heads_all a 0 hz i x c;rw[Nat.zero_add]at this;unfold K7 at this;split at this
      · rename_i g;split at this
        · rename_i g2;exact⟨g.1,g.2.1,g.2.2,g2⟩
        · cases this
      · cases this
    · rw[Z2 hz]at b;exact ZJ (osi b) hz
theorem sG{α σ ρ:Type}{body:Int->α->σ->(σ->ρ)->ρ}{k:σ->ρ}(i:Int)(x:α)(l:ZD α)(s:σ):ib body k i (x::l) s=body i x s (ib body k (i+1) l):=rfl
theorem XL{σ ρ:Type}{body:Int->σ->(σ->ρ)->ρ}{k:σ->ρ}(i:Int)(m:Nat)(s:σ):upto body k i (m+1) s=body i s (upto body k (i+1) m):=rfl
theorem Ig{σ β:Type}{body:σ->(σ->Zs β)->Zs β}{m:Nat}{s:σ}:again body (m+1) s=body s (again body m):=rfl
def kv(n:Nat)(v:Val):Prop:=(v.kind=0/\v.n=0)\/(v.kind=1/\ -1000000000<=v.n/\v.n<=1000000000)\/(v.kind=2/\0<=v.n/\v.n<n)
instance (n:Nat) (v:Val):Decidable (kv n v):=inferInstanceAs (Decidable (_\/_))
theorem xn(n:Nat)(v:Val):jr v (n:Int)=0↔kv n v:=by
  obtain⟨k,m⟩:=v;simp only[jr,kv,df,dy,decide_eq_true_eq];constructor
  · intro h
    (repeat' split at h)<;>first|omega|(exfalso;omega)
  · intro h;rcases h with⟨h1,h2⟩|⟨h1,h2⟩|⟨h1,h2⟩
    · rw[Z2 h1,Z3 V]
    · rw[Z3 V,Z2 h1,Z3 V]
    · rw[Z3 V,Z3 V,Z2 h1,Z3 V]
theorem value_eq(v:Val)(n:Int):gT v n=jr v n:=by
 obtain⟨k,m⟩:=v;simp only[jr,gT,uS,bB,j3,bG,df,dy,cP,gC,decide_eq_true_eq,decide_eq_false_iff_not,cJ]
 (repeat' split)<;>first|rfl|(exfalso;omega)
def wC(l:ZD (ZD Val)):Prop:=l.length<=24/\∀c∈l,(1<=c.length/\c.length<=4)/\∀v∈c,kv l.length v
theorem cells_eq(a:ZD (ZD Val)):rU a=ni a:=by
 unfold rU ni;have k1:∀(l:ZD Val) (f:Unit->Int),each (oP a) (oQ f) l ()=each (mR a) (lF f) l ():=by
  intro l f;induction l with
  |nil=>rfl
  |cons x l ih=>
   show(bif ab ((gT x (a.length:Int):Int)≠0)then gT x (a.length:Int)else each (oP a) (oQ f) l ())=(bif ab ((jr x (a.length:Int):Int)≠0)then jr x (a.length:Int)else each (mR a) (lF f) l ());rw[value_eq,ih]
 have k2:∀l:ZD (ZD Val),each (oU a) oV l ()=each (oM a) mU l ():=by
  intro l;induction l with
  |nil=>rfl
  |cons x l ih=>
   show(bif (!(bB (x.length:Int) 1 4))then 2 else each (oP a) (oQ<|each (oU a) oV l) x ())=(bif (ab (((x.length:Int):Int)=0)||ab ((4:Int)<(x.length:Int)))then 2 else each (mR a) (lF<|each (oM a) mU l) x ());have e:(!(bB (x.length:Int) 1 4))=(ab (((x.length:Int):Int)=0)||ab ((4:Int)<(x.length:Int))):=by
    unfold bB;rw[ez];simp only[dy,gC,cJ,decide_eq_true_eq,decide_eq_false_iff_not];omega
   rw[e,k1];have:each (oU a) oV l=each (oM a) mU l:=by funext u;exact ih
   rw[this]
 rw[k2]
theorem all_ok(a:ZD (ZD Val)):ni a=0↔wC a:=by
  have k1:∀(l:ZD Val) (f:Unit->Int),each (mR a) (lF f) l ()=0↔(∀v∈l,kv a.length v)/\f ()=0:=by
    intro l f;induction l with
    |nil=>simp[rE,lF]
    |cons x l ih=>
      show(bif ab ((jr x (a.length:Int):Int)≠0)then jr x (a.length:Int)else each (mR a) (lF f) l ())=0↔_;by_cases h:jr x (a.length:Int)=0
      · rw[dF V,Z1,ih];have:=(xn _ _).1 h;simp[this]
      · rw[dT h,ZS];have b:¬kv a.length x:=fun e=>h ((xn _ _).2 e);simp[h,b]
  have k2:∀l:ZD (ZD Val),each (oM a) mU l ()=0↔∀c∈l,(1<=c.length/\c.length<=4)/\∀v∈c,kv a.length v:=by
    intro l;induction l with
    |nil=>simp[rE,mU]
    |cons x l ih=>
      show(bif (ab (((x.length:Int):Int)=0)||ab ((4:Int)<(x.length:Int)))then 2 else each (mR a) (lF<|each (oM a) mU l) x ())=0↔_;by_cases h:1<=x.length/\x.length<=4
      · rw[show(ab (((x.length:Int):Int)=0)||ab ((4:Int)<(x.length:Int)))=aq by simp only[da,decide_eq_false_iff_not];omega,Z1,k1,ih];simp[h]
      · rw[show(ab (((x.length:Int):Int)=0)||ab ((4:Int)<(x.length:Int)))=aT by simp only[dy,decide_eq_true_eq];omega,ZS];simp[h]
  unfold ni wC;by_cases h:a.length<=24
  · rw[dF V,Z1,k2];simp[h]
  · rw[dT V,ZS];simp[h]
structure K8(a:List aX)(n:Nat)(f:X1)(x:aX):Prop where
 proc:idx a f.proc=ak x
 at_:0<=f.at_/\f.at_<x.code.length
 regs:(f.regs.length:Int)=x.regs
 vals:∀v∈f.regs,kv n v
def nV(a:ZD aX)(n:Nat):Int->ZD X1->Prop
 |_,[]=>True
 |ahead,f::l=>(∃x,K8 a n f x)/\(0<=f.iF/\f.iF<ahead)/\nV a n f.regs.length l
structure wm(a:List aX)(s:X2):Prop where
 status:0<=s.status/\s.status<=3
 bU: -1000000000<=s.bU/\s.bU<=1000000000
 stay:s.status≠3->s.bU=0
 ended:s.status=1↔s.frames=[]
 many:s.frames.length<=10
 cells:wC s.cells
 frames:nV a s.cells.length 1 s.frames
def ahead(pre:ZD X1):Int:=match pre.getLast? with|none=>1|some f=>f.regs.length
theorem ahead_nil:ahead []=1:=rfl
theorem TE(pre:ZD X1)(f:X1):ahead (pre++[f])=f.regs.length:=by simp[ahead]
theorem XM(b:X2)(f:X1)(a:Unit->Zs Int)(c:Int->Zs Int)(hn:a ()=c f.regs.length):∀l:ZD Val,each (xS b) (xU a) l ()=each (ui b) (uj c f) l ()
 |[]=>hn
 |x::l=>by
  show(bif ab ((jr x (b.cells.length:Int):Int)≠0)then ak (jr x (b.cells.length:Int))else each (xS b) (xU a) l ())=(bif ab ((gT x (b.cells.length:Int):Int)≠0)then ak (gT x (b.cells.length:Int))else each (ui b) (uj c f) l ());rw[value_eq,XM b f a c hn l]
theorem vals_tot(b:X2)(a:Unit->Zs Int)(Q:Prop)(hn:∃y,a ()=ak y/\(y=0↔Q)):∀l:ZD Val,∃y,each (xS b) (xU a) l ()=ak y/\(y=0↔(∀v∈l,kv b.cells.length v)/\Q)
  |[]=>by obtain⟨y,d,c⟩:=hn;exact⟨y,d,by simp[c]⟩
  |x::l=>by
    obtain⟨y,d,c⟩:=vals_tot b a Q hn l;have e:each (xS b) (xU a) (x::l) ()=(bif ab ((jr x (b.cells.length:Int):Int)≠0)then ak (jr x (b.cells.length:Int))else each (xS b) (xU a) l ()):=rfl;rw[e];by_cases h:jr x (b.cells.length:Int)=0
    · rw[dF V,Z1];have:=(xn _ _).1 h;exact⟨y,d,by rw[c];simp[this]⟩
    · rw[dT h,ZS];refine⟨_,Z,?_⟩;have f:¬kv b.cells.length x:=fun e=>h ((xn _ _).2 e);simp[h,f]
theorem Yv(a:ZD aX)(b:X2)(m:b.frames.length<=10):∀(l pre:ZD X1),b.frames=pre++l->
    ib (Eb a b) H5 (pre.length:Int) l ()=each (jd a b) mg l (ahead pre)
  |[],pre,h=>rfl
  |f::l,pre,h=>by
    have e:=Yv a b m l (pre++[f]) (by simpa using h);rw[TE]at e;have o:(((pre++[f]).length:Nat):Int)=(pre.length:Int)+1:=by simp
    rw[o]at e;rw[sG,gV];generalize ib (Eb a b) H5 ((pre.length:Int)+1) l=K1 at e⊢;generalize each (jd a b) mg l=K2 at e⊢;unfold Eb jd;have k:pre.length<=10:=by have:=ZL fb h;simp at this;omega
    have n:(ab ((f.proc:Int)<0)||ab (((a.length:Int):Int)<=f.proc))= !bG f.proc (a.length:Int):=U5 _ _;rw[n];cases hp:bG f.proc (a.length:Int)with
    |false=>rfl
    |true=>
      simp only[ea,Z1];cases hx:idx a f.proc with
      |none=>rfl
      |some x=>
        simp only[bnd];cases ha:bG f.at_ (x.code.length:Int)with
        |false=>
          rw[show(((ab ((f.at_:Int)<0)||ab (((x.code.length:Int):Int)<=f.at_))||ab ((f.iF:Int)<0))||(ab ((pre.length:Int)=0)&&ab ((f.iF:Int)≠0)))=aT by
            have:=U5 f.at_ (x.code.length:Int);rw[ha]at this;rw[this];rfl]
          rfl
        |true=>
          have j:=U5 f.at_ (x.code.length:Int);rw[ha]at j;rw[j];simp only[ea,pc,Z1];have i:∀t,AL f x b K1 t=kg a f b K2 t:=by
            intro t;unfold AL kg;rw[hx,bnd,XM b f _ _ e]
          simp only[i];rcases gk pre with rfl|⟨q,g,rfl⟩
          · rw[ahead_nil];by_cases c:f.iF=0
            · rw[show(ab ((f.iF:Int)<0)||(ab ((([]:ZD X1).length:Int)=0)&&ab ((f.iF:Int)≠0)))=aq by simp[c],Z1,dF zq3,Z1,show(!bG f.iF 1)=aq by simp[c,bG]]
            · rw[show(ab ((f.iF:Int)<0)||(ab ((([]:ZD X1).length:Int)=0)&&ab ((f.iF:Int)≠0)))=aT by simp[c],ZS,show(!bG f.iF 1)=aT by simp[bG];omega]
          · rw[gn]at*;rw[TE];have d:((q++[g]).length:Int)=(q.length:Int)+1:=by simp
            rw[d,show(ab ((q.length:Int)+1=0))=aq from dF V,Bool.false_and,Bool.or_false];by_cases c:f.iF<0
            · rw[dT c,ZS,show(!bG f.iF (g.regs.length:Int))=aT by simp[bG];omega]
            · rw[dF c,Z1,dT V,ZS,gI V (by simp at k;omega),show(q.length:Int)+1-1=((q.length:Nat):Int) by omega,lC,h];simp only[ck,gS (bE _),Nat.sub_self,ew,cr,fg,bnd];congr 1;rw[ez];simp[bG];omega
theorem abf(a:ZD aX)(b:X2):Jb a b=xX a b:=by
  unfold Jb xX;have c:(((ab ((b.status:Int)<0)||ab ((3:Int)<b.status))||ab ((b.bU:Int)< -1000000000))||ab ((1000000000:Int)<b.bU))=((!(bB b.status 0 3))||(!(j3 b.bU))):=by
    unfold j3 bB;rw[ez];simp only[dy,gC,cJ,decide_eq_true_eq,decide_eq_false_iff_not];omega
  have i:((ab ((b.status:Int)≠3)&&ab ((b.bU:Int)≠0))||(ab ((b.status:Int)=1) !=ab (((b.frames.length:Int):Int)=0)))=(((ab ((b.bU:Int)≠0)&&ab ((b.status:Int)≠3))||(ab ((b.status:Int)=1)&&ab ((0:Int)<(b.frames.length:Int))))||(ab ((b.status:Int)≠1)&&ab (((b.frames.length:Int):Int)=0))):=by
    by_cases f:b.status=1<;>by_cases e:b.frames.length=0<;>by_cases d:b.status=3<;>by_cases g:b.bU=0<;>simp[f,e,d,g]<;>omega
  rw[c,i,cells_eq];by_cases h:b.frames.length<=10
  · have:=Yv a b h b.frames [] Z;rw[ahead_nil]at this;rw[<-this];rfl
  · rw[show(ab ((10:Int)<(b.frames.length:Int)))=aT from dT V];rfl
theorem abg(a:ZD aX)(b:X2):∀(l:ZD X1) (t:Int),∃y,each (jd a b) mg l t=ak y/\(y=0↔nV a b.cells.length t l)
  |[],t=>⟨0,rfl,by simp[nV]⟩
  |f::l,t=>by
    obtain⟨y,i,k⟩:=abg a b l f.regs.length;rw[gV];generalize each (jd a b) mg l=K2 at i⊢;unfold jd;cases hp:bG f.proc (a.length:Int)with
    |false=>
      refine⟨5,Z,?_⟩;have:¬nV a b.cells.length t (f::l):=by
        rintro⟨⟨x,g⟩,-,-⟩;have:=aG g.proc;have e:=(ld.1 this.2).1;unfold bG at hp;simp only[cJ,decide_eq_false_iff_not]at hp;omega
      simp[this]
    |true=>
      unfold bG at hp;simp only[cP,decide_eq_true_eq]at hp;simp only[ea,Z1];obtain⟨n,hn⟩:=bs hp.1;have d:idx a f.proc=ak (a[n]'V):=by rw[hn,xI V]
      generalize a[n]'V=x at d;rw[d,bnd];have kB:∃y,kg a f b K2 aT=ak y/\y≠0:=⟨3,Z,by decide⟩;have c:∀z,K8 a b.cells.length f z->z=x:=fun z g=>by have:=g.proc;rw[d]at this;exact(osi this).symm
      cases ha:bG f.at_ (x.code.length:Int)with
      |false=>
        obtain⟨y,g1,g2⟩:=kB;refine⟨y,g1,?_⟩;have:¬nV a b.cells.length t (f::l):=by
          rintro⟨⟨z,g⟩,-,-⟩;have:=c z g;subst this;have:=g.at_;unfold bG at ha;simp only[cJ,decide_eq_false_iff_not]at ha;omega
        simp[this,g2]
      |true=>
        simp only[ea,Z1];cases ht:bG f.iF t with
        |false=>
          obtain⟨y,g1,g2⟩:=kB;refine⟨y,g1,?_⟩;have:¬nV a b.cells.length t (f::l):=by
            rintro⟨⟨z,g⟩,e,-⟩;unfold bG at ht;simp only[cJ,decide_eq_false_iff_not]at ht;omega
          simp[this,g2]
        |true=>
          simp only[ea];unfold kg;rw[d,Z1,bnd];unfold bG at ha ht;simp only[cP,decide_eq_true_eq]at ha ht;by_cases j:(f.regs.length:Int)=x.regs
          · rw[dF V,Z1,<-XM b f (fun _=>K2 f.regs.length) _ rfl];obtain⟨z,g1,g2⟩:=vals_tot b (fun _=>K2 f.regs.length) _ ⟨y,i,k⟩ f.regs;refine⟨z,g1,g2.trans ⟨fun h=>⟨⟨x,d,ha,j,h.1⟩,ht,h.2⟩,?_⟩⟩;rintro⟨⟨z,g⟩,e,m⟩;exact⟨g.vals,m⟩
          · rw[dT V,ZS];refine⟨4,Z,?_⟩;have:¬nV a b.cells.length t (f::l):=by
              rintro⟨⟨z,g⟩,-,-⟩;have:=c z g;subst this;exact j g.regs
            simp[this]
theorem abh(a:ZD aX)(b:X2):∃y,Jb a b=ak y/\(y=0↔wm a b):=by
  rw[abf];unfold xX;cases c1:((!(bB b.status 0 3))||(!(j3 b.bU)))with
  |true=>
    refine⟨3,Z,⟨fun h=>ZJ h zq1,fun h=>?_⟩⟩;unfold j3 bB at c1;simp only[dy,gC,cJ,decide_eq_false_iff_not]at c1;have:=h.status;have:=h.bU;omega
  |false=>
    unfold j3 bB at c1;simp only[da,Bool.not_eq_false',cP,decide_eq_true_eq]at c1;rw[Z1];cases c2:(((ab ((b.bU:Int)≠0)&&ab ((b.status:Int)≠3))||(ab ((b.status:Int)=1)&&ab ((0:Int)<(b.frames.length:Int))))||(ab ((b.status:Int)≠1)&&ab (((b.frames.length:Int):Int)=0)))with
    |true=>
      refine⟨4,Z,⟨fun h=>ZJ h zq1,fun h=>?_⟩⟩;simp only[dy,cP,decide_eq_true_eq]at c2;rcases c2 with(c2|c2)|c2
      · exact ZJ (h.stay c2.2) c2.1
      · have:=h.ended.1 c2.1;rw[this]at c2;simp at c2
      · exact ZJ (h.ended.2<|cl V) c2.1
    |false=>
      simp only[da,cJ,decide_eq_false_iff_not]at c2;rw[Z1];by_cases e:b.frames.length<=10
      · rw[dF V,Z1,cells_eq];by_cases c:ni b.cells=0
        · rw[dF V,Z1];obtain⟨y,g,f⟩:=abg a b b.frames 1;refine⟨y,g,f.trans ⟨fun h=>⟨by omega,by omega,fun d=>by omega,⟨fun d=>?_,fun d=>?_⟩,e,(all_ok _).1 c,h⟩,fun h=>h.frames⟩⟩
          · exact cl V
          · rw[d]at c2;simp at c2;omega
        · rw[dT c,ZS];exact⟨_,Z,⟨fun h=>ZJ h c,fun h=>ZJ ((all_ok _).2 h.cells) c⟩⟩
      · rw[dT V,ZS];exact⟨2,Z,⟨fun h=>ZJ h zq1,fun h=>ZJ h.many e⟩⟩
def ckS(a:ZD aX)(s:X2):Int:=(Jb a s).getD 0
theorem ckS_eq(a:ZD aX)(s:X2):Jb a s=ak (ckS a s):=by obtain⟨y,h,-⟩:=abh a s;unfold ckS;rw[h];rfl
theorem JO{a:ZD aX}{s:X2}:ckS a s=0↔wm a s:=by obtain⟨y,h,b⟩:=abh a s;unfold ckS;rw[h];exact b
theorem KE(a:ZD aX)(s:X2):Gi a s=ak (if KD a≠0 then KD a else ckS a s):=by
  unfold Gi;rw[XK,bnd];by_cases h:KD a=0
  · rw[dF V,Z1,ckS_eq,bnd,Z3 V]
  · rw[dT h,ZS,Z2 h]
theorem eqVals(a b:ZD Val):qf a b=ak (ab (a=b)):=by
  unfold qf;by_cases h:a.length=b.length
  · rw[dF V];simp only[Z1,bh];rw[upto_all2 (fun x y=>ab (x=y)) a b h rfl (fun i x y j f d=>by
      unfold yS;rw[lC,lC,f,d];obtain⟨k,n⟩:=x;obtain⟨k2,c⟩:=y;by_cases e:k=k2<;>by_cases g:n=c<;>simp[e,g]),Qp (fun _ _=>rfl)]
  · rw[dT V];have:a≠b:=fun e=>h (by rw[e]);rw[dF this];rfl
theorem eqCells(a b:ZD (ZD Val)):QH a b=ak (ab (a=b)):=by
  unfold QH;by_cases h:a.length=b.length
  · rw[dF V,Z1,RJ (fun x y=>ab (x=y)) a b h rfl (fun i x y d c=>by
      unfold NF;rw[lC,c,bnd,eqVals,bnd];by_cases e:x=y<;>simp[e]),Qp (fun _ _=>rfl)]
  · rw[dT V];have:a≠b:=fun e=>h (by rw[e]);rw[dF this];rfl
theorem fr_eq(x y:X1)(b:Unit->Zs Ys):(bif ((ab ((x.proc:Int)=y.proc)&&ab ((x.at_:Int)=y.at_))&&ab ((x.iF:Int)=y.iF))then(qf x.regs y.regs).bind fun a=>CU b (!a)else CU b aT)=bif ab (x=y)then b ()else ak false:=by
 obtain⟨p,t,r,o⟩:=x;obtain⟨f,h,e,o2⟩:=y;simp only[eqVals,bnd,CU];by_cases c:p=f<;>by_cases i:t=h<;>by_cases g:r=e<;>by_cases d:o=o2<;>simp[c,i,g,d]
theorem st_eq(a b:X2):ab (a=b)=((ab (a.status=b.status)&&ab (a.bU=b.bU))&&(ab (a.cells=b.cells)&&ab (a.frames=b.frames))):=by
 obtain⟨f,c,s,w⟩:=a;obtain⟨e,c2,d,w2⟩:=b;rw[ez];simp;constructor<;>(intro h;simp[h])
theorem eqState(a b:X2):UC a b=ak (ab (a=b)):=by
  rw[st_eq];unfold UC;cases (ab ((a.status:Int)=b.status)&&ab ((a.bU:Int)=b.bU))with
  |false=>rfl
  |true=>
    rw[ZS,eqCells,bnd];cases ab (a.cells=b.cells)with
    |false=>rfl
    |true=>
      rw[ZS];by_cases h:a.frames.length=b.frames.length
      · rw[dF V,Z1,RJ (fun x y=>ab (x=y)) a.frames b.frames h rfl (fun i x y c d=>by
          unfold Pn;rw[lC,d,bnd];exact fr_eq x y c),Qp (fun _ _=>rfl)];rfl
      · rw[dT V];have:a.frames≠b.frames:=fun e=>h (by rw[e]);rw[dF this];rfl
structure Small(s:X2):Prop where
 frames:s.frames.length<=10
 regs:∀f∈s.frames,f.regs.length<=40
 cells:s.cells.length<=24
 fields:∀c∈s.cells,c.length<=4
theorem AX{a:ZD aX}{n:Nat}:∀{l:ZD X1} {t:Int},nV a n t l->∀f∈l,∃x,K8 a n f x
  |[],_,_,f,hf=>by cases hf
  |g::l,t,h,f,hf=>by
    rcases bm.1 hf with rfl|hf
    · exact h.1
    · exact AX h.2.2 f hf
theorem ny.mem{a:ZD aX}(h:ny a){k:Int}{x:aX}(c:idx a k=ak x):x∈a/\(0<=x.params/\x.params<=3)/\(1<=x.regs/\x.params<=x.regs/\x.regs<=40)/\uB x:=by
 have b:=(aG c).2;have:=h.head _ x b;exact⟨fx b,this.1,this.2.1,this.2.2.2⟩
theorem wm.small{a:ZD aX}{s:X2}(h:wm a s)(ha:ny a):Small s where
 frames:=h.many
 regs f hf:=by
  obtain⟨x,g⟩:=AX h.frames f hf;have:=(ha.mem g.proc).2.2.1;have:=g.regs;omega
 cells:=h.cells.1
 fields c hc:=(h.cells.2 c hc).1.2
theorem U6{α:Type}{b:Nat}{a:ZD α}(h:a.length<=400)(c:b<=48):clone b a=ak a:=by
 have:a.length*b<=400*48:=oY h c;unfold clone;exact kz ⟨by simp;omega,by simp;omega⟩
theorem XN{ρ:Type}{body:Int->Unit->(Unit->ρ)->ρ}{k:Unit->ρ}:∀(m:Nat) (i:Nat),(∀j:Nat,i<=j->j<i+m->∀a,body (j:Int) () a=a ())->upto body k (i:Int) m ()=k ()
 |0,i,_=>rfl
 |m+1,i,h=>by
  rw[XL,h i (bE _) V,show((i:Int)+1)=((i+1:Nat):Int) by omega];exact XN m (i+1) fun j c b=>h j V V
theorem cellCopy_eq{l:ZD (ZD Val)}(h:l.length<=24)(a:∀c∈l,c.length<=4):QE l=ak l:=by
 unfold QE;rw[U6 V zq1,bnd,bh];exact XN (k:=Nz l) l.length 0 (fun j e d b=>by
  unfold Ny;rw[xI V,bnd,U6 (by have:=a _ (cA (by omega:j<l.length));omega) zq1,bnd])
theorem copy_eq{s:X2}(h:Small s):NA s=ak s:=by
 unfold NA;rw[U6 (by have:=h.frames;omega) zq1,bnd,cellCopy_eq h.cells h.fields,bnd];unfold Sj;rw[bh];exact XN (k:=Si s s.cells) s.frames.length 0 (fun j c b a=>by
  unfold Sg;rw[xI V,bnd,U6 (by have:=h.regs _ (cA (by omega:j<s.frames.length));omega) zq1,bnd])
theorem room_le{α:Type}{a:Nat}{l m:ZD α}(h:l.length+m.length<=100000)(b:a<=48):Room a l m:=by
 have:(l.length+m.length)*a<=100000*48:=oY h b;exact⟨by omega,by omega⟩
def U7(l:ZD Int)(v:Val):ZD Int:=if v.kind=2/\v.n∉l then l++[v.n]else l
def U8(l:ZD Int)(vs:ZD Val):ZD Int:=vs.foldl U7 l
def cellAt(cells:ZD (ZD Val))(k:Int):ZD Val:=(idx cells k).getD []
def bfs(cells:ZD (ZD Val)):Nat->Nat->ZD Int->ZD Int
 |0,_,l=>l
 |m+1,k,l=>if h:k<l.length then bfs cells m (k+1) (U8 l (cellAt cells l[k]))else l
def P7(cells:ZD (ZD Val))(vs:ZD Val):ZD Int:=bfs cells 25 0 (U8 [] vs)
theorem QV(l:ZD Int)(v:Val)(vs:ZD Val):U8 l (v::vs)=U8 (U7 l v) vs:=rfl
theorem metV_pre(l:ZD Int)(v:Val):l<+:U7 l v:=by
  unfold U7;split
  · exact fk _ _
  · exact ct _
theorem P8:∀(vs:ZD Val) (l:ZD Int),l<+:U8 l vs
 |[],l=>ct _
 |v::vs,l=>(metV_pre l v).trans (P8 vs _)
theorem bfs_pre(cells:ZD (ZD Val)):∀(m k:Nat) (l:ZD Int),l<+:bfs cells m k l
  |0,_,l=>ct _
  |m+1,k,l=>by
    unfold bfs;split
    · exact(P8 _ _).trans<|bfs_pre cells m _ _
    · exact ct _
theorem nodup_len:∀(n:Nat) (l:ZD Int),l.Nodup->(∀x∈l,0<=x/\x<n)->l.length<=n
  |0,l,_,h=>by
    cases l with
    |nil=>simp
    |cons x l=>have:=h x zq3;omega
  |n+1,l,hn,h=>by
    have d:=nodup_len n (l.erase (n:Int)) (hn.erase _) (fun x b=>by
      have a:=(hn.mem_erase_iff).1 b;have:=h x a.2;have c:=a.1;constructor
      · omega
      · push_cast at this;omega)
    have e:l.length<=(l.erase (n:Int)).length+1:=by rw[List.length_erase];split<;>omega
    omega
def zf(n:Nat)(l:ZD Int):Prop:=l.Nodup/\∀x∈l,0<=x/\x<n
theorem zf.len{n:Nat}{l:ZD Int}(h:zf n l):l.length<=n:=nodup_len n l h.1 h.2
theorem zf.nil{n:Nat}:zf n []:=⟨List.nodup_nil,fun x a=>by cases a⟩
theorem kv.ref{n:Nat}{v:Val}(h:kv n v)(a:v.kind=2):0<=v.n/\v.n<n:=by unfold kv at h;omega
theorem zf.v{n:Nat}{l:ZD Int}(h:zf n l){v:Val}(hv:kv n v):zf n (U7 l v):=by
  unfold U7;split
  · rename_i d;refine⟨rN.2 ⟨h.1,by simp,fun a g b f=>?_⟩,fun x c=>?_⟩
    · simp at f;subst f;intro e;subst e;exact d.2 g
    · rcases cE.1 c with c|c
      · exact h.2 x c
      · simp at c;subst c;exact hv.ref d.1
  · exact h
theorem zf.l{n:Nat}:∀{vs:ZD Val} {l:ZD Int},zf n l->(∀v∈vs,kv n v)->zf n (U8 l vs)
 |[],l,h,_=>h
 |v::vs,l,h,hv=>zf.l (vs:=vs) (l:=U7 l v) (h.v (hv v zq3)) (fun w a=>hv w (bl _ a))
theorem NS{cells:ZD (ZD Val)}{k:Int}(h:0<=k/\k<cells.length):idx cells k=ak (cellAt cells k)/\cellAt cells k∈cells:=by
 obtain⟨n,rfl⟩:=bs h.1;unfold cellAt;rw[xI V];exact⟨Z,cA _⟩
theorem wC.at{cells:ZD (ZD Val)}(h:wC cells){k:Int}(a:0<=k/\k<cells.length):(1<=(cellAt cells k).length/\(cellAt cells k).length<=4)/\∀v∈cellAt cells k,kv cells.length v:=h.2 _ (NS a).2
theorem zf.bfs{cells:ZD (ZD Val)}(a:wC cells):∀{m k:Nat} {l:ZD Int},zf cells.length l->zf cells.length (bfs cells m k l)
  |0,_,l,h=>h
  |m+1,k,l,h=>by
    unfold Proofs.YtodkbibbgakkdaaGreatDoor.bfs;split
    · rename_i b;exact zf.bfs a<|h.l (a.at<|h.2 _<|cA b).2
    · exact h
def kr(vs:ZD Val)(l:ZD Int):Prop:=∀v∈vs,v.kind=2->v.n∈l
theorem kr.pre{vs:ZD Val}{l m:ZD Int}(h:kr vs l)(hp:l<+:m):kr vs m:=fun v hv a=>hp.subset (h v hv a)
theorem metV_in(l:ZD Int)(v:Val)(b:v.kind=2):v.n∈U7 l v:=by
  unfold U7;split
  · simp
  · rename_i a;exact ep.1 fun h=>a ⟨b,h⟩
theorem metL_in:∀(vs:ZD Val) (l:ZD Int),kr vs (U8 l vs)
  |[],l,v,hv,_=>by cases hv
  |w::vs,l,v,hv,hk=>by
    rw[QV];rcases bm.1 hv with rfl|hv
    · exact(P8 vs _).subset<|metV_in l v hk
    · exact metL_in vs _ v hv hk
theorem bfs_in{cells:ZD (ZD Val)}(d:wC cells):∀{m k:Nat} {l:ZD Int},zf cells.length l->cells.length<k+m->(∀j (a:j<l.length),j<k->kr (cellAt cells l[j]) l)->∀x∈bfs cells m k l,kr (cellAt cells x) (bfs cells m k l)
  |0,k,l,h,hm,a,x,hx=>by
    have:=h.len;obtain⟨j,b,rfl⟩:=qv hx;exact a j b (by have f:j<l.length:=b;omega)
  |m+1,k,l,h,hm,a,x,hx=>by
    unfold Proofs.YtodkbibbgakkdaaGreatDoor.bfs at hx⊢;split at hx
    · rename_i c;rw[dif_pos c];have hv:=(d.at<|h.2 _<|cA c).2;have hp:=P8 (cellAt cells l[k]) l;refine bfs_in d (h.l hv) V (fun j b n=>?_) x hx;by_cases e:j<l.length
      · have g:(U8 l<|cellAt cells l[k])[j]=l[j]:=(hp.getElem e).symm;rw[g];by_cases i:j<k
        · exact(a j e i).pre hp
        · have:j=k:=by omega
          subst this;exact metL_in _ _
      · omega
    · rename_i c;rw[dif_neg c];obtain⟨j,b,rfl⟩:=qv hx;exact a j b V
theorem reach_ok{cells:ZD (ZD Val)}(a:wC cells){vs:ZD Val}(hv:∀v∈vs,kv cells.length v):zf cells.length (P7 cells vs)/\kr vs (P7 cells vs)/\∀x∈P7 cells vs,kr (cellAt cells x) (P7 cells vs):=by
 have b:zf cells.length (U8 [] vs):=zf.nil.l hv;refine⟨zf.bfs a b,(metL_in vs []).pre (bfs_pre _ _ _ _),bfs_in a b (by have:=a.1;omega) (fun j d c=>ZJ c (eM _))⟩
theorem lk_lput{α:Type}(k a:Int)(v:α):∀l:ZD (Int×α),lk k (Br a v l)=if k=a then ak v else lk k l
  |[]=>by unfold Br lk;by_cases h:k=a<;>simp[h,lk]
  |p::l=>by
    unfold Br;by_cases h:a=p.1
    · rw[Z2 h];show(if k=p.1 then ak v else lk k l)=if k=a then ak v else(if k=p.1 then ak p.2 else lk k l)
      by_cases e:k=p.1
      · rw[Z2 e,Z2 V]
      · rw[Z3 e,Z3 V,Z3 e]
    · rw[Z3 h];show(if k=p.1 then ak p.2 else lk k (Br a v l))=if k=a then ak v else(if k=p.1 then ak p.2 else lk k l)
      by_cases e:k=p.1
      · rw[Z2 e,Z2 e,Z3 V]
      · rw[Z3 e,Z3 e,lk_lput k a v l]
def Seen(l:ZD Int)(m:ZD (Int×Ys)):Prop:=∀k,(lk k m).getD aq=ab (k∈l)
theorem Seen.nil:Seen [] []:=fun k=>rfl
theorem Seen.put{l:ZD Int}{m:ZD (Int×Ys)}(h:Seen l m)(n:Int):Seen (l++[n]) (Br n aT m):=by
  intro k;rw[lk_lput];by_cases e:k=n
  · simp[e]
  · rw[Z3 e,h k,ez];simp[e]
theorem U9{ρ:Type}{body:Val->ZD Int×ZD (Int×Ys)->(ZD Int×ZD (Int×Ys)->Zs ρ)->Zs ρ}{K:ZD Int×ZD (Int×Ys)->Zs ρ}
    (c:∀x l m b,l.length<=1000->body x (l,m) b=bif (ab (x.kind=2)&&(!((lk x.n m).getD aq)))then b (l++[x.n],Br x.n aT m)else b (l,m)):
    ∀(vs:ZD Val) (l:ZD Int) (m:ZD (Int×Ys)),Seen l m->l.length+vs.length<=1000->∃d,Seen (U8 l vs) d/\each body K vs (l,m)=K (U8 l vs,d)
  |[],l,m,h,_=>⟨m,h,rfl⟩
  |v::vs,l,m,h,hl=>by
    simp only[bq]at hl;rw[gV,c v l m _ V,h v.n,QV];unfold U7;by_cases a:v.kind=2/\v.n∉l
    · rw[Z2 a,dT a.1,dF a.2,nj,iS,ZS];exact U9 c vs _ _ (h.put v.n) (by simp;omega)
    · rw[Z3 a,show(ab (v.kind=2)&& !decide (v.n∈l))=aq by rw[cJ];simp;simp only[not_and,ep]at a;by_cases e:v.kind=2<;>simp[e,a],Z1];exact U9 c vs _ _ h V
theorem bfs_loop{cells:ZD (ZD Val)}(d:wC cells):∀(m N k:Nat) (l:ZD Int) (s:ZD (Int×Ys)),zf cells.length l->Seen l s->cells.length<k+m->m<N->k<=l.length->again (tY cells) N ((k:Int),l,s)=ak (bfs cells m k l,0)
  |m,0,k,l,s,h,hs,hm,hN,hk=>by omega
  |0,N+1,k,l,s,h,hs,hm,hN,hk=>by have:=h.len;omega
  |m+1,N+1,k,l,s,h,hs,hm,hN,hk=>by
    rw[Ig];unfold tY Proofs.YtodkbibbgakkdaaGreatDoor.bfs;simp only;have j:=h.len;have hn:=d.1;by_cases a:k<l.length
    · rw[dT V,ZS,xI a,bnd,dif_pos a];have g:=h.2 _<|cA a;have hv:=d.at g;rw[(NS g).1,bnd];have i:(fun(s:Int×ZD Int×ZD (Int×Ys))(c:Int×ZD Int×ZD (Int×Ys)->Zs (ZD Int×Int))=>match s with|(b,QA,Io)=>bif ab ((b:Int)<(QA.length:Int))then(idx QA b).bind fun e=>(idx cells e).bind fun f=>each zV (zX b c) f (QA,Io)else ak (QA,0))=tY cells:=rfl;rw[i];obtain⟨p,q,o⟩:=U9 (body:=zV) (K:=zX (k:Int) (again (tY cells) N)) (fun x l m r j=>by
        unfold zV;simp only[Ed];cases (ab (x.kind=2)&&(!((lk x.n m).getD aq)))with
        |false=>rfl
        |true=>rw[ZS,ZS,kz (room_le (by simp;omega) zq1)]) (cellAt cells l[k]) l s hs (by have:=hv.1.2;omega)
      rw[o];unfold zX;simp only;rw[gI V V];have hp:=(P8 (cellAt cells l[k]) l).length_le;exact bfs_loop d m N (k+1) _ p (h.l hv.2) q V V V
    · rw[dF V,Z1,dif_neg a]
theorem reach_eq{N:Nat}(hN:100<=N){cells:ZD (ZD Val)}(a:wC cells){vs:ZD Val}(hv:∀v∈vs,kv cells.length v)(b:vs.length<=400):Nw N cells vs=ak (P7 cells vs,0):=by
 unfold Nw;rw[(all_ok cells).2 a,dF zq3,Z1,dF V,Z1];have k1:∀l:ZD Val,(∀v∈l,kv cells.length v)->each (Ef cells) (zY N cells vs) l ()=zY N cells vs ():=by
  intro l;induction l with
  |nil=>intro _;rfl
  |cons x l ih=>
   intro h;rw[gV];unfold Ef;rw[(xn _ _).2 (h x zq3),dF zq3,Z1];exact ih fun v hv=>h v<|bl _ hv
 rw[k1 vs hv];unfold zY;obtain⟨d,e,c⟩:=U9 (body:=Ee) (K:=Jc N cells) (fun x l m f b=>by
  unfold Ee;simp only[Ec];cases (ab (x.kind=2)&&(!((lk x.n m).getD aq)))with
  |false=>rfl
  |true=>rw[ZS,ZS,kz (room_le (by simp;omega) zq1)]) vs [] [] Seen.nil (by simp;omega)
 rw[c];exact bfs_loop a 25 N 0 _ d (zf.nil.l hv) e (by have:=a.1;omega) V V
def ren(l:ZD Int)(v:Val):Val:=if v.kind=2 then⟨v.kind,(l.idxOf v.n:Nat)⟩else v
def K9(l:ZD Int)(f:X1):X1:={f with regs:=f.regs.map (ren l)}
def roots(fr:ZD X1):ZD Val:=fr.flatMap (·.regs)
def fM(s:X2):ZD Int:=P7 s.cells (roots s.frames)
def dS(s:X2):X2:=⟨s.frames.map (K9 (fM s)),(fM s).map (fun k=>(cellAt s.cells k).map (ren (fM s))),s.status,s.bU⟩
structure P9(s:X2):Prop where
 small:Small s
 cells:wC s.cells
 vals:∀f∈s.frames,∀v∈f.regs,kv s.cells.length v
theorem wm.sw{a:ZD aX}{s:X2}(h:wm a s)(ha:ny a):P9 s where
 small:=h.small ha
 cells:=h.cells
 vals f hf:=by obtain⟨x,g⟩:=AX h.frames f hf;exact g.vals
theorem P9.roots{s:X2}(h:P9 s):∀v∈roots s.frames,kv s.cells.length v:=by
 intro v hv;unfold YtodkbibbgakkdaaGreatDoor.roots at hv;obtain⟨f,a,hv⟩:=lR.1 hv;exact h.vals f a v hv
theorem roots_len(fr:ZD X1)(h:∀f∈fr,f.regs.length<=40):(roots fr).length<=40*fr.length:=by
 induction fr with
 |nil=>simp[roots]
 |cons f l ih=>
  have:=h f zq3;have:=ih fun g a=>h g<|bl _ a;unfold roots at*;rw[gA,bj,bq];omega
theorem P9.rlen{s:X2}(h:P9 s):(YtodkbibbgakkdaaGreatDoor.roots s.frames).length<=400:=by
 have:=roots_len s.frames h.small.regs;have:=h.small.frames;omega
theorem P9.reach{s:X2}(h:P9 s):zf s.cells.length (fM s)/\kr (YtodkbibbgakkdaaGreatDoor.roots s.frames) (fM s)/\∀x∈fM s,kr (cellAt s.cells x) (fM s):=reach_ok h.cells h.roots
theorem map_loop{α ρ:Type}{body:Int->ZD α->(ZD α->Zs ρ)->Zs ρ}{K:ZD α->Zs ρ}{g:α->α}{P:α->Prop}
  (e:∀(i:Nat) (x:ZD α) a nx,x[i]? =ak a->P a->body (i:Int) x nx=nx (x.set i (g a))):
  ∀(d c:ZD α),(∀a∈d,P a)->upto body K (c.length:Int) d.length (c++d)=K (c++d.map g)
 |[],c,_=>by simp[upto]
 |a::d,c,h=>by
  rw[bq,XL,e c.length (c++a::d) a _ zq3 (h a zq3)];have:=map_loop (K:=K) e d (c++[g a]) fun b e=>h b<|bl _ e;rw[show(c++a::d).set c.length (g a)=(c++[g a])++d by simp,show((c.length:Int)+1)=((c++[g a]).length:Nat) by simp,this];simp
theorem XO{α ρ:Type}{body:Int->ZD α->(ZD α->Zs ρ)->Zs ρ}{K:ZD α->Zs ρ}{g:α->α}{P:α->Prop}
  (b:∀(i:Nat) (x:ZD α) a nx,x[i]? =ak a->P a->body (i:Int) x nx=nx (x.set i (g a))) (l:ZD α) (hp:∀a∈l,P a):upto body K 0 l.length l=K (l.map g):=by
 have:=map_loop (K:=K) b l [] hp;simpa using this
def abj(l:ZD Int)(m:ZD (Int×Int)):Prop:=∀k,lk k m=if k∈l then ak ((l.idxOf k:Nat):Int)else ar
theorem turn_eq{l:ZD Int}{m:ZD (Int×Int)}(h:abj l m)(vs:ZD Val)(e:kr vs l):Z0 vs m=ak (vs.map (ren l)):=by
  unfold Z0;rw[bh];refine XO (P:=fun v=>v.kind=2->v.n∈l) (fun i x a f c hp=>?_) vs fun v hv=>e v hv;unfold Wl QG;rw[lC,c,bnd];by_cases b:a.kind=2
  · rw[dT b,ZS,h a.n,Z2 (hp b)];simp[ren,b]
  · rw[dF b,Z1];have:x.set i a=x:=by
      obtain⟨d,rfl⟩:=ld.1 c;exact mm d
    simp[ren,b,this]
theorem abk{s:X2}(j:wC s.cells){K:ZD (ZD Val)×ZD Int×ZD (Int×Int)->Zs X2}:∀(b a:ZD Int) (m:ZD (Int×Int)),zf s.cells.length (a++b)->abj a m->
    ∃g,abj (a++b) g/\ib (AO s) K (a.length:Int) b (a.map (cellAt s.cells),a,m)=K ((a++b).map (cellAt s.cells),a++b,g)
  |[],a,m,_,h=>⟨m,by simpa using h,by simp[ib]⟩
  |k::b,a,m,hm,h=>by
    have i:a++k::b=(a++[k])++b:=by simp
    have f:k∉a:=by
      intro f;exact(rN.1 hm.1).2.2 k f k zq3 Z
    have n:=hm.len;have hn:=j.1;simp only[bj,bq]at n;have o:=hm.2 k zq3;rw[sG];obtain⟨g,p,l⟩:=abk j (K:=K) b (a++[k]) (Br k (a.length:Int) m) (by rw[<-i];exact hm) (fun q=>by
      rw[lk_lput];by_cases e:q=k
      · subst e;rw[Z2 rfl,Z2 zq3,rS,Z3 f];simp
      · rw[Z3 e,h q];by_cases c:q∈a
        · rw[Z2 c,Z2 (by simp[c]),rS,Z2 c]
        · rw[Z3 c,Z3 (by simp[c,e])])
    refine⟨g,by rw[i];exact p,?_⟩;have d:(((a++[k]).length:Nat):Int)=(a.length:Int)+1:=by simp
    rw[d]at l;rw[i,<-l];generalize ib (AO s) K ((a.length:Int)+1) b=K1;unfold AO;simp only;rw[(NS o).1,bnd,kz f,kz (room_le (by simp;omega) zq1),cL];rfl
theorem frames_sweep{l:ZD Int}{m:ZD (Int×Int)}(h:abj l m)(K:ZD X1->Zs X2)(fr:ZD X1)(c:∀f∈fr,kr f.regs l):upto (H6 m) K 0 fr.length fr=K (fr.map (K9 l)):=
 XO (P:=fun f=>kr f.regs l) (fun i x a d b hp=>by
  unfold H6;rw[lC,b,bnd,turn_eq h a.regs hp,bnd];simp[K9]) fr c
theorem cells_sweep{l:ZD Int}{m:ZD (Int×Int)}(h:abj l m)(K:ZD (ZD Val)->Zs X2)(cs:ZD (ZD Val))(d:∀c∈cs,kr c l):upto (Kt m) K 0 cs.length cs=K (cs.map (fun c=>c.map (ren l))):=
 XO (P:=fun c=>kr c l) (fun i x a e b hp=>by
  unfold Kt;rw[lC,b,bnd,turn_eq h a hp,bnd];simp) cs d
theorem root_loop{K:ZD Val->Zs X2}:∀(fr:ZD X1) (a:ZD Val),a.length+(roots fr).length<=1000->each Eh K fr a=K (a++roots fr)
 |[],a,_=>by simp[rE,roots]
 |f::fr,a,h=>by
  have e:roots (f::fr)=f.regs++roots fr:=rfl;rw[e,bj]at h;rw[gV];have b:=root_loop (K:=K) fr (a++f.regs) (by simp;omega);generalize each Eh K fr=K1 at b⊢;unfold Eh;rw[kz (room_le V zq1),b,e,ck]
theorem JQ{fr:ZD X1}{l:ZD Int}(h:kr (roots fr) l):∀f∈fr,kr f.regs l:=fun f a v hv b=>h v (lR.2 ⟨f,a,hv⟩) b
theorem abl{N:Nat}(hN:100<=N){s:X2}(h:P9 s):Jd N s=ak (dS s):=by
 have d:=h.reach;unfold Jd;rw[root_loop s.frames [] (by have:=h.rlen;simp;omega),cr];unfold ND;rw[reach_eq hN h.cells h.roots h.rlen,bnd,dF zq3,Z1,copy_eq h.small,bnd];have e:P7 s.cells (roots s.frames)=fM s:=rfl;simp only[e];obtain⟨j,b,g⟩:=abk h.cells (K:=Eg s) (fM s) [] [] (by simpa using d.1) (fun k=>by simp[lk]);have a:ib (AO s) (Eg s) 0 (fM s) ([],([]:ZD Int),([]:ZD (Int×Int)))=_:=g;rw[a];simp only[cr]at b⊢;unfold Eg;simp only[bh];rw[frames_sweep b _ _ (JQ d.2.1)];unfold NC;rw[bh,cells_sweep b _ _ (fun c f=>by
  obtain⟨k,i,rfl⟩:=ec.1 f;exact d.2.2 k i)]
 unfold NB dS;rw[ke];rfl
def jS(r:ZD Val)(i:Int):Val:=(idx r i).getD ⟨0,0⟩
def opP(k:Int)(b c:Val):Zs Val:=
 if k=5 then ak ⟨1,if b=c then 1 else 0⟩else if b.kind≠1\/c.kind≠1 then ar else if k=4 then ak ⟨1,if b.n<c.n then 1 else 0⟩else
 let n:=if k=1 then b.n+c.n else if k=2 then b.n-c.n else b.n*c.n
 if-1000000000<=n/\n<=1000000000 then ak ⟨1,n⟩else ar
def Le(f:X1)(x:aX):X1:={f with at_:=min (f.at_+1) ((x.code.length:Int)-1)}
def newP(s:X2)(c:Ins):Zs X2:=
 if s.cells.length=24 then ar else ak ⟨s.frames.dropLast++(s.frames.getLast?.map fun h=>{h with regs:=h.regs.set c.a.toNat ⟨2,s.cells.length⟩}).toList,s.cells++[cc c.b.toNat ⟨0,0⟩],s.status,s.bU⟩
def uk(a:ZD aX)(pre:ZD X1)(f:X1)(cells:ZD (ZD Val))(st wh:Int)(x:aX)(c:Ins):Zs (X2×Zs Int×Ys):=
  let g:=Le f x;let r:=jS f.regs;let put:=fun(v:Val)=>(⟨pre++[{g with regs:=f.regs.set c.a.toNat v}],cells,st,wh⟩:X2);let d:=(⟨pre++[g],cells,st,wh⟩:X2);let jump:=(⟨pre++[{g with at_:=c.b}],cells,st,wh⟩:X2);let e:=fun(v:Val)=>v.kind≠2\/((cellAt cells v.n).length:Int)<=c.c
  if c.op=1 then ak (put ⟨1,c.b⟩,ar,aq)else
  if c.op=2 then ak (put (r c.b),ar,aq)else
  if c.op=3 then(opP (c.args.headD 0) (r c.b) (r c.c)).map fun v=>(put v,ar,aq)else
  if c.op=4 then(if e (r c.b)then ar else ak (put (jS (cellAt cells (r c.b).n) c.c),ar,aq))else
  if c.op=6 then(if e (r c.a)then ar else ak (⟨pre++[g],cells.set (r c.a).n.toNat ((cellAt cells (r c.a).n).set c.c.toNat (r c.b)),st,wh⟩,ar,aq))else
  if c.op=5 then(newP (if cells.length=24 then dS d else d) c).map fun t=>(t,ar,aq)else
  if c.op=7 then(if pre.length+1=10 then ar else ak (⟨pre++[g]++[⟨c.b,0,c.args.map r++cc (((idx a c.b).map (·.regs)).getD 0-c.args.length).toNat ⟨0,0⟩,c.a⟩],cells,st,wh⟩,ar,aq))else
  if c.op=8 then ak (match pre.getLast? with
    |none=>⟨[],cells,1,wh⟩
    |some h=>⟨pre.dropLast++[{h with regs:=h.regs.set f.iF.toNat (r c.a)}],cells,st,wh⟩,ar,aq)else
  if c.op=9 then(if(r c.a).kind=1 then ak (d,ak (r c.a).n,aq)else ar)else
  if c.op=11 then(if(r c.a).kind=1 then ak (⟨pre++[g],cells,3,(r c.a).n⟩,ar,aT)else ar)else
  if c.op=12 then ak (jump,ar,aq)else
  if c.op=13 then ak (if(r c.a).kind≠2/\(r c.a).n=0 then jump else d,ar,aq)else
  ak (d,ar,aT)
def R1(r:Zs (RP×Ys×X2))(q:Zs (X2×Zs Int×Ys)):Prop:=∃o a b,r=ak (o,a,b)/\match q with|none=>a=aq|some (t,said,p)=>a=aT/\b=t/\o=⟨said.isSome,said.getD 0,p⟩
theorem JR{R:Int}{r:ZD Val}(c:(r.length:Int)=R){i:Int}(h:G5 R i):idx r i=ak (jS r i)/\jS r i∈r:=by
 obtain⟨a,b⟩:=h;obtain⟨n,rfl⟩:=bs a;unfold jS;rw[xI V];exact⟨Z,cA _⟩
theorem Va(pre:ZD X1)(f:X1):idx (pre++[f]) (pre.length:Int)=ak f:=by rw[lC];simp
theorem AY(pre:ZD X1)(f g:X1):(pre++[f]).set pre.length g=pre++[g]:=by simp
theorem xY(pre:ZD X1)(f:X1):(((pre++[f]).length:Int)-1)=(pre.length:Int):=by simp
theorem mul_bd{x y:Int}(a: -1000000000<=x/\x<=1000000000)(b: -1000000000<=y/\y<=1000000000): -1000000000000000000<=x*y/\x*y<=1000000000000000000:=by
 have c:(x*y).natAbs<=1000000000*1000000000:=by
  rw[Int.natAbs_mul];exact oY V V
 omega
theorem kv.int{n:Nat}{v:Val}(h:kv n v)(a:v.kind=1): -1000000000<=v.n/\v.n<=1000000000:=by unfold kv at h;omega
theorem op_eq{n:Nat}{k:Int}{b c:Val}(q:1<=k/\k<=5)(l:kv n b)(g:kv n c):∃v,vm_op k b c=ak (v,(opP k b c).isSome)/\∀w,opP k b c=ak w->v=w:=by
  unfold vm_op opP Mr;by_cases d:k=5
  · rw[dT d,ZS,Z2 d];by_cases e:b=c
    · subst e;simp
    · rw[Z3 e];have:(ab (b.kind=c.kind)&&ab (b.n=c.n))=false:=by
        obtain⟨k1,p⟩:=b;obtain⟨k2,o⟩:=c;rw[cJ];simp at e⊢;by_cases h:k1=k2
        · right;exact e h
        · left;exact h
      rw[this];simp
  rw[dF d,Z1,Z3 d];by_cases a:b.kind=1/\c.kind=1
  · rw[show(ab ((b.kind:Int)≠1)||ab ((c.kind:Int)≠1))=aq by simp[a.1,a.2],Z1,Z3 (by simp[a.1,a.2])];have j:=l.int a.1;have c1:=g.int a.2;have m1:=mul_bd j c1;have fin:∀z:Int,∃v,ak ((⟨1,z⟩:Val),(ab ((-1000000000:Int)<=z)&&ab ((z:Int)<=1000000000)))=ak (v,(if-1000000000<=z/\z<=1000000000 then ak (⟨1,z⟩:Val)else ar).isSome)/\∀w,(if-1000000000<=z/\z<=1000000000 then ak (⟨1,z⟩:Val)else ar)=ak w->v=w:=by
      intro z;by_cases h: -1000000000<=z/\z<=1000000000
      · rw[Z2 h,dT h.1,dT h.2];exact⟨_,Z,fun w e=>by cases e;rfl⟩
      · rw[Z3 h];refine⟨⟨1,z⟩,?_,fun w e=>by cases e⟩
        · congr 2;rw[pZ,cJ];simp only[decide_eq_false_iff_not];omega
    by_cases f:k=4
    · subst f;rw[Z2 rfl];simp only[bn,decide_false,decide_true,Z1,ZS];by_cases e:b.n<c.n<;>simp[e]
    rw[Z3 f];by_cases m:k=1
    · subst m;simp only[bn,decide_true,ZS,if_true];rw[gI V V];exact fin _
    by_cases i:k=2
    · subst i;simp only[bn,decide_true,decide_false,ZS,Z1,if_true,if_false];rw[gI V V];exact fin _
    · obtain rfl:k=3:=by omega
      simp only[bn,decide_true,decide_false,ZS,Z1,if_true,if_false];rw[gI V V];exact fin _
  · rw[show(ab ((b.kind:Int)≠1)||ab ((c.kind:Int)≠1))=aT by simp;omega,ZS,Z2 V];exact⟨_,Z,fun w e=>by cases e⟩
theorem sj{a:ZD aX}{n:Nat}{f:X1}:∀{l:ZD X1} {t:Int},nV a n t (l++[f])↔nV a n t l/\(∃x,K8 a n f x)/\(0<=f.iF/\f.iF<(match l.getLast? with|none=>t|some g=>g.regs.length))
 |[],t=>by simp[nV]
 |g::l,t=>by
  show((∃x,K8 a n g x)/\(0<=g.iF/\g.iF<t)/\nV a n g.regs.length (l++[f]))↔_;rw[sj (l:=l)];have e:(match (g::l).getLast? with|none=>t|some g=>((g.regs.length:Int)))=(match l.getLast? with|none=>((g.regs.length:Int))|some g=>(g.regs.length:Int)):=by
   rw[List.getLast?_cons];cases l.getLast?<;>rfl
  rw[e];simp only[nV,and_assoc]
structure xq(a:List aX)(pre:List X1)(f:X1)(cells:List (List Val))(x:aX)(c:Ins):Prop where
 fr:K8 a cells.length f x
 ins:idx x.code f.at_=ak c
 good:Oz a x.regs x.code.length c
 chain:nV a cells.length 1 pre
 iF:0<=f.iF/\f.iF<ahead pre
 many:pre.length+1<=10
 cok:wC cells
 proc:(1<=x.regs/\x.regs<=40)/\uB x
theorem top_ok{a:ZD aX}(d:ny a){pre:ZD X1}{f:X1}{cells:ZD (ZD Val)}{st wh:Int}(h:wm a ⟨pre++[f],cells,st,wh⟩):∃x c,xq a pre f cells x c:=by
 obtain⟨j,⟨x,g⟩,i⟩:=sj.1 h.frames;have e:=d.mem g.proc;have hat:=g.at_;obtain⟨n,hn⟩:=bs hat.1;have b:n<x.code.length:=by omega
 refine⟨x,x.code[n],g,by rw[hn,xI b],d.ins x e.1 _<|cA _,j,i,?_,h.cells,⟨by omega,e.2.2.2⟩⟩;have:=h.many;simpa using this
theorem xq.Le{a:ZD aX}{pre:ZD X1}{f:X1}{cells:ZD (ZD Val)}{x:aX}{c:Ins}(h:xq a pre f cells x c):K8 a cells.length (Le f x) x where
 proc:=h.fr.proc
 at_:=by
  have:=h.fr.at_;have:=h.proc.2;unfold uB at this;simp only[YtodkbibbgakkdaaGreatDoor.Le];omega
 regs:=h.fr.regs
 vals:=h.fr.vals
theorem xq.reg{a:ZD aX}{pre:ZD X1}{f:X1}{cells:ZD (ZD Val)}{x:aX}{c:Ins}(h:xq a pre f cells x c){i:Int}(b:G5 x.regs i):idx f.regs i=ak (jS f.regs i)/\kv cells.length (jS f.regs i):=by
 have:=JR h.fr.regs b;exact⟨this.1,h.fr.vals _ this.2⟩
theorem xq.sw{a:ZD aX}{pre:ZD X1}{f:X1}{cells:ZD (ZD Val)}{x:aX}{c:Ins}(ha:ny a)(h:xq a pre f cells x c){st wh:Int}{g:X1}(hg:K8 a cells.length g x):P9 ⟨pre++[g],cells,st,wh⟩ where
  small:=⟨by have:=h.many;simp;omega,fun k hk=>by
    rcases cE.1 hk with hk|hk
    · obtain⟨y,hy⟩:=AX h.chain k hk;have:=hy.regs;have:=(ha.mem hy.proc).2.2.1;omega
    · simp at hk;subst hk;have:=hg.regs;have:=h.proc.1;omega,h.cok.1,fun c hc=>(h.cok.2 c hc).1.2⟩
  cells:=h.cok
  vals k hk:=by
    rcases cE.1 hk with hk|hk
    · obtain⟨y,hy⟩:=AX h.chain k hk;exact hy.vals
    · simp at hk;subst hk;exact hg.vals
section
variable{a:ZD aX}{pre:ZD X1}{f:X1}{cells:ZD (ZD Val)}{st wh:Int}{x:aX}{c:Ins}{N:Nat}
theorem Ey(h:xq a pre f cells x c):xV N ⟨pre++[f],cells,st,wh⟩ a=(bif ab ((c.op:Int)=1)then(idx f.regs c.a).bind fun n=>ry aq (pre++[{Le f x with regs:=(f.regs.set (c.a).toNat (⟨1,c.b⟩:Val))}]) cells st wh else bif ab ((c.op:Int)=2)then(idx f.regs c.b).bind fun i=>(idx f.regs c.a).bind fun l=>ry aq (pre++[{Le f x with regs:=(f.regs.set (c.a).toNat i)}]) cells st wh else bif ab ((c.op:Int)=3)then(idx c.args 0).bind fun k=>(idx f.regs c.b).bind fun g=>(idx f.regs c.c).bind fun e=>(vm_op k g e).bind fun d=>(idx f.regs c.a).bind fun j=>NQ ⟨pre++[f],cells,st,wh⟩ d.2 (pre++[{Le f x with regs:=(f.regs.set (c.a).toNat d.1)}])else bif ab ((c.op:Int)=4)then nI N ⟨pre++[f],cells,st,wh⟩ f x c a (ab ((c.op:Int)=4))else nI N ⟨pre++[f],cells,st,wh⟩ f x c a (ab ((c.op:Int)=6))):=by
 have o:=h.many;have hat:=h.fr.at_;have m:=h.proc.2;unfold uB at m;unfold xV;simp only[xY];rw[gI V V,Va,bnd,h.fr.proc,bnd,h.ins,bnd,gI V V,gI V V];simp only[bh,AY];rfl
theorem step1(h:xq a pre f cells x c)(b:c.op=1)(d:G5 x.regs c.a):R1 (xV N ⟨pre++[f],cells,st,wh⟩ a) (uk a pre f cells st wh x c):=by
 rw[Ey h,b];simp only[bn,decide_true,decide_false,ZS,Z1];rw[(h.reg d).1,bnd];unfold uk;simp only[b,if_true];exact⟨_,_,_,Z,Z,Z,Z⟩
theorem step2(h:xq a pre f cells x c)(d:c.op=2)(g:G5 x.regs c.a)(e:G5 x.regs c.b):R1 (xV N ⟨pre++[f],cells,st,wh⟩ a) (uk a pre f cells st wh x c):=by
 rw[Ey h,d];simp only[bn,decide_true,decide_false,ZS,Z1];rw[(h.reg e).1,bnd,(h.reg g).1,bnd];unfold uk;simp only[d,bn,if_true,if_false];exact⟨_,_,_,Z,Z,Z,Z⟩
theorem step3(h:xq a pre f cells x c)(d:c.op=3)(m:G5 x.regs c.a)(j:G5 x.regs c.b)(i:G5 x.regs c.c){n:Int}(hn:c.args=[n])(g:1<=n/\n<=5):R1 (xV N ⟨pre++[f],cells,st,wh⟩ a) (uk a pre f cells st wh x c):=by
 rw[Ey h,d,hn];simp only[bn,decide_true,decide_false,ZS,Z1];obtain⟨v,l,k⟩:=op_eq g (h.reg j).2 (h.reg i).2;rw[idx0,bnd,(h.reg j).1,bnd,(h.reg i).1,bnd,l,bnd,(h.reg m).1,bnd];unfold uk NQ;simp only[d,hn,bn,if_true,if_false,oc];cases e:opP n (jS f.regs c.b) (jS f.regs c.c)with
 |none=>exact⟨_,_,_,rfl,rfl⟩
 |some w=>rw[k w e];exact⟨_,_,_,Z,Z,Z,Z⟩
theorem idx_cell{v:Val}(b:wC cells)(h:kv cells.length v)(c:v.kind=2):idx cells v.n=ak (cellAt cells v.n)/\(1<=(cellAt cells v.n).length/\(cellAt cells v.n).length<=4):=by
 have a:=h.ref c;exact⟨(NS a).1,(b.at a).1⟩
theorem idx_fld{v:Val}{i:Int}(a:0<=i)(h:i<((cellAt cells v.n).length:Int)):idx (cellAt cells v.n) i=ak (jS (cellAt cells v.n) i):=(JR Z ⟨a,h⟩).1
theorem field_get(h:xq a pre f cells x c)(e:c.op=4)(l:G5 x.regs c.a)(k:G5 x.regs c.b)(j:0<=c.c/\c.c<4):R1 (xV N ⟨pre++[f],cells,st,wh⟩ a) (uk a pre f cells st wh x c):=by
  rw[Ey h,e];simp only[bn,decide_true,decide_false,ZS,Z1];unfold nI UO Gu Gt;simp only[xY,bh,AY,e,bn,decide_true,decide_false,ZS,Z1];have hv:=h.reg k;rw[hv.1];simp only[bnd];unfold uk;simp only[e,bn,if_true,if_false];by_cases g:(jS f.regs c.b).kind=2
  · have d:=idx_cell h.cok hv.2 g;rw[dF V,Z1,d.1];simp only[bnd];by_cases i:((cellAt cells (jS f.regs c.b).n).length:Int)<=c.c
    · rw[dT i,ZS,Z2 V];exact⟨_,_,_,Z,Z⟩
    · rw[dF i,Z1,Z3 V,idx_fld j.1 V,bnd,(h.reg l).1,bnd];exact⟨_,_,_,Z,Z,Z,Z⟩
  · rw[dT g,ZS,Z2 (.inl g)];exact⟨_,_,_,Z,Z⟩
theorem field_put(h:xq a pre f cells x c)(e:c.op=6)(l:G5 x.regs c.a)(k:G5 x.regs c.b)(j:0<=c.c/\c.c<4):R1 (xV N ⟨pre++[f],cells,st,wh⟩ a) (uk a pre f cells st wh x c):=by
  rw[Ey h,e];simp only[bn,decide_true,decide_false,ZS,Z1];unfold nI UO Gu Gt;simp only[xY,bh,AY,e,bn,decide_true,decide_false,ZS,Z1];have hv:=h.reg l;rw[hv.1];simp only[bnd];unfold uk;simp only[e,bn,if_true,if_false];by_cases g:(jS f.regs c.a).kind=2
  · have d:=idx_cell h.cok hv.2 g;rw[dF V,Z1,d.1];simp only[bnd];by_cases i:((cellAt cells (jS f.regs c.a).n).length:Int)<=c.c
    · rw[dT i,ZS,Z2 V];exact⟨_,_,_,Z,Z⟩
    · rw[dF i,Z1,Z3 V,(h.reg k).1,bnd,idx_fld j.1 V,bnd];exact⟨_,_,_,Z,Z,Z,Z⟩
  · rw[dT g,ZS,Z2 (.inl g)];exact⟨_,_,_,Z,Z⟩
theorem MJ(g:X1):dS ⟨pre++[g],cells,st,wh⟩=⟨pre.map (K9 (fM ⟨pre++[g],cells,st,wh⟩))++[K9 (fM ⟨pre++[g],cells,st,wh⟩) g],(dS ⟨pre++[g],cells,st,wh⟩).cells,st,wh⟩:=by
 unfold dS;simp
theorem sweep_len{s:X2}(h:P9 s):(dS s).cells.length<=s.cells.length/\(dS s).cells.length<=24:=by
 have a:=h.reach.1.len;have:=h.cells.1;unfold dS;simp;omega
theorem fresh_j1(e:ZD X1)(g:X1)(cs:ZD (ZD Val))(j:e.length<=20)(f:cs.length<=24)(i:G5 g.regs.length c.a)(k:1<=c.b/\c.b<=4):∃d t,Ad c (e++[g]) cs st wh=ak (d,t)/\match newP ⟨e++[g],cs,st,wh⟩ c with|none=>d=aq|some u=>d=aT/\t=u:=by
  unfold Ad newP;simp only[xY];by_cases h:cs.length=24
  · rw[dT V,ZS,Z2 h];exact⟨_,_,Z,Z⟩
  · rw[dF V,Z1,Z3 h,gI V V,Va,bnd,(JR rfl i).1,bnd,kz V,kz (room_le (by simp;omega) zq1),bh,AY];refine⟨_,_,Z,Z,?_⟩;simp
theorem step5(o:ny a)(hN:100<=N)(h:xq a pre f cells x c)(g:c.op=5)(r:G5 x.regs c.a)(n:1<=c.b/\c.b<=4):R1 (xV N ⟨pre++[f],cells,st,wh⟩ a) (uk a pre f cells st wh x c):=by
  rw[Ey h,g];simp only[bn,decide_true,decide_false,ZS,Z1];unfold nI aas;simp only[xY,bh,AY,g,bn,decide_true,decide_false,ZS,Z1];unfold uk;simp only[g,bn,if_true,if_false];have s:=h.many;have k:=xq.sw o h (st:=st) (wh:=wh) h.Le;have j:G5 (Le f x).regs.length c.a:=by have:=h.Le.regs;rw[this];exact r
  have fin:∀d:X2,(∃m t,Ad c d.frames d.cells d.status d.bU=ak (m,t)/\match newP d c with|none=>m=aq|some u=>m=aT/\t=u)->
      R1 ((Ad c d.frames d.cells d.status d.bU).bind fun y=>ak ((⟨aq,0,aq⟩:RP),y.1,y.2)) ((newP d c).map fun t=>(t,ar,aq)):=by
    rintro d⟨m,t,q,i⟩;rw[q,bnd];cases e:newP d c with
    |none=>rw[e]at i;exact⟨_,_,_,Z,i⟩
    |some u=>rw[e]at i;exact⟨_,_,_,Z,i.1,i.2,Z⟩
  by_cases l:cells.length=24
  · rw[dT V,ZS,Z2 l];have p:({f with at_:=min (f.at_+1) ((x.code.length:Int)-1)}:X1)=Le f x:=rfl;rw[p,abl hN k,bnd];refine fin _ ?_;rw[MJ];exact fresh_j1 _ _ _ (by simp;omega) (sweep_len k).2 (by simpa[K9]using j) n
  · rw[dF V,Z1,Z3 l];exact fin ⟨pre++[Le f x],cells,st,wh⟩<|fresh_j1 _ _ _ V h.cok.1 j n
theorem fill_loop{ρ:Type}{body:Int->Int->ZD Val->(ZD Val->Zs ρ)->Zs ρ}{K:ZD Val->Zs ρ}{r:Int->Val}{P:Int->Prop}
  (b:∀(i:Nat) k y nx,i<y.length->P k->body (i:Int) k y nx=nx (y.set i (r k))):∀(l:ZD Int) (a rest:ZD Val),(∀k∈l,P k)->l.length<=rest.length->ib body K (a.length:Int) l (a++rest)=K (a++l.map r++rest.drop l.length)
 |[],a,rest,_,_=>by simp[ib]
 |k::l,a,z::rest,h,hl=>by
  rw[sG,b a.length k (a++z::rest) _ zq3 (h k zq3),show(a++z::rest).set a.length (r k)=(a++[r k])++rest by simp,show((a.length:Int)+1)=((a++[r k]).length:Nat) by simp,fill_loop b l (a++[r k]) rest (fun q c=>h q (bl _ c)) (by simpa using hl)];simp
 |k::l,a,[],h,hl=>by simp at hl
theorem step7(m:ny a)(h:xq a pre f cells x c)(e:c.op=7)(A:G5 x.regs c.a){p:aX}(hp:idx a c.b=ak p)(w:(c.args.length:Int)=p.params)(g:∀k∈c.args,G5 x.regs k):R1 (xV N ⟨pre++[f],cells,st,wh⟩ a) (uk a pre f cells st wh x c):=by
  rw[Ey h,e];simp only[bn,decide_true,decide_false,ZS,Z1];unfold nI vm_call;simp only[xY,bh,AY,e,bn,decide_true,decide_false,ZS,Z1];unfold uk;simp only[e,bn,if_true,if_false];have z:=h.many;have q:=m.mem hp;by_cases l:pre.length+1=10
  · rw[dT (by simp;omega),ZS,Z2 l];exact⟨_,_,_,Z,Z⟩
  · rw[dF (by simp;omega),Z1,Z3 l,hp,bnd,kz V];have j:=fill_loop (K:=Js ⟨pre++[Le f x],cells,st,wh⟩ c a) (body:=Jr ⟨pre++[Le f x],cells,st,wh⟩) (r:=jS f.regs) (P:=fun k=>G5 x.regs k) (fun i k y n o t=>by
      unfold Jr;simp only[xY];rw[gI V V,Va,bnd];show((idx f.regs k).bind fun u=>(idx y (i:Int)).bind fun v=>n<|y.set ((i:Int)).toNat u)=_;rw[(h.reg t).1,bnd,xI o,bnd,bh]) c.args [] (cc p.regs.toNat ⟨0,0⟩) g (by simp;omega)
    have d:ib (Jr ⟨pre++[Le f x],cells,st,wh⟩) (Js ⟨pre++[Le f x],cells,st,wh⟩ c a) 0 c.args (cc p.regs.toNat ⟨0,0⟩)=_:=j;have s:({f with at_:=min (f.at_+1) ((x.code.length:Int)-1)}:X1)=Le f x:=rfl;rw[s,d];unfold Js;simp only;rw[kz (room_le (by simp;omega) zq1),bnd];refine⟨_,_,_,Z,Z,?_,Z⟩;simp only[cr,List.drop_replicate,hp,dd,dw];rw[show p.regs.toNat-c.args.length=(p.regs-(c.args.length:Int)).toNat by omega]
theorem step8(j:ny a)(h:xq a pre f cells x c)(b:c.op=8)(i:G5 x.regs c.a):R1 (xV N ⟨pre++[f],cells,st,wh⟩ a) (uk a pre f cells st wh x c):=by
  rw[Ey h,b];simp only[bn,decide_true,decide_false,ZS,Z1];unfold nI vm_back;simp only[xY,bh,AY,b,bn,decide_true,decide_false,ZS,Z1];unfold uk;simp only[b,bn,if_true,if_false];have e:=h.many;rw[(h.reg i).1,bnd,gI V V];rw[show sub? (pre++[({f with at_:=min (f.at_+1) ((x.code.length:Int)-1)}:X1)]) 0 (pre.length:Int)=ak pre by unfold sub?;rw[Z2 (by simp;omega)];simp[cut],bnd];rw[show(pre++[({f with at_:=min (f.at_+1) ((x.code.length:Int)-1)}:X1)]).take pre.length=pre by simp];rcases gk pre with hp|⟨q,g,hp⟩
  · subst hp;exact⟨_,_,_,Z,Z,Z,Z⟩
  · rw[gn]at hp;subst hp;have d:=h.iF;rw[TE]at d;simp only[bj,bq,eA]at e;rw[dF (by simp;omega),Z1,xY,gI V V,Va,bnd,(JR Z d).1,bnd,bh,AY,bnd];simp only[eE,eh,fR,fv];exact⟨_,_,_,Z,Z,Z,Z⟩
theorem MK(h:xq a pre f cells x c)(b:(c.op=9\/c.op=11\/c.op=13)/\G5 x.regs c.a\/c.op=10\/c.op=12):R1 (xV N ⟨pre++[f],cells,st,wh⟩ a) (uk a pre f cells st wh x c):=by
  rw[Ey h];rcases b with⟨b|b|b,hr⟩|b|b
  · rw[b];simp only[bn,decide_true,decide_false,ZS,Z1];unfold nI;simp only[xY,bh,AY,b,bn,decide_true,decide_false,ZS,Z1];unfold uk;simp only[b,bn,if_true,if_false];rw[(h.reg hr).1,bnd];by_cases d:(jS f.regs c.a).kind=1
    · rw[dT d,Z2 d];exact⟨_,_,_,Z,Z,Z,Z⟩
    · rw[dF d,Z3 d];exact⟨_,_,_,Z,Z⟩
  · rw[b];simp only[bn,decide_true,decide_false,ZS,Z1];unfold nI;simp only[xY,bh,AY,b,bn,decide_true,decide_false,ZS,Z1];unfold uk;simp only[b,bn,if_true,if_false];rw[(h.reg hr).1,bnd];by_cases d:(jS f.regs c.a).kind=1
    · rw[dF V,Z1,Z2 d];exact⟨_,_,_,Z,Z,Z,Z⟩
    · rw[dT d,ZS,Z3 d];exact⟨_,_,_,Z,Z⟩
  · rw[b];simp only[bn,decide_true,decide_false,ZS,Z1];unfold nI;simp only[xY,bh,AY,b,bn,decide_true,decide_false,ZS,Z1];unfold uk;simp only[b,bn,if_true,if_false];have hv:=h.reg hr;rw[hv.1,bnd];have e:=hv.2;unfold kv at e;by_cases d:(jS f.regs c.a).kind≠2/\(jS f.regs c.a).n=0
    · rw[Z2 d,show(ab ((jS f.regs c.a).kind=0)||(ab ((jS f.regs c.a).kind=1)&&ab ((jS f.regs c.a).n=0)))=aT by simp;omega,ZS];exact⟨_,_,_,Z,Z,Z,Z⟩
    · rw[Z3 d,show(ab ((jS f.regs c.a).kind=0)||(ab ((jS f.regs c.a).kind=1)&&ab ((jS f.regs c.a).n=0)))=aq by rw[da,cJ];simp only[decide_eq_false_iff_not];omega,Z1];exact⟨_,_,_,Z,Z,Z,Z⟩
  · rw[b];simp only[bn,decide_true,decide_false,ZS,Z1];unfold nI;simp only[xY,bh,AY,b,bn,decide_true,decide_false,ZS,Z1];unfold uk;simp only[b,bn,if_true,if_false];exact⟨_,_,_,Z,Z,Z,Z⟩
  · rw[b];simp only[bn,decide_true,decide_false,ZS,Z1];unfold nI;simp only[xY,bh,AY,b,bn,decide_true,decide_false,ZS,Z1];unfold uk;simp only[b,bn,if_true,if_false];exact⟨_,_,_,Z,Z,Z,Z⟩
theorem vm_step_ok(e:ny a)(hN:100<=N)(h:xq a pre f cells x c):R1 (xV N ⟨pre++[f],cells,st,wh⟩ a) (uk a pre f cells st wh x c):=by
  rcases h.good with g|g|g|g|g|g|g|g|g|g
  · exact step1 h g.1 g.2.1
  · exact step2 h g.1 g.2.1 g.2.2
  · obtain⟨g1,g2,b,d,n,i,j,k⟩:=g;exact step3 h g1 g2 b d i ⟨j,k⟩
  · obtain⟨g1|g1,g2,b,d⟩:=g
    · exact field_get h g1 g2 b d
    · exact field_put h g1 g2 b d
  · exact step5 e hN h g.1 g.2.1 g.2.2
  · obtain⟨g1,g2,⟨p,b,d⟩,i⟩:=g;exact step7 e h g1 g2 b d i
  · obtain⟨g1|g1|g1,g2⟩:=g
    · exact step8 e h g1 g2
    · exact MK h<|.inl ⟨.inl g1,g2⟩
    · exact MK h<|.inl ⟨.inr<|.inl g1,g2⟩
  · exact MK h<|.inr<|.inl g
  · exact MK h<|.inr<|.inr g.1
  · exact MK h<|.inl ⟨.inr<|.inr g.1,g.2.1⟩
end
open Go Go.Proofs Go.LX
theorem kv.up{n m:Nat}{v:Val}(h:kv n v)(a:n<=m):kv m v:=by unfold kv at*;omega
theorem K8.up{a:ZD aX}{n m:Nat}{f:X1}{x:aX}(h:K8 a n f x)(b:n<=m):K8 a m f x:=⟨h.proc,h.at_,h.regs,fun v hv=>(h.vals v hv).up b⟩
theorem Qa{a:ZD aX}{n m:Nat}(b:n<=m):∀{l:ZD X1} {t:Int},nV a n t l->nV a m t l
 |[],_,_=>trivial
 |f::l,t,h=>by obtain⟨⟨x,g⟩,c,d⟩:=h;exact⟨⟨x,g.up b⟩,c,Qa b d⟩
theorem ren_ok{n:Nat}{l:ZD Int}{v:Val}(h:kv n v)(b:v.kind=2->v.n∈l):kv l.length (ren l v):=by
  unfold ren;by_cases a:v.kind=2
  · rw[Z2 a];have:=eg<|b a;unfold kv;simp only;omega
  · rw[Z3 a];unfold kv at*;omega
theorem K8.ren{a:ZD aX}{n:Nat}{l:ZD Int}{f:X1}{x:aX}(h:K8 a n f x)(hr:kr f.regs l):K8 a l.length (K9 l f) x where
 proc:=h.proc
 at_:=h.at_
 regs:=by unfold K9;simpa using h.regs
 vals v hv:=by
  unfold K9 at hv;simp only[ec]at hv;obtain⟨w,hw,rfl⟩:=hv;exact ren_ok (h.vals w hw)<|hr w hw
theorem Vb{a:ZD aX}{n:Nat}{r:ZD Int}:∀{l:ZD X1} {t:Int},nV a n t l->(∀f∈l,kr f.regs r)->nV a r.length t (l.map (K9 r))
 |[],_,_,_=>trivial
 |f::l,t,h,hr=>by
  obtain⟨⟨x,g⟩,b,d⟩:=h;refine⟨⟨x,g.ren<|hr f zq3⟩,b,?_⟩;have:=Vb d fun k c=>hr k<|bl _ c;simpa[K9]using this
theorem Qb{s:X2}(h:P9 s):wC (dS s).cells:=by
 have d:=h.reach;have g:=d.1.len;have hn:=h.cells.1;refine⟨by simp[dS];omega,fun c b=>?_⟩;unfold dS at b⊢;simp only[ec,cH]at b⊢;obtain⟨k,f,rfl⟩:=b;have a:=h.cells.at<|d.1.2 k f;refine⟨by simpa using a.1,fun v hv=>?_⟩;obtain⟨w,e,rfl⟩:=ec.1 hv;exact ren_ok (a.2 w e)<|d.2.2 k f w e
theorem Vd{a:ZD aX}(ha:ny a){s:X2}(h:wm a s):wm a (dS s) where
 status:=h.status
 bU:=h.bU
 stay:=h.stay
 ended:=by rw[show(dS s).status=s.status from rfl,h.ended];simp[dS]
 many:=by simpa[dS]using h.many
 cells:=Qb (h.sw ha)
 frames:=by
  have hr:=(h.sw ha).reach;have:=Vb h.frames<|JQ hr.2.1;simpa[dS]using this
theorem set_vals{n:Nat}{r:ZD Val}{i:Nat}{v:Val}(h:∀w∈r,kv n w)(hv:kv n v):∀w∈r.set i v,kv n w:=fun w a=>by
  rcases kt a with a|rfl
  · exact h w a
  · exact hv
section
variable{a:ZD aX}{pre:ZD X1}{f:X1}{cells:ZD (ZD Val)}{wh:Int}{x:aX}{c:Ins}{N:Nat}
theorem xq.st(h:xq a pre f cells x c){g:X1}{y:aX}{cs:ZD (ZD Val)}{s w:Int}(hg:K8 a cs.length g y)(hto:g.iF=f.iF)(hc:wC cs)(hl:cells.length<=cs.length)(hs:(s=0/\w=0)\/(s=3/\ -1000000000<=w/\w<=1000000000)):wm a ⟨pre++[g],cs,s,w⟩ where
 status:=by simp only;omega
 bU:=by simp only;omega
 stay:=by simp only;omega
 ended:=by simp;omega
 many:=by have:=h.many;simp;omega
 cells:=hc
 frames:=sj.2 ⟨Qa hl h.chain,⟨y,hg⟩,by rw[hto];exact h.iF⟩
theorem opP_ok{n:Nat}{k:Int}{b c v:Val}(a:1<=k/\k<=5)(h:opP k b c=ak v):kv n v:=by
  unfold opP at h;split at h
  · cases h;split<;>(unfold kv;simp)
  split at h
  · cases h
  split at h
  · cases h;split<;>(unfold kv;simp)
  simp only at h;generalize (if k=1 then b.n+c.n else if k=2 then b.n-c.n else b.n*c.n)=z at h;split at h
  · rename_i hz;cases h;exact .inr (.inl ⟨Z,hz.1,hz.2⟩)
  · cases h
theorem K8.put{n:Nat}{f:X1}{x:aX}(h:K8 a n f x){i:Nat}{v:Val}(hv:kv n v):K8 a n {f with regs:=f.regs.set i v} x:=⟨h.proc,h.at_,by simpa using h.regs,set_vals h.vals hv⟩
theorem K8.jump{n:Nat}{f:X1}{x:aX}(h:K8 a n f x){b:Int}(c:0<=b/\b<x.code.length):K8 a n {f with at_:=b} x:=⟨h.proc,c,h.regs,h.vals⟩
theorem newP_ok{s t:X2}{g:X1}(h:newP ⟨pre++[g],cells,0,wh⟩ c=ak t)(f:wm a ⟨pre++[g],cells,0,wh⟩)(o:1<=c.b/\c.b<=4):wm a t/\t.status=0:=by
  unfold newP at h;split at h
  · cases h
  rename_i k;simp only[fv,eE,eh,fR,dd,qe]at h k;cases h;obtain⟨n,⟨x,l⟩,m⟩:=sj.1 f.frames;have j:=f.cells;simp only at n l m j;have e:cells.length<=(cells++[cc c.b.toNat (⟨0,0⟩:Val)]).length:=by simp
  refine⟨⟨f.status,f.bU,f.stay,by simp,by simpa using f.many,⟨?_,?_⟩,sj.2 ⟨Qa e n,⟨x,(l.up e).put ?_⟩,m⟩⟩,Z⟩
  · have:=j.1;simp;omega
  · intro d i;rcases cE.1 i with i|i
    · have:=j.2 d i;exact⟨this.1,fun v hv=>(this.2 v hv).up e⟩
    · simp at i;subst i;refine⟨by simp;omega,fun v hv=>?_⟩;have:=fy hv;subst this;unfold kv;simp
  · unfold kv;simp;try omega
theorem step_keeps(M:ny a)(h:xq a pre f cells x c)(R:wh=0){t:X2}{z:Zs Int}{p:Ys}(i:uk a pre f cells 0 wh x c=ak (t,z,p)):
    wm a t/\(t.status=0\/t.status=1/\p=aq\/t.status=3/\p=aT)/\(z.isSome->t.status=0/\c.op=9):=by
  subst R;have j:=h.Le;have o:∀{v:Val},kv cells.length v->wm a ⟨pre++[{Le f x with regs:=f.regs.set c.a.toNat v}],cells,0,0⟩:=fun hv=>h.st (j.put hv) Z h.cok (bE _)<|.inl ⟨Z,Z⟩;have C:wm a ⟨pre++[Le f x],cells,0,0⟩:=h.st j Z h.cok (bE _)<|.inl ⟨Z,Z⟩;have r:(0<=c.b/\c.b<x.code.length)->wm a ⟨pre++[{Le f x with at_:=c.b}],cells,0,0⟩:=fun m=>h.st (j.jump m) Z h.cok (bE _)<|.inl ⟨Z,Z⟩;unfold uk at i;rcases h.good with g|g|g|g|g|g|g|g|g|g
  · obtain⟨e,w,m⟩:=g;simp only[e,bn,if_true,if_false]at i;cases i;exact⟨o<|.inr<|.inl ⟨Z,m.1,m.2⟩,.inl Z,by simp⟩
  · obtain⟨e,w,m⟩:=g;simp only[e,bn,if_true,if_false]at i;cases i;exact⟨o (h.reg m).2,.inl Z,by simp⟩
  · obtain⟨e,w,m,N,n,hn,I⟩:=g;simp only[e,hn,bn,if_true,if_false,oc]at i;obtain⟨v,hv,i⟩:=pd.1 i;cases i;exact⟨o<|opP_ok I hv,.inl Z,by simp⟩
  · obtain⟨e,w,m,N⟩:=g;rcases e with e|e
    · simp only[e,bn,if_true,if_false]at i;split at i
      · cases i
      · rename_i E;cases i;have A:(jS f.regs c.b).kind=2:=by omega
        have hv:=(h.reg m).2;have l:=h.cok.at<|hv.ref A;exact⟨o<|l.2 _ (JR Z ⟨N.1,by omega⟩).2,.inl Z,by simp⟩
    · simp only[e,bn,if_true,if_false]at i;split at i
      · cases i
      · rename_i E;cases i;have A:(jS f.regs c.a).kind=2:=by omega
        have hv:=(h.reg w).2;have l:=h.cok.at<|hv.ref A;refine⟨h.st (by simpa using j) Z ⟨by simpa using h.cok.1,fun d K=>?_⟩ zq3<|.inl ⟨Z,Z⟩,.inl Z,by simp⟩;rw[List.length_set];rcases kt K with K|rfl
        · exact h.cok.2 d K
        · exact⟨by simpa using l.1,set_vals l.2 (h.reg m).2⟩
  · obtain⟨e,w,m⟩:=g;simp only[e,bn,if_true,if_false]at i;obtain⟨u,G,i⟩:=pd.1 i;cases i;split at G
    · have F:=Vd M C;rw[MJ]at G F;have:=newP_ok (s:=t) G F m;exact⟨this.1,.inl this.2,by simp⟩
    · have:=newP_ok (s:=t) G C m;exact⟨this.1,.inl this.2,by simp⟩
  · obtain⟨e,w,⟨S,hp,X⟩,B⟩:=g;simp only[e,bn,if_true,if_false]at i;split at i
    · cases i
    · rename_i Q;cases i;have L:=M.mem hp;have O:=h.many;refine⟨⟨by simp,by simp,by simp,by simp,by simp;omega,h.cok,sj.2 ⟨C.frames,⟨S,⟨hp,?_,?_,?_⟩⟩,?_⟩⟩,.inl Z,by simp⟩
      · have:=L.2.2.2;unfold uB at this;simp only;omega
      · simp only[hp,dd,dw,bj,cH,jI];omega
      · intro v hv;rcases cE.1 hv with hv|hv
        · obtain⟨k,A,rfl⟩:=ec.1 hv;exact(h.reg<|B k A).2
        · have:=fy hv;subst this;unfold kv;simp
      · simp only[eE,eh,fR];have T:=j.regs;rw[T];exact w
  · obtain⟨e,w⟩:=g;rcases e with e|e|e
    · simp only[e,bn,if_true,if_false]at i;rcases gk pre with hp|⟨q,g,hp⟩
      · subst hp;simp only[List.getLast?_nil]at i;cases i;exact⟨⟨by simp,by simp,by simp,by simp,by simp,h.cok,U⟩,.inr<|.inl ⟨Z,Z⟩,by simp⟩
      · rw[gn]at hp;subst hp;simp only[eE,eh,fR,fv]at i;cases i;obtain⟨c1,⟨y,c2⟩,P⟩:=sj.1 h.chain;have O:=h.many;simp only[bj,bq,eA]at O;exact⟨⟨by simp,by simp,by simp,by simp,by simp;omega,h.cok,sj.2 ⟨c1,⟨y,c2.put (h.reg w).2⟩,P⟩⟩,.inl Z,by simp⟩
    · simp only[e,bn,if_true,if_false]at i;split at i
      · cases i;exact⟨C,.inl Z,fun _=>⟨Z,e⟩⟩
      · cases i
    · simp only[e,bn,if_true,if_false]at i;split at i
      · rename_i A;cases i;exact⟨h.st j Z h.cok (bE _)<|.inr ⟨Z,(h.reg w).2.int A⟩,.inr<|.inr ⟨Z,Z⟩,by simp⟩
      · cases i
  · simp only[g,bn,if_true,if_false]at i;cases i;exact⟨C,.inl Z,by simp⟩
  · obtain⟨e,m⟩:=g;simp only[e,bn,if_true,if_false]at i;cases i;exact⟨r m,.inl Z,by simp⟩
  · obtain⟨e,w,m⟩:=g;simp only[e,bn,if_true,if_false]at i;cases i;split
    · exact⟨r m,.inl Z,by simp⟩
    · exact⟨C,.inl Z,by simp⟩
end
open Go Go.Proofs Go.LX
def insOf(a:ZD aX)(f:X1):Zs (aX×Ins):=(idx a f.proc).bind fun x=>(idx x.code f.at_).map fun c=>(x,c)
def Aj(a:ZD aX)(s:X2):Zs (X2×Zs Int×Ys):=
 s.frames.getLast?.bind fun f=>(insOf a f).bind fun q=>uk a s.frames.dropLast f s.cells s.status s.bU q.1 q.2
def MM(a:ZD aX)(s:X2):Int:=((s.frames.getLast?.bind fun f=>insOf a f).map fun q=>q.2.op).getD 0
def xE(a:ZD aX):Nat->ZD Int->Nat->X2->X2×ZD Int×Nat
 |0,said,n,s=>(s,said,n)
 |m+1,said,n,s=>
  if s.status≠0 then(s,said,n)else
  if said.length=40/\MM a s=9 then(s,said,n)else
  match Aj a s with
  |none=>({s with status:=2},said,n+1)
  |some (t,o,p)=>if p then(t,said++o.toList,n+1)else xE a m (said++o.toList) (n+1) t
theorem IA{a:ZD aX}(d:ny a){s:X2}(h:wm a s)(b:s.status=0):∃pre f x c,s=⟨pre++[f],s.cells,0,0⟩/\xq a pre f s.cells x c/\Aj a s=uk a pre f s.cells 0 0 x c/\MM a s=c.op:=by
  obtain⟨fr,cells,st,wh⟩:=s;simp only at b;subst b;have e:wh=0:=h.stay zq3;subst e;rcases gk fr with hp|⟨pre,f,hp⟩
  · have:=h.ended.2 hp;simp at this
  · rw[gn]at hp;subst hp;obtain⟨x,c,g⟩:=top_ok d h;refine⟨pre,f,x,c,Z,g,?_,?_⟩
    · unfold Aj insOf;simp only[eE,eh,fR,fv,bnd,g.fr.proc,g.ins,dd]
    · unfold MM insOf;simp only[eE,eh,fR,bnd,g.fr.proc,g.ins,dd,dw]
theorem vm_step_P{a:ZD aX}(b:ny a){s:X2}(h:wm a s)(e:s.status=0){N:Nat}(hN:100<=N):R1 (xV N s a) (Aj a s):=by
 obtain⟨pre,f,x,c,i,d,g,-⟩:=IA b h e;rw[g];generalize s.cells=cells at*;subst i;exact vm_step_ok b hN d
theorem Ak{a:ZD aX}(b:ny a){s:X2}(h:wm a s)(j:s.status=0){t:X2}{o:Zs Int}{p:Ys}(d:Aj a s=ak (t,o,p)):
  wm a t/\(t.status=0\/t.status=1/\p=aq\/t.status=3/\p=aT)/\(o.isSome->t.status=0/\MM a s=9):=by
 obtain⟨pre,f,x,c,k,g,e,i⟩:=IA b h j;rw[e]at d;rw[i];exact step_keeps b g Z d
theorem top_reads{a:ZD aX}(e:ny a){s:X2}(h:wm a s)(g:s.status=0):(s.frames.length<=10/\1<=s.frames.length)/\∃f x c,idx s.frames ((s.frames.length:Int)-1)=ak f/\idx a f.proc=ak x/\idx x.code f.at_=ak c/\c.op=MM a s:=by
 obtain⟨pre,f,x,c,d,b,j,i⟩:=IA e h g;refine⟨⟨h.many,by rw[d];simp⟩,f,x,c,?_,b.fr.proc,b.ins,i.symm⟩;have:s.frames=pre++[f]:=by rw[d]
 rw[this,xY,Va]
theorem fail_ok{a:ZD aX}{s:X2}(h:wm a s)(c:s.status=0):wm a {s with status:=2}:=by
  have b:s.bU=0:=h.stay V;refine⟨by simp,h.bU,fun _=>b,?_,h.many,h.cells,h.frames⟩;constructor
  · intro e;simp at e
  · intro e;have:=h.ended.2 e;omega
theorem run_loop{a:ZD aX}(u:ny a){N:Nat}(hN:100<=N)(c:Int):∀(m M:Nat) (b:ZD Int) (n:Nat) (s:X2),wm a s->b.length<=40->c=(n:Int)+m->c<=2000->m<M->
    again (Cs N c a) M (b,(n:Int),s.frames,s.cells,s.status,s.bU)=ak ((xE a m b n s).1,(xE a m b n s).2.1,((xE a m b n s).2.2:Int),0)
  |m,0,b,n,s,h,hl,hc,hb,hM=>by omega
  |0,M+1,b,n,s,h,hl,hc,hb,hM=>by
    rw[Ig];unfold Cs Dc xE;simp only;rw[show(ab ((n:Int)<c)&&ab ((s.status:Int)=0))=aq by rw[dF V];rfl,Z1]
  |m+1,M+1,b,n,s,h,hl,hc,hb,hM=>by
    rw[Ig];have A:=run_loop u hN c m M;generalize again (Cs N c a) M=K at A⊢;unfold Cs xE;simp only;by_cases j:s.status=0
    · rw[dT V,dT j,nj,ZS,Z3 V];obtain⟨L,f,x,i,C,I,G,F⟩:=top_reads u h j;rw[gI V V,C,bnd];have go:JA N b n s.frames s.cells s.status s.bU a K aq=ak (match Aj a s with
          |none=>({s with status:=2},b,((n+1:Nat):Int),0)
          |some (t,o,p)=>if p then(t,b++o.toList,((n+1:Nat):Int),0)else((xE a m (b++o.toList) (n+1) t).1,(xE a m (b++o.toList) (n+1) t).2.1,((xE a m (b++o.toList) (n+1) t).2.2:Int),0))\/(b.length=40/\MM a s=9):=by
        by_cases d:b.length=40/\MM a s=9
        · exact .inr d
        left;unfold JA;rw[Z1,show(⟨s.frames,s.cells,s.status,s.bU⟩:X2)=s from rfl,copy_eq (h.small u),bnd];obtain⟨o,O,k,E,v⟩:=vm_step_P u h j hN;rw[E,bnd,gI V V];cases eq:Aj a s with
        |none=>
          rw[eq]at v;simp only at v;subst v;simp only[iS,ZS];unfold Dc
          push_cast;rfl
        |some q=>
          obtain⟨t,o2,p⟩:=q;rw[eq]at v;obtain⟨rfl,rfl,rfl⟩:=v;have B:=Ak u h j eq;simp only[ea,Z1];have fin:∀l,l=b++o2.toList->l.length<=40->Jz (⟨o2.isSome,o2.getD 0,p⟩,aT,k) n K l=ak (if p then(k,b++o2.toList,((n+1:Nat):Int),0)else((xE a m (b++o2.toList) (n+1) k).1,(xE a m (b++o2.toList) (n+1) k).2.1,((xE a m (b++o2.toList) (n+1) k).2.2:Int),0)):=by
            intro l w y;subst w;unfold Jz Dc;simp only;cases p with
            |true=>rw[ZS,Z2 Z];push_cast;rfl
            |false=>
              rw[Z1,Z3 zq3];have:=A (b++o2.toList) (n+1) k B.1 y (by push_cast;omega) hb V;rw[<-this];push_cast;rfl
          cases o2 with
          |none=>
            simp only[pZ,Z1];exact fin b zq3 hl
          |some z=>
            have r:=(B.2.2 Z).2;simp only[Option.isSome_some,ZS];rw[kz (room_le (by simp;omega) zq1)];exact fin (b++[z]) zq3 (by simp;omega)
      by_cases g:b.length=40
      · rw[dT V,ZS,I,bnd,G,bnd,F];by_cases r:MM a s=9
        · rw[Z2 ⟨g,r⟩,dT r];rfl
        · rw[Z3 (fun e=>r e.2),dF r];rcases go with go|go
          · rw[go];cases Aj a s with
            |none=>rfl
            |some q=>obtain⟨t,o,p⟩:=q;cases p<;>rfl
          · exact ZJ go.2 r
      · rw[dF V,Z1,Z3 (fun e=>g e.1)];rcases go with go|go
        · rw[go];cases Aj a s with
          |none=>rfl
          |some q=>obtain⟨t,o,p⟩:=q;cases p<;>rfl
        · exact ZJ go.1 g
    · rw[dF j,Bool.and_false,Z1,Z2 j];rfl
theorem XP{a:ZD aX}(i:ny a):∀(m:Nat) (b:ZD Int) (n:Nat) (s:X2),wm a s->b.length<=40->
    wm a (xE a m b n s).1/\(xE a m b n s).2.1.length<=40/\n<=(xE a m b n s).2.2/\(xE a m b n s).2.2<=n+m/\b<+:(xE a m b n s).2.1/\(xE a m b n s).2.1.length<=b.length+((xE a m b n s).2.2-n)/\((xE a m b n s).2.2=n->(xE a m b n s).1=s)
  |0,b,n,s,h,hl=>⟨h,hl,bE _,bE _,ct _,by simp[xE],fun _=>rfl⟩
  |m+1,b,n,s,h,hl=>by
    unfold xE;by_cases f:s.status=0
    · rw[Z3 V];by_cases d:b.length=40/\MM a s=9
      · rw[Z2 d];exact⟨h,hl,bE _,by simp,ct _,by simp,fun _=>rfl⟩
      · rw[Z3 d];cases eq:Aj a s with
        |none=>exact⟨fail_ok h f,hl,by simp,by simp,ct _,by simp,fun e=>by simp at e⟩
        |some q=>
          obtain⟨t,o,p⟩:=q;have g:=Ak i h f eq;have c:(b++o.toList).length<=40:=by
            cases o with
            |none=>simpa using hl
            |some z=>have w:=(g.2.2 Z).2;simp;omega
          have ho:o.toList.length<=1:=by cases o<;>simp
          simp only;split
          · exact⟨g.1,c,by simp,by simp,fk _ _,by show(b++o.toList).length<=b.length+(n+1-n);rw[bj];omega,fun e=>by simp at e⟩
          · obtain⟨r,k,v,u,l,j,x⟩:=XP i m (b++o.toList) (n+1) t g.1 c;refine⟨r,k,by omega,by omega,(fk _ _).trans l,?_,fun e=>by omega⟩;rw[bj]at j;omega
    · rw[Z2 f];exact⟨h,hl,bE _,by simp,ct _,by simp,fun _=>rfl⟩
theorem vm_Run_eq(a:ZD aX)(s:X2)(c:Int){N:Nat}(hN:3000<=N):Xu N a s c=ak (if KD a≠0 then(⟨[],[],0,0⟩,[],0,KD a)else if ckS a s≠0 then(⟨[],[],0,0⟩,[],0,ckS a s)else if c<0\/2000<c then(⟨[],[],0,0⟩,[],0,3)else if s.status≠0 then(⟨[],[],0,0⟩,[],0,7)else((xE a c.toNat [] 0 s).1,(xE a c.toNat [] 0 s).2.1,((xE a c.toNat [] 0 s).2.2:Int),0)):=by
  unfold Xu;rw[KE,bnd];by_cases b:KD a=0
  · rw[Z3 V,Z3 V];by_cases e:ckS a s=0
    · rw[dF V,Z1,Z3 V];by_cases d:c<0\/2000<c
      · rw[show(ab ((c:Int)<0)||ab ((2000:Int)<c))=aT by rw[dy];simp only[decide_eq_true_eq];exact d,ZS,Z2 d]
      · rw[show(ab ((c:Int)<0)||ab ((2000:Int)<c))=aq by rw[da];simp only[decide_eq_false_iff_not];omega,Z1,Z3 d];by_cases h:s.status=0
        · rw[dF V,Z1,Z3 V];have f:=nU b;have g:=JO.1 e;rw[copy_eq (g.small f),bnd];have:=run_loop f (N:=N) V c c.toNat N [] 0 s g zq3 V V V;exact this
        · rw[dT h,ZS,Z2 h]
    · rw[dT e,ZS,Z2 e]
  · rw[Z2 b,Z2 b,dT b,ZS]
theorem vm_Wake_eq(a:ZD aX)(s:X2):UN a s=ak (if KD a≠0 then(⟨[],[],0,0⟩,KD a)else if ckS a s≠0 then(⟨[],[],0,0⟩,ckS a s)else if s.status≠3 then(⟨[],[],0,0⟩,7)else(⟨s.frames,s.cells,0,0⟩,0)):=by
  unfold UN;rw[KE,bnd];by_cases b:KD a=0
  · rw[Z3 V,Z3 V];by_cases c:ckS a s=0
    · rw[dF V,Z1,Z3 V];by_cases d:s.status=3
      · rw[dF V,Z1,Z3 V,copy_eq ((JO.1 c).small (nU b)),bnd]
      · rw[dT d,ZS,Z2 d]
    · rw[dT c,ZS,Z2 c]
  · rw[Z2 b,Z2 b,dT b,ZS]
def uU(a:ZD aX):X2:=⟨[⟨0,0,cc (((idx a 0).map (fun x:aX=>x.regs)).getD 0).toNat ⟨0,0⟩,0⟩],[],0,0⟩
theorem abm{a:ZD aX}(b:ny a):∃x,idx a 0=ak x:=by
 have:=b.many;cases a with
 |nil=>simp at this
 |cons x l=>exact⟨x,idx0 x l⟩
theorem vm_New_eq(a:ZD aX):aan a=ak (if KD a≠0 then(⟨[],[],0,0⟩,KD a)else(uU a,0)):=by
  unfold aan;rw[XK,bnd];by_cases b:KD a=0
  · rw[dF V,Z1,Z3 V];obtain⟨x,c⟩:=abm<|nU b;have:=((nU b).mem c).2.2.1;rw[c,bnd,kz V];unfold uU;rw[c];rfl
  · rw[dT b,ZS,Z2 b]
theorem abn{a:ZD aX}(d:ny a):wm a (uU a):=by
  obtain⟨x,b⟩:=abm d;have g:=d.mem b;have f:=g.2.2.2;unfold uB at f;refine⟨by simp[uU],by simp[uU],by simp[uU],by simp[uU],by simp[uU],⟨by simp[uU],fun c e=>by simp[uU]at e⟩,⟨x,b,by simp only;omega,?_,fun v hv=>?_⟩,by simp,trivial⟩
  · simp only[b,dd,dw,jI];omega
  · have:=fy hv;subst this;unfold kv;simp
def xu(ρ:Int->Int)(v:Val):Val:=if v.kind=2 then⟨v.kind,ρ v.n⟩else v
def nz(ρ:Int->Int)(f:X1):X1:={f with regs:=f.regs.map (xu ρ)}
structure YQ(ρ:Int->Int)(R:List Int)(s t:X2):Prop where
 frames:t.frames=s.frames.map (nz ρ)
 status:t.status=s.status
 bU:t.bU=s.bU
 roots:kr (YtodkbibbgakkdaaGreatDoor.roots s.frames) R
 range:∀x∈R,0<=x/\x<s.cells.length
 range':∀x∈R,0<=ρ x/\ρ x<t.cells.length
 inj:∀x∈R,∀y∈R,ρ x=ρ y->x=y
 cells:∀x∈R,cellAt t.cells (ρ x)=(cellAt s.cells x).map (xu ρ)/\kr (cellAt s.cells x) R
theorem Dh(ρ:Int->Int)(v:Val):(xu ρ v).kind=v.kind:=by unfold xu;split<;>rfl
theorem Ve(ρ:Int->Int){v:Val}(h:v.kind=2):xu ρ v=⟨v.kind,ρ v.n⟩:=Z2 h
theorem KF(ρ:Int->Int){v:Val}(h:v.kind≠2):xu ρ v=v:=Z3 h
section
variable{ρ:Int->Int}{R:ZD Int}{s t:X2}
theorem mem_map_inj(d:∀x∈R,∀y∈R,ρ x=ρ y->x=y){l:ZD Int}(c:∀x∈l,x∈R){x:Int}(b:x∈R):ρ x∈l.map ρ↔x∈l:=by
  constructor
  · intro h;obtain⟨y,a,e⟩:=ec.1 h;rw[<-d y (c y a) x b e];exact a
  · exact fun h=>List.mem_map_of_mem h
theorem RA(a:∀x∈R,∀y∈R,ρ x=ρ y->x=y):∀{l:ZD Int},(∀x∈l,x∈R)->∀{x:Int},x∈R->(l.map ρ).idxOf (ρ x)=l.idxOf x
  |[],_,x,_=>rfl
  |y::l,hl,x,hx=>by
    rw[cg,ta,ta,RA a (fun z hz=>hl z (bl _ hz)) hx];by_cases e:y=x
    · subst e;simp
    · have b:ρ y≠ρ x:=fun h=>e<|a y (hl y zq3) x hx h;rw[show(ρ y==ρ x)=aq by simpa using b,show(y==x)=aq by simpa using e]
theorem metV_map(f:∀x∈R,∀y∈R,ρ x=ρ y->x=y){l:ZD Int}(d:∀x∈l,x∈R){v:Val}(hv:v.kind=2->v.n∈R):U7 (l.map ρ) (xu ρ v)=(U7 l v).map ρ/\∀x∈U7 l v,x∈R:=by
  unfold U7;by_cases a:v.kind=2
  · rw[Ve ρ a];simp only[a,true_and];have c:=mem_map_inj f d<|hv a;by_cases e:v.n∈l
    · rw[Z3 (fun h=>h (c.2 e)),Z3 (fun h=>h e)];exact⟨Z,d⟩
    · rw[Z2 (fun h=>e (c.1 h)),Z2 e];refine⟨by simp,fun x b=>?_⟩;rcases cE.1 b with b|b
      · exact d x b
      · simp at b;subst b;exact hv a
  · rw[KF ρ a,Z3 (fun h=>a h.1),Z3 (fun h=>a h.1)];exact⟨Z,d⟩
theorem abo(a:∀x∈R,∀y∈R,ρ x=ρ y->x=y):∀{vs:ZD Val} {l:ZD Int},(∀x∈l,x∈R)->kr vs R->U8 (l.map ρ) (vs.map (xu ρ))=(U8 l vs).map ρ/\∀x∈U8 l vs,x∈R
 |[],l,hl,_=>⟨rfl,hl⟩
 |v::vs,l,hl,hv=>by
  obtain⟨d,b⟩:=metV_map a hl<|hv v zq3;rw[cg,QV,QV,d];exact abo a b fun w c=>hv w<|bl _ c
theorem YQ.bfs(h:YQ ρ R s t):∀(m k:Nat) (l:ZD Int),(∀x∈l,x∈R)->bfs t.cells m k (l.map ρ)=(bfs s.cells m k l).map ρ/\∀x∈bfs s.cells m k l,x∈R
  |0,k,l,hl=>⟨rfl,hl⟩
  |m+1,k,l,hl=>by
    unfold YtodkbibbgakkdaaGreatDoor.bfs;by_cases a:k<l.length
    · rw[dif_pos a,dif_pos (by simpa using a)];have c:=hl _<|cA a;have b:=h.cells _ c;rw[sk,b.1];obtain⟨e,d⟩:=abo h.inj hl b.2;rw[e];exact YQ.bfs h m (k+1) _ d
    · rw[dif_neg a,dif_neg (by simpa using a)];exact⟨Z,hl⟩
theorem roots_map(ρ:Int->Int):∀fr:ZD X1,YtodkbibbgakkdaaGreatDoor.roots (fr.map (nz ρ))=(YtodkbibbgakkdaaGreatDoor.roots fr).map (xu ρ)
 |[]=>rfl
 |f::fr=>by
  have:=roots_map ρ fr;unfold YtodkbibbgakkdaaGreatDoor.roots at*;rw[cg,gA,gA,cL,this];rfl
theorem YQ.reach(h:YQ ρ R s t):fM t=(fM s).map ρ/\∀x∈fM s,x∈R:=by
 unfold fM P7;rw[h.frames,roots_map];obtain⟨a,c⟩:=abo h.inj (l:=[]) (fun x b=>by cases b) h.roots;rw[et]at a;rw[a];exact h.bfs 25 0 _ c
theorem ren_map(h:YQ ρ R s t){v:Val}(hv:v.kind=2->v.n∈R):ren (fM t) (xu ρ v)=ren (fM s) v:=by
  unfold ren;rw[Dh];by_cases a:v.kind=2
  · rw[Z2 a,Z2 a,Ve ρ a,h.reach.1,RA h.inj h.reach.2 (hv a)]
  · rw[Z3 a,Z3 a,KF ρ a]
theorem Al{α β:Type}{f g:α->β}:∀{l:ZD α},(∀x∈l,f x=g x)->l.map f=l.map g:=fun h=>List.map_congr_left h
theorem YQ.sweep(h:YQ ρ R s t):dS t=dS s:=by
 have b:t.frames.map (K9<|fM t)=s.frames.map (K9<|fM s):=by
  rw[h.frames,ke];refine Al fun f d=>?_;have:(f.regs.map<|xu ρ).map (ren<|fM t)=f.regs.map (ren<|fM s):=by
   rw[ke];exact Al fun v hv=>ren_map h<|JQ h.roots f d v hv
  show K9 (fM t) (nz ρ f)=K9 (fM s) f;unfold K9 nz;simp only[this]
 have a:(fM t).map (fun k=>(cellAt t.cells k).map<|ren<|fM t)=(fM s).map (fun k=>(cellAt s.cells k).map<|ren<|fM s):=by
  conv=>lhs;rw[h.reach.1]
  rw[ke];refine Al fun k e=>?_;have c:=h.cells k<|h.reach.2 k e;show(cellAt t.cells<|ρ k).map (ren _)=_;rw[c.1,ke,<-h.reach.1];exact Al fun v hv=>ren_map h<|c.2 v hv
 unfold dS;rw[b,a,h.status,h.bU]
end
theorem NT{cells:ZD (ZD Val)}{i:Nat}(h:i<cells.length):cellAt cells (i:Int)=cells[i]:=by unfold cellAt;rw[xI h];rfl
theorem iso_sweep{s:X2}(h:P9 s):YQ (fun x=>((fM s).idxOf x:Nat)) (fM s) s (dS s) where
 frames:=rfl
 status:=rfl
 bU:=rfl
 roots:=h.reach.2.1
 range:=h.reach.1.2
 range' x hx:=by
  have:=eg hx;simp only[dS,cH];omega
 inj x hx y hy e:=by
  have e':(fM s).idxOf x=(fM s).idxOf y:=by omega
  have h1:=ia<|eg hx;have h2:=ia<|eg hy;rw[<-h1,<-h2];simp only[e']
 cells x hx:=by
  have hlt:=eg hx;refine⟨?_,h.reach.2.2 x hx⟩;rw[NT (by simpa[dS]using hlt)];simp only[dS,sk];rw[ia hlt];rfl
theorem NU{s:X2}(h:P9 s):dS (dS s)=dS s:=(iso_sweep h).sweep
open Go Go.Proofs Go.LX
theorem map_eq_map{α β:Type}{f g:α->β}{k:α->α}:∀{l m:ZD α},l.map f=m.map g->(∀x∈l,∀y∈m,f x=g y->y=k x)->m=l.map k
 |[],[],_,_=>rfl
 |[],y::m,h,_=>by simp at h
 |x::l,[],h,_=>by simp at h
 |x::l,y::m,h,hk=>by
  rw[cg,cg,km]at h;rw[cg,hk x zq3 y zq3 h.1,map_eq_map h.2 (fun a c b d=>hk a (bl _ c) b (bl _ d))]
theorem ren_eq{l m:ZD Int}(c:l.length=m.length){v w:Val}(hv:v.kind=2->v.n∈l)(i:w.kind=2->w.n∈m)(h:ren l v=ren m w):w=xu (fun x=>m[l.idxOf x]?.getD 0) v:=by
  obtain⟨k,n⟩:=v;obtain⟨e,f⟩:=w;unfold ren at h;by_cases b:k=2
  · subst b;by_cases a:e=2
    · subst a;simp only[if_true,Val.mk.injEq,true_and]at h;have g:l.idxOf n=m.idxOf f:=by omega
      have d:=eg<|i Z;unfold xu;simp only[if_true];rw[g,bc d,dw,ia d]
    · simp only[if_true,Z3 a,Val.mk.injEq]at h;exact ZJ h.1.symm a
  · by_cases a:e=2
    · subst a;simp only[if_true,Z3 b,Val.mk.injEq]at h;exact ZJ h.1 b
    · simp only[Z3 b,Z3 a]at h;unfold xu;simp only[Z3 b];exact h.symm
theorem nodup_inj{l:ZD Int}(h:l.Nodup){i j:Nat}(b:i<l.length)(a:j<l.length)(e:l[i]=l[j]):i=j:=by
  rcases Nat.lt_trichotomy i j with hlt|rfl|hlt
  · exact ZJ e<|pa.1 h i j b a hlt
  · rfl
  · exact ZJ e.symm<|pa.1 h j i a b hlt
theorem Vf{s t:X2}(q:P9 s)(B:P9 t)(h:dS s=dS t):YQ (fun x=>(fM t)[(fM s).idxOf x]?.getD 0) (fM s) s t:=by
  have d:(fM s).length=(fM t).length:=by
    have:=ZL (fun u:X2=>u.cells.length) h;simpa[dS]using this
  have K:s.frames.map (K9<|fM s)=t.frames.map (K9<|fM t):=ZL (fun u:X2=>u.frames) h;have L:(fM s).map (fun k=>(cellAt s.cells k).map<|ren<|fM s)=(fM t).map (fun k=>(cellAt t.cells k).map<|ren<|fM t):=ZL (fun u:X2=>u.cells) h;have c:∀x∈fM s,∃i,∃(l:i<(fM s).length) (m:i<(fM t).length),(fM s).idxOf x=i/\(fM s)[i]=x/\(fM t)[(fM s).idxOf x]?.getD 0=(fM t)[i]:=by
    intro x b;have l:=eg b;refine⟨_,l,by omega,Z,ia l,?_⟩;rw[bc V,dw]
  refine⟨?_,?_,?_,q.reach.2.1,q.reach.1.2,?_,?_,?_⟩
  · refine map_eq_map K fun f F g C e=>?_;have O:f.regs.map (ren<|fM s)=g.regs.map (ren<|fM t):=ZL (fun u:X1=>u.regs) e;have G:=map_eq_map (k:=xu fun x=>(fM t)[(fM s).idxOf x]?.getD 0) O fun v hv w E e=>ren_eq d (JQ q.reach.2.1 f F v hv) (JQ B.reach.2.1 g C w E) e;obtain⟨p,a,r,o⟩:=f;obtain⟨R,a',Q,T⟩:=g;simp only[K9,LX.Frame.mk.injEq]at e;simp only at G;unfold nz;simp only[LX.Frame.mk.injEq];exact⟨e.1.symm,e.2.1.symm,G,e.2.2.2.symm⟩
  · exact(ZL (fun u:X2=>u.status) h).symm
  · exact(ZL (fun u:X2=>u.bU) h).symm
  · intro x b;obtain⟨i,l,m,I,A,z⟩:=c x b;rw[z];exact B.reach.1.2 _<|cA _
  · intro x b y N e;obtain⟨i,l,m,I,A,z⟩:=c x b;obtain⟨j,g1,g2,S,P,M⟩:=c y N;rw[z,M]at e;have:i=j:=nodup_inj B.reach.1.1 m g2 e;subst this;rw[<-A,<-P]
  · intro x b;obtain⟨i,l,m,I,A,z⟩:=c x b;refine⟨?_,q.reach.2.2 x b⟩;rw[z];have n:(cellAt s.cells (fM s)[i]).map (ren<|fM s)=(cellAt t.cells (fM t)[i]).map (ren<|fM t):=by
      have:=ZL (fun u:ZD (ZD Val)=>u[i]?) L;simp only[ej,bc l,bc m,dd,eJ]at this;exact this
    rw[A]at n;exact map_eq_map n fun v hv w E e=>ren_eq d (q.reach.2.2 x b v hv) (B.reach.2.2 _ (cA _) w E) e
section
variable{a:ZD aX}{ρ:Int->Int}{R:ZD Int}{s t:X2}
theorem YQ.mk'(h:YQ ρ R s t){fr:ZD X1}(a:kr (YtodkbibbgakkdaaGreatDoor.roots fr) R)(st wh:Int):YQ ρ R ⟨fr,s.cells,st,wh⟩ ⟨fr.map (nz ρ),t.cells,st,wh⟩:=
 ⟨rfl,rfl,rfl,a,h.range,h.range',h.inj,h.cells⟩
theorem abp{cells:ZD (ZD Val)}{k j:Int}{c:ZD Val}(b:0<=k/\k<cells.length)(a:0<=j/\j<cells.length):cellAt (cells.set k.toNat c) j=if j=k then c else cellAt cells j:=by
  obtain⟨n,rfl⟩:=bs b.1;obtain⟨m,rfl⟩:=bs a.1;unfold cellAt;rw[bh,lC,lC,List.getElem?_set];by_cases e:n=m
  · subst e;rw[Z2 rfl,Z2 V,Z2 rfl];rfl
  · rw[Z3 e,Z3 V]
theorem Vg{vs:ZD Val}{i:Nat}{v:Val}(h:kr vs R)(hv:v.kind=2->v.n∈R):kr (vs.set i v) R:=fun w a b=>by
  rcases kt a with a|rfl
  · exact h w a b
  · exact hv b
theorem YQ.put(h:YQ ρ R s t){fr:ZD X1}(d:kr (YtodkbibbgakkdaaGreatDoor.roots fr) R){k:Int}(c:k∈R){i:Nat}{v:Val}(hv:v.kind=2->v.n∈R)(st wh:Int):
    YQ ρ R ⟨fr,s.cells.set k.toNat ((cellAt s.cells k).set i v),st,wh⟩ ⟨fr.map (nz ρ),t.cells.set (ρ k).toNat ((cellAt t.cells (ρ k)).set i (xu ρ v)),st,wh⟩:=by
  refine⟨Z,Z,Z,d,fun x a=>by simpa using h.range x a,fun x a=>by simpa using h.range' x a,h.inj,fun x a=>?_⟩;simp only;rw[abp (h.range' k c) (h.range' x a),abp (h.range k c) (h.range x a)];have b:=h.cells x a;by_cases e:x=k
  · subst e;rw[Z2 rfl,Z2 rfl,b.1,hJ];exact⟨Z,Vg b.2 hv⟩
  · rw[Z3 e,Z3 (fun q=>e (h.inj x a k c q))];exact b
theorem renFr_congr{a:Int->Int}{f:X1}(c:kr f.regs R)(d:∀x∈R,a x=ρ x):nz a f=nz ρ f:=by
  unfold nz;have:f.regs.map (xu a)=f.regs.map (xu ρ):=Al (fun v hv=>by
    unfold xu;by_cases b:v.kind=2
    · rw[Z2 b,Z2 b,d _ (c v hv b)]
    · rw[Z3 b,Z3 b])
  rw[this]
theorem abq{a:Int->Int}{vs:ZD Val}(c:kr vs R)(d:∀x∈R,a x=ρ x):vs.map (xu a)=vs.map (xu ρ):=Al (fun v hv=>by
    unfold xu;by_cases b:v.kind=2
    · rw[Z2 b,Z2 b,d _ (c v hv b)]
    · rw[Z3 b,Z3 b])
theorem abr{cells:ZD (ZD Val)}{z:ZD Val}{k:Int}(a:0<=k/\k<cells.length):cellAt (cells++[z]) k=cellAt cells k:=by
 obtain⟨n,rfl⟩:=bs a.1;rw[NT (by simp;omega),NT V,List.getElem_append_left V]
theorem Yw{cells:ZD (ZD Val)}{z:ZD Val}:cellAt (cells++[z]) (cells.length:Int)=z:=by
 rw[NT zq3];simp
theorem Di(p:ZD X1)(f:X1):roots (p++[f])=roots p++f.regs:=by unfold roots;simp
theorem kr.app{u v:ZD Val}:kr (u++v) R↔kr u R/\kr v R:=⟨fun h=>⟨fun w a=>h w (List.mem_append_left _ a),fun w a=>h w (List.mem_append_right _ a)⟩,fun h w a=>(cE.1 a).elim (h.1 w) (h.2 w)⟩
theorem YQ.new{p:ZD X1}{f:X1}{cells cs:ZD (ZD Val)}{st wh:Int}{q:ZD X1}{u:X1}(h:YQ ρ R ⟨p++[f],cells,st,wh⟩ ⟨q++[u],cs,st,wh⟩)(i:Nat)(z:Nat):
    dS ⟨q++[{u with regs:=u.regs.set i ⟨2,cs.length⟩}],cs++[cc z ⟨0,0⟩],st,wh⟩=dS ⟨p++[{f with regs:=f.regs.set i ⟨2,cells.length⟩}],cells++[cc z ⟨0,0⟩],st,wh⟩:=by
  have s:=h.frames;simp only[cL,cg,et]at s;obtain⟨B,v⟩:=sl s Z;simp only[km,and_true]at v;subst B v;have o:=h.roots;simp only[Di,kr.app]at o;have d:=h.range;have b:=h.range';simp only at d b;have r:∀x∈R,x≠cells.length:=fun x a=>by have:=d x a;omega
  let j:Int->Int:=fun x=>if x=cells.length then cs.length else ρ x
  have c:∀x∈R,j x=ρ x:=fun x a=>Z3<|r x a;have n:j cells.length=cs.length:=Z2 Z;have I:YQ j ((cells.length:Int)::R) ⟨p++[{f with regs:=f.regs.set i ⟨2,cells.length⟩}],cells++[cc z ⟨0,0⟩],st,wh⟩ ⟨p.map (nz ρ)++[{nz ρ f with regs:=(nz ρ f).regs.set i ⟨2,cs.length⟩}],cs++[cc z ⟨0,0⟩],st,wh⟩:=by
    refine⟨?_,Z,Z,?_,?_,?_,?_,?_⟩
    · simp only[cL,cg,et];congr 1
      · exact Al fun g A=>(renFr_congr (JQ o.1 g A) c).symm
      · unfold nz;simp only[hJ];rw[abq o.2 c];congr 2;simp only[xu,if_true,n]
    · simp only[Di,kr.app];refine⟨fun w k l=>bl _<|o.1 w k l,Vg (fun w k l=>bl _<|o.2 w k l) (fun _=>by simp)⟩
    · intro x a;simp only[bj,bq,eA];rcases bm.1 a with rfl|a
      · omega
      · have:=d x a;omega
    · intro x a;simp only[bj,bq,eA];rcases bm.1 a with rfl|a
      · rw[n];omega
      · rw[c x a];have:=b x a;omega
    · intro x a y m e;rcases bm.1 a with rfl|a<;>rcases bm.1 m with rfl|m
      · rfl
      · rw[n,c y m]at e;have:=b y m;omega
      · rw[n,c x a]at e;have:=b x a;omega
      · rw[c x a,c y m]at e;exact h.inj x a y m e
    · intro x a;simp only;rcases bm.1 a with rfl|a
      · rw[n,Yw,Yw];refine⟨by simp[xu],fun w k l=>?_⟩;have:=fy k;subst this;simp at l
      · rw[c x a,abr (d x a),abr (b x a)];have t:=h.cells x a;rw[abq t.2 c];exact⟨t.1,fun w k l=>bl _<|t.2 w k l⟩
  exact I.sweep
end
def Sim(x y:Zs (X2×Zs Int×Ys)):Prop:=match x,y with
 |none,ar=>True
 |some (s,o,p),ak (t,o',p')=>o=o'/\p=p'/\dS s=dS t
 |_,_=>False
section
variable{a:ZD aX}{ρ:Int->Int}{R:ZD Int}{pre:ZD X1}{f:X1}{cells cs:ZD (ZD Val)}{x:aX}{c:Ins}
theorem regAt_map{r:ZD Val}{n:Int}(a:(r.length:Int)=n){i:Int}(h:G5 n i):jS (r.map (xu ρ)) i=xu ρ (jS r i):=by
 obtain⟨k,rfl⟩:=bs h.1;have:=h.2;unfold jS;rw[lC,lC,ej,bc V];rfl
theorem opP_ren{k:Int}{b d:Val}(s:∀x∈R,∀y∈R,ρ x=ρ y->x=y)(p:b.kind=2->b.n∈R)(r:d.kind=2->d.n∈R):opP k (xu ρ b) (xu ρ d)=opP k b d/\∀v,opP k b d=ak v->v.kind=1:=by
  obtain⟨k1,a⟩:=b;obtain⟨k2,c⟩:=d;have o:∀v,opP k ⟨k1,a⟩ ⟨k2,c⟩=ak v->v.kind=1:=by
    intro v h;unfold opP at h;split at h
    · cases h;rfl
    split at h
    · cases h
    split at h
    · cases h;rfl
    simp only at h;generalize (if k=1 then a+c else if k=2 then a-c else a*c)=z at h;split at h
    · cases h;rfl
    · cases h
  refine⟨?_,o⟩;unfold opP;by_cases l:k=5
  · rw[Z2 l,Z2 l];have:(xu ρ ⟨k1,a⟩=xu ρ ⟨k2,c⟩)↔((⟨k1,a⟩:Val)=⟨k2,c⟩):=by
      unfold xu;simp only;by_cases g:k1=2
      · by_cases f:k2=2
        · rw[Z2 g,Z2 f];simp only[Val.mk.injEq];constructor
          · rintro⟨i,j⟩;exact⟨i,s _ (p g) _ (r f) j⟩
          · rintro⟨i,j⟩;exact⟨i,by rw[j]⟩
        · rw[Z2 g,Z3 f];simp only[Val.mk.injEq];constructor<;>(rintro⟨i,j⟩;omega)
      · by_cases f:k2=2
        · rw[Z3 g,Z2 f];simp only[Val.mk.injEq];constructor<;>(rintro⟨i,j⟩;omega)
        · rw[Z3 g,Z3 f]
    by_cases e:(⟨k1,a⟩:Val)=⟨k2,c⟩
    · rw[Z2 e,Z2 (this.2 e)]
    · rw[Z3 e,Z3 (fun q=>e (this.1 q))]
  · rw[Z3 l,Z3 l,Dh,Dh];by_cases m:k1≠1\/k2≠1
    · rw[Z2 m,Z2 m]
    · rw[Z3 m,Z3 m];have g:xu ρ ⟨k1,a⟩=⟨k1,a⟩:=KF ρ (by simp only;omega);have f:xu ρ ⟨k2,c⟩=⟨k2,c⟩:=KF ρ (by simp only;omega);rw[g,f]
theorem put_ren(i:Nat)(v:Val)(g:X1):({nz ρ g with regs:=(nz ρ g).regs.set i (xu ρ v)}:X1)=nz ρ {g with regs:=g.regs.set i v}:=by unfold nz;simp only[hJ]
end
open Go Go.Proofs Go.LX
section
variable{a:ZD aX}{ρ:Int->Int}{R:ZD Int}{pre:ZD X1}{f:X1}{cells cs:ZD (ZD Val)}{x:aX}{c:Ins}
theorem Cu{p:X2}{q:X2}{o:Zs Int}{b:Ys}(h:YQ ρ R p q):Sim (ak (p,o,b)) (ak (q,o,b)):=⟨rfl,rfl,h.sweep.symm⟩
theorem newP_top(p:ZD X1)(g:X1)(d:ZD (ZD Val))(st wh:Int):newP ⟨p++[g],d,st,wh⟩ c=if d.length=24 then ar else ak ⟨p++[{g with regs:=g.regs.set c.a.toNat ⟨2,d.length⟩}],d++[cc c.b.toNat ⟨0,0⟩],st,wh⟩:=by
 unfold newP;simp only[fv,eE,eh,fR,dd,qe]
theorem step_sim(ha:ny a)(h:xq a pre f cells x c)(h2:xq a (pre.map (nz ρ)) (nz ρ f) cs x c)(hI:YQ ρ R ⟨pre++[f],cells,0,0⟩ ⟨(pre++[f]).map (nz ρ),cs,0,0⟩):
    Sim (uk a pre f cells 0 0 x c) (uk a (pre.map (nz ρ)) (nz ρ f) cs 0 0 x c):=by
  have z:=hI.roots;simp only[Di,kr.app]at z;have m:∀{i:Int},G5 x.regs i->jS (nz ρ f).regs i=xu ρ (jS f.regs i):=fun hi=>regAt_map h.fr.regs hi;have l:∀{i:Int},G5 x.regs i->(jS f.regs i).kind=2->(jS f.regs i).n∈R:=fun hi j=>z.2 _ (JR h.fr.regs hi).2 j
  --a frame on C
  have C:∀(g:X1) (st wh:Int),kr g.regs R->YQ ρ R ⟨pre++[g],cells,st,wh⟩ ⟨pre.map (nz ρ)++[nz ρ g],cs,st,wh⟩:=by
    intro g st wh hg;have:=hI.mk' (fr:=pre++[g]) (by simp only[Di,kr.app];exact⟨z.1,hg⟩) st wh;simpa using this
  have u:∀(i:Nat) (v:Val),(v.kind=2->v.n∈R)->YQ ρ R ⟨pre++[{Le f x with regs:=f.regs.set i v}],cells,0,0⟩ ⟨pre.map (nz ρ)++[{Le (nz ρ f) x with regs:=(nz ρ f).regs.set i (xu ρ v)}],cs,0,0⟩:=by
    intro i v hv;have:=C {Le f x with regs:=f.regs.set i v} 0 0<|Vg z.2 hv;have e:({Le (nz ρ f) x with regs:=(nz ρ f).regs.set i (xu ρ v)}:X1)=nz ρ {Le f x with regs:=f.regs.set i v}:=put_ren i v<|Le f x;rw[e];exact this
  have N:YQ ρ R ⟨pre++[Le f x],cells,0,0⟩ ⟨pre.map (nz ρ)++[Le (nz ρ f) x],cs,0,0⟩:=C (Le f x) 0 0 z.2;have A:YQ ρ R ⟨pre++[{Le f x with at_:=c.b}],cells,0,0⟩ ⟨pre.map (nz ρ)++[{Le (nz ρ f) x with at_:=c.b}],cs,0,0⟩:=C {Le f x with at_:=c.b} 0 0 z.2;unfold uk;rcases h.good with g|g|g|g|g|g|g|g|g|g
  · obtain⟨d,w,s⟩:=g;simp only[d,bn,if_true,if_false];exact Cu (by have:=u c.a.toNat ⟨1,c.b⟩ zq3;simpa[xu]using this)
  · obtain⟨d,w,s⟩:=g;simp only[d,bn,if_true,if_false];rw[m s];exact Cu<|u _ _<|l s
  · obtain⟨d,w,s,L,n,hn,a2⟩:=g;simp only[d,hn,bn,if_true,if_false,oc];rw[m s,m L];obtain⟨X,e2⟩:=opP_ren (k:=n) hI.inj (l s)<|l L;rw[X];cases e:opP n (jS f.regs c.b) (jS f.regs c.c)with
    |none=>trivial
    |some v=>
      have j:=e2 v e;have:=u c.a.toNat v V;rw[KF ρ V]at this;exact Cu this
  · obtain⟨d,w,s,L⟩:=g;rcases d with d|d
    · simp only[d,bn,if_true,if_false];rw[m s,Dh];by_cases j:(jS f.regs c.b).kind=2
      · have hin:=l s j;have y:=hI.cells _ hin;simp only at y;rw[Ve ρ j];simp only[j];rw[y.1,cH];by_cases M:((cellAt cells (jS f.regs c.b).n).length:Int)<=c.c
        · rw[Z2 (.inr M),Z2 (.inr M)];trivial
        · rw[Z3 (by simp;omega),Z3 (by simp;omega)];have P:G5 ((cellAt cells (jS f.regs c.b).n).length:Int) c.c:=⟨L.1,by omega⟩;rw[regAt_map rfl P];exact Cu<|u _ _<|y.2 _ (JR Z P).2
      · rw[Z2 (.inl j),Z2 (.inl j)];trivial
    · simp only[d,bn,if_true,if_false];rw[m w,m s,Dh];by_cases j:(jS f.regs c.a).kind=2
      · have hin:=l w j;have y:=hI.cells _ hin;simp only at y;rw[Ve ρ j];simp only[j];have t:(cellAt cs<|ρ (jS f.regs c.a).n).length=(cellAt cells (jS f.regs c.a).n).length:=by rw[y.1,cH]
        rw[t];by_cases M:((cellAt cells (jS f.regs c.a).n).length:Int)<=c.c
        · rw[Z2 (.inr M),Z2 (.inr M)];trivial
        · rw[Z3 (by simp;omega),Z3 (by simp;omega)];have:=hI.put (fr:=pre++[Le f x]) (by simp only[Di,kr.app];exact z) hin (i:=c.c.toNat) (l s) 0 0;simp only[cL,cg,et]at this;exact Cu this
      · rw[Z2 (.inl j),Z2 (.inl j)];trivial
  · obtain⟨d,w,s⟩:=g;simp only[d,bn,if_true,if_false];have S:=xq.sw ha h (st:=0) (wh:=0) h.Le;have a0:=xq.sw ha h2 (st:=0) (wh:=0) h2.Le;have hE:=N.sweep;have t:(fM ⟨pre.map (nz ρ)++[Le (nz ρ f) x],cs,0,0⟩).length=(fM ⟨pre++[Le f x],cells,0,0⟩).length:=by rw[N.reach.1,cH]
    --what is left of each
    have K:∀(p:ZD X1) (g:X1) (F:ZD (ZD Val)),P9 ⟨p++[g],F,0,0⟩->∃p' g' G,(if F.length=24 then dS ⟨p++[g],F,0,0⟩else(⟨p++[g],F,0,0⟩:X2))=⟨p'++[g'],G,0,0⟩/\P9 ⟨p'++[g'],G,0,0⟩/\dS ⟨p'++[g'],G,0,0⟩=dS ⟨p++[g],F,0,0⟩/\(G.length=24↔(fM ⟨p++[g],F,0,0⟩).length=24):=by
      intro p g F o;have T:=o.reach.1.len;by_cases r:F.length=24
      · rw[Z2 r];refine⟨_,_,_,MJ g,?_,?_,?_⟩
        · rw[<-MJ];refine⟨⟨by simpa[dS]using o.small.frames,?_,(sweep_len o).2,fun c L=>((Qb o).2 c L).1.2⟩,Qb o,?_⟩
          · intro k j;simp only[dS,ec]at j;obtain⟨Q,E,rfl⟩:=j;simpa[K9]using o.small.regs Q E
          · intro k j v hv;simp only[dS,ec]at j;obtain⟨Q,E,rfl⟩:=j;simp only[K9,ec]at hv;obtain⟨v0,O,rfl⟩:=hv;have:=ren_ok (o.vals Q E v0 O)<|JQ o.reach.2.1 Q E v0 O;simpa[dS]using this
        · rw[<-MJ,NU o]
        · simp[dS]
      · rw[Z3 r];refine⟨p,g,F,Z,o,Z,?_⟩;simp only at T;have:=o.cells.1;simp only at this;omega
    obtain⟨p1,g1,d1,X,w1,s1,l1⟩:=K pre (Le f x) cells S;obtain⟨p2,g2,d2,e2,w2,s2,l2⟩:=K (pre.map<|nz ρ) (Le (nz ρ f) x) cs a0;rw[X,e2,newP_top,newP_top];by_cases r:d1.length=24
    · rw[Z2 r,Z2 (by rw[l2,t,<-l1];exact r)];trivial
    · rw[Z3 r,Z3 (by rw[l2,t,<-l1];exact r)];have J:=Vf w1 w2 (by rw[s1,s2,hE]);exact⟨Z,Z,(J.new c.a.toNat c.b.toNat).symm⟩
  · obtain⟨d,w,⟨p1,hp,M⟩,B⟩:=g;simp only[d,bn,if_true,if_false,cH];by_cases I:pre.length+1=10
    · rw[Z2 I,Z2 I];trivial
    · rw[Z3 I,Z3 I];have hm:c.args.map (jS (nz ρ f).regs)=(c.args.map<|jS f.regs).map (xu ρ):=by
        rw[ke];exact Al fun k j=>m<|B k j
      have hz:∀n:Nat,(cc n (⟨0,0⟩:Val)).map (xu ρ)=cc n ⟨0,0⟩:=by intro n;rw[List.map_replicate];rfl
      have:=hI.mk' (fr:=pre++[Le f x]++[⟨c.b,0,c.args.map (jS f.regs)++cc (((idx a c.b).map (·.regs)).getD 0-c.args.length).toNat ⟨0,0⟩,c.a⟩]) (by
        simp only[Di,kr.app];refine⟨z,fun v hv j=>?_,fun v hv j=>?_⟩
        · obtain⟨k,a1,rfl⟩:=ec.1 hv;exact l (B k a1) j
        · have:=fy hv;subst this;simp at j) 0 0
      simp only[cL,cg,et]at this;rw[hm];have e:nz ρ ⟨c.b,0,c.args.map (jS f.regs)++cc (((idx a c.b).map (·.regs)).getD 0-c.args.length).toNat ⟨0,0⟩,c.a⟩=⟨c.b,0,(c.args.map<|jS f.regs).map (xu ρ)++cc (((idx a c.b).map (·.regs)).getD 0-c.args.length).toNat ⟨0,0⟩,c.a⟩:=by
        unfold nz;simp only[cL,hz]
      rw[e]at this;exact Cu this
  · obtain⟨d,w⟩:=g;rcases d with d|d|d
    · simp only[d,bn,if_true,if_false];rcases gk pre with hp|⟨q,g,hp⟩
      · subst hp;have:=hI.mk' (fr:=[]) (fun v hv=>by cases hv) 1 0;exact Cu this
      · rw[gn]at hp;subst hp;simp only[cL,cg,et,eE,eh,fR,fv];rw[m w];simp only[Di,kr.app]at z;have:=hI.mk' (fr:=q++[{g with regs:=g.regs.set f.iF.toNat (jS f.regs c.a)}]) (by
          simp only[Di,kr.app];exact⟨z.1.1,Vg z.1.2 (l w)⟩) 0 0
        simp only[cL,cg,et]at this;rw[<-put_ren]at this;exact Cu this
    · simp only[d,bn,if_true,if_false];rw[m w,Dh];by_cases j:(jS f.regs c.a).kind=1
      · rw[Z2 j,Z2 j,KF ρ V];exact Cu N
      · rw[Z3 j,Z3 j];trivial
    · simp only[d,bn,if_true,if_false];rw[m w,Dh];by_cases j:(jS f.regs c.a).kind=1
      · rw[Z2 j,Z2 j,KF ρ V];exact Cu<|C (Le f x) 3 _ z.2
      · rw[Z3 j,Z3 j];trivial
  · simp only[g,bn,if_true,if_false];exact Cu N
  · obtain⟨d,s⟩:=g;simp only[d,bn,if_true,if_false];exact Cu A
  · obtain⟨d,w,s⟩:=g;simp only[d,bn,if_true,if_false];rw[m w,Dh];by_cases j:(jS f.regs c.a).kind=2
    · rw[Z3 (by simp[j]),Z3 (by simp[j])];exact Cu N
    · rw[KF ρ j];by_cases hz:(jS f.regs c.a).n=0
      · rw[Z2 ⟨j,hz⟩,Z2 ⟨j,hz⟩];exact Cu A
      · rw[Z3 (fun e=>hz e.2),Z3 (fun e=>hz e.2)];exact Cu N
end
open Go Go.Proofs Go.LX
theorem fail_sweep{s t:X2}(h:dS s=dS t)(k:Int):dS {s with status:=k}=dS {t with status:=k}:=ZL (fun u:X2=>{u with status:=k}) h
theorem wake_sweep{s t:X2}(h:dS s=dS t)(k w:Int):dS ⟨s.frames,s.cells,k,w⟩=dS ⟨t.frames,t.cells,k,w⟩:=ZL (fun u:X2=>(⟨u.frames,u.cells,k,w⟩:X2)) h
theorem stepP_sim{a:ZD aX}(d:ny a){s t:X2}(q:wm a s)(p:wm a t)(r:s.status=0)(w:dS s=dS t):Sim (Aj a s) (Aj a t)/\MM a s=MM a t:=by
 have I:=Vf (q.sw d) (p.sw d) w;generalize (fun x=>(fM t)[(fM s).idxOf x]?.getD 0)=ρ at I;have h:t.status=0:=by rw[I.status];exact r
 obtain⟨pre,f,x,c,B,n,k,l⟩:=IA d q r;obtain⟨e,A,x',v,E,T2,m,i⟩:=IA d p h;have b:=I.frames;have u:s.frames=pre++[f]:=by rw[B]
 have C:t.frames=e++[A]:=by rw[E]
 rw[u,C]at b;simp only[cL,cg,et]at b;obtain⟨hp,o⟩:=sl b Z;simp only[km,and_true]at o;subst hp o;have y:x'=x:=by
  have j:=n.fr.proc;have g:idx a f.proc=ak x':=T2.fr.proc;rw[j]at g;exact(osi g).symm
 subst y;have z:v=c:=by
  have j:=n.ins;have g:idx x'.code f.at_=ak v:=T2.ins;rw[j]at g;exact(osi g).symm
 subst z;refine⟨?_,by rw[l,i]⟩;rw[k,m];refine step_sim d n T2 (R:=fM s) ?_;exact I.mk' (fr:=pre++[f]) (by have:=I.roots;rw[u]at this;exact this) 0 0
def iter(a:ZD aX):Nat->X2->X2×ZD Int
 |0,s=>(s,[])
 |n+1,s=>if s.status≠0 then(s,[])else match Aj a s with
  |none=>({s with status:=2},[])
  |some (t,o,_)=>((iter a n t).1,o.toList++(iter a n t).2)
theorem run_iter{a:ZD aX}:∀(m:Nat) (b:ZD Int) (n:Nat) (s:X2),∃k,k<=m/\xE a m b n s=((iter a k s).1,b++(iter a k s).2,n+k)/\(∀j,j<k->(iter a j s).1.status=0)/\(1<=m->s.status=0->b=[]->1<=k)
  |0,b,n,s=>⟨0,bE _,by simp[xE,iter],fun j c=>ZJ c (eM _),fun h=>ZJ h V⟩
  |m+1,b,n,s=>by
    unfold xE;by_cases g:s.status≠0
    · rw[Z2 g];exact⟨0,by omega,by simp[iter],fun j c=>ZJ c<|eM _,fun _ h=>ZJ h g⟩
    · rw[Z3 g];by_cases f:b.length=40/\MM a s=9
      · rw[Z2 f];exact⟨0,by omega,by simp[iter],fun j c=>ZJ c (eM _),fun _ _ h=>by subst h;simp at f⟩
      · rw[Z3 f];have d:s.status=0:=ep.1 g;cases e:Aj a s with
        |none=>
          refine⟨1,by omega,?_,fun j c=>?_,fun _ _ _=>bE _⟩
          · unfold iter;rw[Z3 g,e];simp
          · obtain rfl:j=0:=by omega
            exact d
        |some q=>
          obtain⟨t,o,p⟩:=q;have i:∀q,iter a (q+1) s=((iter a q t).1,o.toList++(iter a q t).2):=fun q=>by
            conv=>lhs;unfold iter
            rw[Z3 g,e]
          simp only;cases p with
          |true=>
            refine⟨1,by omega,?_,fun j c=>?_,fun _ _ _=>bE _⟩
            · rw[i];simp[iter]
            · obtain rfl:j=0:=by omega
              exact d
          |false=>
            obtain⟨k,k1,k2,l,-⟩:=run_iter m (b++o.toList) (n+1) t;refine⟨k+1,by omega,?_,fun j c=>?_,fun _ _ _=>by omega⟩
            · simp only[cv,if_false];rw[k2,i];simp only[ck];congr 2;omega
            · cases j with
              |zero=>exact d
              |succ j=>rw[i];exact l j V
def abu(l:ZD Val):ZD Int:=l.flatMap fun v=>[v.kind,v.n]
def rowP(l:ZD Val):ZD Int:=(l.length:Int)::abu l
def frP(f:X1):ZD Int:=f.proc::f.at_::f.iF::rowP f.regs
def vY(s:X2):ZD Int:=s.status::s.bU::(s.frames.length:Int)::(s.frames.flatMap frP++(s.cells.length:Int)::s.cells.flatMap rowP)
def Rdr(α:Type):=ZD Int->Zs (α×ZD Int)
def yC{α:Type}(x:α):Rdr α:=fun l=>ak (x,l)
def iQ{α β:Type}(R:Rdr α)(f:α->Rdr β):Rdr β:=fun l=>(R l).bind fun q=>f q.1 q.2
def Ih:Rdr Int:=fun l=>match l with
 |[]=>ar
 |x::r=>ak (x,r)
def um(m:Int):Rdr Nat:=fun l=>match l with
 |[]=>ar
 |x::r=>if 0<=x/\x<=m then ak (x.toNat,r)else ar
def kL{α:Type}(R:Rdr α):Nat->Rdr (ZD α)
 |0=>yC []
 |n+1=>iQ R fun x=>iQ (kL R n) fun l=>yC (x::l)
def Y2:Rdr Val:=iQ Ih fun k=>iQ Ih fun n=>yC ⟨k,n⟩
def Ez(m:Int):Rdr (ZD Val):=iQ (um m) fun n=>kL Y2 n
def TF:Rdr X1:=iQ Ih fun p=>iQ Ih fun a=>iQ Ih fun t=>iQ (Ez 40) fun r=>yC ⟨p,a,r,t⟩
def TG:Rdr X2:=iQ Ih fun s=>iQ Ih fun w=>iQ (um 10) fun n=>iQ (kL TF n) fun f=>iQ (um 24) fun k=>iQ (kL (Ez 4) k) fun c=>yC ⟨f,c,s,w⟩
theorem NV{α:Type}{R:Rdr α}{g:α->ZD Int}:∀(l:ZD α) (t:ZD Int),(∀x∈l,∀t,R (g x++t)=ak (x,t))->kL R l.length (l.flatMap g++t)=ak (l,t)
 |[],t,_=>rfl
 |x::l,t,h=>by
  show(R<|g x++l.flatMap g++t).bind _=_;rw[ck,h x zq3,cM];show(kL R l.length<|l.flatMap g++t).bind _=_;rw[NV l t (fun y a=>h y (bl _ a)),cM];rfl
theorem rRow_row{m:Nat}(l:ZD Val)(h:l.length<=m)(t:ZD Int):Ez m (rowP l++t)=ak (l,t):=by
 unfold Ez iQ rowP um;simp only[ew];rw[Z2 V,cM,bh];exact NV l t fun v _ t=>rfl
theorem rFr_fr(f:X1)(h:f.regs.length<=40)(t:ZD Int):TF (frP f++t)=ak (f,t):=by
 show((Ez (40:Nat)<|rowP f.regs++t).bind fun q=>yC (⟨f.proc,f.at_,q.1,f.iF⟩:X1) q.2)=_;rw[rRow_row f.regs h];rfl
theorem abv{s:X2}(h:Small s)(t:ZD Int):TG (vY s++t)=ak (s,t):=by
 have k:=h.frames;have j:=h.cells;show((um 10 ((s.frames.length:Int)::((s.frames.flatMap frP++(s.cells.length:Int)::s.cells.flatMap rowP)++t))).bind fun q=>(kL TF q.1 q.2).bind fun b=>(um 24 b.2).bind fun d=>(kL (Ez 4) d.1 d.2).bind fun a=>yC (⟨b.1,a.1,s.status,s.bU⟩:X2) a.2)=_;rw[show um 10 ((s.frames.length:Int)::((s.frames.flatMap frP++(s.cells.length:Int)::s.cells.flatMap rowP)++t))=ak (s.frames.length,(s.frames.flatMap frP++(s.cells.length:Int)::s.cells.flatMap rowP)++t) by
  show(if _ then _ else _)=_;rw[Z2 V,bh],cM]
 simp only;rw[ck,NV s.frames _ (fun f e t=>rFr_fr f (h.regs f e) t),cM];simp only[ew];rw[show um 24 ((s.cells.length:Int)::(s.cells.flatMap rowP++t))=ak (s.cells.length,s.cells.flatMap rowP++t) by
  show(if _ then _ else _)=_;rw[Z2 V,bh],cM]
 simp only;rw[NV (R:=Ez 4) (g:=rowP) s.cells _ (fun c i t=>rRow_row (m:=4) c (h.fields c i) t),cM];rfl
theorem pack_inj{s t:X2}(b:Small s)(c:Small t)(h:vY s=vY t):s=t:=by
 have a:=abv b [];rw[h,abv c []]at a;cases a;rfl
theorem XQ(l:ZD Val):(abu l).length=2*l.length:=by
 induction l with
 |nil=>rfl
 |cons v l ih=>show([v.kind,v.n]++abu l).length=_;simp[ih];omega
theorem rows_len(m:Nat):∀l:ZD (ZD Val),(∀c∈l,c.length<=m)->(l.flatMap rowP).length<=(2*m+1)*l.length
 |[],_=>by simp
 |c::l,h=>by
  have e:=h c zq3;have a:=rows_len m l fun d b=>h d<|bl _ b;rw[gA,bj];unfold rowP;rw[bq,XQ,bq,Nat.mul_succ];unfold rowP at a;omega
theorem frs_len:∀l:ZD X1,(∀f∈l,f.regs.length<=40)->(l.flatMap frP).length<=84*l.length
 |[],_=>by simp
 |f::l,h=>by
  have c:=h f zq3;have a:=frs_len l fun d b=>h d<|bl _ b;rw[gA,bj];unfold frP rowP;simp only[bq,XQ];unfold frP rowP at a;omega
theorem abw{s:X2}(h:Small s):(vY s).length<=1060:=by
 have c:=rows_len 4 s.cells h.fields;have b:=frs_len s.frames h.regs;have a:=h.frames;have d:=h.cells;unfold vY;simp only[bq,bj];omega
def wake(s:X2):X2:=if s.status=3 then⟨s.frames,s.cells,0,0⟩else s
def stepW(a:ZD aX)(s:X2):Zs (X2×ZD Int):=
 if(wake s).status≠0 then ar else match Aj a (wake s)with
  |none=>ak ({wake s with status:=2},[])
  |some (t,o,_)=>ak (t,o.toList)
def uM(a:ZD aX):Nat->X2->X2×ZD Int
 |0,s=>(s,[])
 |n+1,s=>match stepW a s with
  |none=>(s,[])
  |some (t,o)=>((uM a n t).1,o++(uM a n t).2)
theorem JS{a:ZD aX}{s:X2}(h:(wake s).status≠0):∀n,uM a n s=(s,[])
 |0=>rfl
 |n+1=>by unfold uM stepW;rw[Z2 h]
theorem NW{a:ZD aX}{s:X2}(h:stepW a s=ar):∀n,uM a n s=(s,[])
 |0=>rfl
 |n+1=>by unfold uM;rw[h]
theorem uo{a:ZD aX}{s t:X2}{o:ZD Int}(h:stepW a s=ak (t,o))(n:Nat):uM a (n+1) s=((uM a n t).1,o++(uM a n t).2):=by
 conv=>lhs;unfold uM
 rw[h]
theorem iterW_add{a:ZD aX}:∀(j k:Nat) (s:X2),uM a (j+k) s=((uM a k (uM a j s).1).1,(uM a j s).2++(uM a k (uM a j s).1).2)
 |0,k,s=>by rw[Nat.zero_add];rfl
 |j+1,k,s=>by
  rw[show j+1+k=(j+k)+1 by omega];cases e:stepW a s with
  |none=>rw[NW e,NW e,NW e];rfl
  |some q=>
   obtain⟨t,o⟩:=q;rw[uo e,uo e,iterW_add j k t];simp only[ck]
theorem abx{s:X2}(h:s.status=0):wake s=s:=by unfold wake;rw[Z3 V]
theorem wake_wake(s:X2):wake (wake s)=wake s:=by
  unfold wake;by_cases h:s.status=3
  · rw[Z2 h,Z3 zq3]
  · rw[Z3 h,Z3 h]
theorem stepW_wake(a:ZD aX)(s:X2):stepW a (wake s)=stepW a s:=by unfold stepW;rw[wake_wake]
theorem iterW_wake{a:ZD aX}{s:X2}{n:Nat}(h:1<=n)(b:(wake s).status=0):uM a n (wake s)=uM a n s:=by
 obtain⟨m,rfl⟩:∃m,n=m+1:=⟨n-1,by omega⟩;have e:=stepW_wake a s;cases e2:stepW a s with
 |none=>
  exfalso;unfold stepW at e2;rw[Z3 V]at e2;cases e3:Aj a (wake s)with
  |none=>rw[e3]at e2;cases e2
  |some q=>rw[e3]at e2;cases e2
 |some q=>
  obtain⟨t,o⟩:=q;rw[uo e2,uo (e.trans e2)]
theorem iter_W{a:ZD aX}:∀(k:Nat) (s:X2),(∀j,j<k->(iter a j s).1.status=0)->iter a k s=uM a k s
 |0,s,_=>rfl
 |k+1,s,h=>by
  have d:s.status=0:=h 0 V;cases e:Aj a s with
  |none=>
   have b:iter a (k+1) s=({s with status:=2},[]):=by unfold iter;rw[Z3 V,e]
   have c:stepW a s=ak ({s with status:=2},[]):=by unfold stepW;rw[abx d,Z3 V,e]
   rw[b,uo c,JS (by unfold wake;simp)];rfl
  |some q=>
   obtain⟨t,o,p⟩:=q;have b:∀q,iter a (q+1) s=((iter a q t).1,o.toList++(iter a q t).2):=fun q=>by
    conv=>lhs;unfold iter
    rw[Z3 V,e]
   have c:stepW a s=ak (t,o.toList):=by unfold stepW;rw[abx d,Z3 V,e]
   rw[b,uo c,iter_W k t (fun j f=>by have:=h (j+1) V;rw[b]at this;exact this)]
theorem app_loop{α ρ:Type}{body:Int->ZD Int->(ZD Int->Zs ρ)->Zs ρ}{K:ZD Int->Zs ρ}{g:α->ZD Int}{l:ZD α}{m B:Nat}(c:∀x∈l,(g x).length<=m)
  (d:∀(i:Nat) (h:i<l.length) a nx,a.length<=B+m*i->body (i:Int) a nx=nx (a++g l[i])):
  ∀(k i:Nat) (a:ZD Int),i+k=l.length->a.length<=B+m*i->upto body K (i:Int) k a=K (a++(l.drop i).flatMap g)
 |0,i,a,h,_=>by rw[cG V];simp[upto]
 |k+1,i,a,h,hl=>by
  have b:i<l.length:=by omega
  rw[XL,d i b a _ hl,show((i:Int)+1)=((i+1:Nat):Int) by omega,app_loop c d k (i+1) _ V (by
   have:=c _<|cA b;rw[bj,Nat.mul_add];omega),cS b,gA,ck]
theorem app_loop0{α ρ:Type}{body:Int->ZD Int->(ZD Int->Zs ρ)->Zs ρ}{K:ZD Int->Zs ρ}{g:α->ZD Int}{l:ZD α}(m B:Nat)(b:∀x∈l,(g x).length<=m)
  (c:∀(i:Nat) (h:i<l.length) a nx,a.length<=B+m*i->body (i:Int) a nx=nx (a++g l[i])) (a:ZD Int) (d:a.length<=B):upto body K 0 l.length a=K (a++l.flatMap g):=by
 have:=app_loop (K:=K) b c l.length 0 a V V;rw[ga]at this;exact this
theorem values_eq:∀(l:ZD Val) (a:ZD Int),a.length+2*l.length<=50000->CZ a l=ak (a++abu l)
 |[],a,_=>by simp[CZ,rE,Er,abu]
 |v::l,a,h=>by
  simp only[bq]at h;have b:=values_eq l (a++[v.kind,v.n]) (by simp[-eK];omega);unfold CZ at b⊢;rw[gV];generalize each Ep Er l=K at b⊢;unfold Ep;rw[kz (room_le (by simp[-eK];omega) zq1),b];simp[abu]
theorem row_len{c:ZD Val}{m:Nat}(h:c.length<=m):(rowP c).length<=2*m+1:=by
 unfold rowP;rw[bq,XQ];omega
theorem fr_len{f:X1}(h:f.regs.length<=40):(frP f).length<=84:=by
 unfold frP;have:=row_len h;simp only[bq];omega
theorem Qc{a:ZD aX}(b:ny a){s:X2}(h:wm a s):Small (dS s):=(Vd b h).small b
theorem pack_loop{s:X2}(h:Small s):upto (H9 s) (Ia s) 0 ((s.frames.length:Int)).toNat [s.status,s.bU,(s.frames.length:Int)]=ak (vY s,0):=by
 have o:=h.frames;have q:=h.cells;have p:=frs_len s.frames h.regs;rw[bh,app_loop0 (g:=frP) (l:=s.frames) 84 3 (fun f j=>fr_len (h.regs f j)) (fun i a d k b=>by
  have n:=h.regs _<|cA a;unfold H9;rw[xI a,bnd,kz (room_le (by simp[-eK];omega) zq1),values_eq _ _ (by simp[-eK];omega),bnd];unfold frP rowP;simp) _ zq3]
 unfold Ia;rw[kz (room_le (by simp[-eK];omega) zq1),bh,app_loop0 (g:=rowP) (l:=s.cells) 9 1000 (fun c m=>row_len (h.fields c m)) (fun i a d k b=>by
  have n:=h.fields _<|cA a;unfold NM;rw[xI a,bnd,kz (room_le (by simp[-eK];omega) zq1),values_eq _ _ (by simp[-eK];omega),bnd];unfold rowP;simp) _ (by simp[-eK];omega)]
 unfold NP;have hp:=abw h;have e:([s.status,s.bU,(s.frames.length:Int)]++s.frames.flatMap frP++[(s.cells.length:Int)]++s.cells.flatMap rowP)=vY s:=by
  unfold vY;simp
 rw[e,dF V,Z1]
theorem Vh(a:ZD aX)(s:X2){N:Nat}(hN:100<=N):Fx N a s=ak (if KD a≠0 then([],KD a)else if ckS a s≠0 then([],ckS a s)else(vY (dS s),0)):=by
  unfold Fx;rw[KE,bnd];by_cases b:KD a=0
  · rw[Z3 V,Z3 V];by_cases c:ckS a s=0
    · have d:=nU b;have e:=JO.1 c;rw[dF V,Z1,abl hN (e.sw d),bnd,Z3 V];exact pack_loop<|Qc d e
    · rw[dT c,ZS,Z2 c]
  · rw[Z2 b,dT b,ZS,Z2 b]
structure Rel{α:Type}(o:Option (α×List Int))(b:Bool)(x':α)(l':List Int)(b':Bool):Prop where
 stay:b=aT->b'=aT
 ok:b=aq->match o with
  |some (x,r)=>x'=x/\l'=r/\b'=aq
  |none=>b'=aT
theorem Rel.pure{α:Type}(x:α)(l:ZD Int)(b:Ys):Rel (yC x l) b x l b:=⟨id,fun h=>⟨rfl,rfl,h⟩⟩
theorem Rel.bind{α β:Type}{R:Rdr α}{f:α->Rdr β}{l g a:ZD Int}{b b' c:Ys}{x':α}{i:β}(j:Rel (R l) b x' g b')(d:Rel (f x' g) b' i a c):Rel (iQ R f l) b i a c:=by
 refine⟨fun h=>d.stay<|j.stay h,fun h=>?_⟩;have:=j.ok h;unfold iQ;cases e:R l with
 |none=>rw[e]at this;exact d.stay this
 |some q=>
  obtain⟨x,r⟩:=q;rw[e]at this;obtain⟨rfl,rfl,k⟩:=this;exact d.ok k
theorem GD(l:ZD Int)(b:Ys):∃x c b',j5 ⟨l,b⟩=ak (x,⟨c,b'⟩)/\Rel (Ih l) b x c b':=by
 unfold j5;cases l with
 |nil=>exact⟨0,[],aT,rfl,fun _=>rfl,fun _=>rfl⟩
 |cons x l=>
  simp only;rw[dF (by simp;omega),Z1,show idx (x::l) 0=ak x from idx0 x l,bnd,show sub? (x::l) 1 ((x::l).length:Int)=ak l by
   have:=Yc (l:=x::l) (a:=1) (b:=(x::l).length) zq3<|bE _;rw[sn]at this;exact this,bnd]
  exact⟨x,l,b,Z,id,fun h=>⟨Z,Z,h⟩⟩
theorem Vi(m:Nat)(l:ZD Int)(b:Ys):∃(x:Nat) (a:ZD Int) (b':Ys),qd ⟨l,b⟩ m=ak ((x:Int),⟨a,b'⟩)/\x<=m/\Rel (um m l) b x a b':=by
  unfold qd;obtain⟨x,a,b',h,f⟩:=GD l b;rw[h,bnd];simp only;by_cases d:0<=x/\x<=(m:Int)
  · rw[dF V,dF V,Bool.or_self,Z1];refine⟨x.toNat,a,b',by rw[Int.toNat_of_nonneg d.1],by omega,f.stay,fun e=>?_⟩;have:=f.ok e;cases l with
    |nil=>exact this
    |cons y l=>
      obtain⟨rfl,rfl,c⟩:=this;rw[show um (m:Int) (x::a)=ak (x.toNat,a)from Z2 d];exact⟨Z,Z,c⟩
  · rw[show(ab (x<0)||ab ((m:Int)<x))=aT by
      rw[dy,decide_eq_true_eq,decide_eq_true_eq];omega,ZS]
    refine⟨0,a,aT,Z,by omega,fun _=>rfl,fun e=>?_⟩;have:=f.ok e;cases l with
    |nil=>rfl
    |cons y l=>
      obtain⟨rfl,rfl,c⟩:=this;rw[show um (m:Int) (x::a)=ar from Z3 d]
theorem RB(n:Nat)(hn:n<=100):∀(m M i:Nat) (a:ZD Val) (l:ZD Int) (b:Ys),i+m=n->a.length=i->m<M->
    ∃vs c b',again (ll n) M (a,(i:Int),l,b)=ak (a++vs,⟨c,b'⟩)/\vs.length=m/\Rel (kL Y2 m l) b vs c b'
  |m,0,i,a,l,b,_,_,hM=>by omega
  |0,M+1,i,a,l,b,hi,_,_=>by
    rw[Ig];unfold ll;simp only;rw[dF V,Z1];exact⟨[],l,b,by simp,Z,Rel.pure [] l b⟩
  |m+1,M+1,i,a,l,b,hi,ha,hM=>by
    rw[Ig];have d:=RB n hn m M<|i+1;generalize again (ll n) M=K at d⊢;unfold ll;simp only;rw[dT V,ZS];obtain⟨x,k,g,o,h⟩:=GD l b;rw[o,bnd];simp only;obtain⟨y,e,p,u,s⟩:=GD k g;rw[u,bnd];simp only;rw[kz (room_le (by simp;omega) zq1),gI V V];obtain⟨vs,j,q,t,f,r⟩:=d (a++[⟨x,y⟩]) e p V (by simp;omega) V;refine⟨⟨x,y⟩::vs,j,q,?_,by simp[f],?_⟩
    · rw[show((i:Int)+1)=((i+1:Nat):Int) by omega,t];simp
    · exact Rel.bind (Rel.bind h<|Rel.bind s<|Rel.pure _ _ _)<|Rel.bind r<|Rel.pure _ _ _
theorem aby{N n:Nat}(hn:n<=100)(hN:200<=N)(l:ZD Int)(b:Ys):∃vs a b',tX N ⟨l,b⟩ n=ak (vs,⟨a,b'⟩)/\vs.length=n/\Rel (kL Y2 n l) b vs a b':=by
 unfold tX;obtain⟨vs,a,b',e,c,d⟩:=RB n hn n N 0 [] l b V Z V;exact⟨vs,a,b',by simpa using e,c,d⟩
def none0:X2:=⟨[],[],0,0⟩
def endP(a:ZD aX)(s:X2):X2×Int:=
 if KD a≠0 then(none0,KD a)else if ckS a s≠0 then(none0,ckS a s)else if dS s=s then(s,0)else(none0,4)
def dN(a:ZD aX)(l:ZD Int):X2×Int:=
 if 1200<l.length then(none0,2)else match TG l with
  |some (s,[])=>endP a s
  |_=>(none0,8)
theorem un_end(a:ZD aX)(s:X2){N:Nat}(hN:100<=N):((Gi a s).bind fun b=>bif ab ((b:Int)≠0)then ak (none0,b)else(Jd N s).bind fun x=>(UC x s).bind fun y=>bif (!y)then ak (none0,4)else ak (s,0))=ak (endP a s):=by
  rw[KE,bnd];unfold endP;by_cases d:KD a=0
  · rw[Z3 V,Z3 V];by_cases e:ckS a s=0
    · have f:=nU d;rw[dF V,Z1,abl hN ((JO.1 e).sw f),bnd,eqState,bnd,Z3 V];by_cases c:dS s=s
      · rw[dT c,Z2 c];rfl
      · rw[dF c,Z3 c];rfl
    · rw[dT e,ZS,Z2 e]
  · rw[Z2 d,dT d,ZS,Z2 d]
theorem cells_rel{N:Nat}(hN:200<=N)(f:Int×ow)(a:ZD aX)(fr:ZD X1)(e d:Int×ow)(n:Nat)(k:f.1=n)(hn:n<=24):
    ∀(m M i:Nat) (c:ZD (ZD Val)) (l:ZD Int) (b:Ys),i+m=n->c.length=i->m<M->
    ∃cs j b',again (tZ N f a fr e d) M ((i:Int),l,b,c)=(bif (b'||ab ((0:Int)<(j.length:Int)))then ak (none0,8)else ak (endP a ⟨fr,c++cs,e.1,d.1⟩))/\Rel (kL (Ez 4) m l) b cs j b'
  |m,0,i,c,l,b,_,_,hM=>by omega
  |0,M+1,i,c,l,b,hi,_,_=>by
    rw[Ig];unfold tZ;simp only;rw[dF V,Z1];refine⟨[],l,b,?_,Rel.pure [] l b⟩;rw[eL,<-un_end a ⟨fr,c,e.1,d.1⟩ (N:=N) V];rfl
  |m+1,M+1,i,c,l,b,hi,ha,hM=>by
    rw[Ig];have g:=cells_rel hN f a fr e d n k hn m M<|i+1;generalize again (tZ N f a fr e d) M=K at g⊢;unfold tZ;simp only;rw[dT V,ZS];obtain⟨x,r,p,h,A,q⟩:=Vi 4 l b;rw[show((4:Nat):Int)=4 from rfl]at h;rw[h,bnd];simp only;obtain⟨vs,o,s,w,hv,u⟩:=aby (N:=N) (n:=x) V hN r p;rw[w,bnd];simp only;rw[kz (room_le (by simp;omega) zq1)];unfold Je;rw[gI V V];obtain⟨cs,y,z,v,t⟩:=g (c++[vs]) o s V (by simp;omega) V;refine⟨vs::cs,y,z,?_,?_⟩
    · rw[show((i:Int)+1)=((i+1:Nat):Int) by omega,v];simp
    · exact Rel.bind (Rel.bind q u)<|Rel.bind t<|Rel.pure _ _ _
theorem times_bind{α β:Type}{R:Rdr α}{m:Nat}{G:ZD α->Rdr β}{l:ZD Int}:iQ (kL R (m+1)) G l=iQ R (fun x=>iQ (kL R m) fun a=>G (x::a)) l:=by
 show((iQ R (fun x=>iQ (kL R m) fun l=>yC<|x::l) l).bind _)=_;unfold iQ;cases R l with
 |none=>rfl
 |some q=>
  rw[cM,cM];simp only;cases kL R m q.2 with
  |none=>rfl
  |some q2=>rfl
theorem abz{N:Nat}(hN:200<=N)(e:Int×ow)(a:ZD aX)(h g:Int×ow)(n:Nat)(hy:e.1=n)(hn:n<=10):
    ∀(m M i:Nat) (d:ZD X1) (l:ZD Int) (b:Ys),i+m=n->d.length=i->m<M->
    ∃(s:X2) (B:ZD Int) (b':Ys),again (ru N e a h g) M ((i:Int),l,b,d)=(bif (b'||ab ((0:Int)<(B.length:Int)))then ak (none0,8)else ak (endP a s))/\
      Rel (iQ (kL TF m) (fun f=>iQ (um 24) fun k=>iQ (kL (Ez 4) k) fun c=>yC (⟨d++f,c,h.1,g.1⟩:X2)) l) b s B b'
  |m,0,i,d,l,b,_,_,hM=>by omega
  |0,M+1,i,d,l,b,hi,_,_=>by
    rw[Ig];unfold ru;simp only;rw[dF V,Z1];obtain⟨x,j,o,r,C,z⟩:=Vi 24 l b;rw[show((24:Nat):Int)=24 from rfl]at r;rw[r,bnd];simp only;obtain⟨cs,u,v,w,A⟩:=cells_rel hN ((x:Int),⟨j,o⟩) a d h g x Z C x N 0 [] j o V Z V;refine⟨⟨d++[],[]++cs,h.1,g.1⟩,u,v,?_,?_⟩
    · rw[eL];exact w
    · exact Rel.bind (Rel.pure [] l b)<|Rel.bind z<|Rel.bind A<|Rel.pure _ _ _
  |m+1,M+1,i,d,l,b,hi,ha,hM=>by
    rw[Ig];have G:=abz hN e a h g n hy hn m M<|i+1;generalize again (ru N e a h g) M=K at G⊢;unfold ru;simp only;rw[dT V,ZS];obtain⟨p,j,o,r,z⟩:=GD l b;rw[r,bnd];simp only;obtain⟨q,u,v,w,A⟩:=GD j o;rw[w,bnd];simp only;obtain⟨t,P,Q,O,r3⟩:=GD u v;rw[O,bnd];simp only;obtain⟨x,S,b4,L,C,r4⟩:=Vi 40 P Q;rw[show((40:Nat):Int)=40 from rfl]at L;rw[L,bnd];simp only;obtain⟨vs,E,F,e5,hv,T⟩:=aby (N:=N) (n:=x) V hN S b4;rw[e5,bnd];simp only;rw[kz (room_le (by simp;omega) zq1),gI V V];obtain⟨s,l6,b6,R,I⟩:=G (d++[⟨p,q,vs,t⟩]) E F V (by simp;omega) V;refine⟨s,l6,b6,?_,?_⟩
    · rw[show((i:Int)+1)=((i+1:Nat):Int) by omega,R]
    · have y:Rel (TF l) b ⟨p,q,vs,t⟩ E F:=Rel.bind z<|Rel.bind A<|Rel.bind r3<|Rel.bind (Rel.bind r4 T)<|Rel.pure _ _ _;simp only[ck,ew,cr]at I;rw[times_bind];exact Rel.bind (f:=fun x=>iQ (kL TF m) fun X=>iQ (um 24) fun k=>iQ (kL (Ez 4) k) fun c=>yC (⟨d++x::X,c,h.1,g.1⟩:X2)) y I
theorem end_rel{a:ZD aX}{l b:ZD Int}{b':Ys}{s:X2}{y:Zs (X2×Int)}(c:¬1200<l.length)(d:Rel (TG l) aq s b b')(h:y=(bif (b'||ab ((0:Int)<(b.length:Int)))then ak (none0,8)else ak (endP a s))):y=ak (dN a l):=by
 rw[h];unfold dN;rw[Z3 c];have:=d.ok Z;cases e:TG l with
 |none=>rw[e]at this;simp only at this;subst this;rfl
 |some q=>
  obtain⟨f,r⟩:=q;rw[e]at this;obtain⟨rfl,rfl,rfl⟩:=this;cases b with
  |nil=>rfl
  |cons x b=>rw[pc,dT zq3,ZS]
theorem EA(a:ZD aX)(l:ZD Int){N:Nat}(hN:200<=N):rZ N a l=ak (dN a l):=by
  unfold rZ;by_cases c:1200<l.length
  · rw[dT V,ZS];unfold dN;rw[Z2 c];rfl
  · rw[dF V,Z1];obtain⟨st,e,d,k,j⟩:=GD l aq;rw[k,bnd];simp only;obtain⟨wh,b,f,p,o⟩:=GD e d;rw[p,bnd];simp only;obtain⟨x,h,i,g,q,n⟩:=Vi 10 b f;rw[show((10:Nat):Int)=10 from rfl]at g;rw[g,bnd];simp only;obtain⟨s,u,t,r,m⟩:=abz hN ((x:Int),⟨h,i⟩) a (st,⟨e,d⟩) (wh,⟨b,f⟩) x Z q x N 0 [] h i V Z V;exact end_rel c (Rel.bind j<|Rel.bind o<|Rel.bind n m) r
section
variable{I:ZD Int}(hI:I.length<=1200)
include hI
omit hI in
end
open Go Go.Proofs Go.LX
theorem read_all{s:X2}(h:Small s):TG (vY s)=ak (s,[]):=by
 have:=abv h [];rw[eL]at this;exact this
theorem unpack_pack{a:ZD aX}(d:KD a=0){s:X2}(h:wm a s):dN a (vY (dS s))=(dS s,0):=by
 have b:=nU d;have c:=Qc b h;unfold dN;rw[Z3 (by have:=abw c;omega),read_all c];simp only;unfold endP;rw[Z3 V,Z3 (by rw[JO.2 (Vd b h)];omega),Z2 (NU (h.sw b))]
theorem Vj{a:ZD aX}{s:X2}(h:wm a s):wm a (wake s):=by
  unfold wake;by_cases b:s.status=3
  · rw[Z2 b];refine⟨by simp,by simp,fun _=>rfl,?_,h.many,h.cells,h.frames⟩;have:=h.ended;constructor
    · intro e;simp at e
    · intro e;have:=h.ended.2 e;omega
  · rw[Z3 b];exact h
namespace Dk
open Go Go.Proofs Go.LX
theorem eqInt(a b:ZD Int):slices_Equal_int a b=ak (ab (a=b)):=by
  unfold slices_Equal_int;by_cases h:a.length=b.length
  · rw[dF V];simp only[Z1,bh];rw[upto_all2 (fun x y=>ab (x=y)) a b h rfl (fun i x y f d c=>by
      unfold Bl;rw[lC,lC,d,c];by_cases e:x=y<;>simp[e]),Qp (fun _ _=>rfl)]
  · rw[dT V];have:a≠b:=fun e=>h (by rw[e]);rw[dF this];rfl
theorem rec_eq(r:Rec):dC r=fG r:=by
  unfold dC fG Be uT mH fB;have d:(((!(bB r.co 0 2))||(!(bB r.aF 0 100)))||(!(bB r.place 0 2)))=(((((ab ((r.co:Int)<0)||ab ((3:Int)<=r.co))||ab ((r.aF:Int)<0))||ab ((100:Int)<r.aF))||ab ((r.place:Int)<0))||ab ((3:Int)<=r.place)):=by
    unfold bB;rw[ez];simp;omega
  rw[d];generalize (((((ab ((r.co:Int)<0)||ab ((3:Int)<=r.co))||ab ((r.aF:Int)<0))||ab ((100:Int)<r.aF))||ab ((r.place:Int)<0))||ab ((3:Int)<=r.place))=C1;generalize (ab ((40:Int)<(r.says.length:Int))||ab ((1200:Int)<(r.image.length:Int)))=C2;generalize ab ((r.place:Int)≠0)=p0;generalize ab ((0:Int)<(r.says.length:Int))=s1;generalize ab ((0:Int)<(r.image.length:Int))=i1;generalize ab ((r.aF:Int)=0)=e0;have e:∀l:Str,(hasB l 73=aT\/hasB l 73=aq):=fun l=>by cases hasB l 73<;>simp
  by_cases k1:r.kind=1
  · rw[k1,show hasB ((lk (1:Int) ([(1,[73]),(2,[83,73]),(3,[80]),(4,[73]),(5,[])]:ZD (Int×Str))).getD []) 80=aq by decide,show hasB ((lk (1:Int) ([(1,[73]),(2,[83,73]),(3,[80]),(4,[73]),(5,[])]:ZD (Int×Str))).getD []) 83=aq by decide,show hasB ((lk (1:Int) ([(1,[73]),(2,[83,73]),(3,[80]),(4,[73]),(5,[])]:ZD (Int×Str))).getD []) 73=aT by decide];cases C1<;>cases C2<;>cases p0<;>cases s1<;>cases i1<;>cases e0<;>rfl
  by_cases k2:r.kind=2
  · rw[k2,show hasB ((lk (2:Int) ([(1,[73]),(2,[83,73]),(3,[80]),(4,[73]),(5,[])]:ZD (Int×Str))).getD []) 80=aq by decide,show hasB ((lk (2:Int) ([(1,[73]),(2,[83,73]),(3,[80]),(4,[73]),(5,[])]:ZD (Int×Str))).getD []) 83=aT by decide,show hasB ((lk (2:Int) ([(1,[73]),(2,[83,73]),(3,[80]),(4,[73]),(5,[])]:ZD (Int×Str))).getD []) 73=aT by decide];cases C1<;>cases C2<;>cases p0<;>cases s1<;>cases i1<;>cases e0<;>rfl
  by_cases a:r.kind=3
  · rw[a,show hasB ((lk (3:Int) ([(1,[73]),(2,[83,73]),(3,[80]),(4,[73]),(5,[])]:ZD (Int×Str))).getD []) 80=aT by decide,show hasB ((lk (3:Int) ([(1,[73]),(2,[83,73]),(3,[80]),(4,[73]),(5,[])]:ZD (Int×Str))).getD []) 83=aq by decide,show hasB ((lk (3:Int) ([(1,[73]),(2,[83,73]),(3,[80]),(4,[73]),(5,[])]:ZD (Int×Str))).getD []) 73=aq by decide];cases C1<;>cases C2<;>cases p0<;>cases s1<;>cases i1<;>cases e0<;>rfl
  by_cases c:r.kind=4
  · rw[c,show hasB ((lk (4:Int) ([(1,[73]),(2,[83,73]),(3,[80]),(4,[73]),(5,[])]:ZD (Int×Str))).getD []) 80=aq by decide,show hasB ((lk (4:Int) ([(1,[73]),(2,[83,73]),(3,[80]),(4,[73]),(5,[])]:ZD (Int×Str))).getD []) 83=aq by decide,show hasB ((lk (4:Int) ([(1,[73]),(2,[83,73]),(3,[80]),(4,[73]),(5,[])]:ZD (Int×Str))).getD []) 73=aT by decide];cases C1<;>cases C2<;>cases p0<;>cases s1<;>cases i1<;>cases e0<;>rfl
  by_cases b:r.kind=5
  · rw[b,show hasB ((lk (5:Int) ([(1,[73]),(2,[83,73]),(3,[80]),(4,[73]),(5,[])]:ZD (Int×Str))).getD []) 80=aq by decide,show hasB ((lk (5:Int) ([(1,[73]),(2,[83,73]),(3,[80]),(4,[73]),(5,[])]:ZD (Int×Str))).getD []) 83=aq by decide,show hasB ((lk (5:Int) ([(1,[73]),(2,[83,73]),(3,[80]),(4,[73]),(5,[])]:ZD (Int×Str))).getD []) 73=aq by decide];cases C1<;>cases C2<;>cases p0<;>cases s1<;>cases i1<;>cases e0<;>rfl
  rw[show lk r.kind ([(1,[73]),(2,[83,73]),(3,[80]),(4,[73]),(5,[])]:ZD (Int×Str))=ar by simp[lk,k1,k2,a,c,b]];rw[show(ab ((r.kind:Int)<1)||ab ((5:Int)<r.kind))=aT by simp;omega];rfl
structure GoodR(r:Rec):Prop where
 kind:1<=r.kind/\r.kind<=5
 co:0<=r.co/\r.co<=2
 aF:1<=r.aF/\r.aF<=100
 place:0<=r.place/\r.place<=2
 says:r.says.length<=40
 image:r.image.length<=1200
 has:(r.kind=1\/r.kind=2\/r.kind=4)->1<=r.image.length
theorem abA(r:Rec)(h:fG r=0):GoodR r:=by
 rw[<-rec_eq]at h;unfold dC at h;have hn:0<=(r.image.length:Int):=by omega
 generalize e:(ab ((r.kind:Int)<1)||ab ((5:Int)<r.kind))=A at h;cases A with
 |true=>simp only[ZS]at h;exact ZJ h zq1
 |false=>
 simp only[Z1]at h;generalize d:(((((ab ((r.co:Int)<0)||ab ((3:Int)<=r.co))||ab ((r.aF:Int)<0))||ab ((100:Int)<r.aF))||ab ((r.place:Int)<0))||ab ((3:Int)<=r.place))=B at h;cases B with
 |true=>simp only[ZS]at h;exact ZJ h zq1
 |false=>
 simp only[Z1]at h;generalize f:(ab ((40:Int)<(r.says.length:Int))||ab ((1200:Int)<(r.image.length:Int)))=C at h;cases C with
 |true=>simp only[ZS]at h;exact ZJ h zq1
 |false=>
 simp only[Z1]at h;generalize b:((((ab ((r.kind:Int)≠3)&&ab ((r.place:Int)≠0))||(ab ((r.kind:Int)≠2)&&ab ((0:Int)<(r.says.length:Int))))||(((ab ((r.kind:Int)=1)||ab ((r.kind:Int)=2))||ab ((r.kind:Int)=4)) !=ab ((0:Int)<(r.image.length:Int))))||ab ((r.aF:Int)=0))=D at h;cases D with
 |true=>simp only[ZS]at h;exact ZJ h zq1
 |false=>
 simp only[da,decide_eq_false_iff_not,bne_eq_false_iff_eq]at e d f b;obtain⟨⟨⟨_,_⟩,a⟩,i⟩:=b;refine⟨by omega,by omega,by omega,by omega,by omega,by omega,fun g=>?_⟩;have:((ab ((r.kind:Int)=1)||ab ((r.kind:Int)=2))||ab ((r.kind:Int)=4))=true:=by
  simp;omega
 rw[this]at a;have c:ab ((0:Int)<(r.image.length:Int))=true:=by
  cases hq:ab ((0:Int)<(r.image.length:Int))with
  |true=>rfl
  |false=>rw[hq]at a;cases a
 have:=odt c;omega
def La(r:Rec):Prop:=kN r.kind/\kN r.co/\kN r.aF/\kN r.place/\(∀x∈r.says,kN x)/\(∀x∈r.image,kN x)
def nl(r:Rec):ZD Int:=[r.kind,r.co,r.aF,r.place,(r.says.length:Int)]++r.says++r.image
def zR:Rec:=⟨0,0,0,0,[],[]⟩
def wD(r:Rec):Str×Int:=if dC r=0 then(wN 32 ((nl r).map dt),0)else([],dC r)
def Qd(l:ZD Int)(n:Nat):Rec:=⟨l.getD 0 0,l.getD 1 0,l.getD 2 0,l.getD 3 0,(l.take (5+n)).drop 5,l.drop (5+n)⟩
def MN(l:ZD Int):Rec×Int:=
 if l.length<5 then(zR,1)else if l.getD 4 0<0\/(l.length:Int)-5<l.getD 4 0 then(zR,1)else
 if dC (Qd l (l.getD 4 0).toNat)=0 then(Qd l (l.getD 4 0).toNat,0)else(zR,dC (Qd l (l.getD 4 0).toNat))
def og(s:Str):Rec×Int:=match Ye 32 s with|none=>(zR,1)|some l=>MN l
def Vk(s:Str):Rec×Int:=if(60000:Int)<(s.length:Int)then(zR,2)else og s
theorem concat5:∀(l:ZD (ZD Int)) (a:ZD Int),a.length+(l.map fb).sum<=1000000->each vC vD l a=ak (a++l.flatten)
 |[],a,_=>by simp[rE,vD]
 |x::l,a,h=>by
  simp only[cg,na]at h;rw[gV,vC,kz ⟨by omega,by omega⟩,concat5 l (a++x) (by rw[bj];omega)];simp
theorem concat7(a:ZD (ZD Int)):∀(l:ZD (ZD Int)) (n:Nat),n+(l.map fb).sum<=1000000->each vE (qH a) l (n:Int)=qH a ((n+(l.map fb).sum:Nat):Int)
 |[],n,_=>by simp[rE]
 |x::l,n,h=>by
  simp only[cg,na]at h⊢;rw[gV,vE,gI,dF V,Z1,show((n:Int)+(x.length:Int))=((n+x.length:Nat):Int) by omega,concat7 a l (n+x.length) V,kb]
theorem concat_eq(a:ZD (ZD Int))(h:(a.map fb).sum<=1000000):vG a=ak a.flatten:=by
 unfold vG;have:=concat7 a a 0 V;rw[show((0:Nat):Int)=0 from rfl]at this;rw[this];unfold qH;rw[show Ro 8 ((0+(a.map fb).sum:Nat):Int)=ak ([]:ZD Int) by unfold Ro;rw[kz ⟨by omega,by omega⟩],bnd,concat5 a [] (by simpa using h)];simp
theorem concat3(a b c:ZD Int)(h:a.length+b.length+c.length<=1000000):vG [a,b,c]=ak (a++b++c):=by
 rw[concat_eq _ (by simp;omega)];simp
theorem nl_len(r:Rec):(nl r).length=5+r.says.length+r.image.length:=by simp[nl];omega
theorem nl_ok{r:Rec}(g:GoodR r)(w:La r):∀x∈nl r,kN x:=by
  obtain⟨f,w2,b,d,e,c⟩:=w;have h:=g.says;intro x a;simp only[nl,cE,bm,List.not_mem_nil,or_false]at a;rcases a with((rfl|rfl|rfl|rfl|rfl)|a)|a
  · exact f
  · exact w2
  · exact b
  · exact d
  · exact kN.mk V V
  · exact e x a
  · exact c x a
theorem abB{r:Rec}(g:GoodR r):(nl r).length<=1245:=by rw[nl_len];have:=g.says;have:=g.image;omega
theorem nl_ne(r:Rec):nl r≠[]:=by simp[nl]
theorem abC:∀(l:ZD Int) (pre:ZD Str),(∀x∈l,kN x)->ib yw uY (pre.length:Int) l (pre++cc l.length ([]:Str))=uY (pre++l.map dt)
 |[],pre,_=>by simp[VD]
 |x::l,pre,h=>by
  rw[sG,yw,Zi (h x zq3),bnd,lC];have a:(pre++cc (x::l).length ([]:Str))[pre.length]? =ak []:=by rw[gS (bE _)];simp
  rw[a,bnd,bh];have d:(pre++cc (x::l).length ([]:Str)).set pre.length (dt x)=(pre++[dt x])++cc l.length ([]:Str):=by
   rw[List.set_append_right _ _ (bE _)];simp[List.replicate_succ]
  have c:((pre.length:Int)+1)=((pre++[dt x]).length:Int):=by simp
  rw[d,c,abC l (pre++[dt x]) (fun y b=>h y (bl _ b))];simp
theorem join_ok{l:ZD Int}(h:∀x∈l,kN x)(d:l.length<=1245):Zg (l.map dt) [32]=ak (wN 32 (l.map dt)):=by
 have c:=VJ 32 21 (l.map dt) (by intro x a;obtain⟨y,b,rfl⟩:=ec.1 a;exact itoa_len (h y b));rw[cH]at c;exact joinS_eq 32 (by rw[cH];omega) V
theorem print_eq(r:Rec)(b:dC r=0->La r):H7 r=ak (wD r):=by
  unfold H7 wD;by_cases h:dC r=0
  · have g:=abA r (by rw[<-rec_eq];exact h);have e:=g.says;have f:=g.image;rw[dF V,Z1,Z2 h,concat3 _ _ _ (by simp;omega),bnd];have c:=abB g;have a:=nl_ok g<|b h;show iG _ (ib yw uY 0 (nl r)<|cc ((nl r).length:Int).toNat ([]:Str))=_;have d:(r.kind::r.co::r.aF::r.place::(r.says.length:Int)::(r.says++r.image)).length=(nl r).length:=by simp[nl]
    rw[kz (by
      refine⟨by omega,?_⟩;have:([r.kind,r.co,r.aF,r.place,(r.says.length:Int)]++r.says++r.image).length=(nl r).length:=rfl;rw[this];omega),bh]
    have:=abC (nl r) [] a;simp only[eA,cr]at this;rw[show((0:Nat):Int)=0 from rfl]at this;rw[this];unfold uY;rw[join_ok a c,bnd]
  · rw[dT h,ZS,Z3 h]
theorem numbers_each:∀(w:ZD Str) (a:ZD Int),(∀x∈w,x.length<=60000)->a.length+w.length<=1000000->
    each De Df w a=ak (match w.mapM numOf with|some v=>(a++v,aT)|none=>([],aq))
  |[],a,_,_=>by simp[rE,Df]
  |x::w,a,h,hl=>by
    have d:=h x zq3;simp only[bq]at hl;have c:=fun y=>numbers_each w (a++[y]) (fun z hz=>h z (bl _ hz)) (by simp;omega);rw[gV,De,parseS_eq V,bnd,mL];cases e:Lib.atoiAll x with
    |ok v=>
      have hv:kN v:=sa e;simp only[Z1];rw[Zi hv,bnd,xk];by_cases b:dt v=x
      · rw[dF (by simpa using b),Z1,kz ⟨by simp;omega,by simp;omega⟩,c];have:numOf x=ak v:=by simp[numOf,e,b]
        rw[this];cases e2:w.mapM numOf with
        |none=>rfl
        |some m=>simp
      · rw[dT b,ZS];have:numOf x=none:=by simp[numOf,e,b]
        rw[this];rfl
    |range=>
      have:numOf x=none:=by simp[numOf,e]
      rw[this];rfl
    |_=>
      have:numOf x=none:=by simp[numOf,e]
      rw[this];rfl
theorem abD:∀(w:ZD Str) (a:ZD Int),(∀x∈w,x.length<=60000)->a.length+w.length<=1000000->
    each AA su w a=match w.mapM numOf with|some v=>su (a++v)|none=>ak (zR,1)
  |[],a,_,_=>by simp[rE]
  |x::w,a,h,hl=>by
    have d:=h x zq3;simp only[bq]at hl;have c:=fun y=>abD w (a++[y]) (fun z hz=>h z (bl _ hz)) (by simp;omega);rw[gV,AA,atoiS_eq V,bnd,mL];cases e:Lib.atoiAll x with
    |ok v=>
      have hv:kN v:=sa e;simp only[Z1];rw[Zi hv,bnd,Az];by_cases b:dt v=x
      · rw[dF (by simpa using b),Z1,kz ⟨by simp;omega,by simp;omega⟩,c];have:numOf x=ak v:=by simp[numOf,e,b]
        rw[this];cases e2:w.mapM numOf with
        |none=>rfl
        |some m=>simp
      · rw[dT b,ZS];have:numOf x=none:=by simp[numOf,e,b]
        rw[this];rfl
    |range=>
      have:numOf x=none:=by simp[numOf,e]
      rw[this];rfl
    |_=>
      have:numOf x=none:=by simp[numOf,e]
      rw[this];rfl
theorem five{l:ZD Int}(h:¬l.length<5):∃a b c d n r,l=a::b::c::d::n::r:=by
 match l,h with
 |a::b::c::d::n::r,_=>exact⟨a,b,c,d,n,r,rfl⟩
 |[],h=>simp at h
 |[a],h=>simp at h
 |[a,b],h=>simp at h
 |[a,b,c],h=>simp at h
 |[a,b,c,d],h=>simp at h
theorem parse_k31(l:ZD Int)(i:l.length<=1000000)(hI:∀x∈l,kN x):su l=ak (MN l):=by
  unfold su MN;by_cases h:l.length<5
  · rw[dT V,Z2 h];rfl
  · rw[dF V,Z3 h,Z1];obtain⟨a,b,c,d,n,r,rfl⟩:=five h;have hn:kN n:=hI n zq3;have j:idx (a::b::c::d::n::r) 4=ak n:=rfl;rw[j,bnd];have o:(a::b::c::d::n::r).getD 4 0=n:=rfl;rw[o];by_cases f:n<0
    · rw[dT f,Z2 (.inl f)];rfl
    · rw[dF f,Z1];simp only[bq]at i⊢;rw[gI];by_cases g:((r.length+1+1+1+1+1:Nat):Int)-5<n
      · rw[dT g,Z2 (.inr g)];rfl
      · rw[dF g,Z3 V];unfold wV;obtain⟨m,rfl⟩:=bs (show 0<=n by omega);rw[Z1,show idx (a::b::c::d::(m:Int)::r) 0=ak a from rfl,bnd,show idx (a::b::c::d::(m:Int)::r) 1=ak b from rfl,bnd,show idx (a::b::c::d::(m:Int)::r) 2=ak c from rfl,bnd,show idx (a::b::c::d::(m:Int)::r) 3=ak d from rfl,bnd,show idx (a::b::c::d::(m:Int)::r) 4=ak (m:Int)from rfl,bnd,gI];rw[show(5+(m:Int))=((5+m:Nat):Int) by omega,show(5:Int)=((5:Nat):Int)from rfl,Yc V (by simp;omega),bnd,gI,Yc (by simp;omega) (bE _),bnd,rQ (by simp;omega) (by simp;omega),bnd,rQ (by simp;omega) (by simp;omega),bnd];have k:((a::b::c::d::(m:Int)::r).take (a::b::c::d::(m:Int)::r).length).drop (5+m)=(a::b::c::d::(m:Int)::r).drop (5+m):=by rw[sn]
        rw[k];unfold E5;show(bif ab ((dC (Qd (a::b::c::d::(m:Int)::r) m):Int)≠0)then ak (zR,dC<|Qd (a::b::c::d::(m:Int)::r) m)else ak (Qd (a::b::c::d::(m:Int)::r) m,0))=_;rw[bh];by_cases e:dC (Qd (a::b::c::d::(m:Int)::r) m)=0
        · rw[dF V,Z2 e];rfl
        · rw[dT e,Z3 e];rfl
theorem parse_eq(s:Str):HY s=ak (Vk s):=by
  unfold HY Vk;by_cases h:(60000:Int)<(s.length:Int)
  · rw[dT h,Z2 h];rfl
  · rw[dF h,Z3 h,Z1];have d:=M5 32 s;rw[splitS_eq 32 V,bnd,abD _ [] (fun x a=>by have:=ES 32 s x a;omega) (by simp;omega)];unfold og;cases e:Ye 32 s with
    |none=>unfold Ye at e;rw[e]
    |some l=>
      have:=KJ (show(jP 32 s).mapM numOf=ak l from e);unfold Ye at e;rw[e];have b:l.length<=1000000:=by
        have c:=ZL fb this.1;rw[cH]at c;omega
      simp only[cr];exact parse_k31 l b this.2
theorem mkRec_nl(r:Rec):Qd (nl r) r.says.length=r:=by
 obtain⟨k,c,e,p,s,i⟩:=r;unfold Qd nl;have b:((([k,c,e,p,(s.length:Int)]++s++i).take (5+s.length)).drop 5)=s:=by
  rw[ck,show 5+s.length=([k,c,e,p,(s.length:Int)]).length+s.length from rfl,List.take_length_add_append,List.take_left];rfl
 have a:([k,c,e,p,(s.length:Int)]++s++i).drop (5+s.length)=i:=by
  rw[show 5+s.length=([k,c,e,p,(s.length:Int)]++s).length by simp;omega,List.drop_left]
 simp only[b,a];rfl
theorem fromNums_nl{r:Rec}(h:dC r=0):MN (nl r)=(r,0):=by
 have a:=nl_len r;unfold MN;rw[Z3 V,show(nl r).getD 4 0=(r.says.length:Int)from rfl,Z3 V,bh,mkRec_nl,Z2 h]
theorem abE{r:Rec}(h:dC r=0)(w:La r):og (wN 32 ((nl r).map dt))=(r,0):=by
 unfold og;rw[nums_join zq1 (nl_ne r) (nl_ok (abA r (by rw[<-rec_eq];exact h)) w)];exact fromNums_nl h
theorem nl_mk{l:ZD Int}{n:Nat}(f:5+n<=l.length)(i:l.getD 4 0=n):nl (Qd l n)=l:=by
 obtain⟨a,b,c,d,m,r,rfl⟩:=five (l:=l) V;have e:m=n:=i;subst e;simp only[bq]at f;have h:((a::b::c::d::(n:Int)::r).take (5+n)).drop 5=r.take n:=by
  rw[show 5+n=n+1+1+1+1+1 by omega];rfl
 have g:(a::b::c::d::(n:Int)::r).drop (5+n)=r.drop n:=by
  rw[show 5+n=n+1+1+1+1+1 by omega];rfl
 show [a,b,c,d,((((a::b::c::d::(n:Int)::r).take (5+n)).drop 5).length:Int)]++((a::b::c::d::(n:Int)::r).take (5+n)).drop 5++(a::b::c::d::(n:Int)::r).drop (5+n)=_;rw[h,g,List.length_take,show min n r.length=n by omega,ck,List.take_append_drop];rfl
theorem read_ok{s:Str}{r:Rec}(h:og s=(r,0)):dC r=0/\La r/\s=wN 32 ((nl r).map dt):=by
  unfold og at h;cases e:Ye 32 s with
  |none=>rw[e]at h;cases h
  |some l=>
    rw[e]at h;obtain⟨g,k,o⟩:=join_nums e;simp only at h;unfold MN at h;split at h
    · cases h
    · rename_i p;split at h
      · cases h
      · rename_i j;split at h
        · rename_i c;obtain⟨m,f⟩:=bs (show 0<=l.getD 4 0 by omega);rw[f]at h c j;simp only[bh]at h c;have i:Qd l m=r:=by injection h
          have b:=nl_mk (l:=l) (n:=m) V f;rw[i]at b c;refine⟨c,?_,by rw[b];exact g⟩;have a:∀x∈nl r,kN x:=by rw[b];exact k
          refine⟨a _ (by simp[nl]),a _ (by simp[nl]),a _ (by simp[nl]),a _ (by simp[nl]),fun x d=>a x (by simp[nl,d]),fun x d=>a x (by simp[nl,d])⟩
        · rename_i c;exact ZJ (ZL Prod.snd h) c
theorem text_ok{r:Rec}(h:dC r=0):wD r=(wN 32 ((nl r).map dt),0):=by unfold wD;rw[Z2 h]
def r0:Rec:=⟨2,1,2,0,[7,-8],[1]⟩
def TJ(most:Int):ZD Str->ZD Rec->Int->ZD Rec×Int×Int
 |[],l,n=>(l,n,0)
 |[x],l,n=>if x=[]then(l,n,0)else(l,n,8)
 |x::y::r,l,n=>if(og x).2≠0 then(l,n,(og x).2)else if most<=(l.length:Int)then(l,n,2)else TJ most (y::r) (l++[(og x).1]) (n+(x.length:Int)+1)
def ln(most:Int)(s:Str):ZD Rec×Int×Int:=TJ most (jP 10 s) [] 0
theorem lnP_cons{most:Int}{x:Str}{q:ZD Str}{l:ZD Rec}{n:Int}(a:q≠[]):TJ most (x::q) l n=if(og x).2≠0 then(l,n,(og x).2)else if most<=(l.length:Int)then(l,n,2)else TJ most q (l++[(og x).1]) (n+(x.length:Int)+1):=by
 cases q with
 |nil=>exact ZJ Z a
 |cons y r=>rfl
theorem joinC_len2(c:UInt8)(x y:Str)(l:ZD Str):(wN c (x::y::l)).length=x.length+1+(wN c (y::l)).length:=by
 rw[zn,bj,bq];omega
theorem lnP_len(most:Int):∀(p:ZD Str) (l:ZD Rec) (n:Int),0<=n->n<=(TJ most p l n).2.1/\(TJ most p l n).2.1<=n+(wN 10 p).length/\(TJ most p l n).1.length+0<=l.length+p.length/\l.length<=(TJ most p l n).1.length/\((l.length:Int)<=most->((TJ most p l n).1.length:Int)<=most)
  |[],l,n,hn=>by simp[TJ];omega
  |[x],l,n,hn=>by
    unfold TJ;split<;>simp<;>omega
  |x::y::r,l,n,hn=>by
    have b:=joinC_len2 10 x y r;unfold TJ;split
    · simp;omega
    · split
      · simp;omega
      · have a:=lnP_len most (y::r) (l++[(og x).1]) (n+(x.length:Int)+1) V;simp only[bj,bq,eA]at a⊢;omega
theorem lines_loop(a:Str)(b:Int)(k:a.length<=60000):∀(p:ZD Str) (s:Str) (l:ZD Rec) (N:Nat),jP 10 s=p->s.length<=a.length->p.length<=N->l.length+p.length<=60001->(l.length:Int)<=b->
    again (BA a b) N (s,l)=ak (TJ b p l ((a.length:Int)-(s.length:Int))):=by
  intro p;induction p with
  |nil=>intro s l N hp;exact ZJ hp (Im 10 s)
  |cons x q ih=>
    intro s l N hp m hN j n;cases N with
    |zero=>simp at hN
    |succ N=>
    rw[again,BA];cases q with
    |nil=>
      obtain⟨rfl,c⟩:=splitC_single hp;by_cases e:s=[]
      · subst e;rw[dF zq3,Z1];simp[TJ]
      · rw[dT e,ZS,cutS_free c V,bnd];simp only[iS,ZS];rw[gI];simp[TJ,e]
    |cons y r=>
      obtain⟨t,rfl,i,c⟩:=splitC_cons hp;have g:(x++10::t).length=x.length+1+t.length:=by simp;omega
      rw[dT zq3,ZS,cutS_hit c V,bnd];simp only[ea,Z1];have d:Vk x=og x:=by unfold Vk;rw[Z3 V]
      rw[parse_eq,bnd,d,lnP_cons zq3];by_cases h:(og x).2=0
      · rw[dF V,Z1,Z3 V];by_cases f:(l.length:Int)=b
        · rw[dT f,ZS,gI,Z2 V]
        · rw[dF f,Z1,Z3 V];simp only[bq]at hN j;rw[kz ⟨by simp;omega,by simp;omega⟩,ih t (l++[(og x).1]) N i V (by simp;omega) (by simp;omega) (by simp;omega)];congr 2;omega
      · rw[dT h,ZS,gI,Z2 h]
theorem abF(N:Nat)(a:Str)(b:Int)(hN:60002<=N)(c:a.length<=60000)(d:0<=b):E8 N a b=ak (ln b a):=by
 unfold E8 ln;have e:=M5 10 a;rw[lines_loop a b c (jP 10 a) a [] N rfl (bE _) V (by simp;omega) (by simpa using d)];congr 2;omega
theorem bcat5:∀(l:ZD Str) (a:Str),a.length+(l.map fb).sum<=1000000->each uy uz l a=ak (a++l.flatten)
 |[],a,_=>by simp[rE,uz]
 |x::l,a,h=>by
  simp only[cg,na]at h;rw[gV,uy,kz ⟨by omega,by omega⟩,bcat5 l (a++x) (by rw[bj];omega)];simp
theorem bcat7(a:ZD Str):∀(l:ZD Str) (n:Nat),n+(l.map fb).sum<=1000000->each uA (pW a) l (n:Int)=pW a ((n+(l.map fb).sum:Nat):Int)
 |[],n,_=>by simp[rE]
 |x::l,n,h=>by
  simp only[cg,na]at h⊢;rw[gV,uA,gI,dF V,Z1,show((n:Int)+(x.length:Int))=((n+x.length:Nat):Int) by omega,bcat7 a l (n+x.length) V,kb]
theorem bcat(a b:Str)(h:a.length+b.length<=1000000):tO [a,b]=ak (a++b):=by
 unfold tO;have:=bcat7 [a,b] [a,b] 0 (by simp;omega);rw[show((0:Nat):Int)=0 from rfl]at this;rw[this];unfold pW;rw[show Ro 1 ((0+([a,b].map fb).sum:Nat):Int)=ak ([]:Str) by unfold Ro;rw[kz ⟨by omega,by simp;omega⟩],bnd,bcat5 [a,b] [] (by simp;omega)];simp
def zD:iW:=⟨[],[]⟩
def jv(d:iW):Int:=if 60000<d.safe.length\/60000<d.safe.length+d.wait.length then 2 else(ln 120 d.safe).2.2
theorem MO(N:Nat)(hN:60002<=N)(d:iW)(b:d.wait.length<=9223372036854775807):vN N d=ak (jv d):=by
  unfold vN jv;by_cases h:60000<d.safe.length
  · rw[dT V,ZS,Z2 (.inl h)];rfl
  · rw[dF V,Z1,gI];by_cases a:60000<d.safe.length+d.wait.length
    · rw[dT V,Z2 (.inr a)];rfl
    · rw[dF V,Z3 V];unfold FN;rw[Z1,abF N d.safe 120 hN V V,bnd]
theorem xn{d:iW}(h:jv d=0):d.safe.length+d.wait.length<=60000/\(ln 120 d.safe).2.2=0:=by
  unfold jv at h;split at h
  · cases h
  · exact⟨by omega,h⟩
def putT(d:iW)(r:Rec):iW×Int:=
 if(wD r).2≠0 then(zD,(wD r).2)else if 60000<d.safe.length+d.wait.length+(wD r).1.length+1 then(zD,2)else(⟨d.safe,d.wait++(wD r).1++[10]⟩,0)
def vR(d:iW)(r:Rec):iW×Int:=if jv d≠0 then(zD,jv d)else putT d r
theorem text_len{r:Rec}(w:La r):(wD r).1.length<=27390:=by
  unfold wD;split
  · rename_i h;have g:=abA r (by rw[<-rec_eq];exact h);have c:=VJ 32 21 ((nl r).map dt) (by intro x a;obtain⟨y,b,rfl⟩:=ec.1 a;exact itoa_len (nl_ok g w y b));have d:=abB g;rw[cH]at c;show(wN 32 ((nl r).map dt)).length<=_;omega
  · simp
theorem put_eq(N:Nat)(hN:60002<=N)(d:iW)(r:Rec)(c:d.wait.length<=9223372036854775807)(w:La r):Jl N d r=ak (vR d r):=by
  unfold Jl vR putT;rw[MO N hN d c,bnd];by_cases h:jv d=0
  · obtain⟨f,_⟩:=xn h;have e:=text_len w;rw[dF V,Z1,Z3 V,print_eq r (fun _=>w),bnd];by_cases a:(wD r).2=0
    · rw[dF V,Z1,Z3 V,gI,gI,gI];by_cases b:60000<d.safe.length+d.wait.length+(wD r).1.length+1
      · rw[dT V,ZS,Z2 b];rfl
      · rw[dF V,Z1,Z3 b,rQ V V,bnd,rQ V V,bnd,kz ⟨by omega,by omega⟩,kz ⟨by simp;omega,by simp;omega⟩]
    · rw[dT a,ZS,Z2 a];rfl
  · rw[dT h,ZS,Z2 h];rfl
def syncT(d:iW):iW×Int:=if jv ⟨d.safe++d.wait,[]⟩≠0 then(zD,jv ⟨d.safe++d.wait,[]⟩)else(⟨d.safe++d.wait,[]⟩,0)
def Hf(d:iW):iW×Int:=if jv d≠0 then(zD,jv d)else syncT d
theorem sync_eq(N:Nat)(hN:60002<=N)(d:iW)(b:d.wait.length<=9223372036854775807):Mq N d=ak (Hf d):=by
  unfold Mq Hf syncT;rw[MO N hN d b,bnd];by_cases h:jv d=0
  · obtain⟨c,_⟩:=xn h;rw[dF V,Z1,Z3 V,bcat _ _ V,bnd,MO N hN _ zq3,bnd];by_cases a:jv ⟨d.safe++d.wait,[]⟩=0
    · rw[dF V,Z1,Z3 V]
    · rw[dT a,ZS,Z2 a];rfl
  · rw[dT h,ZS,Z2 h];rfl
def Lb(d:iW)(n:Int):iW×Int:=if jv d≠0 then(zD,jv d)else if n<0\/(d.wait.length:Int)<n then(zD,3)else(⟨d.safe,d.wait.take n.toNat⟩,0)
theorem crash_eq(N:Nat)(hN:60002<=N)(d:iW)(n:Int)(b:d.wait.length<=9223372036854775807):JC N d n=ak (Lb d n):=by
  unfold JC Lb;rw[MO N hN d b,bnd];by_cases h:jv d=0
  · obtain⟨c,_⟩:=xn h;rw[dF V,Z1,Z3 V];by_cases a:n<0\/(d.wait.length:Int)<n
    · rw[show(ab (n<0)||ab ((d.wait.length:Int)<n))=aT by simpa using a,ZS,Z2 a];rfl
    · rw[show(ab (n<0)||ab ((d.wait.length:Int)<n))=aq by simp;omega,Z1,Z3 a];obtain⟨m,rfl⟩:=bs (show 0<=n by omega);rw[show(0:Int)=((0:Nat):Int)from rfl,Yc V V,bnd,rQ V V,bnd,rQ (by simp;omega) (by simp;omega),bnd,ga,bh]
  · rw[dT h,ZS,Z2 h];rfl
def NY(d:iW):iW×ZD Rec:=
 (⟨d.safe++d.wait.take (ln (120-((ln 120 d.safe).1.length:Int)) d.wait).2.1.toNat,[]⟩,(ln 120 d.safe).1++(ln (120-((ln 120 d.safe).1.length:Int)) d.wait).1)
def abG(d:iW):iW×ZD Rec×Int:=if jv d≠0 then(zD,[],jv d)else((NY d).1,(NY d).2,0)
theorem abH(most:Int)(s:Str):0<=(ln most s).2.1/\(ln most s).2.1<=s.length/\(ln most s).1.length<=s.length+1/\(0<=most->((ln most s).1.length:Int)<=most):=by
 have h:=lnP_len most (jP 10 s) [] 0<|Int.le_refl 0;have a:=M5 10 s;rw[CE]at h;unfold ln;simp only[eA]at h;omega
theorem recover_eq(N:Nat)(hN:60002<=N)(d:iW)(a:d.wait.length<=9223372036854775807):oL N d=ak (abG d):=by
  unfold oL abG NY;rw[MO N hN d a,bnd];by_cases h:jv d=0
  · obtain⟨f,_⟩:=xn h;have k1:=abH 120 d.safe;rw[dF V,Z1,Z3 V,abF N d.safe 120 hN V V,bnd,gI,abF N d.wait _ hN V V,bnd];have k2:=abH (120-((ln 120 d.safe).1.length:Int)) d.wait;generalize ln (120-((ln 120 d.safe).1.length:Int)) d.wait=y at*;obtain⟨c,b,e⟩:=y;simp only at k2⊢;obtain⟨m,rfl⟩:=bs k2.1;rw[show(0:Int)=((0:Nat):Int)from rfl,Yc V V,bnd,ga,bcat _ _ (by simp;omega),bnd,kz ⟨by omega,by omega⟩,bh]
  · rw[dT h,ZS,Z2 h];rfl
def xw(r:Rec):Str:=wN 32 ((nl r).map dt)
def ER(l:ZD Rec):Prop:=∀r∈l,dC r=0/\La r
def txt:ZD Rec->Str
 |[]=>[]
 |r::l=>xw r++10::txt l
theorem Ii:∀(a b:ZD Rec),txt (a++b)=txt a++txt b
 |[],b=>rfl
 |r::a,b=>by simp[txt,Ii a b]
theorem mem_joinC(c:UInt8):∀(l:ZD Str) (x:UInt8),x∈wN c l->x=c\/∃w∈l,x∈w
  |[],x,h=>by simp[wN,Lib.join_nil]at h
  |[y],x,h=>by rw[CB]at h;exact .inr ⟨y,by simp,h⟩
  |y::z::l,x,h=>by
    rw[zn]at h;rcases cE.1 h with h|h
    · exact .inr ⟨y,by simp,h⟩
    · rcases bm.1 h with h|h
      · exact .inl h
      · rcases mem_joinC c (z::l) x h with h|⟨w,hw,h⟩
        · exact .inl h
        · exact .inr ⟨w,bl _ hw,h⟩
theorem line_free(r:Rec):(10:UInt8)∉xw r:=by
  intro h;rcases mem_joinC 32 _ _ h with h|⟨w,hw,h⟩
  · exact ZJ h zq1
  · obtain⟨n,_,rfl⟩:=ec.1 hw;exact itoa_free zq1 h
theorem XR:∀(l:ZD Rec) (t:Str),jP 10 (txt l++t)=l.map xw++jP 10 t
 |[],t=>rfl
 |r::l,t=>by
  rw[txt,ck,ew,Cf (line_free r),XR l t];rfl
theorem lnP_txt(most:Int):∀(rs:ZD Rec) (q:ZD Str) (l:ZD Rec) (n:Int),ER rs->q≠[]->((l.length+rs.length:Nat):Int)<=most->TJ most (rs.map xw++q) l n=TJ most q (l++rs) (n+((txt rs).length:Int))
 |[],q,l,n,_,_,_=>by simp[txt]
 |r::rs,q,l,n,h,hq,hl=>by
  obtain⟨c,b⟩:=h r zq3;simp only[bq]at hl;have d:og (xw r)=(r,0):=abE c b;rw[cg,ew,lnP_cons (by simp[hq]),d,Z3 zq3,Z3 V,lnP_txt most rs q (l++[r]) _ (fun x a=>h x (bl _ a)) hq (by simp;omega)];simp only[txt,bj,bq,ck,ew,cr];congr 1;omega
theorem ln_txt{most:Int}{rs:ZD Rec}(t:Str)(h:ER rs)(a:(rs.length:Int)<=most):ln most (txt rs++t)=TJ most (jP 10 t) rs ((txt rs).length:Int):=by
 unfold ln;rw[XR,lnP_txt most rs _ [] 0 h (Im 10 t) (by simpa using a)];simp
theorem ln_all{most:Int}{rs:ZD Rec}(h:ER rs)(a:(rs.length:Int)<=most):ln most (txt rs)=(rs,((txt rs).length:Int),0):=by
 have:=ln_txt (most:=most) [] h a;rw[eL]at this;rw[this];simp[jP,TJ]
theorem ln_torn{most:Int}{rs:ZD Rec}{t:Str}(h:ER rs)(a:(rs.length:Int)<=most)(b:(10:UInt8)∉t):(ln most (txt rs++t)).1=rs/\(ln most (txt rs++t)).2.1=((txt rs).length:Int):=by
 rw[ln_txt t h a,Ke b];unfold TJ;split<;>simp
theorem FD{a:ZD Rec}{w:Str}(h:ER a)(b:a.length<=120)(c:(txt a).length+w.length<=60000):jv ⟨txt a,w⟩=0:=by
 unfold jv;show(if 60000<(txt a).length\/60000<(txt a).length+w.length then(2:Int)else(ln 120<|txt a).2.2)=0;rw[Z3 V,ln_all h V]
theorem put_txt{a b:ZD Rec}{r:Rec}(f:ER a)(g:a.length<=120)(i:(txt a).length+(txt b).length<=60000)(w:La r):
    (vR ⟨txt a,txt b⟩ r).2≠0\/(vR ⟨txt a,txt b⟩ r=(⟨txt a,txt (b++[r])⟩,0)/\dC r=0/\(txt a).length+(txt (b++[r])).length<=60000):=by
  unfold vR putT;rw[Z3 (by rw[FD f g i];simp)];by_cases h:dC r=0
  · have e:wD r=(xw r,0):=text_ok h;rw[e];simp only[ne_eq,not_true_eq_false,if_false];by_cases c:60000<(txt a).length+(txt b).length+(xw r).length+1
    · rw[Z2 c];left;simp
    · rw[Z3 c];right;have d:txt (b++[r])=txt b++xw r++[10]:=by rw[Ii];simp[txt]
      refine⟨by rw[d],h,by rw[d];simp;omega⟩
  · have e:wD r=([],dC r):=by unfold wD;rw[Z3 h]
    rw[e,Z2 h];exact .inl h
theorem sync_txt{a b:ZD Rec}(c:ER a)(f:ER b)(d:a.length+b.length<=120)(g:(txt a).length+(txt b).length<=60000):Hf ⟨txt a,txt b⟩=(⟨txt (a++b),[]⟩,0):=by
 have e:ER (a++b):=fun r h=>(cE.1 h).elim (c r)<|f r;unfold Hf syncT;rw[Z3 (by rw[FD c V g];simp)];show(if jv ⟨txt a++txt b,[]⟩≠0 then _ else _)=_;rw[<-Ii,Z3 (by rw[FD e (by simpa using d) (by rw[Ii];simp;omega)];simp)]
theorem take_txt:∀(b:ZD Rec) (m:Nat),∃k t,(txt b).take m=txt (b.take k)++t/\(10:UInt8)∉t
  |[],m=>⟨0,[],by simp[txt],by simp⟩
  |r::b,m=>by
    by_cases h:m<=(xw r).length
    · refine⟨0,(xw r).take m,?_,fun d=>line_free r<|List.mem_of_mem_take d⟩;simp only[jj,txt,cr];rw[List.take_append_of_le_length h]
    · obtain⟨k,t,c,a⟩:=take_txt b<|m-(xw r).length-1;refine⟨k+1,t,?_,a⟩;rw[qE,txt,txt,List.take_append,List.take_of_length_le V,ck,ew,<-c];congr 1;rw[show m-(xw r).length=(m-(xw r).length-1)+1 by omega,qE];simp
theorem JU:ER []:=fun r h=>by cases h
theorem line_len{r:Rec}(h:dC r=0)(w:La r):(xw r).length<=27390:=by
 have:=text_len w;rw[text_ok h]at this;exact this
theorem put_ok{a b:ZD Rec}{r:Rec}(c:ER a)(d:a.length<=120)(g:(txt a).length+(txt b).length+27391<=60000)(h:dC r=0)(w:La r):vR ⟨txt a,txt b⟩ r=(⟨txt a,txt (b++[r])⟩,0):=by
 have i:=line_len h w;unfold vR putT;rw[Z3 (by rw[FD c d V];simp)];have e:wD r=(xw r,0):=text_ok h;rw[e];simp only[ne_eq,not_true_eq_false,if_false];have f:txt (b++[r])=txt b++xw r++[10]:=by rw[Ii];simp[txt]
 rw[Z3 V,f]
theorem coSame(a b:ZD Co):Nt a b=ak (ab (a=b)):=by
  unfold Nt;by_cases h:a.length=b.length
  · rw[dF V];simp only[Z1];rw[RJ (fun x y=>ab (x=y)) a b h rfl (fun i x y j c=>by
      unfold Ja Ea;rw[lC,c];simp only[bnd,eqInt];have e:(((ab (x.kJ=y.kJ)&&ab (x.aF=y.aF))&&ab (x.offered=y.offered))&&ab (x.image=y.image))=ab (x=y):=by
        cases x;cases y;rw[ez];simp;exact⟨fun⟨⟨⟨f,c⟩,d⟩,g⟩=>⟨f,c,g,d⟩,fun⟨f,c,g,d⟩=>⟨⟨⟨f,c⟩,d⟩,g⟩⟩
      rw[<-e];cases ((ab (x.kJ=y.kJ)&&ab (x.aF=y.aF))&&ab (x.offered=y.offered))<;>cases ab (x.image=y.image)<;>rfl),Qp (fun _ _=>rfl)]
  · rw[dT V];have:a≠b:=fun e=>h (by rw[e]);rw[dF this];rfl
def coOk(x:Co):Prop:=0<=x.kJ/\x.kJ<=2/\1<=x.aF/\x.aF<=100/\ -1<=x.offered/\x.offered<=2/\1<=x.image.length/\x.image.length<=1200
def rg(x:Co):Ys:=(((((ab ((x.kJ:Int)<0)||ab ((3:Int)<=x.kJ))||ab ((x.aF:Int)<1))||ab ((100:Int)<x.aF))||ab ((x.offered:Int)< -1))||ab ((3:Int)<=x.offered))
def mn(x:Co):Ys:=(ab (((x.image.length:Int):Int)=0)||ab ((1200:Int)<(x.image.length:Int)))
theorem rg_eq(x:Co):(((!(bB x.kJ 0 2))||(!(bB x.aF 1 100)))||(!(bB x.offered (-1) 2)))=rg x:=by
 unfold bB rg;rw[ez];simp;omega
theorem mn_eq(x:Co):(!(bB (x.image.length:Int) 1 1200))=mn x:=by
 have hn:0<=(x.image.length:Int):=by omega
 unfold bB mn;generalize (x.image.length:Int)=n at hn⊢;rw[ez];simp;omega
theorem coOk_iff(x:Co):coOk x↔rg x=aq/\mn x=false:=by
 have hn:0<=(x.image.length:Int):=by omega
 unfold coOk rg mn;rw[show(1<=x.image.length)=(1<=(x.image.length:Int)) by simp;omega,show(x.image.length<=1200)=((x.image.length:Int)<=1200) by simp;omega];generalize (x.image.length:Int)=n at hn⊢;simp;omega
theorem chkEq(a:ZD Co):Kr a=ak (gB a):=by
  unfold Kr gB;by_cases h:(3:Int)<(a.length:Int)
  · rw[dT h];rfl
  · rw[dF h];simp only[Z1];have e:∀(k:ZD Co) (i:Nat) (b:Int),(∀j,k[j]? =a[i+j]?)->(i=0->b= -1)->(∀j,i=j+1->∃y,a[j]? =ak y/\y.kJ=b)->i<=a.length->ib (yu a) BV (i:Int) k ()=ak (each ko lM k b):=by
      intro k;induction k with
      |nil=>intro i b _ _ _ _;rfl
      |cons x k ih=>
        intro i b l n q r;rw[sG,gV];have g:a[i]? =ak x:=by have:=l 0;simpa using this.symm
        have o:i<a.length:=by
          rcases cI i a.length with h|h
          · exact h
          · rw[bt h]at g;cases g
        have c:=ih (i+1) x.kJ (fun j=>by have:=l (j+1);simpa[kb,Nat.add_comm 1 j]using this) V (fun j p=>⟨x,by rw[show j=i by omega];exact g,Z⟩) V;rw[show((i+1:Nat):Int)=(i:Int)+1 from rfl]at c;generalize ib (yu a) BV ((i:Int)+1) k=nx at c⊢;generalize each ko lM k=nx2 at c⊢;unfold yu ko;rw[rg_eq,mn_eq,<-rg,<-mn];cases hr:rg x with
        |true=>rfl
        |false=>
        cases hm:mn x with
        |true=>rfl
        |false=>
        have d:=(coOk_iff x).2 ⟨hr,hm⟩;simp only[Z1];unfold BU;cases i with
        |zero=>
          rw[n rfl,dF (show¬x.kJ<= -1 by have:=d.1;omega)];simpa using c
        |succ j=>
          obtain⟨y,m,f⟩:=q j Z;rw[dT (show(0:Int)<((j+1:Nat):Int) by omega),show((j+1:Nat):Int)-1=(j:Int) by omega,gI,lC,m];simp only[ZS,bnd,f];cases ab (x.kJ<=b)with
          |true=>rfl
          |false=>exact c
    exact e a 0 (-1) (fun j=>by simp) (fun _=>rfl) (fun j p=>by omega) V
abbrev Up(l:ZD Co):Prop:=l.Pairwise (fun x y=>x.kJ<y.kJ)
theorem each_ok:∀(l:ZD Co) (a:Int),each ko lM l a=0↔(∀x∈l,coOk x)/\Up l/\∀x∈l,a<x.kJ
  |[],a=>by simp[rE,lM]
  |x::r,a=>by
    rw[gV];have g:=each_ok r x.kJ;generalize each ko lM r=nx at g⊢;unfold ko;rw[rg_eq,mn_eq];have c:=coOk_iff x;cases hr:rg x with
    |true=>
      simp only[ZS];constructor
      · intro h;exact ZJ h zq1
      · intro h;have:=(c.1<|h.1 x eV).1;rw[hr]at this;cases this
    |false=>
    cases hm:mn x with
    |true=>
      simp only[ZS,Z1];constructor
      · intro h;exact ZJ h zq1
      · intro h;have:=(c.1<|h.1 x eV).2;rw[hm]at this;cases this
    |false=>
    have ho:=c.2 ⟨hr,hm⟩;simp only[Z1];by_cases i:x.kJ<=a
    · rw[dT i];simp only[ZS];constructor
      · intro h;exact ZJ h zq1
      · intro h;have:=h.2.2 x eV;omega
    · rw[dF i];simp only[Z1];rw[g];show _↔_/\pe _ (x::r)/\_;rw[ee];constructor
      · rintro⟨f,e,d⟩;refine⟨?_,⟨d,e⟩,?_⟩
        · intro y b;rcases bm.1 b with rfl|b
          · exact ho
          · exact f y b
        · intro y b;rcases bm.1 b with rfl|b
          · omega
          · have:=d y b;omega
      · rintro⟨f,⟨e,d⟩,j⟩;exact⟨fun y b=>f y<|bl _ b,d,e⟩
structure Good(l:List Co):Prop where
 len:l.length<=3
 ok:∀x∈l,coOk x
 up:Up l
theorem Vl(l:ZD Co):gB l=0↔Good l:=by
  unfold gB;by_cases h:(3:Int)<(l.length:Int)
  · rw[dT h];simp only[ZS];exact⟨fun h=>ZJ h zq1,fun g=>by have:=g.len;omega⟩
  · rw[dF h];simp only[Z1];rw[each_ok];exact⟨fun⟨c,b,_⟩=>⟨by omega,c,b⟩,fun g=>⟨g.ok,g.up,fun x a=>by have:=(g.ok x a).1;omega⟩⟩
def Ij(c:Co):ZD Co->ZD Co
 |[]=>[c]
 |x::r=>if x.kJ<c.kJ then x::Ij c r else c::x::r
def OE(b:Rec)(l:ZD Co):ZD Co:=l.filter fun x=>ab (x.kJ≠b.co)
def NZ(b:Rec)(l:ZD Co):Zs Co:=l.find? fun x=>ab (x.kJ=b.co)
def gD(a:ZD Co)(b:Rec):ZD Co×Int:=
 if gB a≠0 then([],gB a)else if fG b≠0 then([],fG b)else
 match NZ b a with
 |none=>if b.kind=1\/b.kind=4 then(if(ab (b.aF=1) !=ab (b.kind=1))=aT then([],7)else(Ij ⟨b.co,b.aF,b.image,-1⟩ (OE b a),0))else([],5)
 |some c=>if b.kind=1\/b.kind=4 then([],6)else if(ab (b.aF≠c.aF)||(ab (c.offered≠ -1) !=ab (b.kind=5)))=aT then([],7)else
  if b.kind=5 then(OE b a,0)else if b.kind=2 then(Ij ⟨c.kJ,c.aF,b.image,c.offered⟩ (OE b a),0)else if c.aF=100 then([],2)else(Ij ⟨c.kJ,c.aF,c.image,b.place⟩ (OE b a),0)
theorem oth_up(b:Rec){l:ZD Co}(h:Up l):Up (OE b l):=h.filter _
theorem Y3{b:Rec}{l:ZD Co}{x:Co}(h:x∈OE b l):x∈l/\x.kJ≠b.co:=by
 unfold OE at h;rw[tb]at h;exact⟨h.1,by simpa using h.2⟩
theorem coCopy{a:ZD Co}(h:a.length<=3)(e:∀x∈a,x.image.length<=1200):I5 a=ak a:=by
 unfold I5;rw[rQ V V];simp only[bnd,bh];have c:∀(m i:Nat),i+m=a.length->upto vO BB (i:Int) m a=ak a:=by
  intro m;induction m with
  |zero=>intro i _;rfl
  |succ m ih=>
   intro i f;have d:i<a.length:=by omega
   show vO (i:Int) a (upto vO BB ((i:Int)+1) m)=_;have b:=ih (i+1) V;rw[show((i+1:Nat):Int)=(i:Int)+1 from rfl]at b;generalize upto vO BB ((i:Int)+1) m=nx at b⊢;unfold vO;rw[xI d];have:=e a[i]<|cA d;simp only[bnd];rw[rQ V V];simp only[bnd,bh];rw[show({a[i]with image:=a[i].image}:Co)=a[i]from rfl,mm];exact b
 simpa using c a.length 0 V
theorem findEq(a:ZD Co)(k:Int):rq a k=ak (match a.findIdx? (fun x=>ab (x.kJ=k))with|some n=>(n:Int)|none=> -1):=by
 unfold rq;simp only[bh];rw[Qq (fun x=>ab (x.kJ=k)) (fun i=>ak i) a (fun i x c b=>by
  unfold KR;rw[lC,b];rfl)]
 cases a.findIdx? (fun x=>ab (x.kJ=k))<;>rfl
theorem Vm(b:Rec):∀(a:ZD Co),(NZ b a=ar/\a.findIdx? (fun x=>ab (x.kJ=b.co))=ar/\OE b a=a)\/
    ∃n x,NZ b a=ak x/\a.findIdx? (fun x=>ab (x.kJ=b.co))=ak n/\a[n]? =ak x/\x.kJ=b.co
  |[]=>.inl ⟨rfl,rfl,rfl⟩
  |x::r=>by
    unfold NZ OE;rw[List.find?_cons,ra,hO];by_cases h:x.kJ=b.co
    · exact .inr ⟨0,x,by simp[h],by simp[h],Z,h⟩
    · simp only[h,decide_false,cv,if_false,ne_eq,not_false_eq_true,decide_true,if_true];rcases Vm b r with⟨h1,h2,h3⟩|⟨n,y,h1,h2,h3,h4⟩
      · exact .inl ⟨h1,by rw[h2];rfl,by unfold OE at h3;rw[h3]⟩
      · exact .inr ⟨n+1,y,h1,by rw[h2];rfl,by simpa using h3,h4⟩
theorem Y4(b:Rec):∀(a:ZD Co) (n:Nat) (x y:Co),Up a->a[n]? =ak x->x.kJ=b.co->y.kJ=b.co->a.set n y=Ij y (OE b a)
 |[],n,x,y,_,h,_,_=>by simp at h
 |z::r,0,x,y,hu,h,hx,hy=>by
  simp only[fg,eJ]at h;subst h;rw[Up,ee]at hu;have d:OE b (z::r)=r:=by
   unfold OE;rw[hO,Z3 (by simp[hx]),nd];intro u c;have:=hu.1 u c;simp;omega
  rw[d,List.set_cons_zero];cases r with
  |nil=>rfl
  |cons u r=>
   have:=hu.1 u eV;simp only[Ij];rw[Z3 V]
 |z::r,n+1,x,y,hu,h,hx,hy=>by
  simp only[pn]at h;rw[Up,ee]at hu;have hz:=hu.1 x<|fx h;have d:OE b (z::r)=z::OE b r:=by unfold OE;rw[hO,Z2 (by simp;omega)]
  rw[d,List.set_cons_succ,Y4 b r n x y hu.2 h hx hy];simp only[Ij];rw[Z2 V]
theorem del_oth(b:Rec):∀(a:ZD Co) (n:Nat) (x:Co),Up a->a[n]? =ak x->x.kJ=b.co->a.take n++a.drop (n+1)=OE b a
 |[],n,x,_,h,_=>by simp at h
 |z::r,0,x,hu,h,hx=>by
  simp only[fg,eJ]at h;subst h;rw[Up,ee]at hu;unfold OE;rw[hO,Z3 (by simp[hx])];have:r.filter (fun x=>decide<|x.kJ≠b.co)=r:=by
   rw[nd];intro u c;have:=hu.1 u c;simp;omega
  rw[this];simp
 |z::r,n+1,x,hu,h,hx=>by
  simp only[pn]at h;rw[Up,ee]at hu;have hz:=hu.1 x<|fx h;have d:OE b (z::r)=z::OE b r:=by unfold OE;rw[hO,Z2 (by simp;omega)]
  rw[d,<-del_oth b r n x hu.2 h hx];simp
theorem ins_loop(b:Rec)(a:ZD Co)(f:a.length<=3)(g:b.image.length<=1200):∀(k i N:Nat),i+k=a.length->k<N->again (kX a b) N (i:Int)=ak (a.take i++Ij ⟨b.co,b.aF,b.image,-1⟩ (a.drop i),0)
  |0,i,N+1,h,_=>by
    show kX a b (i:Int) (again (kX a b) N)=_;generalize again (kX a b) N=nx;unfold kX zU;rw[dF V];simp only[Z1];rw[rQ V V];simp only[bnd];rw[kz (Room.mk (by simp;omega) (by simp;omega)),ins1,Z2 ⟨by omega,by omega⟩];rw[cG (show a.length<=i by omega)];simp[Ij,show a.drop i=[]from cG V]
  |k+1,i,N+1,h,hN=>by
    have d:i<a.length:=by omega
    have e:=ins_loop b a f g k (i+1) N V V;rw[show((i+1:Nat):Int)=(i:Int)+1 from rfl]at e;show kX a b (i:Int) (again (kX a b) N)=_;generalize again (kX a b) N=nx at e⊢;unfold kX zU;rw[dT V,xI d];simp only[ZS,bnd];by_cases c:a[i].kJ<b.co
    · rw[dT c];simp only[ZS];rw[gI,e,cS d];simp only[Ij];rw[Z2 c,List.take_succ_eq_append_getElem d,ck,pN]
    · rw[dF c];simp only[Z1];rw[rQ V V];simp only[bnd];rw[kz (Room.mk (by simp;omega) (by simp;omega)),ins1,Z2 ⟨by omega,by omega⟩];simp only[bnd,bh];rw[cS d];simp only[Ij];rw[Z3 c,ck,pN]
theorem next_eq(N:Nat)(hN:5<N)(a:ZD Co)(b:Rec):E9 N a b=ak (gD a b):=by
  unfold E9 gD;rw[chkEq];simp only[bnd];by_cases f:gB a=0
  · rw[rec_eq];by_cases i:fG b=0
    · have g:=(Vl a).1 f;have gr:=abA b i;have gl:=g.len;rw[f,i];simp only[ne_eq,not_true_eq_false,decide_false,Z1,if_false];rw[coCopy g.len (fun x p=>(g.ok x p).2.2.2.2.2.2.2)];simp only[bnd];rw[findEq];simp only[bnd];have r:=gr.kind;have e:(ab ((b.kind:Int)=1)||ab ((b.kind:Int)=4))=ab (b.kind=1\/b.kind=4):=by simp
      rw[e];rcases Vm b a with⟨e1,e2,e3⟩|⟨n,c,e1,e2,e3,e4⟩
      · rw[e1,e2];simp only;by_cases d:b.kind=1\/b.kind=4
        · rw[dT d,Z2 d];simp only[ZS];rw[show ab ((0:Int)<= -1)=aq by decide];simp only[Z1];have s:((ab ((b.kind:Int)=1)&&ab ((b.aF:Int)≠1))||(ab ((b.kind:Int)=4)&&ab ((b.aF:Int)=1)))=(ab (b.aF=1) !=ab (b.kind=1)):=by
            by_cases q:b.aF=1
            · rcases d with k|k<;>simp[q,k]
            · rcases d with k|k<;>simp[q,k]
          rw[s];cases (ab (b.aF=1) !=ab (b.kind=1))with
          |true=>rfl
          |false=>
            simp only[Z1,cv,if_false];have:=ins_loop b a g.len gr.image a.length 0 N V V;simp only[Int.natCast_zero,jj,ga,cr]at this;rw[this,e3]
        · rw[dF d,Z3 d];simp only[Z1];rw[show ab ((-1:Int)<0)=aT by decide];rfl
      · have hn:n<a.length:=by
          rcases cI n a.length with h|h
          · exact h
          · rw[bt h]at e3;cases e3
        have l:=g.ok c<|fx e3;rw[e1,e2];simp only;by_cases d:b.kind=1\/b.kind=4
        · rw[dT d,Z2 d];simp only[ZS];rw[dT (show(0:Int)<=(n:Int) by omega)];rfl
        · rw[dF d,Z3 d];simp only[Z1];rw[dF (show¬(n:Int)<0 by omega),lC,e3];simp only[Z1,bnd];have ho:ab ((0:Int)<=c.offered)=ab (c.offered≠ -1):=by
            rw[decide_eq_decide];have:=l.2.2.2.2.1;omega
          have t:(bif ab (c.aF≠b.aF)then tQ b a (n:Int) c aT else tQ b a (n:Int) c (ab (b.kind=5) !=ab ((0:Int)<=c.offered)))=tQ b a (n:Int) c (ab (b.aF≠c.aF)||(ab (c.offered≠ -1) !=ab (b.kind=5))):=by
            rw[ho];by_cases q:b.aF=c.aF
            · rw[q];simp only[ne_eq,not_true_eq_false,decide_false,Z1,pc];cases ab (b.kind=5)<;>cases ab (¬c.offered= -1)<;>rfl
            · rw[show ab (c.aF≠b.aF)=aT from dT (fun h=>q h.symm),show ab (b.aF≠c.aF)=aT from dT q];rfl
          refine t.trans ?_;unfold tQ;cases (ab (b.aF≠c.aF)||(ab (c.offered≠ -1) !=ab (b.kind=5)))with
          |true=>rfl
          |false=>
            simp only[Z1,cv,if_false];by_cases k2:b.kind=2
            · rw[dT k2,Z3 V,Z2 k2];simp only[ZS];rw[rQ (by have:=gr.image;omega) (by have:=gr.image;omega)];simp only[bnd,bh];rw[Y4 b a n c {c with image:=b.image} g.up e3 e4 e4]
            · rw[dF k2,Z3 k2];simp only[Z1];by_cases m:b.kind=3
              · rw[dT m,Z3 V];simp only[ZS];by_cases j:c.aF=100
                · rw[dT j,Z2 j];rfl
                · rw[dF j,Z3 j];simp only[Z1,bh];rw[Y4 b a n c {c with offered:=b.place} g.up e3 e4 e4]
              · have o:b.kind=5:=by omega
                rw[dF m,dT o,Z2 o];simp only[Z1,ZS];rw[gI,del_s1 hn];simp only[bnd];rw[del_oth b a n c g.up e3 e4]
    · rw[f];simp only[ne_eq,not_true_eq_false,decide_false,Z1,if_false];rw[show ab (¬fG b=0)=aT from dT i,Z2 i];rfl
  · rw[show ab (gB a≠0)=aT from dT f,Z2 f];rfl
def iM:ZD Co->ZD Rec->ZD Co×Int
 |s,[]=>(s,0)
 |s,r::l=>if(gD s r).2≠0 then([],(gD s r).2)else iM (gD s r).1 l
theorem rep_each(N:Nat)(hN:5<N):∀(l:ZD Rec) (s:ZD Co),each (BX N) BZ l s=ak (iM s l)
  |[],s=>by simp[rE,BZ,iM]
  |r::l,s=>by
    rw[gV,BX,next_eq N hN,bnd,iM];by_cases h:(gD s r).2=0
    · rw[dF V,Z1,Z3 V,rep_each N hN l]
    · rw[dT h,ZS,Z2 h]
theorem XT(N:Nat)(hN:5<N)(l:ZD Rec):AJ N l=ak (if 120<l.length then([],2)else iM [] l):=by
  unfold AJ;by_cases h:120<l.length
  · rw[dT V,ZS,Z2 h]
  · rw[dF V,Z1,Z3 h,rep_each N hN]
theorem pRep_app:∀(a b:ZD Rec) (s:ZD Co),iM s (a++b)=if(iM s a).2≠0 then([],(iM s a).2)else iM (iM s a).1 b
  |[],b,s=>by simp[iM]
  |r::a,b,s=>by
    rw[ew,iM,iM];by_cases h:(gD s r).2=0
    · simp only[h,ne_eq,not_true_eq_false,if_false];exact pRep_app a b _
    · simp[h]
theorem pNext_rec{s:ZD Co}{r:Rec}(h:(gD s r).2=0):dC r=0:=by
  rw[rec_eq];unfold gD at h;by_cases b:gB s=0
  · rw[Z3 V]at h;by_cases a:fG r=0
    · exact a
    · rw[Z2 a]at h;exact ZJ h a
  · rw[Z2 b]at h;exact ZJ h b
theorem Qe{c y:Co}:∀{l:ZD Co},y∈Ij c l↔y=c\/y∈l
  |[]=>by simp[Ij]
  |x::r=>by
    unfold Ij;split
    · rw[bm,Qe,bm];constructor
      · rintro(h|h|h)
        · exact .inr<|.inl h
        · exact .inl h
        · exact .inr<|.inr h
      · rintro(h|h|h)
        · exact .inr<|.inl h
        · exact .inl h
        · exact .inr<|.inr h
    · rw[bm]
theorem GG{c:Co}:∀{l:ZD Co},(Ij c l).length=l.length+1
  |[]=>rfl
  |x::r=>by
    unfold Ij;split
    · rw[bq,GG,bq]
    · rfl
theorem insC_up{c:Co}:∀{l:ZD Co},Up l->(∀x∈l,x.kJ≠c.kJ)->Up (Ij c l)
  |[],_,_=>by simp[Ij,Up]
  |x::r,h,hn=>by
    rw[Up,ee]at h;have b:=hn x eV;unfold Ij;split
    · next hl=>
      show pe _ _;rw[ee];refine⟨fun y a=>?_,insC_up h.2 fun y a=>hn y<|bl _ a⟩;rcases Qe.1 a with rfl|a
      · exact hl
      · exact h.1 y a
    · next hl=>
      show pe _ _;rw[ee,ee];refine⟨fun y a=>?_,h.1,h.2⟩;rcases bm.1 a with rfl|a
      · omega
      · have:=h.1 y a;omega
theorem find_of{l:ZD Co}(b:Up l){x:Co}(a:x∈l):∃n,l.findIdx? (fun y=>ab (y.kJ=x.kJ))=ak n/\l[n]? =ak x/\n<l.length:=by
  induction l with
  |nil=>cases a
  |cons z r ih=>
    rw[Up,ee]at b;rw[ra];rcases bm.1 a with rfl|a
    · exact⟨0,by simp,Z,by simp⟩
    · have:=b.1 x a;obtain⟨n,d,c,e⟩:=ih b.2 a;exact⟨n+1,by rw[Z3 (by simp;omega),d];rfl,by simpa using c,by simp;omega⟩
theorem next_ok(a:ZD Co)(b:Rec)(h:(gD a b).2=0):Good a/\Good (gD a b).1/\a.length<=(gD a b).1.length+1/\(gD a b).1.length<=a.length+1/\(∀x∈a,x.kJ≠b.co->x∈(gD a b).1)/\(∀x∈a,x.kJ=b.co->0<=x.offered->b.kind=5):=by
  unfold gD at h⊢;by_cases s:gB a=0
  · by_cases t:fG b=0
    · have g:=(Vl a).1 s;have gr:=abA b t;have gl:=g.len;have G:=gr.co;rw[Z3 (by simpa using s),Z3 (by simpa using t)]at h⊢;have i:∀x∈a,x.kJ≠b.co->x∈OE b a:=fun x f hn=>by unfold OE;rw[tb];exact⟨f,by simpa using hn⟩
      have k:∀c:Co,coOk c->c.kJ=b.co->(OE b a).length<=2->Good (Ij c (OE b a)):=fun c I L O=>⟨by rw[GG];omega,fun x f=>by
        rcases Qe.1 f with rfl|f
        · exact I
        · exact g.ok x (Y3 f).1,insC_up (oth_up b g.up) (fun x f=>by have:=(Y3 f).2;omega)⟩
      rcases Vm b a with⟨e1,e2,e3⟩|⟨n,c,e1,e2,e3,e4⟩
      · rw[e1]at h⊢;simp only at h⊢;have hno:∀x∈a,x.kJ≠b.co:=fun x f e=>by
          unfold NZ at e1;rw[List.find?_eq_none]at e1;exact e1 x f (by simpa using e)
        by_cases q:b.kind=1\/b.kind=4
        · rw[Z2 q]at h⊢;cases hq:(ab (b.aF=1) !=ab (b.kind=1))with
          |true=>rw[hq,Z2 Z]at h;exact ZJ h zq1
          |false=>
            rw[hq]at h;simp only[cv,if_false]at h⊢;have w:a.length<=2:=by
              match a,g,hno with
              |[],_,_=>simp
              |[x],_,_=>simp
              |[x,y],_,_=>simp
              |[x,y,z],g,hno=>
                have K:=g.up;simp[Up]at K;have o1:=g.ok x zq3;have o2:=g.ok y zq3;have N:=g.ok z zq3;have P:=hno x zq3;have R:=hno y zq3;have Q:=hno z zq3;unfold coOk at o1 o2 N;omega
              |x::y::z::u::r,g,_=>have:=g.len;simp at this
            have A:=gr.has V;refine⟨g,k _ ⟨G.1,G.2,gr.aF.1,gr.aF.2,by simp,by simp,A,gr.image⟩ Z (by rw[e3];exact w),?_,?_,fun x f hn=>Qe.2 (.inr (i x f hn)),fun x f e=>ZJ e (hno x f)⟩
            · rw[GG,e3];omega
            · rw[GG,e3];omega
        · rw[Z3 q]at h;exact ZJ h zq1
      · rw[e1]at h⊢;simp only at h⊢;have hn:n<a.length:=by
          rcases cI n a.length with h|h
          · exact h
          · rw[bt h]at e3;cases e3
        have M:(OE b a).length+1=a.length:=by
          rw[<-del_oth b a n c g.up e3 e4];simp;omega
        have d:=g.ok c<|fx e3;have o:∀x∈a,x.kJ=b.co->x=c:=by
          intro x f p;obtain⟨m,B,C,_⟩:=find_of g.up f;rw[p,e2]at B;cases B;rw[e3]at C;exact(osi C).symm
        by_cases q:b.kind=1\/b.kind=4
        · rw[Z2 q]at h;exact ZJ h zq1
        · rw[Z3 q]at h⊢;cases hq:(ab (b.aF≠c.aF)||(ab (c.offered≠ -1) !=ab (b.kind=5)))with
          |true=>rw[hq,Z2 Z]at h;exact ZJ h zq1
          |false=>
            rw[hq]at h;simp only[cv,if_false]at h⊢;have j:∀x∈a,x.kJ=b.co->0<=x.offered->b.kind=5:=by
              intro x f p S;have:=o x f p;subst this;rw[da]at hq;have v:=hq.2;rw[show ab (x.offered≠ -1)=aT from dT V]at v;cases h5:ab (b.kind=5)with
              |true=>exact odt h5
              |false=>rw[h5]at v;cases v
            have l:∀(F:Co) x,x∈a->x.kJ≠b.co->x∈Ij F (OE b a):=fun F x f hn=>Qe.2<|.inr<|i x f hn;by_cases E:b.kind=5
            · rw[Z2 E]at h⊢;exact⟨g,⟨by show(OE b a).length<=3;omega,fun x f=>g.ok x (Y3 f).1,oth_up b g.up⟩,by show a.length<=(OE b a).length+1;omega,by show(OE b a).length<=a.length+1;omega,i,j⟩
            · rw[Z3 E]at h⊢;by_cases k2:b.kind=2
              · rw[Z2 k2]at h⊢;have A:=gr.has V;refine⟨g,k _ ⟨d.1,d.2.1,d.2.2.1,d.2.2.2.1,d.2.2.2.2.1,d.2.2.2.2.2.1,A,gr.image⟩ e4 V,?_,?_,l _,j⟩
                · rw[GG];omega
                · rw[GG];omega
              · rw[Z3 k2]at h⊢;by_cases p:c.aF=100
                · rw[Z2 p]at h;exact ZJ h zq1
                · rw[Z3 p]at h⊢;have hp:=gr.place;refine⟨g,k _ ⟨d.1,d.2.1,d.2.2.1,d.2.2.2.1,by show-1<=b.place;omega,hp.2,d.2.2.2.2.2.2.1,d.2.2.2.2.2.2.2⟩ e4 V,?_,?_,l _,j⟩
                  · rw[GG];omega
                  · rw[GG];omega
    · rw[Z3 (by simpa using s),Z2 t]at h;exact ZJ h t
  · rw[Z2 s]at h;exact ZJ h s
theorem XU{a:ZD dE}(h:dV a=0):a.length<=40/\∀x∈a,x.image.length<=1200:=by
  unfold dV at h;by_cases c:(40:Int)<(a.length:Int)
  · rw[decide_eq_true c]at h;cases h
  · rw[decide_eq_false c]at h;refine⟨by omega,?_⟩;simp only[Z1]at h;clear c;induction a with
    |nil=>intro x b;cases b
    |cons y r ih=>
      rw[gV]at h;unfold Ay at h;generalize e:(((((((ab ((y.from_:Int)<0)||ab ((3:Int)<=y.from_))||ab ((y.iF:Int)<0))||ab ((3:Int)<=y.iF))||ab ((y.co:Int)<0))||ab ((3:Int)<=y.co))||ab ((y.aF:Int)<2))||ab ((100:Int)<y.aF))=A at h;cases A with
      |true=>cases h
      |false=>
        simp only[Z1]at h;generalize d:((y.taken !=ab (((y.image.length:Int):Int)=0))||ab ((1200:Int)<(y.image.length:Int)))=B at h;cases B with
        |true=>cases h
        |false=>
          simp only[Z1]at h;intro x b;rcases bm.1 b with rfl|b
          · simp only[da,decide_eq_false_iff_not]at d;omega
          · exact ih h x b
theorem wCopy{a:ZD dE}(h:a.length<=40)(d:∀x∈a,x.image.length<=1200):Em a=ak a:=by
 unfold Em;rw[rQ V V];simp only[bnd,bh];have b:∀(m i:Nat),i+m=a.length->upto CY Kv (i:Int) m a=ak a:=by
  intro m;induction m with
  |zero=>intro i _;rfl
  |succ m ih=>
   intro i e;have c:i<a.length:=by omega
   show CY (i:Int) a (upto CY Kv ((i:Int)+1) m)=_;unfold CY;rw[xI c];have:=d a[i]<|cA c;simp only[bnd];rw[rQ V V];simp only[bnd,bh];rw[show({a[i]with image:=a[i].image}:dE)=a[i]from rfl,mm];exact ih (i+1) V
 simpa using b a.length 0 V
theorem b_t{p:Prop} [Decidable p](h:p):decide p=true:=decide_eq_true h
theorem b_f{p:Prop} [Decidable p](h:¬p):decide p=false:=decide_eq_false h
theorem wSend(a:ZD dE)(b:dE):Py a b=ak (if dV a≠0 then([],dV a)else if dV [b]≠0 then([],dV [b])else(if a.length<40 then a++[b]else a,0)):=by
  unfold Py;by_cases d:dV a≠0
  · rw[b_t d,Z2 d];rfl
  · rw[b_f d,Z3 d];by_cases c:dV [b]≠0
    · rw[b_t c,Z2 c];rfl
    · rw[b_f c,Z3 c];have c1:=XU<|ep.1 d;have c2:=XU<|ep.1 c;simp only[Z1,wCopy c1.1 c1.2,wCopy c2.1 c2.2,bnd];by_cases e:(a.length:Int)<40
      · rw[b_t e,Z2 V];simp only[ZS];exact kz (Room.mk (by simp;omega) (by simp;omega))
      · rw[b_f e,Z3 V];rfl
def zMail:dE:=⟨0,0,0,0,aq,[]⟩
theorem wTake(a:ZD dE)(k:Int)(t:Ys):Jk a k t=ak (if dV a≠0 then([],zMail,dV a)else if k<0\/(a.length:Int)<=k then([],zMail,5)else(if t then a else a.take k.toNat++a.drop (k.toNat+1),(a[k.toNat]?).getD zMail,0)):=by
  unfold Jk Kw;by_cases b:dV a≠0
  · rw[b_t b,Z2 b];rfl
  · rw[b_f b,Z3 b];have c1:=XU<|ep.1 b;by_cases c:k<0\/(a.length:Int)<=k
    · rw[show(ab (k<0)||ab ((a.length:Int)<=k))=aT by simpa using c,Z2 c];rfl
    · rw[show(ab (k<0)||ab ((a.length:Int)<=k))=aq by simpa using c,Z3 c];obtain⟨n,rfl⟩:=bs (show 0<=k by omega);have hn:n<a.length:=by omega
      simp only[Z1,wCopy c1.1 c1.2,bnd,bh];have g1:kN ((n:Int)+1):=kN.mk V V;rw[kz g1];have e:(n:Int)+1=((n+1:Nat):Int):=rfl;rw[e,Yc V V];have f:=one_at hn;rw[f];simp only[bnd];rw[wCopy zq3 (by intro x d;simp at d;subst d;exact c1.2 _ (cA hn))];simp only[bnd];rw[show idx [a[n]] 0=ak a[n]from rfl];simp only[bnd,bc hn,dw];cases t with
      |true=>simp only[ea,Z1,if_true]
      |false=>
        simp only[iS,ZS];rw[kz (show kN (((n+1:Nat):Int))from kN.mk V V),del_s V V];simp only[bnd,cv,if_false]
end Dk
end Go.Proofs.YtodkbibbgakkdaaGreatDoor