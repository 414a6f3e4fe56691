/-
  What the law StoryOne needs of our own library and of the walks, no more.
-/
import Derived.Test.YtodkbibbgakkdaaGreatDoorStoryOneTg
set_option linter.unusedSimpArgs false
set_option linter.unusedVariables false
set_option maxRecDepth 10000
open Bool renaming and_eq_false_iff->cG,and_eq_true->cS,cond_eq_ite->dd,eq_iff_iff->et,false_eq_true->cM,false_or->oL,not_eq_true'->gk,not_false->ka,not_true->ej,or_eq_false_iff->cX,or_eq_true->dy,true_and->mT,false->ao,true->ba
open Decidable renaming not_not->ei,decide->ab
open Go.Lib renaming atoiAll_bounds->rm,itoa->dq
open Int renaming eq_ofNat_of_zero_le->bs,reduceEq->bm,toNat_natCast->bh
open List renaming Pairwise->oS,all_eq_true->ly,append_assoc->ck,append_inj'->rL,append_nil->eI,concat_eq_append->gf,cons_append->eo,dropLast_concat->fk,drop_eq_getElem_cons->cP,drop_eq_nil_of_le->cC,drop_zero->ke,eq_nil_of_length_eq_zero->cl,eq_nil_or_concat->gd,eq_of_mem_replicate->fm,exists_of_findSome?_eq_some->nb,filter_cons->gR,filter_eq_self->mL,findIdx?_cons->qv,findSome?_cons->qe,findSome?_eq_none_iff->oj,flatMap_cons->gj,getElem?_append_right->gx,getElem?_cons_succ->pb,getElem?_cons_zero->lf,getElem?_eq_getElem->bc,getElem?_eq_none->bt,getElem?_eq_some_iff->kq,getElem?_map->ef,getElem_idxOf->hQ,getElem_map->rK,getElem_mem->cx,getElem_of_mem->qf,getLast?_append->ey,getLast?_singleton->ec,headD_cons->nw,idxOf_append->rl,idxOf_cons->sv,idxOf_lt_length_of_mem->eb,length->eR,length_append->bk,length_cons->bw,length_flatMap->eC,length_map->cH,length_nil->eE,length_replicate->js,mapM_cons->mx,map_append->cI,map_cons->cj,map_map->jx,map_nil->en,map_set->gE,mem_append->cE,mem_cons->bn,mem_cons_of_mem->bj,mem_cons_self->eN,mem_filter->sx,mem_flatMap->lz,mem_map->dJ,mem_of_getElem?->fl,mem_or_eq_of_mem_set->ki,nil_append->cD,nodup_append->rk,pairwise_cons->du,pairwise_iff_getElem->ks,prefix_append->ff,prefix_refl->cv,replicate->cd,set_getElem_self->lR,singleton_append->pw,sum_cons->mC,take_length->rN,take_succ_cons->qg,take_zero->sX
open List.cons renaming injEq->kb
open Nat renaming add_assoc->jv,le_refl->bq,lt_or_ge->cF,mul_le_mul->oB,not_lt_zero->eK
open Option renaming bind_some->cJ,getD_none->qu,getD_some->eJ,isNone_iff_eq_none->od,isSome_none->pB,map_eq_some_iff->oR,map_some->da,some_or->fx,toList_some->pC,none->aw,some->aj
open Option.some renaming injEq->eA
namespace Go.Proofs.YtodkbibbgakkdaaGreatDoor
open Go Go.Proofs Go.LX
noncomputable section
def uX(a:Val)(b:Int)(c:Bool):Int:=
 bif c then 4 else bif (ab ((a.kind:Int)=1)&&(!(jX a.n)))then 3 else bif (ab ((a.kind:Int)=2)&&(!(bI a.n b)))then 5 else 0
def gT(a:Val)(b:Int):Int:=
 bif (!(bu a.kind 0 2))then uX a b (!(bu a.kind 0 2))else uX a b (ab ((a.kind:Int)=0)&&ab ((a.n:Int)≠0))
def oM(a:List (List Val))(b:Val)(s:Unit)(c:Unit->Int):Int:=
 bif ab (((gT b (a.length:Int)):Int)≠0)then(gT b (a.length:Int))else c ()
def oO(a:Unit->Int)(s:Unit):Int:=
 a ()
def oP(a:List (List Val))(b:List Val)(s:Unit)(c:Unit->Int):Int:=
 bif (!(bu (b.length:Int) 1 4))then 2 else each (oM a) (oO c) b ()
def oQ(s:Unit):Int:=
 0
def rZ(a:List (List Val)):Int:=
 bif ab ((24:Int)<(a.length:Int))then 2 else each (oP a) oQ a ()
def uq(b:LX.State)(c:Val)(s:Unit)(a:Unit->Option Int):Option Int:=
 bif ab (((gT c (b.cells.length:Int)):Int)≠0)then aj (gT c (b.cells.length:Int))else a ()
def uu(b:Int->Option Int)(a:LX.Frame)(s:Unit):Option Int:=
 b (a.regs.length:Int)
def j4(a:List bA)(c:LX.Frame)(b:LX.State)(f:Int->Option Int)(e:Bool):Option Int:=
 bif e then aj 3 else(idx a c.proc).bind fun d=>bif ab (((c.regs.length:Int):Int)≠d.regs)then aj 4 else each (uq b) (uu f c) c.regs ()
def jb(a:List bA)(b:LX.State)(d:LX.Frame)(f:Int)(e:Int->Option Int):Option Int:=
 bif (!(bI d.proc (a.length:Int)))then aj 5 else(idx a d.proc).bind fun c=>bif (!(bI d.at_ (c.code.length:Int)))then j4 a d b e ba else j4 a d b e (!(bI d.jD f))
def lN(a:Int):Option Int:=
 aj 0
def yg(a:List bA)(b:LX.State):Option Int:=
 bif ((!(bu b.status 0 3))||(!(jX b.bS)))then aj 3 else bif (((ab ((b.bS:Int)≠0)&&ab ((b.status:Int)≠3))||(ab ((b.status:Int)=1)&&ab ((0:Int)<(b.frames.length:Int))))||(ab ((b.status:Int)≠1)&&ab (((b.frames.length:Int):Int)=0)))then aj 4 else bif ab ((10:Int)<(b.frames.length:Int))then aj 2 else bif ab (((rZ b.cells):Int)≠0)then aj (rZ b.cells)else each (jb a b) lN b.frames 1
def xx(d:List Int)(c:Int×Bool)(a:List Int->Option (List Int×Bool))(b:Bool):Option (List Int×Bool):=
 bif b then aj ([],ao)else iF (Room 8 d [c.1]) (a (d++[c.1]))
def CW(d:Str)(c:List Int)(a:List Int->Option (List Int×Bool)):Option (List Int×Bool):=
 (parseS d).bind fun b=>bif b.2 then xx c b a ba else(Oq b.1).bind fun e=>xx c b a (ab ((e:Str)≠d))
def CX(a:List Int):Option (List Int×Bool):=
 aj (a,ba)
def Bc(a:Str):Bool:=
 (hasB a 80)
def uY(a:Str):Bool:=
 (hasB a 83)
def l9(a:Str):Bool:=
 (hasB a 73)
def fu(a:Bool):Int:=
 bif a then 4 else 0
def ic(a:Rec):Int:=
 bif (!(lk a.kind ([(1,[73]),(2,[83,73]),(3,[80]),(4,[73]),(5,[])]:List (Int×Str))).isSome)then 4 else bif (((!(bu a.co 0 2))||(!(bu a.aJ 0 100)))||(!(bu a.place 0 2)))then 3 else bif (ab ((40:Int)<(a.says.length:Int))||ab ((1200:Int)<(a.image.length:Int)))then 2 else bif ab ((a.place:Int)≠0)then bif (!(Bc ((lk a.kind ([(1,[73]),(2,[83,73]),(3,[80]),(4,[73]),(5,[])]:List (Int×Str))).getD [])))then fu ba else bif ab ((0:Int)<(a.says.length:Int))then bif (!(uY ((lk a.kind ([(1,[73]),(2,[83,73]),(3,[80]),(4,[73]),(5,[])]:List (Int×Str))).getD [])))then fu ba else bif (ab ((0:Int)<(a.image.length:Int)) !=(l9 ((lk a.kind ([(1,[73]),(2,[83,73]),(3,[80]),(4,[73]),(5,[])]:List (Int×Str))).getD [])))then fu ba else fu (ab ((a.aJ:Int)=0))else bif (ab ((0:Int)<(a.image.length:Int)) !=(l9 ((lk a.kind ([(1,[73]),(2,[83,73]),(3,[80]),(4,[73]),(5,[])]:List (Int×Str))).getD [])))then fu ba else fu (ab ((a.aJ:Int)=0))else bif ab ((0:Int)<(a.says.length:Int))then bif (!(uY ((lk a.kind ([(1,[73]),(2,[83,73]),(3,[80]),(4,[73]),(5,[])]:List (Int×Str))).getD [])))then fu ba else bif (ab ((0:Int)<(a.image.length:Int)) !=(l9 ((lk a.kind ([(1,[73]),(2,[83,73]),(3,[80]),(4,[73]),(5,[])]:List (Int×Str))).getD [])))then fu ba else fu (ab ((a.aJ:Int)=0))else bif (ab ((0:Int)<(a.image.length:Int)) !=(l9 ((lk a.kind ([(1,[73]),(2,[83,73]),(3,[80]),(4,[73]),(5,[])]:List (Int×Str))).getD [])))then fu ba else fu (ab ((a.aJ:Int)=0))
def j5(a:Co)(c:Int)(b:Int->Int):Int:=
 bif (((!(bu a.kz 0 2))||(!(bu a.aJ 1 100)))||(!(bu a.offered (-1) 2)))then 3 else bif (!(bu (a.image.length:Int) 1 1200))then 2 else bif ab ((a.kz:Int)<=c)then 6 else b a.kz
def lq(a:Int):Int:=
 0
def ig(a:List Co):Int:=
 bif ab ((3:Int)<(a.length:Int))then 2 else each j5 lq a (-1)
end
open Go Go.Proofs Go.LX
noncomputable section
abbrev preL:List (Int×Str):=[(2,[118]),(4,[46]),(5,[110,101,119]),(6,[102]),(1,[])]
theorem bnd{α β:Type}(a:α)(f:α->Option β):(aj a).bind f=f a:=rfl
theorem find_uniq{α σ:Type}{g:α->Option σ}{l:List α}(b:∀p∈l,∀q∈l,g p≠aw->g q≠aw->p=q){p:α}(hp:p∈l){t:σ}(h:g p=aj t):l.findSome? g=aj t:=by
 cases e:l.findSome? g with
 |none=>
  rw[oj]at e;rw[e p hp]at h;cases h
 |some u=>
  obtain⟨q,c,a⟩:=nb e;have:=b p hp q c (by rw[h];simp) (by rw[a];simp);subst this;rw[h]at a;exact a.symm
theorem fold_none{α σ:Type}{step:α->σ->Option σ}{g:α->Option σ}:∀{l:List α},(∀p∈l,∀s,step p s=aj ((g p).getD s))->(∀p∈l,g p=aw)->∀s,YH step l s=aj s
 |[],_,_,s=>rfl
 |p::l,h,hn,s=>by
  unfold YH;rw[h p zq3,hn p zq3,qu,bnd];exact fold_none (fun q a=>h q<|bj _ a) (fun q a=>hn q<|bj _ a) s
theorem fold_find{α σ:Type}{step:α->σ->Option σ}{g:α->Option σ}:∀{l:List α},(∀p∈l,∀s,step p s=aj ((g p).getD s))->(∀p∈l,∀q∈l,g p≠aw->g q≠aw->p=q)->l.Nodup->∀s,YH step l s=aj ((l.findSome? g).getD s)
  |[],_,_,_,s=>rfl
  |p::l,h,hu,hn,s=>by
    unfold YH;rw[h p zq3,bnd];have d:=List.nodup_cons.1 hn;cases e:g p with
    |none=>
      rw[qu,fold_find (fun q c=>h q (bj _ c)) (fun a i b f=>hu a (bj _ i) b (bj _ f)) d.2 s,qe,e]
    |some t=>
      rw[eJ,fold_none (fun q c=>h q (bj _ c)) (fun q c=>?_) t,qe,e]
      · rfl
      · cases e2:g q with
        |none=>rfl
        |some u=>
          have:=hu p zq3 q (bj _ c) (by rw[e];simp) (by rw[e2];simp);subst this;exact absurd c d.1
theorem folds_one{α σ:Type}{step:α->σ->Option σ}{g:α->Option σ}{L:List α}(h:∀p∈L,∀s,step p s=aj ((g p).getD s))(c:∀p∈L,∀q∈L,g p≠aw->g q≠aw->p=q)(hn:L.Nodup)(s:σ):BJ step L s ((L.findSome? g).getD s):=by
 intro l a;rw[fold_find (fun p hp=>h p (a.mem_iff.1 hp)) (fun p hp q b=>c p (a.mem_iff.1 hp) q (a.mem_iff.1 b)) (a.nodup_iff.2 hn) s];congr 2;cases e:L.findSome? g with
 |none=>
  rw[oj]at e⊢;exact fun x d=>e x<|a.mem_iff.1 d
 |some t=>
  obtain⟨p,hp,f⟩:=nb e;exact find_uniq (fun p hp q b=>c p (a.mem_iff.1 hp) q<|a.mem_iff.1 b) (a.mem_iff.2 hp) f
def joO(a:Int×Str)(y:Int×Bool)(x:Bool):Option (Int×Int):=bif x then aj (a.1,y.1)else aw
def stepO(s:Str)(b:Int×Str):Option (Option (Int×Int)):=
 (strings_TrimPrefix s b.2).bind fun c=>(J4 c).bind fun a=>bif (!a.2)then(oV (⟨b.1,a.1⟩:Tok)).bind fun d=>aj (joO b a (ab ((d:Str)=s)))else aj (joO b a ao)
theorem j227_eq(c:Int×Str)(y:Int×Bool)(a b:Int)(x:Bool):DF c y a b x=aj ((joO c y x).getD (a,b)):=by
 unfold DF joO;cases x<;>rfl
theorem b228_eq(s:Str)(c:Int×Str)(st:Int×Int):xU s c st=(stepO s c).bind fun o=>aj (o.getD st):=by
 obtain⟨a,b⟩:=st;unfold xU stepO;simp only[j227_eq];cases strings_TrimPrefix s c.2 with
 |none=>rfl
 |some y=>
  simp only[bnd];cases J4 y with
  |none=>rfl
  |some z=>
   simp only[bnd];cases z.2 with
   |true=>rfl
   |false=>
    simp only[ka,cond_true];cases oV (⟨c.1,z.1⟩:Tok)<;>rfl
def gO(s:Str)(p:Int×Str):Option (Int×Int):=(stepO s p).join
def okW(s:Str):Bool:=preL.all (fun p=>(stepO s p).isSome)&&preL.all (fun p=>preL.all fun q=>(gO s p).isNone||(gO s q).isNone||ab (p=q))
def preC(s:Str):Int×Int:=(preL.findSome? (gO s)).getD (0,0)
theorem fold_ok{s:Str}(h:okW s=ba):J8 (xU s) preL (0,0)=aj (preC s):=by
  unfold okW at h;rw[cS,ly,ly]at h;refine foldAny_eq<|folds_one (g:=gO s) (fun p hp st=>?_) (fun p hp q c a b=>?_) zq1 (0,0)
  · have a:=h.1 p hp;rw[b228_eq];unfold gO;cases e:stepO s p with
    |none=>rw[e]at a;cases a
    |some o=>cases o<;>rfl
  · have:=ly.1 (h.2 p hp) q c;rw[dy,dy]at this;rcases this with(e|e)|e
    · exact absurd (od.1 e) a
    · exact absurd (od.1 e) b
    · exact Yg e
def foldC(s:Str):Option (Int×Int):=bif okW s then aj (preC s)else J8 (xU s) preL (0,0)
theorem foldC_eq(s:Str):foldC s=J8 (xU s) preL (0,0):=by
 unfold foldC;cases e:okW s with
 |false=>rfl
 |true=>exact(fold_ok e).symm
def Fz(N:Nat)(e:List Tok)(F:List jf)(f:Int)(g:(List Tok×Int×Bool×Int)->Option (List Tok×gL))(b:Str)(d:Bool)(c:Int):Option (List Tok×gL):=
 (foldC b).bind fun a=>(TQ N b e F c f g d) a
theorem aaf: @Fz= @DI:=by
 funext a b c d e f g h;unfold Fz DI;rw[foldC_eq]
def KS(N:Nat)(a:List Str)(F:List jf)(s:List Tok×Int×Bool×Int)(c:List Tok×Int×Bool×Int->Option (List Tok×gL)):Option (List Tok×gL):=
 match s with|(ym,zT,U3,y20)=>bif (ab ((0:Int)<zT)&&U3)then bif ab (((a.length:Int):Int)<=y20)then Fz N ym F zT c [] ao y20 else iF (kv (y20+1)) (iF (kv ((y20+1)-1)) ((idx a ((y20+1)-1)).bind fun b=>Fz N ym F zT c b U3 (y20+1)))else aj (ym,(⟨y20,U3⟩:gL))
theorem aag: @KS= @DJ:=by
 unfold KS DJ;rw[aaf]
def UB(N:Nat)(b:gL)(a:List Str)(F:List jf):Option (List Tok×gL):=
 again (KS N a F) N ([],1,b.ok,b.at_)
theorem srdExpr_p: @UB= @TR:=by
 unfold UB TR;rw[aag]
def FB(N:Nat)(f:gL->List Str->List jf->Int->Option (List cZ×gL))(d:Int)(b:List Str)(F:List jf)(a:Int)(k:List cZ)(h:Int)(i:(List cZ×Int×Bool)->Option (List cZ×gL))(g:Int)(e:Bool)(j:List Tok):Option (List cZ×gL):=
 bif ab (((d+1):Int)=2)then(UB N (⟨g,e⟩:gL) b F).bind fun c=>DK f d a b F k h j i c.2.at_ c.2.ok c.1 else DK f d a b F k h j i g e []
theorem aah: @FB= @DL:=by
 unfold FB DL;rw[srdExpr_p]
def BC(N:Nat)(e:gL->List Str->List jf->Int->Option (List cZ×gL))(d:Int)(b:List Str)(F:List jf)(a:Int)(j:List cZ)(h:(List cZ×Int×Bool)->Option (List cZ×gL))(f:Int)(i:Bool)(g:Int):Option (List cZ×gL):=
 bif ab (((d+1):Int)≠4)then(UB N (⟨f,i⟩:gL) b F).bind fun c=>FB N e d b F a j g h c.2.at_ c.2.ok c.1 else FB N e d b F a j g h f i []
theorem aai: @BC= @Aw:=by
 unfold BC Aw;rw[srdExpr_p,aah]
def FC(N:Nat)(k:gL->List Str->List jf->Int->Option (List cZ×gL))(j:List cZ)(b:List Str)(F:List jf)(a:Int)(l:(List cZ×Int×Bool)->Option (List cZ×gL))(f:Str)(c:Int)(d:Bool):Option (List cZ×gL):=
 bif ab ((f:Str)=[125])then aj (j,(⟨c,d⟩:gL))else(TE [115,101,116,32,112,117,116,32,115,97,121,32,112,97,117,115,101,32,103,111,32,105,102,32,119,104,105,108,101,32,114,101,116,117,114,110]).bind fun m=>(slices_Index_string m f).bind fun e=>iF (kv (e+1)) (bif (!(d&&ab ((0:Int)<(e+1))))then aj ([],(⟨c,(d&&ab ((0:Int)<(e+1)))⟩:gL))else bif ab (((e+1):Int)<=2)then bif ab (((b.length:Int):Int)<=c)then(J4 []).bind fun g=>BC N k e b F a j l c ao g.1 else iF (kv (c+1)) (iF (kv ((c+1)-1)) ((idx b ((c+1)-1)).bind fun h=>(J4 h).bind fun i=>BC N k e b F a j l (c+1) (d&&ab ((0:Int)<(e+1))) i.1))else BC N k e b F a j l c (d&&ab ((0:Int)<(e+1))) 0)
theorem aaj: @FC= @DN:=by
 unfold FC DN;rw[aai]
def KT(N:Nat)(d:gL->List Str->List jf->Int->Option (List cZ×gL))(b:List Str)(F:List jf)(a:Int)(s:List cZ×Int×Bool)(e:List cZ×Int×Bool->Option (List cZ×gL)):Option (List cZ×gL):=
 match s with|(ru,OG,He)=>bif He then bif ab (((b.length:Int):Int)<=OG)then FC N d ru b F a e [] OG ao else iF (kv (OG+1)) (iF (kv ((OG+1)-1)) ((idx b ((OG+1)-1)).bind fun c=>FC N d ru b F a e c (OG+1) He))else aj ([],(⟨OG,He⟩:gL))
theorem aak: @KT= @DR:=by
 unfold KT DR;rw[aaj]
def H7(N:Nat)(c:gL->List Str->List jf->Int->Option (List cZ×gL))(b:List Str)(F:List jf)(a:Int)(e:Int)(d:Bool):Option (List cZ×gL):=
 again (KT N c b F a) N ([],e,d)
theorem srdBlock_j2_p: @H7= @FR:=by
 unfold H7 FR;rw[aak]
def FD(N:Nat)(d:gL->List Str->List jf->Int->Option (List cZ×gL))(b:List Str)(F:List jf)(a:Int)(f:Bool)(e:Int)(c:Bool):Option (List cZ×gL):=
 bif f then H7 N d b F a e ao else H7 N d b F a e c
theorem aal: @FD= @DT:=by
 unfold FD DT;rw[srdBlock_j2_p]
def Kr(N:Nat)(d:gL->List Str->List jf->Int->Option (List cZ×gL))(c:gL)(b:List Str)(F:List jf)(a:Int):Option (List cZ×gL):=
 bif ab (((b.length:Int):Int)<=c.at_)then FD N d b F a ba c.at_ ao else iF (kv (c.at_+1)) (iF (kv ((c.at_+1)-1)) ((idx b ((c.at_+1)-1)).bind fun e=>FD N d b F a (ab ((e:Str)≠[123])||ab ((6:Int)<a)) (c.at_+1) c.ok))
theorem srdBlock_r_p: @Kr= @IQ:=by
 unfold Kr IQ;rw[aal]
def Mr:Nat->gL->List Str->List jf->Int->Option (List cZ×gL)
 |0=>fun _ _ _ _=>aw
 |N+1=>Kr N (Mr N)
theorem aam:∀N,Mr N=FT N
 |0=>rfl
 |N+1=>by show Kr N (Mr N)=IQ N (FT N);rw[srdBlock_r_p,aam N]
def nQ(N:Nat)(h:List Str)(e:List jf)(a:Int)(g:(List jf×Int×Bool)->Option (List jf×Int))(b:Int)(c:Bool):Option (List jf×Int):=
 (Mr N (⟨b,c⟩:gL) h e 1).bind fun d=>(idx e a).bind fun f=>g ((e.set (a).toNat {f with body:=d.1}),d.2.at_,d.2.ok)
theorem Gz: @nQ= @lH:=by
 unfold nQ lH;rw[show @Mr= @FT from funext aam]
def nT(N:Nat)(c:List Str)(d:List jf)(a:Int)(e:(List jf×Int×Bool)->Option (List jf×Int))(b:Int)(g:Bool):Option (List jf×Int):=
 bif ab (((c.length:Int):Int)<=b)then nQ N c d a e b ao else iF (kv (b+1)) (iF (kv ((b+1)-1)) ((idx c ((b+1)-1)).bind fun f=>nQ N c d a e (b+1) g))
theorem GA: @nT= @lI:=by
 unfold nT lI;rw[Gz]
def nU(N:Nat)(c:List Str)(e:List jf)(a:Int)(f:(List jf×Int×Bool)->Option (List jf×Int))(b:Int)(g:Bool):Option (List jf×Int):=
 bif ab (((c.length:Int):Int)<=b)then nT N c e a f b ao else iF (kv (b+1)) (iF (kv ((b+1)-1)) ((idx c ((b+1)-1)).bind fun d=>nT N c e a f (b+1) g))
theorem GD: @nU= @lJ:=by
 unfold nU lJ;rw[GA]
def nV(N:Nat)(g:List Str)(e:List jf)(a:Int)(f:(List jf×Int×Bool)->Option (List jf×Int))(b:Bool)(d:Int)(c:Bool):Option (List jf×Int):=
 bif b then nU N g e a f d ao else nU N g e a f d c
theorem GG: @nV= @lK:=by
 unfold nV lK;rw[GD]
def si(N:Nat)(c:List Str)(a:Int)(s:List jf×Int×Bool)(d:List jf×Int×Bool->Option (List jf×Int)):Option (List jf×Int):=
 match s with|(Bp,y98,y99)=>bif ab (((c.length:Int):Int)<=y98)then nV N c Bp a d ba y98 ao else iF (kv (y98+1)) (iF (kv ((y98+1)-1)) ((idx c ((y98+1)-1)).bind fun b=>nV N c Bp a d (ab ((b:Str)≠[102,117,110])) (y98+1) y99))
theorem GH: @si= @oF:=by
 unfold si oF;rw[GG]
def sj(N:Nat)(c:List Str)(a:Str)(b:List jf)(s:Unit):Option (List jf×Int):=
 upto (si N c) (tL N c a) 0 ((b.length:Int)).toNat (b,0,ba)
theorem GI: @sj= @oG:=by
 unfold sj oG;rw[GH]
def su(N:Nat)(c:List Str)(a:Str)(b:List jf):Option (List jf×Int):=
 bif (ab (((b.length:Int):Int)=0)||ab ((4:Int)<(b.length:Int)))then aj ([],1)else upto (tN b) (sj N c a b) 0 ((b.length:Int)).toNat ()
theorem GJ: @su= @oH:=by
 unfold su oH;rw[GI]
def xy(N:Nat)(a:Str):Option (List jf×Int):=
 (Rl a [32]).bind fun b=>gU (tO b) (su N b a) 0 b []
theorem KU: @xy= @rO:=by
 unfold xy rO;rw[GJ]
def qI(N:Nat):Option (List jf):=
 (xy N [102,117,110,32,48,32,49,32,123,32,115,101,116,32,48,32,51,32,119,104,105,108,101,32,118,48,32,123,32,115,97,121,32,102,49,32,118,48,32,118,48,32,103,111,32,118,48,32,112,97,117,115,101,32,115,101,116,32,48,32,45,32,118,48,32,49,32,125,32,125,32,102,117,110,32,50,32,50,32,123,32,114,101,116,117,114,110,32,42,32,118,48,32,118,49,32,125]).bind fun a=>aj a.1
theorem Od: @qI= @oW:=by
 unfold qI oW;rw[KU]
abbrev NN:Nat:=70000
theorem program_p:oW NN=qI NN:=by rw[Od]
end
open Go Go.Proofs Go.LX
theorem UC(a b:Int):(ab (a<0)||ab (b<=a))= !bI a b:=by
 unfold bI;rw[et];simp;try omega
theorem idx0{α:Type}(x:α)(l:List α):idx (x::l) 0=aj x:=by simp[idx]
theorem len_one{l:List Int}:l.length=1↔∃x,l=[x]:=by
 match l with
 |[]=>simp
 |[x]=>simp
 |x::y::r=>simp
def KV(i:Nat)(x:bA):Int:=
 if(0<=x.params/\x.params<=3)/\(1<=x.regs/\x.params<=x.regs/\x.regs<=40)/\¬(i=0/\x.params≠0)then(if 1<=x.code.length/\x.code.length<=2000 then 0 else 2)else 3
theorem b39_eq(i:Nat)(x:bA)(c:Unit->Option Int):oI (i:Int) x () c=if KV i x≠0 then aj (KV i x)else c ():=by
  unfold oI KV;by_cases a:(0<=x.params/\x.params<=3)/\(1<=x.regs/\x.params<=x.regs/\x.regs<=40)/\¬(i=0/\x.params≠0)
  · have e:(((((ab ((x.params:Int)<0)||ab ((3:Int)<x.params))||ab ((x.regs:Int)<1))||ab ((x.regs:Int)<x.params))||ab ((40:Int)<x.regs))||(ab ((i:Int)=0)&&ab ((0:Int)<x.params)))=false:=by
      simp only[cX,cG,decide_eq_false_iff_not];omega
    rw[e,if_pos a];simp only[cond_false];by_cases b:1<=x.code.length/\x.code.length<=2000
    · rw[if_pos b,show(ab (((x.code.length:Int):Int)=0)||ab ((2000:Int)<(x.code.length:Int)))=ao by simp only[cX,decide_eq_false_iff_not];omega];rfl
    · rw[if_neg b,show(ab (((x.code.length:Int):Int)=0)||ab ((2000:Int)<(x.code.length:Int)))=ba by simp only[dy,decide_eq_true_eq];omega];rfl
  · have e:(((((ab ((x.params:Int)<0)||ab ((3:Int)<x.params))||ab ((x.regs:Int)<1))||ab ((x.regs:Int)<x.params))||ab ((40:Int)<x.regs))||(ab ((i:Int)=0)&&ab ((0:Int)<x.params)))=true:=by
      simp only[dy,cS,decide_eq_true_eq];omega
    rw[e,if_neg a];rfl
def heads:Nat->List bA->Int
 |_,[]=>0
 |i,x::p=>if KV i x≠0 then KV i x else heads (i+1) p
theorem aan(k:Unit->Option Int):∀(p:List bA) (i:Nat),gU oI k (i:Int) p ()=if heads i p≠0 then aj (heads i p)else k ()
 |[],i=>by simp[heads,gU]
 |x::p,i=>by
  show oI (i:Int) x () (gU oI k ((i:Int)+1) p)=_;rw[b39_eq,show((i:Int)+1)=((i+1:Nat):Int) by omega,aan k p (i+1),heads];by_cases h:KV i x=0<;>simp[h]
def uG(x:bA):Prop:=1<=x.code.length/\x.code.length<=2000
theorem gW{α σ ρ:Type}{body:α->σ->(σ->ρ)->ρ}{k:σ->ρ}(x:α)(l:List α)(s:σ):each body k (x::l) s=body x s (each body k l):=rfl
theorem b8_tot(d:Int):∀l:List Int,∃y,each (yM d) Fu l ()=aj y
 |[]=>⟨0,rfl⟩
 |x::l=>by
  obtain⟨y,a⟩:=b8_tot d l;rw[gW];unfold yM;cases (!(ab ((0:Int)<=x)&&ab ((x:Int)<d)))with
  |true=>exact⟨3,rfl⟩
  |false=>exact⟨y,a⟩
theorem j5_tot(k:Bool)(a:Ins)(b e:Int)(c:List bA)(f i d j:Int):∃y,iC k a b e c f i d j=aj y/\(y=0->(a.args.length:Int)=i):=by
 unfold iC;cases k with
 |false=>exact⟨3,rfl,fun h=>absurd h zq1⟩
 |true=>
  simp only[ej,cond_false];generalize g:(((ab ((a.a:Int)≠j)||ab ((a.b:Int)≠e))||ab ((a.c:Int)≠f))||ab (((a.args.length:Int):Int)≠i))=C;cases C with
  |true=>exact⟨4,rfl,fun h=>absurd h zq1⟩
  |false=>
   simp only[cX,decide_eq_false_iff_not,ei]at g;simp only[cond_false];cases ab ((a.op:Int)=7)with
   |true=>obtain⟨y,l⟩:=b8_tot d a.args;exact⟨y,l,fun _=>g.2⟩
   |false=>exact⟨0,rfl,fun _=>g.2⟩
theorem j4_tot(a:Ins)(b:Int)(c:List bA)(d:Int)(h:Bool)(g i e f:Int):∃y,eu a b c d h g i e f=aj y/\(y=0->(a.args.length:Int)=g):=by
 unfold eu;cases ab ((a.op:Int)=12)with
 |true=>exact j5_tot h a b e c f g d 0
 |false=>exact j5_tot h a b e c f g d i
def InsT(a:Ins)(r:Option Int):Prop:=∃y,r=aj y/\(y=0->a.args.length<=3)
theorem j4_t(a:Ins)(b:Int)(c:List bA)(d:Int)(i:Bool){g:Int}(j e f:Int)(h:g<=3):InsT a (eu a b c d i g j e f):=by
 obtain⟨y,l,m⟩:=j4_tot a b c d i g j e f;exact⟨y,l,fun k=>by have:=m k;omega⟩
theorem yH{a:Ins}{c:Bool}{x y:Option Int}(b:InsT a x)(d:InsT a y):InsT a (bif c then x else y):=by
  cases c
  · exact d
  · exact b
theorem aao{a:Ins}{e:Int}(h:e≠0):InsT a (aj e):=⟨e,rfl,fun b=>absurd b h⟩
theorem check_ins(a:Ins)(b:Int)(c:List bA)(d e:Int)(hp:∀x∈c,x.params<=3):InsT a (kQ a b c d e):=by
  unfold kQ;refine yH (aao zq1)<|yH (aao zq1)<|yH (j4_t _ _ _ _ _ _ _ _ zq1)<|yH (j4_t _ _ _ _ _ _ _ _ zq1) ?_;have f:∀x,InsT a (fZ a b c d x):=fun x=>by
    unfold fZ;exact yH (j4_t _ _ _ _ _ _ _ _ zq1)<|yH (j4_t _ _ _ _ _ _ _ _ zq1)<|j4_t _ _ _ _ _ _ _ _ zq1
  have h:∀x,InsT a (gH a b c d e x):=fun x=>by
    unfold gH;refine yH (j4_t _ _ _ _ _ _ _ _ zq1) ?_;cases ab ((a.op:Int)=7)with
    |false=>
      rw[cond_false];exact yH (f _)<|yH (f _)<|f _
    |true=>
      simp only[cond_true];rw[UC];cases hb:bI a.b (c.length:Int)with
      |false=>exact aao zq1
      |true=>
        simp only[ej,cond_false];unfold bI at hb;simp only[cS,decide_eq_true_eq]at hb;obtain⟨n,hn⟩:=bs hb.1;rw[hn,xM V,cJ];exact j4_t _ _ _ _ _ _ _ _<|hp _<|cx _
  have g:∀x,InsT a (gJ a b c d e x):=fun x=>by
    unfold gJ;refine yH (j4_t _ _ _ _ _ _ _ _ zq1) ?_;cases ab ((a.op:Int)=3)with
    |false=>
      rw[cond_false];exact yH (h _)<|h _
    |true=>
      simp only[cond_true];by_cases i:a.args.length=1
      · rw[dT (show((a.args.length:Int):Int)=1 by omega)];obtain⟨y,j⟩:=len_one.1 i;simp only[cond_true];rw[show idx a.args 0=aj y by rw[j,idx0],cJ];exact j4_t _ _ _ _ _ _ _ _ zq1
      · rw[dF (show¬((a.args.length:Int):Int)=1 by omega)];exact j4_t _ _ _ _ _ _ _ _ zq1
  exact yH (g _)<|g _
def Good(a:List bA):Prop:=a.length<=4/\∀x∈a,uG x/\∀c∈x.code,c.args.length<=3
theorem headOk_zero{i:Nat}{x:bA}(h:KV i x=0):x.params<=3/\uG x:=by
  unfold KV at h;split at h
  · split at h
    · exact⟨by omega,by unfold uG;omega⟩
    · cases h
  · cases h
theorem aap:∀(p:List bA) (i:Nat),heads i p=0->∀x∈p,x.params<=3/\uG x
  |[],_,_,x,hx=>by cases hx
  |y::p,i,h,x,hx=>by
    unfold heads at h;split at h
    · rename_i a;exact absurd h a
    · rename_i a;rcases bn.1 hx with rfl|hx
      · exact headOk_zero<|ei.1 a
      · exact aap p (i+1) h x hx
theorem b35_tot(a:List bA)(x:bA)(k:Unit->Option Int)(hp:∀x∈a,x.params<=3)(Q:Prop)(g:∃y,k ()=aj y/\(y=0->Q)):∀(l:List Ins) (i:Int),∃y,gU (kK a x) k i l ()=aj y/\(y=0->Q/\∀c∈l,c.args.length<=3)
  |[],i=>by
    obtain⟨y,f,b⟩:=g;exact⟨y,f,fun h=>⟨b h,by intro c m;cases m⟩⟩
  |c::l,i=>by
    obtain⟨y,f,b⟩:=b35_tot a x k hp Q g l<|i+1;have j:gU (kK a x) k i (c::l) ()=kK a x i c () (gU (kK a x) k (i+1) l):=rfl;rw[j];unfold kK;obtain⟨z,g1,g2⟩:=check_ins c i a x.regs (x.code.length:Int) hp;rw[g1,cJ];by_cases hz:z=0
    · rw[dF V,cond_false];refine⟨y,f,fun h=>⟨(b h).1,fun d e=>?_⟩⟩;rcases bn.1 e with rfl|e
      · exact g2 hz
      · exact(b h).2 d e
    · rw[dT hz,cond_true];exact⟨z,Z,fun h=>absurd h hz⟩
theorem b37_tot(a:List bA)(hp:∀x∈a,x.params<=3/\uG x):∀l:List bA,(∀x∈l,x.params<=3/\uG x)->∃y,each (tV a) zV l ()=aj y/\(y=0->∀x∈l,∀c∈x.code,c.args.length<=3)
  |[],_=>⟨0,rfl,fun _ x b=>by cases b⟩
  |x::l,hl=>by
    obtain⟨y,e,f⟩:=b37_tot a hp l fun z hz=>hl z<|bj _ hz;rw[gW];unfold tV;have b:=hl x zq3;obtain⟨z,g1,g2⟩:=b35_tot a x (zU x (each (tV a) zV l)) (fun x b=>(hp x b).1) (∀x∈l,∀c∈x.code,c.args.length<=3) (by
      unfold zU;have g:=b.2;unfold uG at g;rw[gI,show((x.code.length:Int)-1)=((x.code.length-1:Nat):Int) by omega,xM V,cJ];cases (ab ((x.code[x.code.length-1].op:Int)≠8)&&ab ((x.code[x.code.length-1].op:Int)≠12))with
      |true=>exact⟨4,rfl,fun h=>absurd h zq1⟩
      |false=>exact⟨y,e,f⟩) x.code 0
    refine⟨z,g1,fun h=>?_⟩;intro w d;rcases bn.1 d with rfl|d
    · exact(g2 h).2
    · exact(g2 h).1 w d
theorem check_tot(a:List bA):∃y,tX a=aj y/\(y=0->Good a):=by
  unfold tX;generalize c:(ab (((a.length:Int):Int)=0)||ab ((4:Int)<(a.length:Int)))=C;cases C with
  |true=>exact⟨2,rfl,fun h=>absurd h zq1⟩
  |false=>
    simp only[cX,decide_eq_false_iff_not]at c;have d:gU oI (w9 a) 0 a ()=_:=aan (w9 a) a 0;rw[cond_false,d];by_cases hz:heads 0 a=0
    · rw[if_neg V];have hp:=aap a 0 hz;obtain⟨y,g1,g2⟩:=b37_tot a hp a hp;exact⟨y,g1,fun h=>⟨by omega,fun x b=>⟨(hp x b).2,g2 h x b⟩⟩⟩
    · rw[if_pos hz];exact⟨_,Z,fun h=>absurd h hz⟩
def KW(a:List bA):Int:=(tX a).getD 0
theorem Xf(a:List bA):tX a=aj (KW a):=by
 obtain⟨y,h,_⟩:=check_tot a;unfold KW;rw[h];rfl
def GK(R x:Int):Prop:=0<=x/\x<R
def Oe(a:List bA)(R L:Int)(c:Ins):Prop:=
 (c.op=1/\GK R c.a/\(-1000000000<=c.b/\c.b<=1000000000))\/
 (c.op=2/\GK R c.a/\GK R c.b)\/
 (c.op=3/\GK R c.a/\GK R c.b/\GK R c.c/\∃n,c.args=[n]/\1<=n/\n<=5)\/
 ((c.op=4\/c.op=6)/\GK R c.a/\GK R c.b/\(0<=c.c/\c.c<4))\/
 (c.op=5/\GK R c.a/\(1<=c.b/\c.b<=4))\/
 (c.op=7/\GK R c.a/\(∃p,idx a c.b=aj p/\(c.args.length:Int)=p.params)/\∀x∈c.args,GK R x)\/
 ((c.op=8\/c.op=9\/c.op=11)/\GK R c.a)\/
 c.op=10\/
 (c.op=12/\(0<=c.b/\c.b<L))\/
 (c.op=13/\GK R c.a/\(0<=c.b/\c.b<L))
theorem each_b8(R:Int):∀l:List Int,each (yM R) Fu l ()=aj 0->∀x∈l,GK R x
  |[],_,x,hx=>by cases hx
  |y::l,h,x,hx=>by
    rw[gW]at h;unfold yM at h;cases e:(!(ab ((0:Int)<=y)&&ab ((y:Int)<R)))with
    |true=>rw[e,cond_true]at h;cases h
    |false=>
      rw[e,cond_false]at h;rcases bn.1 hx with rfl|hx
      · simp at e;exact e
      · exact each_b8 R l h x hx
theorem insG_of{c:Ins}{i:Int}{a:List bA}{R L:Int}(h:kQ c i a R L=aj 0):Oe a R L c:=by
  obtain⟨op,v,u,w,args⟩:=c;by_cases k:op=1
  · subst k;simp[kQ,fK,gQ,jr,jQ,jd,eu,iC,gJ,gH,fZ,dd]at h;simp[Oe,GK]
    (repeat (split at h;·simp at h))
    omega
  by_cases m:op=2
  · subst m;simp[kQ,fK,gQ,jr,jQ,jd,eu,iC,gJ,gH,fZ,dd]at h;simp[Oe,GK]
    (repeat (split at h;·simp at h))
    omega
  by_cases t:op=3
  · subst t;simp[kQ,fK,gQ,jr,jQ,jd,eu,iC,gJ,gH,fZ,dd]at h;simp[Oe,GK];by_cases o:args.length=1
    · obtain⟨y,rfl⟩:=len_one.1 o;simp[idx0]at h;split at h
      · simp at h
      split at h
      · simp at h
      refine⟨by omega,by omega,by omega,y,Z,by omega,by omega⟩
    · exfalso;rw[if_neg (show¬((args.length:Int)=1) by omega)]at h;split at h<;>simp at h
  by_cases q:op=4
  · subst q;simp[kQ,fK,gQ,jr,jQ,jd,eu,iC,gJ,gH,fZ,dd]at h;simp[Oe,GK]
    (repeat (split at h;·simp at h))
    omega
  by_cases r:op=5
  · subst r;simp[kQ,fK,gQ,jr,jQ,jd,eu,iC,gJ,gH,fZ,dd]at h;simp[Oe,GK]
    (repeat (split at h;·simp at h))
    omega
  by_cases s:op=6
  · subst s;simp[kQ,fK,gQ,jr,jQ,jd,eu,iC,gJ,gH,fZ,dd]at h;simp[Oe,GK]
    (repeat (split at h;·simp at h))
    omega
  by_cases n:op=7
  · subst n;simp[kQ,fK,gQ,jr,jQ,jd,eu,iC,gJ,gH,fZ,dd]at h;simp[Oe,GK];split at h
    · simp at h
    split at h
    · simp at h
    obtain⟨p,hp,h⟩:=aC h
    (repeat (split at h;·simp at h))
    refine⟨by omega,⟨p,hp,by omega⟩,fun x g=>each_b8 R args h x g⟩
  by_cases l:op=8
  · subst l;simp[kQ,fK,gQ,jr,jQ,jd,eu,iC,gJ,gH,fZ,dd]at h;simp[Oe,GK]
    (repeat (split at h;·simp at h))
    omega
  by_cases j:op=9
  · subst j;simp[kQ,fK,gQ,jr,jQ,jd,eu,iC,gJ,gH,fZ,dd]at h;simp[Oe,GK]
    (repeat (split at h;·simp at h))
    omega
  by_cases d:op=10
  · subst d;simp[Oe,GK]
  by_cases b:op=11
  · subst b;simp[kQ,fK,gQ,jr,jQ,jd,eu,iC,gJ,gH,fZ,dd]at h;simp[Oe,GK]
    (repeat (split at h;·simp at h))
    omega
  by_cases e:op=12
  · subst e;simp[kQ,fK,gQ,jr,jQ,jd,eu,iC,gJ,gH,fZ,dd]at h;simp[Oe,GK]
    (repeat (split at h;·simp at h))
    omega
  by_cases f:op=13
  · subst f;simp[kQ,fK,gQ,jr,jQ,jd,eu,iC,gJ,gH,fZ,dd]at h;simp[Oe,GK]
    (repeat (split at h;·simp at h))
    omega
  · exfalso;simp[kQ,fK,gQ,jr,jQ,jd,eu,iC,gJ,gH,fZ,dd, *]at h
structure mH(a:List bA):Prop where
 many:1<=a.length/\a.length<=4
 head:∀(i:Nat) x,a[i]? =aj x->(0<=x.params/\x.params<=3)/\(1<=x.regs/\x.params<=x.regs/\x.regs<=40)/\¬(i=0/\x.params≠0)/\uG x
 last:∀x∈a,∃c,idx x.code ((x.code.length:Int)-1)=aj c/\(c.op=8\/c.op=12)
 ins:∀x∈a,∀c∈x.code,Oe a x.regs x.code.length c
theorem heads_all:∀(p:List bA) (j:Nat),heads j p=0->∀(i:Nat) x,p[i]? =aj x->KV (j+i) x=0
  |[],j,_,i,x,hx=>by simp at hx
  |y::p,j,h,i,x,hx=>by
    unfold heads at h;split at h
    · rename_i a;exact absurd h a
    · rename_i a;cases i with
      |zero=>simp at hx;subst hx;exact ei.1 a
      |succ i=>rw[show j+(i+1)=(j+1)+i by omega];exact heads_all p (j+1) h i x (by simpa using hx)
theorem b35_ins(a:List bA)(x:bA)(k:Unit->Option Int):∀(l:List Ins) (i:Int),gU (kK a x) k i l ()=aj 0->k ()=aj 0/\∀c∈l,Oe a x.regs x.code.length c
  |[],i,h=>⟨h,fun c b=>by cases b⟩
  |y::l,i,h=>by
    have g:gU (kK a x) k i (y::l) ()=kK a x i y () (gU (kK a x) k (i+1) l):=rfl;rw[g]at h;unfold kK at h;obtain⟨z,hz,h⟩:=aC h;by_cases d:z=0
    · subst d;rw[dF zq3,cond_false]at h;obtain⟨e,f⟩:=b35_ins a x k l (i+1) h;refine⟨e,fun c b=>?_⟩;rcases bn.1 b with rfl|b
      · exact insG_of hz
      · exact f c b
    · rw[dT d,cond_true]at h;exact absurd (osi h) d
theorem b37_ins(a:List bA):∀l:List bA,each (tV a) zV l ()=aj 0->∀x∈l,(∃c,idx x.code ((x.code.length:Int)-1)=aj c/\(c.op=8\/c.op=12))/\∀c∈x.code,Oe a x.regs x.code.length c
  |[],_,x,hx=>by cases hx
  |y::l,h,x,hx=>by
    rw[gW]at h;unfold tV at h;obtain⟨b,f⟩:=b35_ins a y _ y.code 0 h;unfold zU at b;obtain⟨_,b⟩:=bF b;obtain⟨c,d,b⟩:=aC b;cases e:(ab ((c.op:Int)≠8)&&ab ((c.op:Int)≠12))with
    |true=>rw[e,cond_true]at b;cases b
    |false=>
      rw[e,cond_false]at b;rcases bn.1 hx with rfl|hx
      · exact⟨⟨c,d,by simp only[cG,decide_eq_false_iff_not,ei]at e;exact e⟩,f⟩
      · exact b37_ins a l b x hx
theorem pU{a:List bA}(h:KW a=0):mH a:=by
  have b:=Xf a;rw[h]at b;unfold tX at b;generalize e:(ab (((a.length:Int):Int)=0)||ab ((4:Int)<(a.length:Int)))=C at b;cases C with
  |true=>cases b
  |false=>
    simp only[cX,decide_eq_false_iff_not]at e;have f:gU oI (w9 a) 0 a ()=_:=aan (w9 a) a 0;rw[cond_false,f]at b;by_cases hz:heads 0 a=0
    · rw[if_neg V]at b;have d:=b37_ins a a b;refine⟨by omega,fun i x c=>?_,fun x c=>(d x c).1,fun x c=>(d x c).2⟩;have:=heads_all a 0 hz i x c;rw[Nat.zero_add]at this;unfold KV at this;split at this
      · rename_i g;split at this
        · rename_i g2;exact⟨g.1,g.2.1,g.2.2,g2⟩
        · cases this
      · cases this
    · rw[if_pos hz]at b;exact absurd (osi b) hz
theorem qU{α σ ρ:Type}{body:Int->α->σ->(σ->ρ)->ρ}{k:σ->ρ}(i:Int)(x:α)(l:List α)(s:σ):gU body k i (x::l) s=body i x s (gU body k (i+1) l):=rfl
theorem Xg{σ ρ:Type}{body:Int->σ->(σ->ρ)->ρ}{k:σ->ρ}(i:Int)(m:Nat)(s:σ):upto body k i (m+1) s=body i s (upto body k (i+1) m):=rfl
theorem H8{σ β:Type}{body:σ->(σ->Option β)->Option β}{m:Nat}{s:σ}:again body (m+1) s=body s (again body m):=rfl
def kr(n:Nat)(v:Val):Prop:=(v.kind=0/\v.n=0)\/(v.kind=1/\ -1000000000<=v.n/\v.n<=1000000000)\/(v.kind=2/\0<=v.n/\v.n<n)
instance (n:Nat) (v:Val):Decidable (kr n v):=inferInstanceAs (Decidable (_\/_))
theorem xz(n:Nat)(v:Val):jg v (n:Int)=0↔kr n v:=by
  obtain⟨k,m⟩:=v;simp only[jg,kr,dd,dy,decide_eq_true_eq];constructor
  · intro h
    (repeat' split at h)<;>first|omega|(exfalso;omega)
  · intro h;rcases h with⟨h1,h2⟩|⟨h1,h2⟩|⟨h1,h2⟩
    · rw[if_pos h1,if_neg V]
    · rw[if_neg V,if_pos h1,if_neg V]
    · rw[if_neg V,if_neg V,if_pos h1,if_neg V]
theorem value_eq(v:Val)(n:Int):gT v n=jg v n:=by
 obtain⟨k,m⟩:=v;simp only[jg,gT,uX,bu,jX,bI,dd,dy,cS,gk,decide_eq_true_eq,decide_eq_false_iff_not,cG]
 (repeat' split)<;>first|rfl|(exfalso;omega)
def wG(l:List (List Val)):Prop:=l.length<=24/\∀c∈l,(1<=c.length/\c.length<=4)/\∀v∈c,kr l.length v
theorem cells_eq(a:List (List Val)):rZ a=mE a:=by
 unfold rZ mE;have k1:∀(l:List Val) (f:Unit->Int),each (oM a) (oO f) l ()=each (mq a) (kW f) l ():=by
  intro l f;induction l with
  |nil=>rfl
  |cons x l ih=>
   show(bif ab ((gT x (a.length:Int):Int)≠0)then gT x (a.length:Int)else each (oM a) (oO f) l ())=(bif ab ((jg x (a.length:Int):Int)≠0)then jg x (a.length:Int)else each (mq a) (kW f) l ());rw[value_eq,ih]
 have k2:∀l:List (List Val),each (oP a) oQ l ()=each (oK a) mr l ():=by
  intro l;induction l with
  |nil=>rfl
  |cons x l ih=>
   show(bif (!(bu (x.length:Int) 1 4))then 2 else each (oM a) (oO<|each (oP a) oQ l) x ())=(bif (ab (((x.length:Int):Int)=0)||ab ((4:Int)<(x.length:Int)))then 2 else each (mq a) (kW<|each (oK a) mr l) x ());have e:(!(bu (x.length:Int) 1 4))=(ab (((x.length:Int):Int)=0)||ab ((4:Int)<(x.length:Int))):=by
    unfold bu;rw[et];simp only[dy,gk,cG,decide_eq_true_eq,decide_eq_false_iff_not];omega
   rw[e,k1];have:each (oP a) oQ l=each (oK a) mr l:=by funext u;exact ih
   rw[this]
 rw[k2]
theorem all_ok(a:List (List Val)):mE a=0↔wG a:=by
  have k1:∀(l:List Val) (f:Unit->Int),each (mq a) (kW f) l ()=0↔(∀v∈l,kr a.length v)/\f ()=0:=by
    intro l f;induction l with
    |nil=>simp[rz,kW]
    |cons x l ih=>
      show(bif ab ((jg x (a.length:Int):Int)≠0)then jg x (a.length:Int)else each (mq a) (kW f) l ())=0↔_;by_cases h:jg x (a.length:Int)=0
      · rw[dF V,cond_false,ih];have:=(xz _ _).1 h;simp[this]
      · rw[dT h,cond_true];have b:¬kr a.length x:=fun e=>h ((xz _ _).2 e);simp[h,b]
  have k2:∀l:List (List Val),each (oK a) mr l ()=0↔∀c∈l,(1<=c.length/\c.length<=4)/\∀v∈c,kr a.length v:=by
    intro l;induction l with
    |nil=>simp[rz,mr]
    |cons x l ih=>
      show(bif (ab (((x.length:Int):Int)=0)||ab ((4:Int)<(x.length:Int)))then 2 else each (mq a) (kW<|each (oK a) mr l) x ())=0↔_;by_cases h:1<=x.length/\x.length<=4
      · rw[show(ab (((x.length:Int):Int)=0)||ab ((4:Int)<(x.length:Int)))=ao by simp only[cX,decide_eq_false_iff_not];omega,cond_false,k1,ih];simp[h]
      · rw[show(ab (((x.length:Int):Int)=0)||ab ((4:Int)<(x.length:Int)))=ba by simp only[dy,decide_eq_true_eq];omega,cond_true];simp[h]
  unfold mE wG;by_cases h:a.length<=24
  · rw[dF V,cond_false,k2];simp[h]
  · rw[dT V,cond_true];simp[h]
structure KX(a:List bA)(n:Nat)(f:LX.Frame)(x:bA):Prop where
 proc:idx a f.proc=aj x
 at_:0<=f.at_/\f.at_<x.code.length
 regs:(f.regs.length:Int)=x.regs
 vals:∀v∈f.regs,kr n v
def ni(a:List bA)(n:Nat):Int->List LX.Frame->Prop
 |_,[]=>True
 |ahead,f::l=>(∃x,KX a n f x)/\(0<=f.jD/\f.jD<ahead)/\ni a n f.regs.length l
structure wB(a:List bA)(s:LX.State):Prop where
 status:0<=s.status/\s.status<=3
 bS: -1000000000<=s.bS/\s.bS<=1000000000
 stay:s.status≠3->s.bS=0
 ended:s.status=1↔s.frames=[]
 many:s.frames.length<=10
 cells:wG s.cells
 frames:ni a s.cells.length 1 s.frames
def ahead(pre:List LX.Frame):Int:=match pre.getLast? with|none=>1|some f=>f.regs.length
theorem ahead_nil:ahead []=1:=rfl
theorem SS(pre:List LX.Frame)(f:LX.Frame):ahead (pre++[f])=f.regs.length:=by simp[ahead]
theorem Xh(b:LX.State)(f:LX.Frame)(c:Unit->Option Int)(a:Int->Option Int)(hn:c ()=a f.regs.length):∀l:List Val,each (xY b) (xZ c) l ()=each (uq b) (uu a f) l ()
 |[]=>hn
 |x::l=>by
  show(bif ab ((jg x (b.cells.length:Int):Int)≠0)then aj (jg x (b.cells.length:Int))else each (xY b) (xZ c) l ())=(bif ab ((gT x (b.cells.length:Int):Int)≠0)then aj (gT x (b.cells.length:Int))else each (uq b) (uu a f) l ());rw[value_eq,Xh b f c a hn l]
theorem vals_tot(b:LX.State)(a:Unit->Option Int)(Q:Prop)(hn:∃y,a ()=aj y/\(y=0↔Q)):∀l:List Val,∃y,each (xY b) (xZ a) l ()=aj y/\(y=0↔(∀v∈l,kr b.cells.length v)/\Q)
  |[]=>by obtain⟨y,d,c⟩:=hn;exact⟨y,d,by simp[c]⟩
  |x::l=>by
    obtain⟨y,d,c⟩:=vals_tot b a Q hn l;have e:each (xY b) (xZ a) (x::l) ()=(bif ab ((jg x (b.cells.length:Int):Int)≠0)then aj (jg x (b.cells.length:Int))else each (xY b) (xZ a) l ()):=rfl;rw[e];by_cases h:jg x (b.cells.length:Int)=0
    · rw[dF V,cond_false];have:=(xz _ _).1 h;exact⟨y,d,by rw[c];simp[this]⟩
    · rw[dT h,cond_true];refine⟨_,Z,?_⟩;have f:¬kr b.cells.length x:=fun e=>h ((xz _ _).2 e);simp[h,f]
theorem XQ(a:List bA)(b:LX.State)(m:b.frames.length<=10):∀(l pre:List LX.Frame),b.frames=pre++l->
    gU (DY a b) Hq (pre.length:Int) l ()=each (jb a b) lN l (ahead pre)
  |[],pre,h=>rfl
  |f::l,pre,h=>by
    have d:=XQ a b m l (pre++[f]) (by simpa using h);rw[SS]at d;have k:(((pre++[f]).length:Nat):Int)=(pre.length:Int)+1:=by simp
    rw[k]at d;rw[qU,gW];generalize gU (DY a b) Hq ((pre.length:Int)+1) l=K1 at d⊢;generalize each (jb a b) lN l=K2 at d⊢;unfold DY jb;have o:pre.length<=10:=by have:=congrArg eR h;simp at this;omega
    have n:(ab ((f.proc:Int)<0)||ab (((a.length:Int):Int)<=f.proc))= !bI f.proc (a.length:Int):=UC _ _;rw[n];cases hp:bI f.proc (a.length:Int)with
    |false=>rfl
    |true=>
      simp only[ej,cond_false];cases hx:idx a f.proc with
      |none=>rfl
      |some x=>
        simp only[bnd];cases ha:bI f.at_ (x.code.length:Int)with
        |false=>
          rw[show(((ab ((f.at_:Int)<0)||ab (((x.code.length:Int):Int)<=f.at_))||ab ((f.jD:Int)<0))||(ab ((pre.length:Int)=0)&&ab ((f.jD:Int)≠0)))=ba by
            have:=UC f.at_ (x.code.length:Int);rw[ha]at this;rw[this];rfl]
          rfl
        |true=>
          have j:=UC f.at_ (x.code.length:Int);rw[ha]at j;rw[j];simp only[ej,oL,cond_false];have i:∀t,AL f x b K1 t=j4 a f b K2 t:=by
            intro t;unfold AL j4;rw[hx,bnd,Xh b f _ _ d]
          simp only[i];rcases gd pre with rfl|⟨q,g,rfl⟩
          · rw[ahead_nil];by_cases c:f.jD=0
            · rw[show(ab ((f.jD:Int)<0)||(ab ((([]:List LX.Frame).length:Int)=0)&&ab ((f.jD:Int)≠0)))=ao by simp[c],cond_false,dF zq3,cond_false,show(!bI f.jD 1)=ao by simp[c,bI]]
            · rw[show(ab ((f.jD:Int)<0)||(ab ((([]:List LX.Frame).length:Int)=0)&&ab ((f.jD:Int)≠0)))=ba by simp[c],cond_true,show(!bI f.jD 1)=ba by simp[bI];omega]
          · rw[gf]at*;rw[SS];have e:((q++[g]).length:Int)=(q.length:Int)+1:=by simp
            rw[e,show(ab ((q.length:Int)+1=0))=ao from dF V,Bool.false_and,Bool.or_false];by_cases c:f.jD<0
            · rw[dT c,cond_true,show(!bI f.jD (g.regs.length:Int))=ba by simp[bI];omega]
            · rw[dF c,cond_false,dT V,cond_true,gI V (by simp at o;omega),show(q.length:Int)+1-1=((q.length:Nat):Int) by omega,jP,h];simp only[ck,gx (bq _),Nat.sub_self,eo,cD,lf,bnd];congr 1;rw[et];simp[bI];omega
theorem aaq(a:List bA)(b:LX.State):I8 a b=yg a b:=by
  unfold I8 yg;have c:(((ab ((b.status:Int)<0)||ab ((3:Int)<b.status))||ab ((b.bS:Int)< -1000000000))||ab ((1000000000:Int)<b.bS))=((!(bu b.status 0 3))||(!(jX b.bS))):=by
    unfold jX bu;rw[et];simp only[dy,gk,cG,decide_eq_true_eq,decide_eq_false_iff_not];omega
  have d:((ab ((b.status:Int)≠3)&&ab ((b.bS:Int)≠0))||(ab ((b.status:Int)=1) !=ab (((b.frames.length:Int):Int)=0)))=(((ab ((b.bS:Int)≠0)&&ab ((b.status:Int)≠3))||(ab ((b.status:Int)=1)&&ab ((0:Int)<(b.frames.length:Int))))||(ab ((b.status:Int)≠1)&&ab (((b.frames.length:Int):Int)=0))):=by
    by_cases f:b.status=1<;>by_cases g:b.frames.length=0<;>by_cases i:b.status=3<;>by_cases e:b.bS=0<;>simp[f,g,i,e]<;>omega
  rw[c,d,cells_eq];by_cases h:b.frames.length<=10
  · have:=XQ a b h b.frames [] Z;rw[ahead_nil]at this;rw[<-this];rfl
  · rw[show(ab ((10:Int)<(b.frames.length:Int)))=ba from dT V];rfl
theorem aar(a:List bA)(b:LX.State):∀(l:List LX.Frame) (t:Int),∃y,each (jb a b) lN l t=aj y/\(y=0↔ni a b.cells.length t l)
  |[],t=>⟨0,rfl,by simp[ni]⟩
  |f::l,t=>by
    obtain⟨y,i,m⟩:=aar a b l f.regs.length;rw[gW];generalize each (jb a b) lN l=K2 at i⊢;unfold jb;cases hp:bI f.proc (a.length:Int)with
    |false=>
      refine⟨5,Z,?_⟩;have:¬ni a b.cells.length t (f::l):=by
        rintro⟨⟨x,g⟩,-,-⟩;have:=aF g.proc;have j:=(kq.1 this.2).1;unfold bI at hp;simp only[cG,decide_eq_false_iff_not]at hp;omega
      simp[this]
    |true=>
      unfold bI at hp;simp only[cS,decide_eq_true_eq]at hp;simp only[ej,cond_false];obtain⟨n,hn⟩:=bs hp.1;have d:idx a f.proc=aj (a[n]'V):=by rw[hn,xM V]
      generalize a[n]'V=x at d;rw[d,bnd];have kB:∃y,j4 a f b K2 ba=aj y/\y≠0:=⟨3,Z,by decide⟩;have c:∀z,KX a b.cells.length f z->z=x:=fun z g=>by have:=g.proc;rw[d]at this;exact(osi this).symm
      cases ha:bI f.at_ (x.code.length:Int)with
      |false=>
        obtain⟨y,g1,g2⟩:=kB;refine⟨y,g1,?_⟩;have:¬ni a b.cells.length t (f::l):=by
          rintro⟨⟨z,g⟩,-,-⟩;have:=c z g;subst this;have:=g.at_;unfold bI at ha;simp only[cG,decide_eq_false_iff_not]at ha;omega
        simp[this,g2]
      |true=>
        simp only[ej,cond_false];cases ht:bI f.jD t with
        |false=>
          obtain⟨y,g1,g2⟩:=kB;refine⟨y,g1,?_⟩;have:¬ni a b.cells.length t (f::l):=by
            rintro⟨⟨z,g⟩,j,-⟩;unfold bI at ht;simp only[cG,decide_eq_false_iff_not]at ht;omega
          simp[this,g2]
        |true=>
          simp only[ej];unfold j4;rw[d,cond_false,bnd];unfold bI at ha ht;simp only[cS,decide_eq_true_eq]at ha ht;by_cases e:(f.regs.length:Int)=x.regs
          · rw[dF V,cond_false,<-Xh b f (fun _=>K2 f.regs.length) _ rfl];obtain⟨z,g1,g2⟩:=vals_tot b (fun _=>K2 f.regs.length) _ ⟨y,i,m⟩ f.regs;refine⟨z,g1,g2.trans ⟨fun h=>⟨⟨x,d,ha,e,h.1⟩,ht,h.2⟩,?_⟩⟩;rintro⟨⟨z,g⟩,j,k⟩;exact⟨g.vals,k⟩
          · rw[dT V,cond_true];refine⟨4,Z,?_⟩;have:¬ni a b.cells.length t (f::l):=by
              rintro⟨⟨z,g⟩,-,-⟩;have:=c z g;subst this;exact e g.regs
            simp[this]
theorem aas(a:List bA)(b:LX.State):∃y,I8 a b=aj y/\(y=0↔wB a b):=by
  rw[aaq];unfold yg;cases c1:((!(bu b.status 0 3))||(!(jX b.bS)))with
  |true=>
    refine⟨3,Z,⟨fun h=>absurd h zq1,fun h=>?_⟩⟩;unfold jX bu at c1;simp only[dy,gk,cG,decide_eq_false_iff_not]at c1;have:=h.status;have:=h.bS;omega
  |false=>
    unfold jX bu at c1;simp only[cX,Bool.not_eq_false',cS,decide_eq_true_eq]at c1;rw[cond_false];cases c2:(((ab ((b.bS:Int)≠0)&&ab ((b.status:Int)≠3))||(ab ((b.status:Int)=1)&&ab ((0:Int)<(b.frames.length:Int))))||(ab ((b.status:Int)≠1)&&ab (((b.frames.length:Int):Int)=0)))with
    |true=>
      refine⟨4,Z,⟨fun h=>absurd h zq1,fun h=>?_⟩⟩;simp only[dy,cS,decide_eq_true_eq]at c2;rcases c2 with(c2|c2)|c2
      · exact absurd (h.stay c2.2) c2.1
      · have:=h.ended.1 c2.1;rw[this]at c2;simp at c2
      · exact absurd (h.ended.2<|cl V) c2.1
    |false=>
      simp only[cX,cG,decide_eq_false_iff_not]at c2;rw[cond_false];by_cases e:b.frames.length<=10
      · rw[dF V,cond_false,cells_eq];by_cases c:mE b.cells=0
        · rw[dF V,cond_false];obtain⟨y,f,g⟩:=aar a b b.frames 1;refine⟨y,f,g.trans ⟨fun h=>⟨by omega,by omega,fun d=>by omega,⟨fun d=>?_,fun d=>?_⟩,e,(all_ok _).1 c,h⟩,fun h=>h.frames⟩⟩
          · exact cl V
          · rw[d]at c2;simp at c2;omega
        · rw[dT c,cond_true];exact⟨_,Z,⟨fun h=>absurd h c,fun h=>absurd ((all_ok _).2 h.cells) c⟩⟩
      · rw[dT V,cond_true];exact⟨2,Z,⟨fun h=>absurd h zq1,fun h=>absurd h.many e⟩⟩
def ckS(a:List bA)(s:LX.State):Int:=(I8 a s).getD 0
theorem ckS_eq(a:List bA)(s:LX.State):I8 a s=aj (ckS a s):=by obtain⟨y,h,-⟩:=aas a s;unfold ckS;rw[h];rfl
theorem JJ{a:List bA}{s:LX.State}:ckS a s=0↔wB a s:=by obtain⟨y,h,b⟩:=aas a s;unfold ckS;rw[h];exact b
theorem Kt(a:List bA)(s:LX.State):FZ a s=aj (if KW a≠0 then KW a else ckS a s):=by
  unfold FZ;rw[Xf,bnd];by_cases h:KW a=0
  · rw[dF V,cond_false,ckS_eq,bnd,if_neg V]
  · rw[dT h,cond_true,if_pos h]
theorem eqVals(a b:List Val):qd a b=aj (ab (a=b)):=by
  unfold qd;by_cases h:a.length=b.length
  · rw[dF V];simp only[cond_false,bh];rw[upto_all2 (fun x y=>ab (x=y)) a b h rfl (fun i x y j d g=>by
      unfold yY;rw[jP,jP,d,g];obtain⟨k,n⟩:=x;obtain⟨k2,f⟩:=y;by_cases e:k=k2<;>by_cases c:n=f<;>simp[e,c]),P6 (fun _ _=>rfl)]
  · rw[dT V];have:a≠b:=fun e=>h (by rw[e]);rw[dF this];rfl
theorem eqCells(a b:List (List Val)):Qo a b=aj (ab (a=b)):=by
  unfold Qo;by_cases h:a.length=b.length
  · rw[dF V,cond_false,Rj (fun x y=>ab (x=y)) a b h rfl (fun i x y d c=>by
      unfold Nk;rw[jP,c,bnd,eqVals,bnd];by_cases e:x=y<;>simp[e]),P6 (fun _ _=>rfl)]
  · rw[dT V];have:a≠b:=fun e=>h (by rw[e]);rw[dF this];rfl
theorem fr_eq(x y:LX.Frame)(b:Unit->Option Bool):(bif ((ab ((x.proc:Int)=y.proc)&&ab ((x.at_:Int)=y.at_))&&ab ((x.jD:Int)=y.jD))then(qd x.regs y.regs).bind fun a=>CG b (!a)else CG b ba)=bif ab (x=y)then b ()else aj false:=by
 obtain⟨p,t,r,o⟩:=x;obtain⟨i,c,f,o2⟩:=y;simp only[eqVals,bnd,CG];by_cases d:p=i<;>by_cases e:t=c<;>by_cases g:r=f<;>by_cases h:o=o2<;>simp[d,e,g,h]
theorem st_eq(a b:LX.State):ab (a=b)=((ab (a.status=b.status)&&ab (a.bS=b.bS))&&(ab (a.cells=b.cells)&&ab (a.frames=b.frames))):=by
 obtain⟨f,c,s,w⟩:=a;obtain⟨e,c2,d,g⟩:=b;rw[et];simp;constructor<;>(intro h;simp[h])
theorem eqState(a b:LX.State):Ub a b=aj (ab (a=b)):=by
  rw[st_eq];unfold Ub;cases (ab ((a.status:Int)=b.status)&&ab ((a.bS:Int)=b.bS))with
  |false=>rfl
  |true=>
    rw[cond_true,eqCells,bnd];cases ab (a.cells=b.cells)with
    |false=>rfl
    |true=>
      rw[cond_true];by_cases h:a.frames.length=b.frames.length
      · rw[dF V,cond_false,Rj (fun x y=>ab (x=y)) a.frames b.frames h rfl (fun i x y d c=>by
          unfold O3;rw[jP,c,bnd];exact fr_eq x y d),P6 (fun _ _=>rfl)];rfl
      · rw[dT V];have:a.frames≠b.frames:=fun e=>h (by rw[e]);rw[dF this];rfl
structure Small(s:LX.State):Prop where
 frames:s.frames.length<=10
 regs:∀f∈s.frames,f.regs.length<=40
 cells:s.cells.length<=24
 fields:∀c∈s.cells,c.length<=4
theorem AV{a:List bA}{n:Nat}:∀{l:List LX.Frame} {t:Int},ni a n t l->∀f∈l,∃x,KX a n f x
  |[],_,_,f,hf=>by cases hf
  |g::l,t,h,f,hf=>by
    rcases bn.1 hf with rfl|hf
    · exact h.1
    · exact AV h.2.2 f hf
theorem mH.mem{a:List bA}(h:mH a){k:Int}{x:bA}(c:idx a k=aj x):x∈a/\(0<=x.params/\x.params<=3)/\(1<=x.regs/\x.params<=x.regs/\x.regs<=40)/\uG x:=by
 have b:=(aF c).2;have:=h.head _ x b;exact⟨fl b,this.1,this.2.1,this.2.2.2⟩
theorem wB.small{a:List bA}{s:LX.State}(h:wB a s)(ha:mH a):Small s where
 frames:=h.many
 regs f hf:=by
  obtain⟨x,g⟩:=AV h.frames f hf;have:=(ha.mem g.proc).2.2.1;have:=g.regs;omega
 cells:=h.cells.1
 fields c hc:=(h.cells.2 c hc).1.2
theorem UD{α:Type}{b:Nat}{a:List α}(h:a.length<=400)(c:b<=48):clone b a=aj a:=by
 have:a.length*b<=400*48:=oB h c;unfold clone;exact ky ⟨by simp;omega,by simp;omega⟩
theorem Io{ρ:Type}{body:Int->Unit->(Unit->ρ)->ρ}{k:Unit->ρ}:∀(m:Nat) (i:Nat),(∀j:Nat,i<=j->j<i+m->∀a,body (j:Int) () a=a ())->upto body k (i:Int) m ()=k ()
 |0,i,_=>rfl
 |m+1,i,h=>by
  rw[Xg,h i (bq _) V,show((i:Int)+1)=((i+1:Nat):Int) by omega];exact Io m (i+1) fun j b c=>h j V V
theorem cellCopy_eq{l:List (List Val)}(h:l.length<=24)(a:∀c∈l,c.length<=4):Ql l=aj l:=by
 unfold Ql;rw[UD V zq1,bnd,bh];exact Io (k:=Nf l) l.length 0 (fun j b d e=>by
  unfold Nc;rw[xM V,bnd,UD (by have:=a _ (cx (by omega:j<l.length));omega) zq1,bnd])
theorem copy_eq{s:LX.State}(h:Small s):Ng s=aj s:=by
 unfold Ng;rw[UD (by have:=h.frames;omega) zq1,bnd,cellCopy_eq h.cells h.fields,bnd];unfold RN;rw[bh];exact Io (k:=RL s s.cells) s.frames.length 0 (fun j b a c=>by
  unfold RJ;rw[xM V,bnd,UD (by have:=h.regs _ (cx (by omega:j<s.frames.length));omega) zq1,bnd])
theorem room_le{α:Type}{a:Nat}{l m:List α}(h:l.length+m.length<=100000)(b:a<=48):Room a l m:=by
 have:(l.length+m.length)*a<=100000*48:=oB h b;exact⟨by omega,by omega⟩
def UE(l:List Int)(v:Val):List Int:=if v.kind=2/\v.n∉l then l++[v.n]else l
def UF(l:List Int)(vs:List Val):List Int:=vs.foldl UE l
def cellAt(cells:List (List Val))(k:Int):List Val:=(idx cells k).getD []
def bfs(cells:List (List Val)):Nat->Nat->List Int->List Int
 |0,_,l=>l
 |m+1,k,l=>if h:k<l.length then bfs cells m (k+1) (UF l (cellAt cells l[k]))else l
def PM(cells:List (List Val))(vs:List Val):List Int:=bfs cells 25 0 (UF [] vs)
theorem QC(l:List Int)(v:Val)(vs:List Val):UF l (v::vs)=UF (UE l v) vs:=rfl
theorem metV_pre(l:List Int)(v:Val):l<+:UE l v:=by
  unfold UE;split
  · exact ff _ _
  · exact cv _
theorem PN:∀(vs:List Val) (l:List Int),l<+:UF l vs
 |[],l=>cv _
 |v::vs,l=>(metV_pre l v).trans (PN vs _)
theorem bfs_pre(cells:List (List Val)):∀(m k:Nat) (l:List Int),l<+:bfs cells m k l
  |0,_,l=>cv _
  |m+1,k,l=>by
    unfold bfs;split
    · exact(PN _ _).trans<|bfs_pre cells m _ _
    · exact cv _
theorem nodup_len:∀(n:Nat) (l:List Int),l.Nodup->(∀x∈l,0<=x/\x<n)->l.length<=n
  |0,l,_,h=>by
    cases l with
    |nil=>simp
    |cons x l=>have:=h x zq3;omega
  |n+1,l,hn,h=>by
    have d:=nodup_len n (l.erase (n:Int)) (hn.erase _) (fun x b=>by
      have a:=(hn.mem_erase_iff).1 b;have:=h x a.2;have e:=a.1;constructor
      · omega
      · push_cast at this;omega)
    have c:l.length<=(l.erase (n:Int)).length+1:=by rw[List.length_erase];split<;>omega
    omega
def zq(n:Nat)(l:List Int):Prop:=l.Nodup/\∀x∈l,0<=x/\x<n
theorem zq.len{n:Nat}{l:List Int}(h:zq n l):l.length<=n:=nodup_len n l h.1 h.2
theorem zq.nil{n:Nat}:zq n []:=⟨List.nodup_nil,fun x a=>by cases a⟩
theorem kr.ref{n:Nat}{v:Val}(h:kr n v)(a:v.kind=2):0<=v.n/\v.n<n:=by unfold kr at h;omega
theorem zq.v{n:Nat}{l:List Int}(h:zq n l){v:Val}(i:kr n v):zq n (UE l v):=by
  unfold UE;split
  · rename_i d;refine⟨rk.2 ⟨h.1,by simp,fun a g b f=>?_⟩,fun x c=>?_⟩
    · simp at f;subst f;intro e;subst e;exact d.2 g
    · rcases cE.1 c with c|c
      · exact h.2 x c
      · simp at c;subst c;exact i.ref d.1
  · exact h
theorem zq.l{n:Nat}:∀{vs:List Val} {l:List Int},zq n l->(∀v∈vs,kr n v)->zq n (UF l vs)
 |[],l,h,_=>h
 |v::vs,l,h,hv=>zq.l (vs:=vs) (l:=UE l v) (h.v (hv v zq3)) (fun w a=>hv w (bj _ a))
theorem NA{cells:List (List Val)}{k:Int}(h:0<=k/\k<cells.length):idx cells k=aj (cellAt cells k)/\cellAt cells k∈cells:=by
 obtain⟨n,rfl⟩:=bs h.1;unfold cellAt;rw[xM V];exact⟨Z,cx _⟩
theorem wG.at{cells:List (List Val)}(h:wG cells){k:Int}(a:0<=k/\k<cells.length):(1<=(cellAt cells k).length/\(cellAt cells k).length<=4)/\∀v∈cellAt cells k,kr cells.length v:=h.2 _ (NA a).2
theorem zq.bfs{cells:List (List Val)}(a:wG cells):∀{m k:Nat} {l:List Int},zq cells.length l->zq cells.length (bfs cells m k l)
  |0,_,l,h=>h
  |m+1,k,l,h=>by
    unfold Proofs.YtodkbibbgakkdaaGreatDoor.bfs;split
    · rename_i b;exact zq.bfs a<|h.l (a.at<|h.2 _<|cx b).2
    · exact h
def j6(vs:List Val)(l:List Int):Prop:=∀v∈vs,v.kind=2->v.n∈l
theorem j6.pre{vs:List Val}{l m:List Int}(h:j6 vs l)(hp:l<+:m):j6 vs m:=fun v b a=>hp.subset (h v b a)
theorem metV_in(l:List Int)(v:Val)(b:v.kind=2):v.n∈UE l v:=by
  unfold UE;split
  · simp
  · rename_i a;exact ei.1 fun h=>a ⟨b,h⟩
theorem metL_in:∀(vs:List Val) (l:List Int),j6 vs (UF l vs)
  |[],l,v,hv,_=>by cases hv
  |w::vs,l,v,hv,hk=>by
    rw[QC];rcases bn.1 hv with rfl|hv
    · exact(PN vs _).subset<|metV_in l v hk
    · exact metL_in vs _ v hv hk
theorem bfs_in{cells:List (List Val)}(d:wG cells):∀{m k:Nat} {l:List Int},zq cells.length l->cells.length<k+m->(∀j (a:j<l.length),j<k->j6 (cellAt cells l[j]) l)->∀x∈bfs cells m k l,j6 (cellAt cells x) (bfs cells m k l)
  |0,k,l,h,hm,a,x,hx=>by
    have:=h.len;obtain⟨j,b,rfl⟩:=qf hx;exact a j b (by have f:j<l.length:=b;omega)
  |m+1,k,l,h,hm,a,x,hx=>by
    unfold Proofs.YtodkbibbgakkdaaGreatDoor.bfs at hx⊢;split at hx
    · rename_i c;rw[dif_pos c];have n:=(d.at<|h.2 _<|cx c).2;have hp:=PN (cellAt cells l[k]) l;refine bfs_in d (h.l n) V (fun j b o=>?_) x hx;by_cases e:j<l.length
      · have g:(UF l<|cellAt cells l[k])[j]=l[j]:=(hp.getElem e).symm;rw[g];by_cases i:j<k
        · exact(a j e i).pre hp
        · have:j=k:=by omega
          subst this;exact metL_in _ _
      · omega
    · rename_i c;rw[dif_neg c];obtain⟨j,b,rfl⟩:=qf hx;exact a j b V
theorem reach_ok{cells:List (List Val)}(a:wG cells){vs:List Val}(c:∀v∈vs,kr cells.length v):zq cells.length (PM cells vs)/\j6 vs (PM cells vs)/\∀x∈PM cells vs,j6 (cellAt cells x) (PM cells vs):=by
 have b:zq cells.length (UF [] vs):=zq.nil.l c;refine⟨zq.bfs a b,(metL_in vs []).pre (bfs_pre _ _ _ _),bfs_in a b (by have:=a.1;omega) (fun j e d=>absurd d (eK _))⟩
theorem lk_lput{α:Type}(k a:Int)(v:α):∀l:List (Int×α),lk k (Bi a v l)=if k=a then aj v else lk k l
  |[]=>by unfold Bi lk;by_cases h:k=a<;>simp[h,lk]
  |p::l=>by
    unfold Bi;by_cases h:a=p.1
    · rw[if_pos h];show(if k=p.1 then aj v else lk k l)=if k=a then aj v else(if k=p.1 then aj p.2 else lk k l)
      by_cases e:k=p.1
      · rw[if_pos e,if_pos V]
      · rw[if_neg e,if_neg V,if_neg e]
    · rw[if_neg h];show(if k=p.1 then aj p.2 else lk k (Bi a v l))=if k=a then aj v else(if k=p.1 then aj p.2 else lk k l)
      by_cases e:k=p.1
      · rw[if_pos e,if_pos e,if_neg V]
      · rw[if_neg e,if_neg e,lk_lput k a v l]
def Seen(l:List Int)(m:List (Int×Bool)):Prop:=∀k,(lk k m).getD ao=ab (k∈l)
theorem Seen.nil:Seen [] []:=fun k=>rfl
theorem Seen.put{l:List Int}{m:List (Int×Bool)}(h:Seen l m)(n:Int):Seen (l++[n]) (Bi n ba m):=by
  intro k;rw[lk_lput];by_cases e:k=n
  · simp[e]
  · rw[if_neg e,h k,et];simp[e]
theorem UG{ρ:Type}{body:Val->List Int×List (Int×Bool)->(List Int×List (Int×Bool)->Option ρ)->Option ρ}{K:List Int×List (Int×Bool)->Option ρ}
    (b:∀x l m c,l.length<=1000->body x (l,m) c=bif (ab (x.kind=2)&&(!((lk x.n m).getD ao)))then c (l++[x.n],Bi x.n ba m)else c (l,m)):
    ∀(vs:List Val) (l:List Int) (m:List (Int×Bool)),Seen l m->l.length+vs.length<=1000->∃d,Seen (UF l vs) d/\each body K vs (l,m)=K (UF l vs,d)
  |[],l,m,h,_=>⟨m,h,rfl⟩
  |v::vs,l,m,h,hl=>by
    simp only[bw]at hl;rw[gW,b v l m _ V,h v.n,QC];unfold UE;by_cases a:v.kind=2/\v.n∉l
    · rw[if_pos a,dT a.1,dF a.2,mT,ka,cond_true];exact UG b vs _ _ (h.put v.n) (by simp;omega)
    · rw[if_neg a,show(ab (v.kind=2)&& !decide (v.n∈l))=ao by rw[cG];simp;simp only[not_and,ei]at a;by_cases e:v.kind=2<;>simp[e,a],cond_false];exact UG b vs _ _ h V
theorem bfs_loop{cells:List (List Val)}(d:wG cells):∀(m N k:Nat) (l:List Int) (s:List (Int×Bool)),zq cells.length l->Seen l s->cells.length<k+m->m<N->k<=l.length->again (ui cells) N ((k:Int),l,s)=aj (bfs cells m k l,0)
  |m,0,k,l,s,h,hs,hm,hN,hk=>by omega
  |0,N+1,k,l,s,h,hs,hm,hN,hk=>by have:=h.len;omega
  |m+1,N+1,k,l,s,h,hs,hm,hN,hk=>by
    rw[H8];unfold ui Proofs.YtodkbibbgakkdaaGreatDoor.bfs;simp only;have q:=h.len;have hn:=d.1;by_cases a:k<l.length
    · rw[dT V,cond_true,xM a,bnd,dif_pos a];have g:=h.2 _<|cx a;have i:=d.at g;rw[(NA g).1,bnd];have p:(fun(s:Int×List Int×List (Int×Bool))(c:Int×List Int×List (Int×Bool)->Option (List Int×Int))=>match s with|(b,Qh,Bo)=>bif ab ((b:Int)<(Qh.length:Int))then(idx Qh b).bind fun f=>(idx cells f).bind fun e=>each zZ (z8 b c) e (Qh,Bo)else aj (Qh,0))=ui cells:=rfl;rw[p];obtain⟨r,j,o⟩:=UG (body:=zZ) (K:=z8 (k:Int) (again (ui cells) N)) (fun x l m t q=>by
        unfold zZ;simp only[D5];cases (ab (x.kind=2)&&(!((lk x.n m).getD ao)))with
        |false=>rfl
        |true=>rw[cond_true,cond_true,ky (room_le (by simp;omega) zq1)]) (cellAt cells l[k]) l s hs (by have:=i.1.2;omega)
      rw[o];unfold z8;simp only;rw[gI V V];have hp:=(PN (cellAt cells l[k]) l).length_le;exact bfs_loop d m N (k+1) _ r (h.l i.2) j V V V
    · rw[dF V,cond_false,dif_neg a]
theorem reach_eq{N:Nat}(hN:100<=N){cells:List (List Val)}(b:wG cells){vs:List Val}(a:∀v∈vs,kr cells.length v)(e:vs.length<=400):Nb N cells vs=aj (PM cells vs,0):=by
 unfold Nb;rw[(all_ok cells).2 b,dF zq3,cond_false,dF V,cond_false];have k1:∀l:List Val,(∀v∈l,kr cells.length v)->each (D7 cells) (Aa N cells vs) l ()=Aa N cells vs ():=by
  intro l;induction l with
  |nil=>intro _;rfl
  |cons x l ih=>
   intro h;rw[gW];unfold D7;rw[(xz _ _).2 (h x zq3),dF zq3,cond_false];exact ih fun v a=>h v<|bj _ a
 rw[k1 vs a];unfold Aa;obtain⟨f,c,d⟩:=UG (body:=D6) (K:=I9 N cells) (fun x l m g e=>by
  unfold D6;simp only[DZ];cases (ab (x.kind=2)&&(!((lk x.n m).getD ao)))with
  |false=>rfl
  |true=>rw[cond_true,cond_true,ky (room_le (by simp;omega) zq1)]) vs [] [] Seen.nil (by simp;omega)
 rw[d];exact bfs_loop b 25 N 0 _ f (zq.nil.l a) c (by have:=b.1;omega) V V
def ren(l:List Int)(v:Val):Val:=if v.kind=2 then⟨v.kind,(l.idxOf v.n:Nat)⟩else v
def KY(l:List Int)(f:LX.Frame):LX.Frame:={f with regs:=f.regs.map (ren l)}
def roots(fr:List LX.Frame):List Val:=fr.flatMap (·.regs)
def fH(s:LX.State):List Int:=PM s.cells (roots s.frames)
def dM(s:LX.State):LX.State:=⟨s.frames.map (KY (fH s)),(fH s).map (fun k=>(cellAt s.cells k).map (ren (fH s))),s.status,s.bS⟩
structure PO(s:LX.State):Prop where
 small:Small s
 cells:wG s.cells
 vals:∀f∈s.frames,∀v∈f.regs,kr s.cells.length v
theorem wB.sw{a:List bA}{s:LX.State}(h:wB a s)(ha:mH a):PO s where
 small:=h.small ha
 cells:=h.cells
 vals f hf:=by obtain⟨x,g⟩:=AV h.frames f hf;exact g.vals
theorem PO.roots{s:LX.State}(h:PO s):∀v∈roots s.frames,kr s.cells.length v:=by
 intro v a;unfold YtodkbibbgakkdaaGreatDoor.roots at a;obtain⟨f,b,a⟩:=lz.1 a;exact h.vals f b v a
theorem roots_len(fr:List LX.Frame)(h:∀f∈fr,f.regs.length<=40):(roots fr).length<=40*fr.length:=by
 induction fr with
 |nil=>simp[roots]
 |cons f l ih=>
  have:=h f zq3;have:=ih fun g a=>h g<|bj _ a;unfold roots at*;rw[gj,bk,bw];omega
theorem PO.rlen{s:LX.State}(h:PO s):(YtodkbibbgakkdaaGreatDoor.roots s.frames).length<=400:=by
 have:=roots_len s.frames h.small.regs;have:=h.small.frames;omega
theorem PO.reach{s:LX.State}(h:PO s):zq s.cells.length (fH s)/\j6 (YtodkbibbgakkdaaGreatDoor.roots s.frames) (fH s)/\∀x∈fH s,j6 (cellAt s.cells x) (fH s):=reach_ok h.cells h.roots
theorem map_loop{α ρ:Type}{body:Int->List α->(List α->Option ρ)->Option ρ}{K:List α->Option ρ}{g:α->α}{P:α->Prop}
  (e:∀(i:Nat) (x:List α) a nx,x[i]? =aj a->P a->body (i:Int) x nx=nx (x.set i (g a))):
  ∀(d c:List α),(∀a∈d,P a)->upto body K (c.length:Int) d.length (c++d)=K (c++d.map g)
 |[],c,_=>by simp[upto]
 |a::d,c,h=>by
  rw[bw,Xg,e c.length (c++a::d) a _ zq3 (h a zq3)];have:=map_loop (K:=K) e d (c++[g a]) fun b e=>h b<|bj _ e;rw[show(c++a::d).set c.length (g a)=(c++[g a])++d by simp,show((c.length:Int)+1)=((c++[g a]).length:Nat) by simp,this];simp
theorem Xi{α ρ:Type}{body:Int->List α->(List α->Option ρ)->Option ρ}{K:List α->Option ρ}{g:α->α}{P:α->Prop}
  (b:∀(i:Nat) (x:List α) a nx,x[i]? =aj a->P a->body (i:Int) x nx=nx (x.set i (g a))) (l:List α) (hp:∀a∈l,P a):upto body K 0 l.length l=K (l.map g):=by
 have:=map_loop (K:=K) b l [] hp;simpa using this
def aat(l:List Int)(m:List (Int×Int)):Prop:=∀k,lk k m=if k∈l then aj ((l.idxOf k:Nat):Int)else aw
theorem turn_eq{l:List Int}{m:List (Int×Int)}(h:aat l m)(vs:List Val)(e:j6 vs l):Zj vs m=aj (vs.map (ren l)):=by
  unfold Zj;rw[bh];refine Xi (P:=fun v=>v.kind=2->v.n∈l) (fun i x a g c hp=>?_) vs fun v f=>e v f;unfold VJ Qn;rw[jP,c,bnd];by_cases b:a.kind=2
  · rw[dT b,cond_true,h a.n,if_pos (hp b)];simp[ren,b]
  · rw[dF b,cond_false];have:x.set i a=x:=by
      obtain⟨d,rfl⟩:=kq.1 c;exact lR d
    simp[ren,b,this]
theorem aau{s:LX.State}(j:wG s.cells){K:List (List Val)×List Int×List (Int×Int)->Option LX.State}:∀(b a:List Int) (m:List (Int×Int)),zq s.cells.length (a++b)->aat a m->
    ∃g,aat (a++b) g/\gU (AO s) K (a.length:Int) b (a.map (cellAt s.cells),a,m)=K ((a++b).map (cellAt s.cells),a++b,g)
  |[],a,m,_,h=>⟨m,by simpa using h,by simp[gU]⟩
  |k::b,a,m,hm,h=>by
    have i:a++k::b=(a++[k])++b:=by simp
    have f:k∉a:=by
      intro f;exact(rk.1 hm.1).2.2 k f k zq3 Z
    have p:=hm.len;have hn:=j.1;simp only[bk,bw]at p;have o:=hm.2 k zq3;rw[qU];obtain⟨g,n,l⟩:=aau j (K:=K) b (a++[k]) (Bi k (a.length:Int) m) (by rw[<-i];exact hm) (fun q=>by
      rw[lk_lput];by_cases e:q=k
      · subst e;rw[if_pos rfl,if_pos zq3,rl,if_neg f];simp
      · rw[if_neg e,h q];by_cases d:q∈a
        · rw[if_pos d,if_pos (by simp[d]),rl,if_pos d]
        · rw[if_neg d,if_neg (by simp[d,e])])
    refine⟨g,by rw[i];exact n,?_⟩;have c:(((a++[k]).length:Nat):Int)=(a.length:Int)+1:=by simp
    rw[c]at l;rw[i,<-l];generalize gU (AO s) K ((a.length:Int)+1) b=K1;unfold AO;simp only;rw[(NA o).1,bnd,ky f,ky (room_le (by simp;omega) zq1),cI];rfl
theorem frames_sweep{l:List Int}{m:List (Int×Int)}(h:aat l m)(K:List LX.Frame->Option LX.State)(fr:List LX.Frame)(c:∀f∈fr,j6 f.regs l):upto (Hr m) K 0 fr.length fr=K (fr.map (KY l)):=
 Xi (P:=fun f=>j6 f.regs l) (fun i x a d b hp=>by
  unfold Hr;rw[jP,b,bnd,turn_eq h a.regs hp,bnd];simp[KY]) fr c
theorem cells_sweep{l:List Int}{m:List (Int×Int)}(h:aat l m)(K:List (List Val)->Option LX.State)(cs:List (List Val))(d:∀c∈cs,j6 c l):upto (Kj m) K 0 cs.length cs=K (cs.map (fun c=>c.map (ren l))):=
 Xi (P:=fun c=>j6 c l) (fun i x a e b hp=>by
  unfold Kj;rw[jP,b,bnd,turn_eq h a hp,bnd];simp) cs d
theorem root_loop{K:List Val->Option LX.State}:∀(fr:List LX.Frame) (a:List Val),a.length+(roots fr).length<=1000->each D9 K fr a=K (a++roots fr)
 |[],a,_=>by simp[rz,roots]
 |f::fr,a,h=>by
  have e:roots (f::fr)=f.regs++roots fr:=rfl;rw[e,bk]at h;rw[gW];have b:=root_loop (K:=K) fr (a++f.regs) (by simp;omega);generalize each D9 K fr=K1 at b⊢;unfold D9;rw[ky (room_le V zq1),b,e,ck]
theorem JK{fr:List LX.Frame}{l:List Int}(h:j6 (roots fr) l):∀f∈fr,j6 f.regs l:=fun f a v b c=>h v (lz.2 ⟨f,a,b⟩) c
theorem aav{N:Nat}(hN:100<=N){s:LX.State}(h:PO s):Ja N s=aj (dM s):=by
 have a:=h.reach;unfold Ja;rw[root_loop s.frames [] (by have:=h.rlen;simp;omega),cD];unfold Nj;rw[reach_eq hN h.cells h.roots h.rlen,bnd,dF zq3,cond_false,copy_eq h.small,bnd];have e:PM s.cells (roots s.frames)=fH s:=rfl;simp only[e];obtain⟨j,d,g⟩:=aau h.cells (K:=D8 s) (fH s) [] [] (by simpa using a.1) (fun k=>by simp[lk]);have b:gU (AO s) (D8 s) 0 (fH s) ([],([]:List Int),([]:List (Int×Int)))=_:=g;rw[b];simp only[cD]at d⊢;unfold D8;simp only[bh];rw[frames_sweep d _ _ (JK a.2.1)];unfold Ni;rw[bh,cells_sweep d _ _ (fun c f=>by
  obtain⟨k,i,rfl⟩:=dJ.1 f;exact a.2.2 k i)]
 unfold Nh dM;rw[jx];rfl
def jO(r:List Val)(i:Int):Val:=(idx r i).getD ⟨0,0⟩
def opP(k:Int)(b c:Val):Option Val:=
 if k=5 then aj ⟨1,if b=c then 1 else 0⟩else if b.kind≠1\/c.kind≠1 then aw else if k=4 then aj ⟨1,if b.n<c.n then 1 else 0⟩else
 let n:=if k=1 then b.n+c.n else if k=2 then b.n-c.n else b.n*c.n
 if-1000000000<=n/\n<=1000000000 then aj ⟨1,n⟩else aw
def K5(f:LX.Frame)(x:bA):LX.Frame:={f with at_:=min (f.at_+1) ((x.code.length:Int)-1)}
def newP(s:LX.State)(c:Ins):Option LX.State:=
 if s.cells.length=24 then aw else aj ⟨s.frames.dropLast++(s.frames.getLast?.map fun h=>{h with regs:=h.regs.set c.a.toNat ⟨2,s.cells.length⟩}).toList,s.cells++[cd c.b.toNat ⟨0,0⟩],s.status,s.bS⟩
def uw(a:List bA)(pre:List LX.Frame)(f:LX.Frame)(cells:List (List Val))(st wh:Int)(x:bA)(c:Ins):Option (LX.State×Option Int×Bool):=
  let g:=K5 f x;let r:=jO f.regs;let put:=fun(v:Val)=>(⟨pre++[{g with regs:=f.regs.set c.a.toNat v}],cells,st,wh⟩:LX.State);let d:=(⟨pre++[g],cells,st,wh⟩:LX.State);let jump:=(⟨pre++[{g with at_:=c.b}],cells,st,wh⟩:LX.State);let e:=fun(v:Val)=>v.kind≠2\/((cellAt cells v.n).length:Int)<=c.c
  if c.op=1 then aj (put ⟨1,c.b⟩,aw,ao)else
  if c.op=2 then aj (put (r c.b),aw,ao)else
  if c.op=3 then(opP (c.args.headD 0) (r c.b) (r c.c)).map fun v=>(put v,aw,ao)else
  if c.op=4 then(if e (r c.b)then aw else aj (put (jO (cellAt cells (r c.b).n) c.c),aw,ao))else
  if c.op=6 then(if e (r c.a)then aw else aj (⟨pre++[g],cells.set (r c.a).n.toNat ((cellAt cells (r c.a).n).set c.c.toNat (r c.b)),st,wh⟩,aw,ao))else
  if c.op=5 then(newP (if cells.length=24 then dM d else d) c).map fun t=>(t,aw,ao)else
  if c.op=7 then(if pre.length+1=10 then aw else aj (⟨pre++[g]++[⟨c.b,0,c.args.map r++cd (((idx a c.b).map (·.regs)).getD 0-c.args.length).toNat ⟨0,0⟩,c.a⟩],cells,st,wh⟩,aw,ao))else
  if c.op=8 then aj (match pre.getLast? with
    |none=>⟨[],cells,1,wh⟩
    |some h=>⟨pre.dropLast++[{h with regs:=h.regs.set f.jD.toNat (r c.a)}],cells,st,wh⟩,aw,ao)else
  if c.op=9 then(if(r c.a).kind=1 then aj (d,aj (r c.a).n,ao)else aw)else
  if c.op=11 then(if(r c.a).kind=1 then aj (⟨pre++[g],cells,3,(r c.a).n⟩,aw,ba)else aw)else
  if c.op=12 then aj (jump,aw,ao)else
  if c.op=13 then aj (if(r c.a).kind≠2/\(r c.a).n=0 then jump else d,aw,ao)else
  aj (d,aw,ba)
def R1(r:Option (Rn×Bool×LX.State))(q:Option (LX.State×Option Int×Bool)):Prop:=∃o a b,r=aj (o,a,b)/\match q with|none=>a=ao|some (t,said,p)=>a=ba/\b=t/\o=⟨said.isSome,said.getD 0,p⟩
theorem JM{R:Int}{r:List Val}(b:(r.length:Int)=R){i:Int}(h:GK R i):idx r i=aj (jO r i)/\jO r i∈r:=by
 obtain⟨a,c⟩:=h;obtain⟨n,rfl⟩:=bs a;unfold jO;rw[xM V];exact⟨Z,cx _⟩
theorem UH(pre:List LX.Frame)(f:LX.Frame):idx (pre++[f]) (pre.length:Int)=aj f:=by rw[jP];simp
theorem AX(pre:List LX.Frame)(f g:LX.Frame):(pre++[f]).set pre.length g=pre++[g]:=by simp
theorem yh(pre:List LX.Frame)(f:LX.Frame):(((pre++[f]).length:Int)-1)=(pre.length:Int):=by simp
theorem mul_bd{x y:Int}(a: -1000000000<=x/\x<=1000000000)(b: -1000000000<=y/\y<=1000000000): -1000000000000000000<=x*y/\x*y<=1000000000000000000:=by
 have c:(x*y).natAbs<=1000000000*1000000000:=by
  rw[Int.natAbs_mul];exact oB V V
 omega
theorem kr.int{n:Nat}{v:Val}(h:kr n v)(a:v.kind=1): -1000000000<=v.n/\v.n<=1000000000:=by unfold kr at h;omega
theorem op_eq{n:Nat}{k:Int}{b c:Val}(p:1<=k/\k<=5)(j:kr n b)(i:kr n c):∃v,vm_op k b c=aj (v,(opP k b c).isSome)/\∀w,opP k b c=aj w->v=w:=by
  unfold vm_op opP Md;by_cases f:k=5
  · rw[dT f,cond_true,if_pos f];by_cases e:b=c
    · subst e;simp
    · rw[if_neg e];have:(ab (b.kind=c.kind)&&ab (b.n=c.n))=false:=by
        obtain⟨k1,r⟩:=b;obtain⟨k2,q⟩:=c;rw[cG];simp at e⊢;by_cases h:k1=k2
        · right;exact e h
        · left;exact h
      rw[this];simp
  rw[dF f,cond_false,if_neg f];by_cases d:b.kind=1/\c.kind=1
  · rw[show(ab ((b.kind:Int)≠1)||ab ((c.kind:Int)≠1))=ao by simp[d.1,d.2],cond_false,if_neg (by simp[d.1,d.2])];have o:=j.int d.1;have c1:=i.int d.2;have m1:=mul_bd o c1;have a:∀z:Int,∃v,aj ((⟨1,z⟩:Val),(ab ((-1000000000:Int)<=z)&&ab ((z:Int)<=1000000000)))=aj (v,(if-1000000000<=z/\z<=1000000000 then aj (⟨1,z⟩:Val)else aw).isSome)/\∀w,(if-1000000000<=z/\z<=1000000000 then aj (⟨1,z⟩:Val)else aw)=aj w->v=w:=by
      intro z;by_cases h: -1000000000<=z/\z<=1000000000
      · rw[if_pos h,dT h.1,dT h.2];exact⟨_,Z,fun w e=>by cases e;rfl⟩
      · rw[if_neg h];refine⟨⟨1,z⟩,?_,fun w e=>by cases e⟩
        · congr 2;rw[pB,cG];simp only[decide_eq_false_iff_not];omega
    by_cases g:k=4
    · subst g;rw[if_pos rfl];simp only[bm,decide_false,decide_true,cond_false,cond_true];by_cases e:b.n<c.n<;>simp[e]
    rw[if_neg g];by_cases l:k=1
    · subst l;simp only[bm,decide_true,cond_true,if_true];rw[gI V V];exact a _
    by_cases m:k=2
    · subst m;simp only[bm,decide_true,decide_false,cond_true,cond_false,if_true,if_false];rw[gI V V];exact a _
    · obtain rfl:k=3:=by omega
      simp only[bm,decide_true,decide_false,cond_true,cond_false,if_true,if_false];rw[gI V V];exact a _
  · rw[show(ab ((b.kind:Int)≠1)||ab ((c.kind:Int)≠1))=ba by simp;omega,cond_true,if_pos V];exact⟨_,Z,fun w e=>by cases e⟩
theorem sG{a:List bA}{n:Nat}{f:LX.Frame}:∀{l:List LX.Frame} {t:Int},ni a n t (l++[f])↔ni a n t l/\(∃x,KX a n f x)/\(0<=f.jD/\f.jD<(match l.getLast? with|none=>t|some g=>g.regs.length))
 |[],t=>by simp[ni]
 |g::l,t=>by
  show((∃x,KX a n g x)/\(0<=g.jD/\g.jD<t)/\ni a n g.regs.length (l++[f]))↔_;rw[sG (l:=l)];have e:(match (g::l).getLast? with|none=>t|some g=>((g.regs.length:Int)))=(match l.getLast? with|none=>((g.regs.length:Int))|some g=>(g.regs.length:Int)):=by
   rw[List.getLast?_cons];cases l.getLast?<;>rfl
  rw[e];simp only[ni,and_assoc]
structure xA(a:List bA)(pre:List LX.Frame)(f:LX.Frame)(cells:List (List Val))(x:bA)(c:Ins):Prop where
 fr:KX a cells.length f x
 ins:idx x.code f.at_=aj c
 good:Oe a x.regs x.code.length c
 chain:ni a cells.length 1 pre
 jD:0<=f.jD/\f.jD<ahead pre
 many:pre.length+1<=10
 cok:wG cells
 proc:(1<=x.regs/\x.regs<=40)/\uG x
theorem top_ok{a:List bA}(e:mH a){pre:List LX.Frame}{f:LX.Frame}{cells:List (List Val)}{st wh:Int}(h:wB a ⟨pre++[f],cells,st,wh⟩):∃x c,xA a pre f cells x c:=by
 obtain⟨i,⟨x,g⟩,j⟩:=sG.1 h.frames;have d:=e.mem g.proc;have hat:=g.at_;obtain⟨n,hn⟩:=bs hat.1;have b:n<x.code.length:=by omega
 refine⟨x,x.code[n],g,by rw[hn,xM b],e.ins x d.1 _<|cx _,i,j,?_,h.cells,⟨by omega,d.2.2.2⟩⟩;have:=h.many;simpa using this
theorem xA.K5{a:List bA}{pre:List LX.Frame}{f:LX.Frame}{cells:List (List Val)}{x:bA}{c:Ins}(h:xA a pre f cells x c):KX a cells.length (K5 f x) x where
 proc:=h.fr.proc
 at_:=by
  have:=h.fr.at_;have:=h.proc.2;unfold uG at this;simp only[YtodkbibbgakkdaaGreatDoor.K5];omega
 regs:=h.fr.regs
 vals:=h.fr.vals
theorem xA.reg{a:List bA}{pre:List LX.Frame}{f:LX.Frame}{cells:List (List Val)}{x:bA}{c:Ins}(h:xA a pre f cells x c){i:Int}(b:GK x.regs i):idx f.regs i=aj (jO f.regs i)/\kr cells.length (jO f.regs i):=by
 have:=JM h.fr.regs b;exact⟨this.1,h.fr.vals _ this.2⟩
theorem xA.sw{a:List bA}{pre:List LX.Frame}{f:LX.Frame}{cells:List (List Val)}{x:bA}{c:Ins}(ha:mH a)(h:xA a pre f cells x c){st wh:Int}{g:LX.Frame}(hg:KX a cells.length g x):PO ⟨pre++[g],cells,st,wh⟩ where
  small:=⟨by have:=h.many;simp;omega,fun k hk=>by
    rcases cE.1 hk with hk|hk
    · obtain⟨y,hy⟩:=AV h.chain k hk;have:=hy.regs;have:=(ha.mem hy.proc).2.2.1;omega
    · simp at hk;subst hk;have:=hg.regs;have:=h.proc.1;omega,h.cok.1,fun c hc=>(h.cok.2 c hc).1.2⟩
  cells:=h.cok
  vals k hk:=by
    rcases cE.1 hk with hk|hk
    · obtain⟨y,hy⟩:=AV h.chain k hk;exact hy.vals
    · simp at hk;subst hk;exact hg.vals
section
variable{a:List bA}{pre:List LX.Frame}{f:LX.Frame}{cells:List (List Val)}{st wh:Int}{x:bA}{c:Ins}{N:Nat}
theorem En(h:xA a pre f cells x c):yc N ⟨pre++[f],cells,st,wh⟩ a=(bif ab ((c.op:Int)=1)then(idx f.regs c.a).bind fun l=>rf ao (pre++[{K5 f x with regs:=(f.regs.set (c.a).toNat (⟨1,c.b⟩:Val))}]) cells st wh else bif ab ((c.op:Int)=2)then(idx f.regs c.b).bind fun g=>(idx f.regs c.a).bind fun k=>rf ao (pre++[{K5 f x with regs:=(f.regs.set (c.a).toNat g)}]) cells st wh else bif ab ((c.op:Int)=3)then(idx c.args 0).bind fun j=>(idx f.regs c.b).bind fun i=>(idx f.regs c.c).bind fun e=>(vm_op j i e).bind fun d=>(idx f.regs c.a).bind fun m=>Nw ⟨pre++[f],cells,st,wh⟩ d.2 (pre++[{K5 f x with regs:=(f.regs.set (c.a).toNat d.1)}])else bif ab ((c.op:Int)=4)then mR N ⟨pre++[f],cells,st,wh⟩ f x c a (ab ((c.op:Int)=4))else mR N ⟨pre++[f],cells,st,wh⟩ f x c a (ab ((c.op:Int)=6))):=by
 have o:=h.many;have hat:=h.fr.at_;have n:=h.proc.2;unfold uG at n;unfold yc;simp only[yh];rw[gI V V,UH,bnd,h.fr.proc,bnd,h.ins,bnd,gI V V,gI V V];simp only[bh,AX];rfl
theorem step1(h:xA a pre f cells x c)(b:c.op=1)(d:GK x.regs c.a):R1 (yc N ⟨pre++[f],cells,st,wh⟩ a) (uw a pre f cells st wh x c):=by
 rw[En h,b];simp only[bm,decide_true,decide_false,cond_true,cond_false];rw[(h.reg d).1,bnd];unfold uw;simp only[b,if_true];exact⟨_,_,_,Z,Z,Z,Z⟩
theorem step2(h:xA a pre f cells x c)(d:c.op=2)(g:GK x.regs c.a)(e:GK x.regs c.b):R1 (yc N ⟨pre++[f],cells,st,wh⟩ a) (uw a pre f cells st wh x c):=by
 rw[En h,d];simp only[bm,decide_true,decide_false,cond_true,cond_false];rw[(h.reg e).1,bnd,(h.reg g).1,bnd];unfold uw;simp only[d,bm,if_true,if_false];exact⟨_,_,_,Z,Z,Z,Z⟩
theorem step3(h:xA a pre f cells x c)(d:c.op=3)(m:GK x.regs c.a)(j:GK x.regs c.b)(i:GK x.regs c.c){n:Int}(hn:c.args=[n])(g:1<=n/\n<=5):R1 (yc N ⟨pre++[f],cells,st,wh⟩ a) (uw a pre f cells st wh x c):=by
 rw[En h,d,hn];simp only[bm,decide_true,decide_false,cond_true,cond_false];obtain⟨v,k,l⟩:=op_eq g (h.reg j).2 (h.reg i).2;rw[idx0,bnd,(h.reg j).1,bnd,(h.reg i).1,bnd,k,bnd,(h.reg m).1,bnd];unfold uw Nw;simp only[d,hn,bm,if_true,if_false,nw];cases e:opP n (jO f.regs c.b) (jO f.regs c.c)with
 |none=>exact⟨_,_,_,rfl,rfl⟩
 |some w=>rw[l w e];exact⟨_,_,_,Z,Z,Z,Z⟩
theorem idx_cell{v:Val}(b:wG cells)(h:kr cells.length v)(c:v.kind=2):idx cells v.n=aj (cellAt cells v.n)/\(1<=(cellAt cells v.n).length/\(cellAt cells v.n).length<=4):=by
 have a:=h.ref c;exact⟨(NA a).1,(b.at a).1⟩
theorem idx_fld{v:Val}{i:Int}(a:0<=i)(h:i<((cellAt cells v.n).length:Int)):idx (cellAt cells v.n) i=aj (jO (cellAt cells v.n) i):=(JM Z ⟨a,h⟩).1
theorem field_get(h:xA a pre f cells x c)(e:c.op=4)(m:GK x.regs c.a)(l:GK x.regs c.b)(k:0<=c.c/\c.c<4):R1 (yc N ⟨pre++[f],cells,st,wh⟩ a) (uw a pre f cells st wh x c):=by
  rw[En h,e];simp only[bm,decide_true,decide_false,cond_true,cond_false];unfold mR Un Gc Gb;simp only[yh,bh,AX,e,bm,decide_true,decide_false,cond_true,cond_false];have i:=h.reg l;rw[i.1];simp only[bnd];unfold uw;simp only[e,bm,if_true,if_false];by_cases g:(jO f.regs c.b).kind=2
  · have d:=idx_cell h.cok i.2 g;rw[dF V,cond_false,d.1];simp only[bnd];by_cases j:((cellAt cells (jO f.regs c.b).n).length:Int)<=c.c
    · rw[dT j,cond_true,if_pos V];exact⟨_,_,_,Z,Z⟩
    · rw[dF j,cond_false,if_neg V,idx_fld k.1 V,bnd,(h.reg m).1,bnd];exact⟨_,_,_,Z,Z,Z,Z⟩
  · rw[dT g,cond_true,if_pos (.inl g)];exact⟨_,_,_,Z,Z⟩
theorem field_put(h:xA a pre f cells x c)(e:c.op=6)(m:GK x.regs c.a)(l:GK x.regs c.b)(k:0<=c.c/\c.c<4):R1 (yc N ⟨pre++[f],cells,st,wh⟩ a) (uw a pre f cells st wh x c):=by
  rw[En h,e];simp only[bm,decide_true,decide_false,cond_true,cond_false];unfold mR Un Gc Gb;simp only[yh,bh,AX,e,bm,decide_true,decide_false,cond_true,cond_false];have i:=h.reg m;rw[i.1];simp only[bnd];unfold uw;simp only[e,bm,if_true,if_false];by_cases g:(jO f.regs c.a).kind=2
  · have d:=idx_cell h.cok i.2 g;rw[dF V,cond_false,d.1];simp only[bnd];by_cases j:((cellAt cells (jO f.regs c.a).n).length:Int)<=c.c
    · rw[dT j,cond_true,if_pos V];exact⟨_,_,_,Z,Z⟩
    · rw[dF j,cond_false,if_neg V,(h.reg l).1,bnd,idx_fld k.1 V,bnd];exact⟨_,_,_,Z,Z,Z,Z⟩
  · rw[dT g,cond_true,if_pos (.inl g)];exact⟨_,_,_,Z,Z⟩
theorem Ms(g:LX.Frame):dM ⟨pre++[g],cells,st,wh⟩=⟨pre.map (KY (fH ⟨pre++[g],cells,st,wh⟩))++[KY (fH ⟨pre++[g],cells,st,wh⟩) g],(dM ⟨pre++[g],cells,st,wh⟩).cells,st,wh⟩:=by
 unfold dM;simp
theorem sweep_len{s:LX.State}(h:PO s):(dM s).cells.length<=s.cells.length/\(dM s).cells.length<=24:=by
 have a:=h.reach.1.len;have:=h.cells.1;unfold dM;simp;omega
theorem fresh_j1(e:List LX.Frame)(g:LX.Frame)(cs:List (List Val))(k:e.length<=20)(i:cs.length<=24)(f:GK g.regs.length c.a)(j:1<=c.b/\c.b<=4):∃d t,Ag c (e++[g]) cs st wh=aj (d,t)/\match newP ⟨e++[g],cs,st,wh⟩ c with|none=>d=ao|some u=>d=ba/\t=u:=by
  unfold Ag newP;simp only[yh];by_cases h:cs.length=24
  · rw[dT V,cond_true,if_pos h];exact⟨_,_,Z,Z⟩
  · rw[dF V,cond_false,if_neg h,gI V V,UH,bnd,(JM rfl f).1,bnd,ky V,ky (room_le (by simp;omega) zq1),bh,AX];refine⟨_,_,Z,Z,?_⟩;simp
theorem step5(q:mH a)(hN:100<=N)(h:xA a pre f cells x c)(g:c.op=5)(r:GK x.regs c.a)(o:1<=c.b/\c.b<=4):R1 (yc N ⟨pre++[f],cells,st,wh⟩ a) (uw a pre f cells st wh x c):=by
  rw[En h,g];simp only[bm,decide_true,decide_false,cond_true,cond_false];unfold mR ZK;simp only[yh,bh,AX,g,bm,decide_true,decide_false,cond_true,cond_false];unfold uw;simp only[g,bm,if_true,if_false];have v:=h.many;have i:=xA.sw q h (st:=st) (wh:=wh) h.K5;have k:GK (K5 f x).regs.length c.a:=by have:=h.K5.regs;rw[this];exact r
  have l:∀d:LX.State,(∃n t,Ag c d.frames d.cells d.status d.bS=aj (n,t)/\match newP d c with|none=>n=ao|some u=>n=ba/\t=u)->
      R1 ((Ag c d.frames d.cells d.status d.bS).bind fun y=>aj ((⟨ao,0,ao⟩:Rn),y.1,y.2)) ((newP d c).map fun t=>(t,aw,ao)):=by
    rintro d⟨n,t,p,j⟩;rw[p,bnd];cases e:newP d c with
    |none=>rw[e]at j;exact⟨_,_,_,Z,j⟩
    |some u=>rw[e]at j;exact⟨_,_,_,Z,j.1,j.2,Z⟩
  by_cases m:cells.length=24
  · rw[dT V,cond_true,if_pos m];have s:({f with at_:=min (f.at_+1) ((x.code.length:Int)-1)}:LX.Frame)=K5 f x:=rfl;rw[s,aav hN i,bnd];refine l _ ?_;rw[Ms];exact fresh_j1 _ _ _ (by simp;omega) (sweep_len i).2 (by simpa[KY]using k) o
  · rw[dF V,cond_false,if_neg m];exact l ⟨pre++[K5 f x],cells,st,wh⟩<|fresh_j1 _ _ _ V h.cok.1 k o
theorem fill_loop{ρ:Type}{body:Int->Int->List Val->(List Val->Option ρ)->Option ρ}{K:List Val->Option ρ}{r:Int->Val}{P:Int->Prop}
  (b:∀(i:Nat) k y nx,i<y.length->P k->body (i:Int) k y nx=nx (y.set i (r k))):∀(l:List Int) (a rest:List Val),(∀k∈l,P k)->l.length<=rest.length->gU body K (a.length:Int) l (a++rest)=K (a++l.map r++rest.drop l.length)
 |[],a,rest,_,_=>by simp[gU]
 |k::l,a,z::rest,h,hl=>by
  rw[qU,b a.length k (a++z::rest) _ zq3 (h k zq3),show(a++z::rest).set a.length (r k)=(a++[r k])++rest by simp,show((a.length:Int)+1)=((a++[r k]).length:Nat) by simp,fill_loop b l (a++[r k]) rest (fun q c=>h q (bj _ c)) (by simpa using hl)];simp
 |k::l,a,[],h,hl=>by simp at hl
theorem step7(q:mH a)(h:xA a pre f cells x c)(j:c.op=7)(z:GK x.regs c.a){p:bA}(hp:idx a c.b=aj p)(A:(c.args.length:Int)=p.params)(e:∀k∈c.args,GK x.regs k):R1 (yc N ⟨pre++[f],cells,st,wh⟩ a) (uw a pre f cells st wh x c):=by
  rw[En h,j];simp only[bm,decide_true,decide_false,cond_true,cond_false];unfold mR vm_call;simp only[yh,bh,AX,j,bm,decide_true,decide_false,cond_true,cond_false];unfold uw;simp only[j,bm,if_true,if_false];have w:=h.many;have u:=q.mem hp;by_cases l:pre.length+1=10
  · rw[dT (by simp;omega),cond_true,if_pos l];exact⟨_,_,_,Z,Z⟩
  · rw[dF (by simp;omega),cond_false,if_neg l,hp,bnd,ky V];have g:=fill_loop (K:=Jp ⟨pre++[K5 f x],cells,st,wh⟩ c a) (body:=Jo ⟨pre++[K5 f x],cells,st,wh⟩) (r:=jO f.regs) (P:=fun k=>GK x.regs k) (fun i k y s n o=>by
      unfold Jo;simp only[yh];rw[gI V V,UH,bnd];show((idx f.regs k).bind fun m=>(idx y (i:Int)).bind fun v=>s<|y.set ((i:Int)).toNat m)=_;rw[(h.reg o).1,bnd,xM n,bnd,bh]) c.args [] (cd p.regs.toNat ⟨0,0⟩) e (by simp;omega)
    have d:gU (Jo ⟨pre++[K5 f x],cells,st,wh⟩) (Jp ⟨pre++[K5 f x],cells,st,wh⟩ c a) 0 c.args (cd p.regs.toNat ⟨0,0⟩)=_:=g;have t:({f with at_:=min (f.at_+1) ((x.code.length:Int)-1)}:LX.Frame)=K5 f x:=rfl;rw[t,d];unfold Jp;simp only;rw[ky (room_le (by simp;omega) zq1),bnd];refine⟨_,_,_,Z,Z,?_,Z⟩;simp only[cD,List.drop_replicate,hp,da,eJ];rw[show p.regs.toNat-c.args.length=(p.regs-(c.args.length:Int)).toNat by omega]
theorem step8(j:mH a)(h:xA a pre f cells x c)(b:c.op=8)(e:GK x.regs c.a):R1 (yc N ⟨pre++[f],cells,st,wh⟩ a) (uw a pre f cells st wh x c):=by
  rw[En h,b];simp only[bm,decide_true,decide_false,cond_true,cond_false];unfold mR vm_back;simp only[yh,bh,AX,b,bm,decide_true,decide_false,cond_true,cond_false];unfold uw;simp only[b,bm,if_true,if_false];have i:=h.many;rw[(h.reg e).1,bnd,gI V V];rw[show sub? (pre++[({f with at_:=min (f.at_+1) ((x.code.length:Int)-1)}:LX.Frame)]) 0 (pre.length:Int)=aj pre by unfold sub?;rw[if_pos (by simp;omega)];simp[cut],bnd];rw[show(pre++[({f with at_:=min (f.at_+1) ((x.code.length:Int)-1)}:LX.Frame)]).take pre.length=pre by simp];rcases gd pre with hp|⟨q,g,hp⟩
  · subst hp;exact⟨_,_,_,Z,Z,Z,Z⟩
  · rw[gf]at hp;subst hp;have d:=h.jD;rw[SS]at d;simp only[bk,bw,eE]at i;rw[dF (by simp;omega),cond_false,yh,gI V V,UH,bnd,(JM Z d).1,bnd,bh,AX,bnd];simp only[ey,ec,fx,fk];exact⟨_,_,_,Z,Z,Z,Z⟩
theorem Mt(h:xA a pre f cells x c)(b:(c.op=9\/c.op=11\/c.op=13)/\GK x.regs c.a\/c.op=10\/c.op=12):R1 (yc N ⟨pre++[f],cells,st,wh⟩ a) (uw a pre f cells st wh x c):=by
  rw[En h];rcases b with⟨b|b|b,hr⟩|b|b
  · rw[b];simp only[bm,decide_true,decide_false,cond_true,cond_false];unfold mR;simp only[yh,bh,AX,b,bm,decide_true,decide_false,cond_true,cond_false];unfold uw;simp only[b,bm,if_true,if_false];rw[(h.reg hr).1,bnd];by_cases d:(jO f.regs c.a).kind=1
    · rw[dT d,if_pos d];exact⟨_,_,_,Z,Z,Z,Z⟩
    · rw[dF d,if_neg d];exact⟨_,_,_,Z,Z⟩
  · rw[b];simp only[bm,decide_true,decide_false,cond_true,cond_false];unfold mR;simp only[yh,bh,AX,b,bm,decide_true,decide_false,cond_true,cond_false];unfold uw;simp only[b,bm,if_true,if_false];rw[(h.reg hr).1,bnd];by_cases d:(jO f.regs c.a).kind=1
    · rw[dF V,cond_false,if_pos d];exact⟨_,_,_,Z,Z,Z,Z⟩
    · rw[dT d,cond_true,if_neg d];exact⟨_,_,_,Z,Z⟩
  · rw[b];simp only[bm,decide_true,decide_false,cond_true,cond_false];unfold mR;simp only[yh,bh,AX,b,bm,decide_true,decide_false,cond_true,cond_false];unfold uw;simp only[b,bm,if_true,if_false];have g:=h.reg hr;rw[g.1,bnd];have e:=g.2;unfold kr at e;by_cases d:(jO f.regs c.a).kind≠2/\(jO f.regs c.a).n=0
    · rw[if_pos d,show(ab ((jO f.regs c.a).kind=0)||(ab ((jO f.regs c.a).kind=1)&&ab ((jO f.regs c.a).n=0)))=ba by simp;omega,cond_true];exact⟨_,_,_,Z,Z,Z,Z⟩
    · rw[if_neg d,show(ab ((jO f.regs c.a).kind=0)||(ab ((jO f.regs c.a).kind=1)&&ab ((jO f.regs c.a).n=0)))=ao by rw[cX,cG];simp only[decide_eq_false_iff_not];omega,cond_false];exact⟨_,_,_,Z,Z,Z,Z⟩
  · rw[b];simp only[bm,decide_true,decide_false,cond_true,cond_false];unfold mR;simp only[yh,bh,AX,b,bm,decide_true,decide_false,cond_true,cond_false];unfold uw;simp only[b,bm,if_true,if_false];exact⟨_,_,_,Z,Z,Z,Z⟩
  · rw[b];simp only[bm,decide_true,decide_false,cond_true,cond_false];unfold mR;simp only[yh,bh,AX,b,bm,decide_true,decide_false,cond_true,cond_false];unfold uw;simp only[b,bm,if_true,if_false];exact⟨_,_,_,Z,Z,Z,Z⟩
theorem vm_step_ok(i:mH a)(hN:100<=N)(h:xA a pre f cells x c):R1 (yc N ⟨pre++[f],cells,st,wh⟩ a) (uw a pre f cells st wh x c):=by
  rcases h.good with g|g|g|g|g|g|g|g|g|g
  · exact step1 h g.1 g.2.1
  · exact step2 h g.1 g.2.1 g.2.2
  · obtain⟨g1,g2,d,b,n,e,j,k⟩:=g;exact step3 h g1 g2 d b e ⟨j,k⟩
  · obtain⟨g1|g1,g2,d,b⟩:=g
    · exact field_get h g1 g2 d b
    · exact field_put h g1 g2 d b
  · exact step5 i hN h g.1 g.2.1 g.2.2
  · obtain⟨g1,g2,⟨p,d,b⟩,e⟩:=g;exact step7 i h g1 g2 d b e
  · obtain⟨g1|g1|g1,g2⟩:=g
    · exact step8 i h g1 g2
    · exact Mt h<|.inl ⟨.inl g1,g2⟩
    · exact Mt h<|.inl ⟨.inr<|.inl g1,g2⟩
  · exact Mt h<|.inr<|.inl g
  · exact Mt h<|.inr<|.inr g.1
  · exact Mt h<|.inl ⟨.inr<|.inr g.1,g.2.1⟩
end
open Go Go.Proofs Go.LX
theorem kr.up{n m:Nat}{v:Val}(h:kr n v)(a:n<=m):kr m v:=by unfold kr at*;omega
theorem KX.up{a:List bA}{n m:Nat}{f:LX.Frame}{x:bA}(h:KX a n f x)(b:n<=m):KX a m f x:=⟨h.proc,h.at_,h.regs,fun v c=>(h.vals v c).up b⟩
theorem PQ{a:List bA}{n m:Nat}(b:n<=m):∀{l:List LX.Frame} {t:Int},ni a n t l->ni a m t l
 |[],_,_=>trivial
 |f::l,t,h=>by obtain⟨⟨x,g⟩,c,d⟩:=h;exact⟨⟨x,g.up b⟩,c,PQ b d⟩
theorem ren_ok{n:Nat}{l:List Int}{v:Val}(h:kr n v)(b:v.kind=2->v.n∈l):kr l.length (ren l v):=by
  unfold ren;by_cases a:v.kind=2
  · rw[if_pos a];have:=eb<|b a;unfold kr;simp only;omega
  · rw[if_neg a];unfold kr at*;omega
theorem KX.ren{a:List bA}{n:Nat}{l:List Int}{f:LX.Frame}{x:bA}(h:KX a n f x)(hr:j6 f.regs l):KX a l.length (KY l f) x where
 proc:=h.proc
 at_:=h.at_
 regs:=by unfold KY;simpa using h.regs
 vals v hv:=by
  unfold KY at hv;simp only[dJ]at hv;obtain⟨w,hw,rfl⟩:=hv;exact ren_ok (h.vals w hw)<|hr w hw
theorem UI{a:List bA}{n:Nat}{r:List Int}:∀{l:List LX.Frame} {t:Int},ni a n t l->(∀f∈l,j6 f.regs r)->ni a r.length t (l.map (KY r))
 |[],_,_,_=>trivial
 |f::l,t,h,hr=>by
  obtain⟨⟨x,g⟩,c,d⟩:=h;refine⟨⟨x,g.ren<|hr f zq3⟩,c,?_⟩;have:=UI d fun k b=>hr k<|bj _ b;simpa[KY]using this
theorem PR{s:LX.State}(h:PO s):wG (dM s).cells:=by
 have d:=h.reach;have i:=d.1.len;have hn:=h.cells.1;refine⟨by simp[dM];omega,fun c b=>?_⟩;unfold dM at b⊢;simp only[dJ,cH]at b⊢;obtain⟨k,f,rfl⟩:=b;have a:=h.cells.at<|d.1.2 k f;refine⟨by simpa using a.1,fun v g=>?_⟩;obtain⟨w,e,rfl⟩:=dJ.1 g;exact ren_ok (a.2 w e)<|d.2.2 k f w e
theorem UJ{a:List bA}(ha:mH a){s:LX.State}(h:wB a s):wB a (dM s) where
 status:=h.status
 bS:=h.bS
 stay:=h.stay
 ended:=by rw[show(dM s).status=s.status from rfl,h.ended];simp[dM]
 many:=by simpa[dM]using h.many
 cells:=PR (h.sw ha)
 frames:=by
  have hr:=(h.sw ha).reach;have:=UI h.frames<|JK hr.2.1;simpa[dM]using this
theorem set_vals{n:Nat}{r:List Val}{i:Nat}{v:Val}(h:∀w∈r,kr n w)(b:kr n v):∀w∈r.set i v,kr n w:=fun w a=>by
  rcases ki a with a|rfl
  · exact h w a
  · exact b
section
variable{a:List bA}{pre:List LX.Frame}{f:LX.Frame}{cells:List (List Val)}{wh:Int}{x:bA}{c:Ins}{N:Nat}
theorem xA.st(h:xA a pre f cells x c){g:LX.Frame}{y:bA}{cs:List (List Val)}{s w:Int}(hg:KX a cs.length g y)(hto:g.jD=f.jD)(hc:wG cs)(hl:cells.length<=cs.length)(hs:(s=0/\w=0)\/(s=3/\ -1000000000<=w/\w<=1000000000)):wB a ⟨pre++[g],cs,s,w⟩ where
 status:=by simp only;omega
 bS:=by simp only;omega
 stay:=by simp only;omega
 ended:=by simp;omega
 many:=by have:=h.many;simp;omega
 cells:=hc
 frames:=sG.2 ⟨PQ hl h.chain,⟨y,hg⟩,by rw[hto];exact h.jD⟩
theorem opP_ok{n:Nat}{k:Int}{b c v:Val}(a:1<=k/\k<=5)(h:opP k b c=aj v):kr n v:=by
  unfold opP at h;split at h
  · cases h;split<;>(unfold kr;simp)
  split at h
  · cases h
  split at h
  · cases h;split<;>(unfold kr;simp)
  simp only at h;generalize (if k=1 then b.n+c.n else if k=2 then b.n-c.n else b.n*c.n)=z at h;split at h
  · rename_i hz;cases h;exact .inr (.inl ⟨Z,hz.1,hz.2⟩)
  · cases h
theorem KX.put{n:Nat}{f:LX.Frame}{x:bA}(h:KX a n f x){i:Nat}{v:Val}(b:kr n v):KX a n {f with regs:=f.regs.set i v} x:=⟨h.proc,h.at_,by simpa using h.regs,set_vals h.vals b⟩
theorem KX.jump{n:Nat}{f:LX.Frame}{x:bA}(h:KX a n f x){b:Int}(c:0<=b/\b<x.code.length):KX a n {f with at_:=b} x:=⟨h.proc,c,h.regs,h.vals⟩
theorem newP_ok{s t:LX.State}{g:LX.Frame}(h:newP ⟨pre++[g],cells,0,wh⟩ c=aj t)(i:wB a ⟨pre++[g],cells,0,wh⟩)(p:1<=c.b/\c.b<=4):wB a t/\t.status=0:=by
  unfold newP at h;split at h
  · cases h
  rename_i k;simp only[fk,ey,ec,fx,da,pC]at h k;cases h;obtain⟨m,⟨x,n⟩,o⟩:=sG.1 i.frames;have j:=i.cells;simp only at m n o j;have e:cells.length<=(cells++[cd c.b.toNat (⟨0,0⟩:Val)]).length:=by simp
  refine⟨⟨i.status,i.bS,i.stay,by simp,by simpa using i.many,⟨?_,?_⟩,sG.2 ⟨PQ e m,⟨x,(n.up e).put ?_⟩,o⟩⟩,Z⟩
  · have:=j.1;simp;omega
  · intro d f;rcases cE.1 f with f|f
    · have:=j.2 d f;exact⟨this.1,fun v l=>(this.2 v l).up e⟩
    · simp at f;subst f;refine⟨by simp;omega,fun v l=>?_⟩;have:=fm l;subst this;unfold kr;simp
  · unfold kr;simp;try omega
theorem step_keeps(O:mH a)(h:xA a pre f cells x c)(T:wh=0){t:LX.State}{A:Option Int}{p:Bool}(i:uw a pre f cells 0 wh x c=aj (t,A,p)):
    wB a t/\(t.status=0\/t.status=1/\p=ao\/t.status=3/\p=ba)/\(A.isSome->t.status=0/\c.op=9):=by
  subst T;have j:=h.K5;have o:∀{v:Val},kr cells.length v->wB a ⟨pre++[{K5 f x with regs:=f.regs.set c.a.toNat v}],cells,0,0⟩:=fun r=>h.st (j.put r) Z h.cok (bq _)<|.inl ⟨Z,Z⟩;have E:wB a ⟨pre++[K5 f x],cells,0,0⟩:=h.st j Z h.cok (bq _)<|.inl ⟨Z,Z⟩;have w:(0<=c.b/\c.b<x.code.length)->wB a ⟨pre++[{K5 f x with at_:=c.b}],cells,0,0⟩:=fun m=>h.st (j.jump m) Z h.cok (bq _)<|.inl ⟨Z,Z⟩;unfold uw at i;rcases h.good with g|g|g|g|g|g|g|g|g|g
  · obtain⟨e,z,m⟩:=g;simp only[e,bm,if_true,if_false]at i;cases i;exact⟨o<|.inr<|.inl ⟨Z,m.1,m.2⟩,.inl Z,by simp⟩
  · obtain⟨e,z,m⟩:=g;simp only[e,bm,if_true,if_false]at i;cases i;exact⟨o (h.reg m).2,.inl Z,by simp⟩
  · obtain⟨e,z,m,P,n,hn,L⟩:=g;simp only[e,hn,bm,if_true,if_false,nw]at i;obtain⟨v,r,i⟩:=oR.1 i;cases i;exact⟨o<|opP_ok L r,.inl Z,by simp⟩
  · obtain⟨e,z,m,P⟩:=g;rcases e with e|e
    · simp only[e,bm,if_true,if_false]at i;split at i
      · cases i
      · rename_i F;cases i;have C:(jO f.regs c.b).kind=2:=by omega
        have r:=(h.reg m).2;have l:=h.cok.at<|r.ref C;exact⟨o<|l.2 _ (JM Z ⟨P.1,by omega⟩).2,.inl Z,by simp⟩
    · simp only[e,bm,if_true,if_false]at i;split at i
      · cases i
      · rename_i F;cases i;have C:(jO f.regs c.a).kind=2:=by omega
        have r:=(h.reg z).2;have l:=h.cok.at<|r.ref C;refine⟨h.st (by simpa using j) Z ⟨by simpa using h.cok.1,fun d M=>?_⟩ zq3<|.inl ⟨Z,Z⟩,.inl Z,by simp⟩;rw[List.length_set];rcases ki M with M|rfl
        · exact h.cok.2 d M
        · exact⟨by simpa using l.1,set_vals l.2 (h.reg m).2⟩
  · obtain⟨e,z,m⟩:=g;simp only[e,bm,if_true,if_false]at i;obtain⟨u,I,i⟩:=oR.1 i;cases i;split at I
    · have G:=UJ O E;rw[Ms]at I G;have:=newP_ok (s:=t) I G m;exact⟨this.1,.inl this.2,by simp⟩
    · have:=newP_ok (s:=t) I E m;exact⟨this.1,.inl this.2,by simp⟩
  · obtain⟨e,z,⟨S,hp,hl⟩,B⟩:=g;simp only[e,bm,if_true,if_false]at i;split at i
    · cases i
    · rename_i R;cases i;have K:=O.mem hp;have N:=h.many;refine⟨⟨by simp,by simp,by simp,by simp,by simp;omega,h.cok,sG.2 ⟨E.frames,⟨S,⟨hp,?_,?_,?_⟩⟩,?_⟩⟩,.inl Z,by simp⟩
      · have:=K.2.2.2;unfold uG at this;simp only;omega
      · simp only[hp,da,eJ,bk,cH,js];omega
      · intro v r;rcases cE.1 r with r|r
        · obtain⟨k,C,rfl⟩:=dJ.1 r;exact(h.reg<|B k C).2
        · have:=fm r;subst this;unfold kr;simp
      · simp only[ey,ec,fx];have Q:=j.regs;rw[Q];exact z
  · obtain⟨e,z⟩:=g;rcases e with e|e|e
    · simp only[e,bm,if_true,if_false]at i;rcases gd pre with hp|⟨q,g,hp⟩
      · subst hp;simp only[List.getLast?_nil]at i;cases i;exact⟨⟨by simp,by simp,by simp,by simp,by simp,h.cok,U⟩,.inr<|.inl ⟨Z,Z⟩,by simp⟩
      · rw[gf]at hp;subst hp;simp only[ey,ec,fx,fk]at i;cases i;obtain⟨c1,⟨y,c2⟩,X⟩:=sG.1 h.chain;have N:=h.many;simp only[bk,bw,eE]at N;exact⟨⟨by simp,by simp,by simp,by simp,by simp;omega,h.cok,sG.2 ⟨c1,⟨y,c2.put (h.reg z).2⟩,X⟩⟩,.inl Z,by simp⟩
    · simp only[e,bm,if_true,if_false]at i;split at i
      · cases i;exact⟨E,.inl Z,fun _=>⟨Z,e⟩⟩
      · cases i
    · simp only[e,bm,if_true,if_false]at i;split at i
      · rename_i C;cases i;exact⟨h.st j Z h.cok (bq _)<|.inr ⟨Z,(h.reg z).2.int C⟩,.inr<|.inr ⟨Z,Z⟩,by simp⟩
      · cases i
  · simp only[g,bm,if_true,if_false]at i;cases i;exact⟨E,.inl Z,by simp⟩
  · obtain⟨e,m⟩:=g;simp only[e,bm,if_true,if_false]at i;cases i;exact⟨w m,.inl Z,by simp⟩
  · obtain⟨e,z,m⟩:=g;simp only[e,bm,if_true,if_false]at i;cases i;split
    · exact⟨w m,.inl Z,by simp⟩
    · exact⟨E,.inl Z,by simp⟩
end
open Go Go.Proofs Go.LX
def insOf(a:List bA)(f:LX.Frame):Option (bA×Ins):=(idx a f.proc).bind fun x=>(idx x.code f.at_).map fun c=>(x,c)
def Ak(a:List bA)(s:LX.State):Option (LX.State×Option Int×Bool):=
 s.frames.getLast?.bind fun f=>(insOf a f).bind fun q=>uw a s.frames.dropLast f s.cells s.status s.bS q.1 q.2
def Mw(a:List bA)(s:LX.State):Int:=((s.frames.getLast?.bind fun f=>insOf a f).map fun q=>q.2.op).getD 0
def xJ(a:List bA):Nat->List Int->Nat->LX.State->LX.State×List Int×Nat
 |0,said,n,s=>(s,said,n)
 |m+1,said,n,s=>
  if s.status≠0 then(s,said,n)else
  if said.length=40/\Mw a s=9 then(s,said,n)else
  match Ak a s with
  |none=>({s with status:=2},said,n+1)
  |some (t,o,p)=>if p then(t,said++o.toList,n+1)else xJ a m (said++o.toList) (n+1) t
theorem Ip{a:List bA}(d:mH a){s:LX.State}(h:wB a s)(b:s.status=0):∃pre f x c,s=⟨pre++[f],s.cells,0,0⟩/\xA a pre f s.cells x c/\Ak a s=uw a pre f s.cells 0 0 x c/\Mw a s=c.op:=by
  obtain⟨fr,cells,st,wh⟩:=s;simp only at b;subst b;have e:wh=0:=h.stay zq3;subst e;rcases gd fr with hp|⟨pre,f,hp⟩
  · have:=h.ended.2 hp;simp at this
  · rw[gf]at hp;subst hp;obtain⟨x,c,g⟩:=top_ok d h;refine⟨pre,f,x,c,Z,g,?_,?_⟩
    · unfold Ak insOf;simp only[ey,ec,fx,fk,bnd,g.fr.proc,g.ins,da]
    · unfold Mw insOf;simp only[ey,ec,fx,bnd,g.fr.proc,g.ins,da,eJ]
theorem vm_step_P{a:List bA}(b:mH a){s:LX.State}(h:wB a s)(d:s.status=0){N:Nat}(hN:100<=N):R1 (yc N s a) (Ak a s):=by
 obtain⟨pre,f,x,c,e,g,i,-⟩:=Ip b h d;rw[i];generalize s.cells=cells at*;subst e;exact vm_step_ok b hN g
theorem Al{a:List bA}(d:mH a){s:LX.State}(h:wB a s)(e:s.status=0){t:LX.State}{o:Option Int}{p:Bool}(b:Ak a s=aj (t,o,p)):
  wB a t/\(t.status=0\/t.status=1/\p=ao\/t.status=3/\p=ba)/\(o.isSome->t.status=0/\Mw a s=9):=by
 obtain⟨pre,f,x,c,k,i,g,j⟩:=Ip d h e;rw[g]at b;rw[j];exact step_keeps d i Z b
theorem top_reads{a:List bA}(g:mH a){s:LX.State}(h:wB a s)(e:s.status=0):(s.frames.length<=10/\1<=s.frames.length)/\∃f x c,idx s.frames ((s.frames.length:Int)-1)=aj f/\idx a f.proc=aj x/\idx x.code f.at_=aj c/\c.op=Mw a s:=by
 obtain⟨pre,f,x,c,b,d,j,i⟩:=Ip g h e;refine⟨⟨h.many,by rw[b];simp⟩,f,x,c,?_,d.fr.proc,d.ins,i.symm⟩;have:s.frames=pre++[f]:=by rw[b]
 rw[this,yh,UH]
theorem fail_ok{a:List bA}{s:LX.State}(h:wB a s)(c:s.status=0):wB a {s with status:=2}:=by
  have b:s.bS=0:=h.stay V;refine⟨by simp,h.bS,fun _=>b,?_,h.many,h.cells,h.frames⟩;constructor
  · intro e;simp at e
  · intro e;have:=h.ended.2 e;omega
theorem run_loop{a:List bA}(u:mH a){N:Nat}(hN:100<=N)(c:Int):∀(m M:Nat) (b:List Int) (n:Nat) (s:LX.State),wB a s->b.length<=40->c=(n:Int)+m->c<=2000->m<M->
    again (Ck N c a) M (b,(n:Int),s.frames,s.cells,s.status,s.bS)=aj ((xJ a m b n s).1,(xJ a m b n s).2.1,((xJ a m b n s).2.2:Int),0)
  |m,0,b,n,s,h,hl,hc,hb,hM=>by omega
  |0,M+1,b,n,s,h,hl,hc,hb,hM=>by
    rw[H8];unfold Ck CV xJ;simp only;rw[show(ab ((n:Int)<c)&&ab ((s.status:Int)=0))=ao by rw[dF V];rfl,cond_false]
  |m+1,M+1,b,n,s,h,hl,hc,hb,hM=>by
    rw[H8];have B:=run_loop u hN c m M;generalize again (Ck N c a) M=K at B⊢;unfold Ck xJ;simp only;by_cases k:s.status=0
    · rw[dT V,dT k,mT,cond_true,if_neg V];obtain⟨I,f,x,i,F,E,O,L⟩:=top_reads u h k;rw[gI V V,F,bnd];have go:Jw N b n s.frames s.cells s.status s.bS a K ao=aj (match Ak a s with
          |none=>({s with status:=2},b,((n+1:Nat):Int),0)
          |some (t,o,p)=>if p then(t,b++o.toList,((n+1:Nat):Int),0)else((xJ a m (b++o.toList) (n+1) t).1,(xJ a m (b++o.toList) (n+1) t).2.1,((xJ a m (b++o.toList) (n+1) t).2.2:Int),0))\/(b.length=40/\Mw a s=9):=by
        by_cases d:b.length=40/\Mw a s=9
        · exact .inr d
        left;unfold Jw;rw[cond_false,show(⟨s.frames,s.cells,s.status,s.bS⟩:LX.State)=s from rfl,copy_eq (h.small u),bnd];obtain⟨o,P,r,G,w⟩:=vm_step_P u h k hN;rw[G,bnd,gI V V];cases eq:Ak a s with
        |none=>
          rw[eq]at w;simp only at w;subst w;simp only[ka,cond_true];unfold CV
          push_cast;rfl
        |some q=>
          obtain⟨t,o2,p⟩:=q;rw[eq]at w;obtain⟨rfl,rfl,rfl⟩:=w;have C:=Al u h k eq;simp only[ej,cond_false];have v:∀l,l=b++o2.toList->l.length<=40->Jv (⟨o2.isSome,o2.getD 0,p⟩,ba,r) n K l=aj (if p then(r,b++o2.toList,((n+1:Nat):Int),0)else((xJ a m (b++o2.toList) (n+1) r).1,(xJ a m (b++o2.toList) (n+1) r).2.1,((xJ a m (b++o2.toList) (n+1) r).2.2:Int),0)):=by
            intro l A y;subst A;unfold Jv CV;simp only;cases p with
            |true=>rw[cond_true,if_pos Z];push_cast;rfl
            |false=>
              rw[cond_false,if_neg zq3];have:=B (b++o2.toList) (n+1) r C.1 y (by push_cast;omega) hb V;rw[<-this];push_cast;rfl
          cases o2 with
          |none=>
            simp only[pB,cond_false];exact v b zq3 hl
          |some z=>
            have j:=(C.2.2 Z).2;simp only[Option.isSome_some,cond_true];rw[ky (room_le (by simp;omega) zq1)];exact v (b++[z]) zq3 (by simp;omega)
      by_cases g:b.length=40
      · rw[dT V,cond_true,E,bnd,O,bnd,L];by_cases j:Mw a s=9
        · rw[if_pos ⟨g,j⟩,dT j];rfl
        · rw[if_neg (fun e=>j e.2),dF j];rcases go with go|go
          · rw[go];cases Ak a s with
            |none=>rfl
            |some q=>obtain⟨t,o,p⟩:=q;cases p<;>rfl
          · exact absurd go.2 j
      · rw[dF V,cond_false,if_neg (fun e=>g e.1)];rcases go with go|go
        · rw[go];cases Ak a s with
          |none=>rfl
          |some q=>obtain⟨t,o,p⟩:=q;cases p<;>rfl
        · exact absurd go.1 g
    · rw[dF k,Bool.and_false,cond_false,if_pos k];rfl
theorem Xj{a:List bA}(i:mH a):∀(m:Nat) (b:List Int) (n:Nat) (s:LX.State),wB a s->b.length<=40->
    wB a (xJ a m b n s).1/\(xJ a m b n s).2.1.length<=40/\n<=(xJ a m b n s).2.2/\(xJ a m b n s).2.2<=n+m/\b<+:(xJ a m b n s).2.1/\(xJ a m b n s).2.1.length<=b.length+((xJ a m b n s).2.2-n)/\((xJ a m b n s).2.2=n->(xJ a m b n s).1=s)
  |0,b,n,s,h,hl=>⟨h,hl,bq _,bq _,cv _,by simp[xJ],fun _=>rfl⟩
  |m+1,b,n,s,h,hl=>by
    unfold xJ;by_cases f:s.status=0
    · rw[if_neg V];by_cases d:b.length=40/\Mw a s=9
      · rw[if_pos d];exact⟨h,hl,bq _,by simp,cv _,by simp,fun _=>rfl⟩
      · rw[if_neg d];cases eq:Ak a s with
        |none=>exact⟨fail_ok h f,hl,by simp,by simp,cv _,by simp,fun e=>by simp at e⟩
        |some q=>
          obtain⟨t,o,p⟩:=q;have g:=Al i h f eq;have c:(b++o.toList).length<=40:=by
            cases o with
            |none=>simpa using hl
            |some z=>have u:=(g.2.2 Z).2;simp;omega
          have ho:o.toList.length<=1:=by cases o<;>simp
          simp only;split
          · exact⟨g.1,c,by simp,by simp,ff _ _,by show(b++o.toList).length<=b.length+(n+1-n);rw[bk];omega,fun e=>by simp at e⟩
          · obtain⟨k,r,v,w,l,j,x⟩:=Xj i m (b++o.toList) (n+1) t g.1 c;refine⟨k,r,by omega,by omega,(ff _ _).trans l,?_,fun e=>by omega⟩;rw[bk]at j;omega
    · rw[if_pos f];exact⟨h,hl,bq _,by simp,cv _,by simp,fun _=>rfl⟩
theorem vm_Run_eq(a:List bA)(s:LX.State)(c:Int){N:Nat}(hN:3000<=N):WQ N a s c=aj (if KW a≠0 then(⟨[],[],0,0⟩,[],0,KW a)else if ckS a s≠0 then(⟨[],[],0,0⟩,[],0,ckS a s)else if c<0\/2000<c then(⟨[],[],0,0⟩,[],0,3)else if s.status≠0 then(⟨[],[],0,0⟩,[],0,7)else((xJ a c.toNat [] 0 s).1,(xJ a c.toNat [] 0 s).2.1,((xJ a c.toNat [] 0 s).2.2:Int),0)):=by
  unfold WQ;rw[Kt,bnd];by_cases b:KW a=0
  · rw[if_neg V,if_neg V];by_cases d:ckS a s=0
    · rw[dF V,cond_false,if_neg V];by_cases e:c<0\/2000<c
      · rw[show(ab ((c:Int)<0)||ab ((2000:Int)<c))=ba by rw[dy];simp only[decide_eq_true_eq];exact e,cond_true,if_pos e]
      · rw[show(ab ((c:Int)<0)||ab ((2000:Int)<c))=ao by rw[cX];simp only[decide_eq_false_iff_not];omega,cond_false,if_neg e];by_cases h:s.status=0
        · rw[dF V,cond_false,if_neg V];have g:=pU b;have f:=JJ.1 d;rw[copy_eq (f.small g),bnd];have:=run_loop g (N:=N) V c c.toNat N [] 0 s f zq3 V V V;exact this
        · rw[dT h,cond_true,if_pos h]
    · rw[dT d,cond_true,if_pos d]
  · rw[if_pos b,if_pos b,dT b,cond_true]
theorem vm_Wake_eq(a:List bA)(s:LX.State):Um a s=aj (if KW a≠0 then(⟨[],[],0,0⟩,KW a)else if ckS a s≠0 then(⟨[],[],0,0⟩,ckS a s)else if s.status≠3 then(⟨[],[],0,0⟩,7)else(⟨s.frames,s.cells,0,0⟩,0)):=by
  unfold Um;rw[Kt,bnd];by_cases b:KW a=0
  · rw[if_neg V,if_neg V];by_cases c:ckS a s=0
    · rw[dF V,cond_false,if_neg V];by_cases d:s.status=3
      · rw[dF V,cond_false,if_neg V,copy_eq ((JJ.1 c).small (pU b)),bnd]
      · rw[dT d,cond_true,if_pos d]
    · rw[dT c,cond_true,if_pos c]
  · rw[if_pos b,if_pos b,dT b,cond_true]
def vY(a:List bA):LX.State:=⟨[⟨0,0,cd (((idx a 0).map (fun x:bA=>x.regs)).getD 0).toNat ⟨0,0⟩,0⟩],[],0,0⟩
theorem aaw{a:List bA}(b:mH a):∃x,idx a 0=aj x:=by
 have:=b.many;cases a with
 |nil=>simp at this
 |cons x l=>exact⟨x,idx0 x l⟩
theorem vm_New_eq(a:List bA):ZF a=aj (if KW a≠0 then(⟨[],[],0,0⟩,KW a)else(vY a,0)):=by
  unfold ZF;rw[Xf,bnd];by_cases b:KW a=0
  · rw[dF V,cond_false,if_neg V];obtain⟨x,c⟩:=aaw<|pU b;have:=((pU b).mem c).2.2.1;rw[c,bnd,ky V];unfold vY;rw[c];rfl
  · rw[dT b,cond_true,if_pos b]
theorem aax{a:List bA}(d:mH a):wB a (vY a):=by
  obtain⟨x,b⟩:=aaw d;have h:=d.mem b;have g:=h.2.2.2;unfold uG at g;refine⟨by simp[vY],by simp[vY],by simp[vY],by simp[vY],by simp[vY],⟨by simp[vY],fun c e=>by simp[vY]at e⟩,⟨x,b,by simp only;omega,?_,fun v f=>?_⟩,by simp,trivial⟩
  · simp only[b,da,eJ,js];omega
  · have:=fm f;subst this;unfold kr;simp
def xB(ρ:Int->Int)(v:Val):Val:=if v.kind=2 then⟨v.kind,ρ v.n⟩else v
def mJ(ρ:Int->Int)(f:LX.Frame):LX.Frame:={f with regs:=f.regs.map (xB ρ)}
structure X9(ρ:Int->Int)(R:List Int)(s t:LX.State):Prop where
 frames:t.frames=s.frames.map (mJ ρ)
 status:t.status=s.status
 bS:t.bS=s.bS
 roots:j6 (YtodkbibbgakkdaaGreatDoor.roots s.frames) R
 range:∀x∈R,0<=x/\x<s.cells.length
 range':∀x∈R,0<=ρ x/\ρ x<t.cells.length
 inj:∀x∈R,∀y∈R,ρ x=ρ y->x=y
 cells:∀x∈R,cellAt t.cells (ρ x)=(cellAt s.cells x).map (xB ρ)/\j6 (cellAt s.cells x) R
theorem CY(ρ:Int->Int)(v:Val):(xB ρ v).kind=v.kind:=by unfold xB;split<;>rfl
theorem UK(ρ:Int->Int){v:Val}(h:v.kind=2):xB ρ v=⟨v.kind,ρ v.n⟩:=if_pos h
theorem Ku(ρ:Int->Int){v:Val}(h:v.kind≠2):xB ρ v=v:=if_neg h
section
variable{ρ:Int->Int}{R:List Int}{s t:LX.State}
theorem mem_map_inj(c:∀x∈R,∀y∈R,ρ x=ρ y->x=y){l:List Int}(d:∀x∈l,x∈R){x:Int}(b:x∈R):ρ x∈l.map ρ↔x∈l:=by
  constructor
  · intro h;obtain⟨y,a,e⟩:=dJ.1 h;rw[<-c y (d y a) x b e];exact a
  · exact fun h=>List.mem_map_of_mem h
theorem Ra(a:∀x∈R,∀y∈R,ρ x=ρ y->x=y):∀{l:List Int},(∀x∈l,x∈R)->∀{x:Int},x∈R->(l.map ρ).idxOf (ρ x)=l.idxOf x
  |[],_,x,_=>rfl
  |y::l,hl,x,hx=>by
    rw[cj,sv,sv,Ra a (fun z hz=>hl z (bj _ hz)) hx];by_cases e:y=x
    · subst e;simp
    · have b:ρ y≠ρ x:=fun h=>e<|a y (hl y zq3) x hx h;rw[show(ρ y==ρ x)=ao by simpa using b,show(y==x)=ao by simpa using e]
theorem metV_map(g:∀x∈R,∀y∈R,ρ x=ρ y->x=y){l:List Int}(e:∀x∈l,x∈R){v:Val}(f:v.kind=2->v.n∈R):UE (l.map ρ) (xB ρ v)=(UE l v).map ρ/\∀x∈UE l v,x∈R:=by
  unfold UE;by_cases a:v.kind=2
  · rw[UK ρ a];simp only[a,true_and];have c:=mem_map_inj g e<|f a;by_cases d:v.n∈l
    · rw[if_neg (fun h=>h (c.2 d)),if_neg (fun h=>h d)];exact⟨Z,e⟩
    · rw[if_pos (fun h=>d (c.1 h)),if_pos d];refine⟨by simp,fun x b=>?_⟩;rcases cE.1 b with b|b
      · exact e x b
      · simp at b;subst b;exact f a
  · rw[Ku ρ a,if_neg (fun h=>a h.1),if_neg (fun h=>a h.1)];exact⟨Z,e⟩
theorem aay(a:∀x∈R,∀y∈R,ρ x=ρ y->x=y):∀{vs:List Val} {l:List Int},(∀x∈l,x∈R)->j6 vs R->UF (l.map ρ) (vs.map (xB ρ))=(UF l vs).map ρ/\∀x∈UF l vs,x∈R
 |[],l,hl,_=>⟨rfl,hl⟩
 |v::vs,l,hl,hv=>by
  obtain⟨b,c⟩:=metV_map a hl<|hv v zq3;rw[cj,QC,QC,b];exact aay a c fun w d=>hv w<|bj _ d
theorem X9.bfs(h:X9 ρ R s t):∀(m k:Nat) (l:List Int),(∀x∈l,x∈R)->bfs t.cells m k (l.map ρ)=(bfs s.cells m k l).map ρ/\∀x∈bfs s.cells m k l,x∈R
  |0,k,l,hl=>⟨rfl,hl⟩
  |m+1,k,l,hl=>by
    unfold YtodkbibbgakkdaaGreatDoor.bfs;by_cases a:k<l.length
    · rw[dif_pos a,dif_pos (by simpa using a)];have c:=hl _<|cx a;have b:=h.cells _ c;rw[rK,b.1];obtain⟨d,e⟩:=aay h.inj hl b.2;rw[d];exact X9.bfs h m (k+1) _ e
    · rw[dif_neg a,dif_neg (by simpa using a)];exact⟨Z,hl⟩
theorem roots_map(ρ:Int->Int):∀fr:List LX.Frame,YtodkbibbgakkdaaGreatDoor.roots (fr.map (mJ ρ))=(YtodkbibbgakkdaaGreatDoor.roots fr).map (xB ρ)
 |[]=>rfl
 |f::fr=>by
  have:=roots_map ρ fr;unfold YtodkbibbgakkdaaGreatDoor.roots at*;rw[cj,gj,gj,cI,this];rfl
theorem X9.reach(h:X9 ρ R s t):fH t=(fH s).map ρ/\∀x∈fH s,x∈R:=by
 unfold fH PM;rw[h.frames,roots_map];obtain⟨a,c⟩:=aay h.inj (l:=[]) (fun x b=>by cases b) h.roots;rw[en]at a;rw[a];exact h.bfs 25 0 _ c
theorem ren_map(h:X9 ρ R s t){v:Val}(b:v.kind=2->v.n∈R):ren (fH t) (xB ρ v)=ren (fH s) v:=by
  unfold ren;rw[CY];by_cases a:v.kind=2
  · rw[if_pos a,if_pos a,UK ρ a,h.reach.1,Ra h.inj h.reach.2 (b a)]
  · rw[if_neg a,if_neg a,Ku ρ a]
theorem Am{α β:Type}{f g:α->β}:∀{l:List α},(∀x∈l,f x=g x)->l.map f=l.map g:=fun h=>List.map_congr_left h
theorem X9.sweep(h:X9 ρ R s t):dM t=dM s:=by
 have a:t.frames.map (KY<|fH t)=s.frames.map (KY<|fH s):=by
  rw[h.frames,jx];refine Am fun f e=>?_;have:(f.regs.map<|xB ρ).map (ren<|fH t)=f.regs.map (ren<|fH s):=by
   rw[jx];exact Am fun v b=>ren_map h<|JK h.roots f e v b
  show KY (fH t) (mJ ρ f)=KY (fH s) f;unfold KY mJ;simp only[this]
 have c:(fH t).map (fun k=>(cellAt t.cells k).map<|ren<|fH t)=(fH s).map (fun k=>(cellAt s.cells k).map<|ren<|fH s):=by
  conv=>lhs;rw[h.reach.1]
  rw[jx];refine Am fun k g=>?_;have d:=h.cells k<|h.reach.2 k g;show(cellAt t.cells<|ρ k).map (ren _)=_;rw[d.1,jx,<-h.reach.1];exact Am fun v b=>ren_map h<|d.2 v b
 unfold dM;rw[a,c,h.status,h.bS]
end
theorem NB{cells:List (List Val)}{i:Nat}(h:i<cells.length):cellAt cells (i:Int)=cells[i]:=by unfold cellAt;rw[xM h];rfl
theorem iso_sweep{s:LX.State}(h:PO s):X9 (fun x=>((fH s).idxOf x:Nat)) (fH s) s (dM s) where
 frames:=rfl
 status:=rfl
 bS:=rfl
 roots:=h.reach.2.1
 range:=h.reach.1.2
 range' x hx:=by
  have:=eb hx;simp only[dM,cH];omega
 inj x hx y hy e:=by
  have e':(fH s).idxOf x=(fH s).idxOf y:=by omega
  have h1:=hQ<|eb hx;have h2:=hQ<|eb hy;rw[<-h1,<-h2];simp only[e']
 cells x hx:=by
  have hlt:=eb hx;refine⟨?_,h.reach.2.2 x hx⟩;rw[NB (by simpa[dM]using hlt)];simp only[dM,rK];rw[hQ hlt];rfl
theorem NC{s:LX.State}(h:PO s):dM (dM s)=dM s:=(iso_sweep h).sweep
open Go Go.Proofs Go.LX
theorem map_eq_map{α β:Type}{f g:α->β}{k:α->α}:∀{l m:List α},l.map f=m.map g->(∀x∈l,∀y∈m,f x=g y->y=k x)->m=l.map k
 |[],[],_,_=>rfl
 |[],y::m,h,_=>by simp at h
 |x::l,[],h,_=>by simp at h
 |x::l,y::m,h,hk=>by
  rw[cj,cj,kb]at h;rw[cj,hk x zq3 y zq3 h.1,map_eq_map h.2 (fun a d b c=>hk a (bj _ d) b (bj _ c))]
theorem ren_eq{l m:List Int}(c:l.length=m.length){v w:Val}(j:v.kind=2->v.n∈l)(i:w.kind=2->w.n∈m)(h:ren l v=ren m w):w=xB (fun x=>m[l.idxOf x]?.getD 0) v:=by
  obtain⟨k,n⟩:=v;obtain⟨e,f⟩:=w;unfold ren at h;by_cases b:k=2
  · subst b;by_cases a:e=2
    · subst a;simp only[if_true,Val.mk.injEq,true_and]at h;have g:l.idxOf n=m.idxOf f:=by omega
      have d:=eb<|i Z;unfold xB;simp only[if_true];rw[g,bc d,eJ,hQ d]
    · simp only[if_true,if_neg a,Val.mk.injEq]at h;exact absurd h.1.symm a
  · by_cases a:e=2
    · subst a;simp only[if_true,if_neg b,Val.mk.injEq]at h;exact absurd h.1 b
    · simp only[if_neg b,if_neg a]at h;unfold xB;simp only[if_neg b];exact h.symm
theorem nodup_inj{l:List Int}(h:l.Nodup){i j:Nat}(a:i<l.length)(b:j<l.length)(e:l[i]=l[j]):i=j:=by
  rcases Nat.lt_trichotomy i j with hlt|rfl|hlt
  · exact absurd e<|ks.1 h i j a b hlt
  · rfl
  · exact absurd e.symm<|ks.1 h j i b a hlt
theorem UL{s t:LX.State}(m:PO s)(B:PO t)(h:dM s=dM t):X9 (fun x=>(fH t)[(fH s).idxOf x]?.getD 0) (fH s) s t:=by
  have d:(fH s).length=(fH t).length:=by
    have:=congrArg (fun u:LX.State=>u.cells.length) h;simpa[dM]using this
  have M:s.frames.map (KY<|fH s)=t.frames.map (KY<|fH t):=congrArg (fun u:LX.State=>u.frames) h;have L:(fH s).map (fun k=>(cellAt s.cells k).map<|ren<|fH s)=(fH t).map (fun k=>(cellAt t.cells k).map<|ren<|fH t):=congrArg (fun u:LX.State=>u.cells) h;have c:∀x∈fH s,∃i,∃(l:i<(fH s).length) (n:i<(fH t).length),(fH s).idxOf x=i/\(fH s)[i]=x/\(fH t)[(fH s).idxOf x]?.getD 0=(fH t)[i]:=by
    intro x b;have l:=eb b;refine⟨_,l,by omega,Z,hQ l,?_⟩;rw[bc V,eJ]
  refine⟨?_,?_,?_,m.reach.2.1,m.reach.1.2,?_,?_,?_⟩
  · refine map_eq_map M fun f E g G e=>?_;have O:f.regs.map (ren<|fH s)=g.regs.map (ren<|fH t):=congrArg (fun u:LX.Frame=>u.regs) e;have I:=map_eq_map (k:=xB fun x=>(fH t)[(fH s).idxOf x]?.getD 0) O fun v C w F e=>ren_eq d (JK m.reach.2.1 f E v C) (JK B.reach.2.1 g G w F) e;obtain⟨p,a,r,o⟩:=f;obtain⟨R,a',S,T⟩:=g;simp only[KY,LX.Frame.mk.injEq]at e;simp only at I;unfold mJ;simp only[LX.Frame.mk.injEq];exact⟨e.1.symm,e.2.1.symm,I,e.2.2.2.symm⟩
  · exact(congrArg (fun u:LX.State=>u.status) h).symm
  · exact(congrArg (fun u:LX.State=>u.bS) h).symm
  · intro x b;obtain⟨i,l,n,K,A,z⟩:=c x b;rw[z];exact B.reach.1.2 _<|cx _
  · intro x b y P e;obtain⟨i,l,n,K,A,z⟩:=c x b;obtain⟨j,g1,g2,X,N,Q⟩:=c y P;rw[z,Q]at e;have:i=j:=nodup_inj B.reach.1.1 n g2 e;subst this;rw[<-A,<-N]
  · intro x b;obtain⟨i,l,n,K,A,z⟩:=c x b;refine⟨?_,m.reach.2.2 x b⟩;rw[z];have q:(cellAt s.cells (fH s)[i]).map (ren<|fH s)=(cellAt t.cells (fH t)[i]).map (ren<|fH t):=by
      have:=congrArg (fun u:List (List Val)=>u[i]?) L;simp only[ef,bc l,bc n,da,eA]at this;exact this
    rw[A]at q;exact map_eq_map q fun v C w F e=>ren_eq d (m.reach.2.2 x b v C) (B.reach.2.2 _ (cx _) w F) e
section
variable{a:List bA}{ρ:Int->Int}{R:List Int}{s t:LX.State}
theorem X9.mk'(h:X9 ρ R s t){fr:List LX.Frame}(a:j6 (YtodkbibbgakkdaaGreatDoor.roots fr) R)(st wh:Int):X9 ρ R ⟨fr,s.cells,st,wh⟩ ⟨fr.map (mJ ρ),t.cells,st,wh⟩:=
 ⟨rfl,rfl,rfl,a,h.range,h.range',h.inj,h.cells⟩
theorem aaz{cells:List (List Val)}{k j:Int}{c:List Val}(b:0<=k/\k<cells.length)(a:0<=j/\j<cells.length):cellAt (cells.set k.toNat c) j=if j=k then c else cellAt cells j:=by
  obtain⟨n,rfl⟩:=bs b.1;obtain⟨m,rfl⟩:=bs a.1;unfold cellAt;rw[bh,jP,jP,List.getElem?_set];by_cases e:n=m
  · subst e;rw[if_pos rfl,if_pos V,if_pos rfl];rfl
  · rw[if_neg e,if_neg V]
theorem UM{vs:List Val}{i:Nat}{v:Val}(h:j6 vs R)(c:v.kind=2->v.n∈R):j6 (vs.set i v) R:=fun w a b=>by
  rcases ki a with a|rfl
  · exact h w a b
  · exact c b
theorem X9.put(h:X9 ρ R s t){fr:List LX.Frame}(d:j6 (YtodkbibbgakkdaaGreatDoor.roots fr) R){k:Int}(c:k∈R){i:Nat}{v:Val}(f:v.kind=2->v.n∈R)(st wh:Int):
    X9 ρ R ⟨fr,s.cells.set k.toNat ((cellAt s.cells k).set i v),st,wh⟩ ⟨fr.map (mJ ρ),t.cells.set (ρ k).toNat ((cellAt t.cells (ρ k)).set i (xB ρ v)),st,wh⟩:=by
  refine⟨Z,Z,Z,d,fun x a=>by simpa using h.range x a,fun x a=>by simpa using h.range' x a,h.inj,fun x a=>?_⟩;simp only;rw[aaz (h.range' k c) (h.range' x a),aaz (h.range k c) (h.range x a)];have b:=h.cells x a;by_cases e:x=k
  · subst e;rw[if_pos rfl,if_pos rfl,b.1,gE];exact⟨Z,UM b.2 f⟩
  · rw[if_neg e,if_neg (fun q=>e (h.inj x a k c q))];exact b
theorem renFr_congr{a:Int->Int}{f:LX.Frame}(d:j6 f.regs R)(c:∀x∈R,a x=ρ x):mJ a f=mJ ρ f:=by
  unfold mJ;have:f.regs.map (xB a)=f.regs.map (xB ρ):=Am (fun v e=>by
    unfold xB;by_cases b:v.kind=2
    · rw[if_pos b,if_pos b,c _ (d v e b)]
    · rw[if_neg b,if_neg b])
  rw[this]
theorem aaA{a:Int->Int}{vs:List Val}(d:j6 vs R)(c:∀x∈R,a x=ρ x):vs.map (xB a)=vs.map (xB ρ):=Am (fun v e=>by
    unfold xB;by_cases b:v.kind=2
    · rw[if_pos b,if_pos b,c _ (d v e b)]
    · rw[if_neg b,if_neg b])
theorem aaB{cells:List (List Val)}{z:List Val}{k:Int}(a:0<=k/\k<cells.length):cellAt (cells++[z]) k=cellAt cells k:=by
 obtain⟨n,rfl⟩:=bs a.1;rw[NB (by simp;omega),NB V,List.getElem_append_left V]
theorem XR{cells:List (List Val)}{z:List Val}:cellAt (cells++[z]) (cells.length:Int)=z:=by
 rw[NB zq3];simp
theorem CZ(p:List LX.Frame)(f:LX.Frame):roots (p++[f])=roots p++f.regs:=by unfold roots;simp
theorem j6.app{u v:List Val}:j6 (u++v) R↔j6 u R/\j6 v R:=⟨fun h=>⟨fun w a=>h w (List.mem_append_left _ a),fun w a=>h w (List.mem_append_right _ a)⟩,fun h w a=>(cE.1 a).elim (h.1 w) (h.2 w)⟩
theorem X9.new{p:List LX.Frame}{f:LX.Frame}{cells cs:List (List Val)}{st wh:Int}{q:List LX.Frame}{u:LX.Frame}(h:X9 ρ R ⟨p++[f],cells,st,wh⟩ ⟨q++[u],cs,st,wh⟩)(i:Nat)(z:Nat):
    dM ⟨q++[{u with regs:=u.regs.set i ⟨2,cs.length⟩}],cs++[cd z ⟨0,0⟩],st,wh⟩=dM ⟨p++[{f with regs:=f.regs.set i ⟨2,cells.length⟩}],cells++[cd z ⟨0,0⟩],st,wh⟩:=by
  have n:=h.frames;simp only[cI,cj,en]at n;obtain⟨B,v⟩:=rL n Z;simp only[kb,and_true]at v;subst B v;have s:=h.roots;simp only[CZ,j6.app]at s;have c:=h.range;have b:=h.range';simp only at c b;have r:∀x∈R,x≠cells.length:=fun x a=>by have:=c x a;omega
  let k:Int->Int:=fun x=>if x=cells.length then cs.length else ρ x
  have d:∀x∈R,k x=ρ x:=fun x a=>if_neg<|r x a;have o:k cells.length=cs.length:=if_pos Z;have I:X9 k ((cells.length:Int)::R) ⟨p++[{f with regs:=f.regs.set i ⟨2,cells.length⟩}],cells++[cd z ⟨0,0⟩],st,wh⟩ ⟨p.map (mJ ρ)++[{mJ ρ f with regs:=(mJ ρ f).regs.set i ⟨2,cs.length⟩}],cs++[cd z ⟨0,0⟩],st,wh⟩:=by
    refine⟨?_,Z,Z,?_,?_,?_,?_,?_⟩
    · simp only[cI,cj,en];congr 1
      · exact Am fun g A=>(renFr_congr (JK s.1 g A) d).symm
      · unfold mJ;simp only[gE];rw[aaA s.2 d];congr 2;simp only[xB,if_true,o]
    · simp only[CZ,j6.app];refine⟨fun w j l=>bj _<|s.1 w j l,UM (fun w j l=>bj _<|s.2 w j l) (fun _=>by simp)⟩
    · intro x a;simp only[bk,bw,eE];rcases bn.1 a with rfl|a
      · omega
      · have:=c x a;omega
    · intro x a;simp only[bk,bw,eE];rcases bn.1 a with rfl|a
      · rw[o];omega
      · rw[d x a];have:=b x a;omega
    · intro x a y m e;rcases bn.1 a with rfl|a<;>rcases bn.1 m with rfl|m
      · rfl
      · rw[o,d y m]at e;have:=b y m;omega
      · rw[o,d x a]at e;have:=b x a;omega
      · rw[d x a,d y m]at e;exact h.inj x a y m e
    · intro x a;simp only;rcases bn.1 a with rfl|a
      · rw[o,XR,XR];refine⟨by simp[xB],fun w j l=>?_⟩;have:=fm j;subst this;simp at l
      · rw[d x a,aaB (c x a),aaB (b x a)];have t:=h.cells x a;rw[aaA t.2 d];exact⟨t.1,fun w j l=>bj _<|t.2 w j l⟩
  exact I.sweep
end
def Sim(x y:Option (LX.State×Option Int×Bool)):Prop:=match x,y with
 |none,aw=>True
 |some (s,o,p),aj (t,o',p')=>o=o'/\p=p'/\dM s=dM t
 |_,_=>False
section
variable{a:List bA}{ρ:Int->Int}{R:List Int}{pre:List LX.Frame}{f:LX.Frame}{cells cs:List (List Val)}{x:bA}{c:Ins}
theorem regAt_map{r:List Val}{n:Int}(a:(r.length:Int)=n){i:Int}(h:GK n i):jO (r.map (xB ρ)) i=xB ρ (jO r i):=by
 obtain⟨k,rfl⟩:=bs h.1;have:=h.2;unfold jO;rw[jP,jP,ef,bc V];rfl
theorem opP_ren{k:Int}{b d:Val}(p:∀x∈R,∀y∈R,ρ x=ρ y->x=y)(s:b.kind=2->b.n∈R)(r:d.kind=2->d.n∈R):opP k (xB ρ b) (xB ρ d)=opP k b d/\∀v,opP k b d=aj v->v.kind=1:=by
  obtain⟨k1,c⟩:=b;obtain⟨k2,a⟩:=d;have o:∀v,opP k ⟨k1,c⟩ ⟨k2,a⟩=aj v->v.kind=1:=by
    intro v h;unfold opP at h;split at h
    · cases h;rfl
    split at h
    · cases h
    split at h
    · cases h;rfl
    simp only at h;generalize (if k=1 then c+a else if k=2 then c-a else c*a)=z at h;split at h
    · cases h;rfl
    · cases h
  refine⟨?_,o⟩;unfold opP;by_cases l:k=5
  · rw[if_pos l,if_pos l];have:(xB ρ ⟨k1,c⟩=xB ρ ⟨k2,a⟩)↔((⟨k1,c⟩:Val)=⟨k2,a⟩):=by
      unfold xB;simp only;by_cases g:k1=2
      · by_cases f:k2=2
        · rw[if_pos g,if_pos f];simp only[Val.mk.injEq];constructor
          · rintro⟨j,i⟩;exact⟨j,p _ (s g) _ (r f) i⟩
          · rintro⟨j,i⟩;exact⟨j,by rw[i]⟩
        · rw[if_pos g,if_neg f];simp only[Val.mk.injEq];constructor<;>(rintro⟨j,i⟩;omega)
      · by_cases f:k2=2
        · rw[if_neg g,if_pos f];simp only[Val.mk.injEq];constructor<;>(rintro⟨j,i⟩;omega)
        · rw[if_neg g,if_neg f]
    by_cases e:(⟨k1,c⟩:Val)=⟨k2,a⟩
    · rw[if_pos e,if_pos (this.2 e)]
    · rw[if_neg e,if_neg (fun q=>e (this.1 q))]
  · rw[if_neg l,if_neg l,CY,CY];by_cases m:k1≠1\/k2≠1
    · rw[if_pos m,if_pos m]
    · rw[if_neg m,if_neg m];have g:xB ρ ⟨k1,c⟩=⟨k1,c⟩:=Ku ρ (by simp only;omega);have f:xB ρ ⟨k2,a⟩=⟨k2,a⟩:=Ku ρ (by simp only;omega);rw[g,f]
theorem put_ren(i:Nat)(v:Val)(g:LX.Frame):({mJ ρ g with regs:=(mJ ρ g).regs.set i (xB ρ v)}:LX.Frame)=mJ ρ {g with regs:=g.regs.set i v}:=by unfold mJ;simp only[gE]
end
open Go Go.Proofs Go.LX
section
variable{a:List bA}{ρ:Int->Int}{R:List Int}{pre:List LX.Frame}{f:LX.Frame}{cells cs:List (List Val)}{x:bA}{c:Ins}
theorem Cm{p:LX.State}{q:LX.State}{o:Option Int}{b:Bool}(h:X9 ρ R p q):Sim (aj (p,o,b)) (aj (q,o,b)):=⟨rfl,rfl,h.sweep.symm⟩
theorem newP_top(p:List LX.Frame)(g:LX.Frame)(d:List (List Val))(st wh:Int):newP ⟨p++[g],d,st,wh⟩ c=if d.length=24 then aw else aj ⟨p++[{g with regs:=g.regs.set c.a.toNat ⟨2,d.length⟩}],d++[cd c.b.toNat ⟨0,0⟩],st,wh⟩:=by
 unfold newP;simp only[fk,ey,ec,fx,da,pC]
theorem step_sim(ha:mH a)(h:xA a pre f cells x c)(h2:xA a (pre.map (mJ ρ)) (mJ ρ f) cs x c)(hI:X9 ρ R ⟨pre++[f],cells,0,0⟩ ⟨(pre++[f]).map (mJ ρ),cs,0,0⟩):
    Sim (uw a pre f cells 0 0 x c) (uw a (pre.map (mJ ρ)) (mJ ρ f) cs 0 0 x c):=by
  have z:=hI.roots;simp only[CZ,j6.app]at z;have o:∀{i:Int},GK x.regs i->jO (mJ ρ f).regs i=xB ρ (jO f.regs i):=fun T=>regAt_map h.fr.regs T;have l:∀{i:Int},GK x.regs i->(jO f.regs i).kind=2->(jO f.regs i).n∈R:=fun T j=>z.2 _ (JM h.fr.regs T).2 j
  --a frame on B
  have B:∀(g:LX.Frame) (st wh:Int),j6 g.regs R->X9 ρ R ⟨pre++[g],cells,st,wh⟩ ⟨pre.map (mJ ρ)++[mJ ρ g],cs,st,wh⟩:=by
    intro g st wh hg;have:=hI.mk' (fr:=pre++[g]) (by simp only[CZ,j6.app];exact⟨z.1,hg⟩) st wh;simpa using this
  have s:∀(i:Nat) (v:Val),(v.kind=2->v.n∈R)->X9 ρ R ⟨pre++[{K5 f x with regs:=f.regs.set i v}],cells,0,0⟩ ⟨pre.map (mJ ρ)++[{K5 (mJ ρ f) x with regs:=(mJ ρ f).regs.set i (xB ρ v)}],cs,0,0⟩:=by
    intro i v E;have:=B {K5 f x with regs:=f.regs.set i v} 0 0<|UM z.2 E;have e:({K5 (mJ ρ f) x with regs:=(mJ ρ f).regs.set i (xB ρ v)}:LX.Frame)=mJ ρ {K5 f x with regs:=f.regs.set i v}:=put_ren i v<|K5 f x;rw[e];exact this
  have O:X9 ρ R ⟨pre++[K5 f x],cells,0,0⟩ ⟨pre.map (mJ ρ)++[K5 (mJ ρ f) x],cs,0,0⟩:=B (K5 f x) 0 0 z.2;have A:X9 ρ R ⟨pre++[{K5 f x with at_:=c.b}],cells,0,0⟩ ⟨pre.map (mJ ρ)++[{K5 (mJ ρ f) x with at_:=c.b}],cs,0,0⟩:=B {K5 f x with at_:=c.b} 0 0 z.2;unfold uw;rcases h.good with g|g|g|g|g|g|g|g|g|g
  · obtain⟨d,t,u⟩:=g;simp only[d,bm,if_true,if_false];exact Cm (by have:=s c.a.toNat ⟨1,c.b⟩ zq3;simpa[xB]using this)
  · obtain⟨d,t,u⟩:=g;simp only[d,bm,if_true,if_false];rw[o u];exact Cm<|s _ _<|l u
  · obtain⟨d,t,u,N,n,hn,a4⟩:=g;simp only[d,hn,bm,if_true,if_false,nw];rw[o u,o N];obtain⟨X,e2⟩:=opP_ren (k:=n) hI.inj (l u)<|l N;rw[X];cases e:opP n (jO f.regs c.b) (jO f.regs c.c)with
    |none=>trivial
    |some v=>
      have j:=e2 v e;have:=s c.a.toNat v V;rw[Ku ρ V]at this;exact Cm this
  · obtain⟨d,t,u,N⟩:=g;rcases d with d|d
    · simp only[d,bm,if_true,if_false];rw[o u,CY];by_cases j:(jO f.regs c.b).kind=2
      · have hin:=l u j;have y:=hI.cells _ hin;simp only at y;rw[UK ρ j];simp only[j];rw[y.1,cH];by_cases M:((cellAt cells (jO f.regs c.b).n).length:Int)<=c.c
        · rw[if_pos (.inr M),if_pos (.inr M)];trivial
        · rw[if_neg (by simp;omega),if_neg (by simp;omega)];have P:GK ((cellAt cells (jO f.regs c.b).n).length:Int) c.c:=⟨N.1,by omega⟩;rw[regAt_map rfl P];exact Cm<|s _ _<|y.2 _ (JM Z P).2
      · rw[if_pos (.inl j),if_pos (.inl j)];trivial
    · simp only[d,bm,if_true,if_false];rw[o t,o u,CY];by_cases j:(jO f.regs c.a).kind=2
      · have hin:=l t j;have y:=hI.cells _ hin;simp only at y;rw[UK ρ j];simp only[j];have w:(cellAt cs<|ρ (jO f.regs c.a).n).length=(cellAt cells (jO f.regs c.a).n).length:=by rw[y.1,cH]
        rw[w];by_cases M:((cellAt cells (jO f.regs c.a).n).length:Int)<=c.c
        · rw[if_pos (.inr M),if_pos (.inr M)];trivial
        · rw[if_neg (by simp;omega),if_neg (by simp;omega)];have:=hI.put (fr:=pre++[K5 f x]) (by simp only[CZ,j6.app];exact z) hin (i:=c.c.toNat) (l u) 0 0;simp only[cI,cj,en]at this;exact Cm this
      · rw[if_pos (.inl j),if_pos (.inl j)];trivial
  · obtain⟨d,t,u⟩:=g;simp only[d,bm,if_true,if_false];have a1:=xA.sw ha h (st:=0) (wh:=0) h.K5;have a3:=xA.sw ha h2 (st:=0) (wh:=0) h2.K5;have hE:=O.sweep;have w:(fH ⟨pre.map (mJ ρ)++[K5 (mJ ρ f) x],cs,0,0⟩).length=(fH ⟨pre++[K5 f x],cells,0,0⟩).length:=by rw[O.reach.1,cH]
    --what is left of each
    have L:∀(p:List LX.Frame) (g:LX.Frame) (G:List (List Val)),PO ⟨p++[g],G,0,0⟩->∃p' g' I,(if G.length=24 then dM ⟨p++[g],G,0,0⟩else(⟨p++[g],G,0,0⟩:LX.State))=⟨p'++[g'],I,0,0⟩/\PO ⟨p'++[g'],I,0,0⟩/\dM ⟨p'++[g'],I,0,0⟩=dM ⟨p++[g],G,0,0⟩/\(I.length=24↔(fH ⟨p++[g],G,0,0⟩).length=24):=by
      intro p g G m;have a2:=m.reach.1.len;by_cases r:G.length=24
      · rw[if_pos r];refine⟨_,_,_,Ms g,?_,?_,?_⟩
        · rw[<-Ms];refine⟨⟨by simpa[dM]using m.small.frames,?_,(sweep_len m).2,fun c N=>((PR m).2 c N).1.2⟩,PR m,?_⟩
          · intro k j;simp only[dM,dJ]at j;obtain⟨S,F,rfl⟩:=j;simpa[KY]using m.small.regs S F
          · intro k j v E;simp only[dM,dJ]at j;obtain⟨S,F,rfl⟩:=j;simp only[KY,dJ]at E;obtain⟨v0,Q,rfl⟩:=E;have:=ren_ok (m.vals S F v0 Q)<|JK m.reach.2.1 S F v0 Q;simpa[dM]using this
        · rw[<-Ms,NC m]
        · simp[dM]
      · rw[if_neg r];refine⟨p,g,G,Z,m,Z,?_⟩;simp only at a2;have:=m.cells.1;simp only at this;omega
    obtain⟨p1,g1,d1,X,w1,s1,l1⟩:=L pre (K5 f x) cells a1;obtain⟨p2,g2,d2,e2,w2,s2,l2⟩:=L (pre.map<|mJ ρ) (K5 (mJ ρ f) x) cs a3;rw[X,e2,newP_top,newP_top];by_cases r:d1.length=24
    · rw[if_pos r,if_pos (by rw[l2,w,<-l1];exact r)];trivial
    · rw[if_neg r,if_neg (by rw[l2,w,<-l1];exact r)];have J:=UL w1 w2 (by rw[s1,s2,hE]);exact⟨Z,Z,(J.new c.a.toNat c.b.toNat).symm⟩
  · obtain⟨d,t,⟨p1,hp,M⟩,C⟩:=g;simp only[d,bm,if_true,if_false,cH];by_cases K:pre.length+1=10
    · rw[if_pos K,if_pos K];trivial
    · rw[if_neg K,if_neg K];have hm:c.args.map (jO (mJ ρ f).regs)=(c.args.map<|jO f.regs).map (xB ρ):=by
        rw[jx];exact Am fun k j=>o<|C k j
      have hz:∀n:Nat,(cd n (⟨0,0⟩:Val)).map (xB ρ)=cd n ⟨0,0⟩:=by intro n;rw[List.map_replicate];rfl
      have:=hI.mk' (fr:=pre++[K5 f x]++[⟨c.b,0,c.args.map (jO f.regs)++cd (((idx a c.b).map (·.regs)).getD 0-c.args.length).toNat ⟨0,0⟩,c.a⟩]) (by
        simp only[CZ,j6.app];refine⟨z,fun v E j=>?_,fun v E j=>?_⟩
        · obtain⟨k,a0,rfl⟩:=dJ.1 E;exact l (C k a0) j
        · have:=fm E;subst this;simp at j) 0 0
      simp only[cI,cj,en]at this;rw[hm];have e:mJ ρ ⟨c.b,0,c.args.map (jO f.regs)++cd (((idx a c.b).map (·.regs)).getD 0-c.args.length).toNat ⟨0,0⟩,c.a⟩=⟨c.b,0,(c.args.map<|jO f.regs).map (xB ρ)++cd (((idx a c.b).map (·.regs)).getD 0-c.args.length).toNat ⟨0,0⟩,c.a⟩:=by
        unfold mJ;simp only[cI,hz]
      rw[e]at this;exact Cm this
  · obtain⟨d,t⟩:=g;rcases d with d|d|d
    · simp only[d,bm,if_true,if_false];rcases gd pre with hp|⟨q,g,hp⟩
      · subst hp;have:=hI.mk' (fr:=[]) (fun v E=>by cases E) 1 0;exact Cm this
      · rw[gf]at hp;subst hp;simp only[cI,cj,en,ey,ec,fx,fk];rw[o t];simp only[CZ,j6.app]at z;have:=hI.mk' (fr:=q++[{g with regs:=g.regs.set f.jD.toNat (jO f.regs c.a)}]) (by
          simp only[CZ,j6.app];exact⟨z.1.1,UM z.1.2 (l t)⟩) 0 0
        simp only[cI,cj,en]at this;rw[<-put_ren]at this;exact Cm this
    · simp only[d,bm,if_true,if_false];rw[o t,CY];by_cases j:(jO f.regs c.a).kind=1
      · rw[if_pos j,if_pos j,Ku ρ V];exact Cm O
      · rw[if_neg j,if_neg j];trivial
    · simp only[d,bm,if_true,if_false];rw[o t,CY];by_cases j:(jO f.regs c.a).kind=1
      · rw[if_pos j,if_pos j,Ku ρ V];exact Cm<|B (K5 f x) 3 _ z.2
      · rw[if_neg j,if_neg j];trivial
  · simp only[g,bm,if_true,if_false];exact Cm O
  · obtain⟨d,u⟩:=g;simp only[d,bm,if_true,if_false];exact Cm A
  · obtain⟨d,t,u⟩:=g;simp only[d,bm,if_true,if_false];rw[o t,CY];by_cases j:(jO f.regs c.a).kind=2
    · rw[if_neg (by simp[j]),if_neg (by simp[j])];exact Cm O
    · rw[Ku ρ j];by_cases hz:(jO f.regs c.a).n=0
      · rw[if_pos ⟨j,hz⟩,if_pos ⟨j,hz⟩];exact Cm A
      · rw[if_neg (fun e=>hz e.2),if_neg (fun e=>hz e.2)];exact Cm O
end
open Go Go.Proofs Go.LX
theorem fail_sweep{s t:LX.State}(h:dM s=dM t)(k:Int):dM {s with status:=k}=dM {t with status:=k}:=congrArg (fun u:LX.State=>{u with status:=k}) h
theorem wake_sweep{s t:LX.State}(h:dM s=dM t)(k w:Int):dM ⟨s.frames,s.cells,k,w⟩=dM ⟨t.frames,t.cells,k,w⟩:=congrArg (fun u:LX.State=>(⟨u.frames,u.cells,k,w⟩:LX.State)) h
theorem stepP_sim{a:List bA}(d:mH a){s t:LX.State}(p:wB a s)(r:wB a t)(u:s.status=0)(z:dM s=dM t):Sim (Ak a s) (Ak a t)/\Mw a s=Mw a t:=by
 have I:=UL (p.sw d) (r.sw d) z;generalize (fun x=>(fH t)[(fH s).idxOf x]?.getD 0)=ρ at I;have j:t.status=0:=by rw[I.status];exact u
 obtain⟨pre,f,x,c,B,h,l,k⟩:=Ip d p u;obtain⟨g,A,x',q,C,T2,m,n⟩:=Ip d r j;have b:=I.frames;have v:s.frames=pre++[f]:=by rw[B]
 have E:t.frames=g++[A]:=by rw[C]
 rw[v,E]at b;simp only[cI,cj,en]at b;obtain⟨hp,o⟩:=rL b Z;simp only[kb,and_true]at o;subst hp o;have y:x'=x:=by
  have i:=h.fr.proc;have e:idx a f.proc=aj x':=T2.fr.proc;rw[i]at e;exact(osi e).symm
 subst y;have w:q=c:=by
  have i:=h.ins;have e:idx x'.code f.at_=aj q:=T2.ins;rw[i]at e;exact(osi e).symm
 subst w;refine⟨?_,by rw[k,n]⟩;rw[l,m];refine step_sim d h T2 (R:=fH s) ?_;exact I.mk' (fr:=pre++[f]) (by have:=I.roots;rw[v]at this;exact this) 0 0
def iter(a:List bA):Nat->LX.State->LX.State×List Int
 |0,s=>(s,[])
 |n+1,s=>if s.status≠0 then(s,[])else match Ak a s with
  |none=>({s with status:=2},[])
  |some (t,o,_)=>((iter a n t).1,o.toList++(iter a n t).2)
theorem run_iter{a:List bA}:∀(m:Nat) (b:List Int) (n:Nat) (s:LX.State),∃k,k<=m/\xJ a m b n s=((iter a k s).1,b++(iter a k s).2,n+k)/\(∀j,j<k->(iter a j s).1.status=0)/\(1<=m->s.status=0->b=[]->1<=k)
  |0,b,n,s=>⟨0,bq _,by simp[xJ,iter],fun j c=>absurd c (eK _),fun h=>absurd h V⟩
  |m+1,b,n,s=>by
    unfold xJ;by_cases g:s.status≠0
    · rw[if_pos g];exact⟨0,by omega,by simp[iter],fun j c=>absurd c<|eK _,fun _ h=>absurd h g⟩
    · rw[if_neg g];by_cases f:b.length=40/\Mw a s=9
      · rw[if_pos f];exact⟨0,by omega,by simp[iter],fun j c=>absurd c (eK _),fun _ _ h=>by subst h;simp at f⟩
      · rw[if_neg f];have d:s.status=0:=ei.1 g;cases e:Ak a s with
        |none=>
          refine⟨1,by omega,?_,fun j c=>?_,fun _ _ _=>bq _⟩
          · unfold iter;rw[if_neg g,e];simp
          · obtain rfl:j=0:=by omega
            exact d
        |some q=>
          obtain⟨t,o,p⟩:=q;have i:∀q,iter a (q+1) s=((iter a q t).1,o.toList++(iter a q t).2):=fun q=>by
            conv=>lhs;unfold iter
            rw[if_neg g,e]
          simp only;cases p with
          |true=>
            refine⟨1,by omega,?_,fun j c=>?_,fun _ _ _=>bq _⟩
            · rw[i];simp[iter]
            · obtain rfl:j=0:=by omega
              exact d
          |false=>
            obtain⟨k,k1,k2,l,-⟩:=run_iter m (b++o.toList) (n+1) t;refine⟨k+1,by omega,?_,fun j c=>?_,fun _ _ _=>by omega⟩
            · simp only[cM,if_false];rw[k2,i];simp only[ck];congr 2;omega
            · cases j with
              |zero=>exact d
              |succ j=>rw[i];exact l j V
def aaD(l:List Val):List Int:=l.flatMap fun v=>[v.kind,v.n]
def rowP(l:List Val):List Int:=(l.length:Int)::aaD l
def frP(f:LX.Frame):List Int:=f.proc::f.at_::f.jD::rowP f.regs
def xC(s:LX.State):List Int:=s.status::s.bS::(s.frames.length:Int)::(s.frames.flatMap frP++(s.cells.length:Int)::s.cells.flatMap rowP)
def Rdr(α:Type):=List Int->Option (α×List Int)
def yI{α:Type}(x:α):Rdr α:=fun l=>aj (x,l)
def iR{α β:Type}(R:Rdr α)(f:α->Rdr β):Rdr β:=fun l=>(R l).bind fun q=>f q.1 q.2
def H9:Rdr Int:=fun l=>match l with
 |[]=>aw
 |x::r=>aj (x,r)
def uy(m:Int):Rdr Nat:=fun l=>match l with
 |[]=>aw
 |x::r=>if 0<=x/\x<=m then aj (x.toNat,r)else aw
def kC{α:Type}(R:Rdr α):Nat->Rdr (List α)
 |0=>yI []
 |n+1=>iR R fun x=>iR (kC R n) fun l=>yI (x::l)
def Yn:Rdr Val:=iR H9 fun k=>iR H9 fun n=>yI ⟨k,n⟩
def Eo(m:Int):Rdr (List Val):=iR (uy m) fun n=>kC Yn n
def SV:Rdr LX.Frame:=iR H9 fun p=>iR H9 fun a=>iR H9 fun t=>iR (Eo 40) fun r=>yI ⟨p,a,r,t⟩
def SX:Rdr LX.State:=iR H9 fun s=>iR H9 fun w=>iR (uy 10) fun n=>iR (kC SV n) fun f=>iR (uy 24) fun k=>iR (kC (Eo 4) k) fun c=>yI ⟨f,c,s,w⟩
theorem ND{α:Type}{R:Rdr α}{g:α->List Int}:∀(l:List α) (t:List Int),(∀x∈l,∀t,R (g x++t)=aj (x,t))->kC R l.length (l.flatMap g++t)=aj (l,t)
 |[],t,_=>rfl
 |x::l,t,h=>by
  show(R<|g x++l.flatMap g++t).bind _=_;rw[ck,h x zq3,cJ];show(kC R l.length<|l.flatMap g++t).bind _=_;rw[ND l t (fun y a=>h y (bj _ a)),cJ];rfl
theorem rRow_row{m:Nat}(l:List Val)(h:l.length<=m)(t:List Int):Eo m (rowP l++t)=aj (l,t):=by
 unfold Eo iR rowP uy;simp only[eo];rw[if_pos V,cJ,bh];exact ND l t fun v _ t=>rfl
theorem rFr_fr(f:LX.Frame)(h:f.regs.length<=40)(t:List Int):SV (frP f++t)=aj (f,t):=by
 show((Eo (40:Nat)<|rowP f.regs++t).bind fun q=>yI (⟨f.proc,f.at_,q.1,f.jD⟩:LX.Frame) q.2)=_;rw[rRow_row f.regs h];rfl
theorem aaE{s:LX.State}(h:Small s)(t:List Int):SX (xC s++t)=aj (s,t):=by
 have k:=h.frames;have j:=h.cells;show((uy 10 ((s.frames.length:Int)::((s.frames.flatMap frP++(s.cells.length:Int)::s.cells.flatMap rowP)++t))).bind fun q=>(kC SV q.1 q.2).bind fun a=>(uy 24 a.2).bind fun b=>(kC (Eo 4) b.1 b.2).bind fun d=>yI (⟨a.1,d.1,s.status,s.bS⟩:LX.State) d.2)=_;rw[show uy 10 ((s.frames.length:Int)::((s.frames.flatMap frP++(s.cells.length:Int)::s.cells.flatMap rowP)++t))=aj (s.frames.length,(s.frames.flatMap frP++(s.cells.length:Int)::s.cells.flatMap rowP)++t) by
  show(if _ then _ else _)=_;rw[if_pos V,bh],cJ]
 simp only;rw[ck,ND s.frames _ (fun f e t=>rFr_fr f (h.regs f e) t),cJ];simp only[eo];rw[show uy 24 ((s.cells.length:Int)::(s.cells.flatMap rowP++t))=aj (s.cells.length,s.cells.flatMap rowP++t) by
  show(if _ then _ else _)=_;rw[if_pos V,bh],cJ]
 simp only;rw[ND (R:=Eo 4) (g:=rowP) s.cells _ (fun c i t=>rRow_row (m:=4) c (h.fields c i) t),cJ];rfl
theorem pack_inj{s t:LX.State}(c:Small s)(b:Small t)(h:xC s=xC t):s=t:=by
 have a:=aaE c [];rw[h,aaE b []]at a;cases a;rfl
theorem Xk(l:List Val):(aaD l).length=2*l.length:=by
 induction l with
 |nil=>rfl
 |cons v l ih=>show([v.kind,v.n]++aaD l).length=_;simp[ih];omega
theorem rows_len(m:Nat):∀l:List (List Val),(∀c∈l,c.length<=m)->(l.flatMap rowP).length<=(2*m+1)*l.length
 |[],_=>by simp
 |c::l,h=>by
  have e:=h c zq3;have b:=rows_len m l fun d a=>h d<|bj _ a;rw[gj,bk];unfold rowP;rw[bw,Xk,bw,Nat.mul_succ];unfold rowP at b;omega
theorem frs_len:∀l:List LX.Frame,(∀f∈l,f.regs.length<=40)->(l.flatMap frP).length<=84*l.length
 |[],_=>by simp
 |f::l,h=>by
  have c:=h f zq3;have b:=frs_len l fun d a=>h d<|bj _ a;rw[gj,bk];unfold frP rowP;simp only[bw,Xk];unfold frP rowP at b;omega
theorem aaF{s:LX.State}(h:Small s):(xC s).length<=1060:=by
 have c:=rows_len 4 s.cells h.fields;have a:=frs_len s.frames h.regs;have d:=h.frames;have b:=h.cells;unfold xC;simp only[bw,bk];omega
def wake(s:LX.State):LX.State:=if s.status=3 then⟨s.frames,s.cells,0,0⟩else s
def stepW(a:List bA)(s:LX.State):Option (LX.State×List Int):=
 if(wake s).status≠0 then aw else match Ak a (wake s)with
  |none=>aj ({wake s with status:=2},[])
  |some (t,o,_)=>aj (t,o.toList)
def uQ(a:List bA):Nat->LX.State->LX.State×List Int
 |0,s=>(s,[])
 |n+1,s=>match stepW a s with
  |none=>(s,[])
  |some (t,o)=>((uQ a n t).1,o++(uQ a n t).2)
theorem JN{a:List bA}{s:LX.State}(h:(wake s).status≠0):∀n,uQ a n s=(s,[])
 |0=>rfl
 |n+1=>by unfold uQ stepW;rw[if_pos h]
theorem NF{a:List bA}{s:LX.State}(h:stepW a s=aw):∀n,uQ a n s=(s,[])
 |0=>rfl
 |n+1=>by unfold uQ;rw[h]
theorem uz{a:List bA}{s t:LX.State}{o:List Int}(h:stepW a s=aj (t,o))(n:Nat):uQ a (n+1) s=((uQ a n t).1,o++(uQ a n t).2):=by
 conv=>lhs;unfold uQ
 rw[h]
theorem iterW_add{a:List bA}:∀(j k:Nat) (s:LX.State),uQ a (j+k) s=((uQ a k (uQ a j s).1).1,(uQ a j s).2++(uQ a k (uQ a j s).1).2)
 |0,k,s=>by rw[Nat.zero_add];rfl
 |j+1,k,s=>by
  rw[show j+1+k=(j+k)+1 by omega];cases e:stepW a s with
  |none=>rw[NF e,NF e,NF e];rfl
  |some q=>
   obtain⟨t,o⟩:=q;rw[uz e,uz e,iterW_add j k t];simp only[ck]
theorem aaG{s:LX.State}(h:s.status=0):wake s=s:=by unfold wake;rw[if_neg V]
theorem wake_wake(s:LX.State):wake (wake s)=wake s:=by
  unfold wake;by_cases h:s.status=3
  · rw[if_pos h,if_neg zq3]
  · rw[if_neg h,if_neg h]
theorem stepW_wake(a:List bA)(s:LX.State):stepW a (wake s)=stepW a s:=by unfold stepW;rw[wake_wake]
theorem iterW_wake{a:List bA}{s:LX.State}{n:Nat}(h:1<=n)(b:(wake s).status=0):uQ a n (wake s)=uQ a n s:=by
 obtain⟨m,rfl⟩:∃m,n=m+1:=⟨n-1,by omega⟩;have e:=stepW_wake a s;cases e2:stepW a s with
 |none=>
  exfalso;unfold stepW at e2;rw[if_neg V]at e2;cases e3:Ak a (wake s)with
  |none=>rw[e3]at e2;cases e2
  |some q=>rw[e3]at e2;cases e2
 |some q=>
  obtain⟨t,o⟩:=q;rw[uz e2,uz (e.trans e2)]
theorem iter_W{a:List bA}:∀(k:Nat) (s:LX.State),(∀j,j<k->(iter a j s).1.status=0)->iter a k s=uQ a k s
 |0,s,_=>rfl
 |k+1,s,h=>by
  have d:s.status=0:=h 0 V;cases e:Ak a s with
  |none=>
   have b:iter a (k+1) s=({s with status:=2},[]):=by unfold iter;rw[if_neg V,e]
   have c:stepW a s=aj ({s with status:=2},[]):=by unfold stepW;rw[aaG d,if_neg V,e]
   rw[b,uz c,JN (by unfold wake;simp)];rfl
  |some q=>
   obtain⟨t,o,p⟩:=q;have b:∀q,iter a (q+1) s=((iter a q t).1,o.toList++(iter a q t).2):=fun q=>by
    conv=>lhs;unfold iter
    rw[if_neg V,e]
   have c:stepW a s=aj (t,o.toList):=by unfold stepW;rw[aaG d,if_neg V,e]
   rw[b,uz c,iter_W k t (fun j f=>by have:=h (j+1) V;rw[b]at this;exact this)]
theorem app_loop{α ρ:Type}{body:Int->List Int->(List Int->Option ρ)->Option ρ}{K:List Int->Option ρ}{g:α->List Int}{l:List α}{m B:Nat}(d:∀x∈l,(g x).length<=m)
  (c:∀(i:Nat) (h:i<l.length) a nx,a.length<=B+m*i->body (i:Int) a nx=nx (a++g l[i])):
  ∀(k i:Nat) (a:List Int),i+k=l.length->a.length<=B+m*i->upto body K (i:Int) k a=K (a++(l.drop i).flatMap g)
 |0,i,a,h,_=>by rw[cC V];simp[upto]
 |k+1,i,a,h,hl=>by
  have b:i<l.length:=by omega
  rw[Xg,c i b a _ hl,show((i:Int)+1)=((i+1:Nat):Int) by omega,app_loop d c k (i+1) _ V (by
   have:=d _<|cx b;rw[bk,Nat.mul_add];omega),cP b,gj,ck]
theorem app_loop0{α ρ:Type}{body:Int->List Int->(List Int->Option ρ)->Option ρ}{K:List Int->Option ρ}{g:α->List Int}{l:List α}(m B:Nat)(c:∀x∈l,(g x).length<=m)
  (b:∀(i:Nat) (h:i<l.length) a nx,a.length<=B+m*i->body (i:Int) a nx=nx (a++g l[i])) (a:List Int) (d:a.length<=B):upto body K 0 l.length a=K (a++l.flatMap g):=by
 have:=app_loop (K:=K) c b l.length 0 a V V;rw[ke]at this;exact this
theorem values_eq:∀(l:List Val) (a:List Int),a.length+2*l.length<=50000->CP a l=aj (a++aaD l)
 |[],a,_=>by simp[CP,rz,Eg,aaD]
 |v::l,a,h=>by
  simp only[bw]at h;have b:=values_eq l (a++[v.kind,v.n]) (by simp[-eC];omega);unfold CP at b⊢;rw[gW];generalize each Ef Eg l=K at b⊢;unfold Ef;rw[ky (room_le (by simp[-eC];omega) zq1),b];simp[aaD]
theorem row_len{c:List Val}{m:Nat}(h:c.length<=m):(rowP c).length<=2*m+1:=by
 unfold rowP;rw[bw,Xk];omega
theorem fr_len{f:LX.Frame}(h:f.regs.length<=40):(frP f).length<=84:=by
 unfold frP;have:=row_len h;simp only[bw];omega
theorem PS{a:List bA}(b:mH a){s:LX.State}(h:wB a s):Small (dM s):=(UJ b h).small b
theorem pack_loop{s:LX.State}(h:Small s):upto (Hw s) (Hy s) 0 ((s.frames.length:Int)).toNat [s.status,s.bS,(s.frames.length:Int)]=aj (xC s,0):=by
 have o:=h.frames;have p:=h.cells;have q:=frs_len s.frames h.regs;rw[bh,app_loop0 (g:=frP) (l:=s.frames) 84 3 (fun f j=>fr_len (h.regs f j)) (fun i a d n b=>by
  have m:=h.regs _<|cx a;unfold Hw;rw[xM a,bnd,ky (room_le (by simp[-eC];omega) zq1),values_eq _ _ (by simp[-eC];omega),bnd];unfold frP rowP;simp) _ zq3]
 unfold Hy;rw[ky (room_le (by simp[-eC];omega) zq1),bh,app_loop0 (g:=rowP) (l:=s.cells) 9 1000 (fun c k=>row_len (h.fields c k)) (fun i a d n b=>by
  have m:=h.fields _<|cx a;unfold Nu;rw[xM a,bnd,ky (room_le (by simp[-eC];omega) zq1),values_eq _ _ (by simp[-eC];omega),bnd];unfold rowP;simp) _ (by simp[-eC];omega)]
 unfold Nv;have hp:=aaF h;have e:([s.status,s.bS,(s.frames.length:Int)]++s.frames.flatMap frP++[(s.cells.length:Int)]++s.cells.flatMap rowP)=xC s:=by
  unfold xC;simp
 rw[e,dF V,cond_false]
theorem UN(a:List bA)(s:LX.State){N:Nat}(hN:100<=N):Fa N a s=aj (if KW a≠0 then([],KW a)else if ckS a s≠0 then([],ckS a s)else(xC (dM s),0)):=by
  unfold Fa;rw[Kt,bnd];by_cases b:KW a=0
  · rw[if_neg V,if_neg V];by_cases c:ckS a s=0
    · have e:=pU b;have d:=JJ.1 c;rw[dF V,cond_false,aav hN (d.sw e),bnd,if_neg V];exact pack_loop<|PS e d
    · rw[dT c,cond_true,if_pos c]
  · rw[if_pos b,dT b,cond_true,if_pos b]
structure Rel{α:Type}(o:Option (α×List Int))(b:Bool)(x':α)(l':List Int)(b':Bool):Prop where
 stay:b=ba->b'=ba
 ok:b=ao->match o with
  |some (x,r)=>x'=x/\l'=r/\b'=ao
  |none=>b'=ba
theorem Rel.pure{α:Type}(x:α)(l:List Int)(b:Bool):Rel (yI x l) b x l b:=⟨id,fun h=>⟨rfl,rfl,h⟩⟩
theorem Rel.bind{α β:Type}{R:Rdr α}{f:α->Rdr β}{l i a:List Int}{b b' c:Bool}{x':α}{g:β}(j:Rel (R l) b x' i b')(d:Rel (f x' i) b' g a c):Rel (iR R f l) b g a c:=by
 refine⟨fun h=>d.stay<|j.stay h,fun h=>?_⟩;have:=j.ok h;unfold iR;cases e:R l with
 |none=>rw[e]at this;exact d.stay this
 |some q=>
  obtain⟨x,r⟩:=q;rw[e]at this;obtain⟨rfl,rfl,k⟩:=this;exact d.ok k
theorem Gj(l:List Int)(b:Bool):∃x c b',jZ ⟨l,b⟩=aj (x,⟨c,b'⟩)/\Rel (H9 l) b x c b':=by
 unfold jZ;cases l with
 |nil=>exact⟨0,[],ba,rfl,fun _=>rfl,fun _=>rfl⟩
 |cons x l=>
  simp only;rw[dF (by simp;omega),cond_false,show idx (x::l) 0=aj x from idx0 x l,bnd,show sub? (x::l) 1 ((x::l).length:Int)=aj l by
   have:=Tx (l:=x::l) (a:=1) (b:=(x::l).length) zq3<|bq _;rw[rN]at this;exact this,bnd]
  exact⟨x,l,b,Z,id,fun h=>⟨Z,Z,h⟩⟩
theorem UO(m:Nat)(l:List Int)(b:Bool):∃(x:Nat) (a:List Int) (b':Bool),qc ⟨l,b⟩ m=aj ((x:Int),⟨a,b'⟩)/\x<=m/\Rel (uy m l) b x a b':=by
  unfold qc;obtain⟨x,a,b',h,f⟩:=Gj l b;rw[h,bnd];simp only;by_cases d:0<=x/\x<=(m:Int)
  · rw[dF V,dF V,Bool.or_self,cond_false];refine⟨x.toNat,a,b',by rw[Int.toNat_of_nonneg d.1],by omega,f.stay,fun e=>?_⟩;have:=f.ok e;cases l with
    |nil=>exact this
    |cons y l=>
      obtain⟨rfl,rfl,c⟩:=this;rw[show uy (m:Int) (x::a)=aj (x.toNat,a)from if_pos d];exact⟨Z,Z,c⟩
  · rw[show(ab (x<0)||ab ((m:Int)<x))=ba by
      rw[dy,decide_eq_true_eq,decide_eq_true_eq];omega,cond_true]
    refine⟨0,a,ba,Z,by omega,fun _=>rfl,fun e=>?_⟩;have:=f.ok e;cases l with
    |nil=>rfl
    |cons y l=>
      obtain⟨rfl,rfl,c⟩:=this;rw[show uy (m:Int) (x::a)=aw from if_neg d]
theorem Rb(n:Nat)(hn:n<=100):∀(m M i:Nat) (a:List Val) (l:List Int) (b:Bool),i+m=n->a.length=i->m<M->
    ∃vs d b',again (kS n) M (a,(i:Int),l,b)=aj (a++vs,⟨d,b'⟩)/\vs.length=m/\Rel (kC Yn m l) b vs d b'
  |m,0,i,a,l,b,_,_,hM=>by omega
  |0,M+1,i,a,l,b,hi,_,_=>by
    rw[H8];unfold kS;simp only;rw[dF V,cond_false];exact⟨[],l,b,by simp,Z,Rel.pure [] l b⟩
  |m+1,M+1,i,a,l,b,hi,ha,hM=>by
    rw[H8];have c:=Rb n hn m M<|i+1;generalize again (kS n) M=K at c⊢;unfold kS;simp only;rw[dT V,cond_true];obtain⟨x,o,q,r,j⟩:=Gj l b;rw[r,bnd];simp only;obtain⟨y,e,p,s,h⟩:=Gj o q;rw[s,bnd];simp only;rw[ky (room_le (by simp;omega) zq1),gI V V];obtain⟨vs,k,f,g,u,t⟩:=c (a++[⟨x,y⟩]) e p V (by simp;omega) V;refine⟨⟨x,y⟩::vs,k,f,?_,by simp[u],?_⟩
    · rw[show((i:Int)+1)=((i+1:Nat):Int) by omega,g];simp
    · exact Rel.bind (Rel.bind j<|Rel.bind h<|Rel.pure _ _ _)<|Rel.bind t<|Rel.pure _ _ _
theorem aaH{N n:Nat}(hn:n<=100)(hN:200<=N)(l:List Int)(b:Bool):∃vs a b',uh N ⟨l,b⟩ n=aj (vs,⟨a,b'⟩)/\vs.length=n/\Rel (kC Yn n l) b vs a b':=by
 unfold uh;obtain⟨vs,a,b',e,d,c⟩:=Rb n hn n N 0 [] l b V Z V;exact⟨vs,a,b',by simpa using e,d,c⟩
def none0:LX.State:=⟨[],[],0,0⟩
def endP(a:List bA)(s:LX.State):LX.State×Int:=
 if KW a≠0 then(none0,KW a)else if ckS a s≠0 then(none0,ckS a s)else if dM s=s then(s,0)else(none0,4)
def dO(a:List bA)(l:List Int):LX.State×Int:=
 if 1200<l.length then(none0,2)else match SX l with
  |some (s,[])=>endP a s
  |_=>(none0,8)
theorem un_end(a:List bA)(s:LX.State){N:Nat}(hN:100<=N):((FZ a s).bind fun b=>bif ab ((b:Int)≠0)then aj (none0,b)else(Ja N s).bind fun x=>(Ub x s).bind fun y=>bif (!y)then aj (none0,4)else aj (s,0))=aj (endP a s):=by
  rw[Kt,bnd];unfold endP;by_cases d:KW a=0
  · rw[if_neg V,if_neg V];by_cases e:ckS a s=0
    · have f:=pU d;rw[dF V,cond_false,aav hN ((JJ.1 e).sw f),bnd,eqState,bnd,if_neg V];by_cases c:dM s=s
      · rw[dT c,if_pos c];rfl
      · rw[dF c,if_neg c];rfl
    · rw[dT e,cond_true,if_pos e]
  · rw[if_pos d,dT d,cond_true,if_pos d]
theorem cells_rel{N:Nat}(hN:200<=N)(f:Int×om)(a:List bA)(fr:List LX.Frame)(d e:Int×om)(n:Nat)(v:f.1=n)(hn:n<=24):
    ∀(m M i:Nat) (c:List (List Val)) (l:List Int) (b:Bool),i+m=n->c.length=i->m<M->
    ∃cs j b',again (uj N f a fr d e) M ((i:Int),l,b,c)=(bif (b'||ab ((0:Int)<(j.length:Int)))then aj (none0,8)else aj (endP a ⟨fr,c++cs,d.1,e.1⟩))/\Rel (kC (Eo 4) m l) b cs j b'
  |m,0,i,c,l,b,_,_,hM=>by omega
  |0,M+1,i,c,l,b,hi,_,_=>by
    rw[H8];unfold uj;simp only;rw[dF V,cond_false];refine⟨[],l,b,?_,Rel.pure [] l b⟩;rw[eI,<-un_end a ⟨fr,c,d.1,e.1⟩ (N:=N) V];rfl
  |m+1,M+1,i,c,l,b,hi,ha,hM=>by
    rw[H8];have g:=cells_rel hN f a fr d e n v hn m M<|i+1;generalize again (uj N f a fr d e) M=K at g⊢;unfold uj;simp only;rw[dT V,cond_true];obtain⟨x,s,u,h,A,q⟩:=UO 4 l b;rw[show((4:Nat):Int)=4 from rfl]at h;rw[h,bnd];simp only;obtain⟨vs,k,t,y,B,p⟩:=aaH (N:=N) (n:=x) V hN s u;rw[y,bnd];simp only;rw[ky (room_le (by simp;omega) zq1)];unfold Jb;rw[gI V V];obtain⟨cs,r,o,w,z⟩:=g (c++[vs]) k t V (by simp;omega) V;refine⟨vs::cs,r,o,?_,?_⟩
    · rw[show((i:Int)+1)=((i+1:Nat):Int) by omega,w];simp
    · exact Rel.bind (Rel.bind q p)<|Rel.bind z<|Rel.pure _ _ _
theorem times_bind{α β:Type}{R:Rdr α}{m:Nat}{G:List α->Rdr β}{l:List Int}:iR (kC R (m+1)) G l=iR R (fun x=>iR (kC R m) fun a=>G (x::a)) l:=by
 show((iR R (fun x=>iR (kC R m) fun l=>yI<|x::l) l).bind _)=_;unfold iR;cases R l with
 |none=>rfl
 |some q=>
  rw[cJ,cJ];simp only;cases kC R m q.2 with
  |none=>rfl
  |some q2=>rfl
theorem aaI{N:Nat}(hN:200<=N)(e:Int×om)(a:List bA)(g h:Int×om)(n:Nat)(hy:e.1=n)(hn:n<=10):
    ∀(m M i:Nat) (d:List LX.Frame) (l:List Int) (b:Bool),i+m=n->d.length=i->m<M->
    ∃(s:LX.State) (L:List Int) (b':Bool),again (q8 N e a g h) M ((i:Int),l,b,d)=(bif (b'||ab ((0:Int)<(L.length:Int)))then aj (none0,8)else aj (endP a s))/\
      Rel (iR (kC SV m) (fun f=>iR (uy 24) fun k=>iR (kC (Eo 4) k) fun c=>yI (⟨d++f,c,g.1,h.1⟩:LX.State)) l) b s L b'
  |m,0,i,d,l,b,_,_,hM=>by omega
  |0,M+1,i,d,l,b,hi,_,_=>by
    rw[H8];unfold q8;simp only;rw[dF V,cond_false];obtain⟨x,o,j,r,G,w⟩:=UO 24 l b;rw[show((24:Nat):Int)=24 from rfl]at r;rw[r,bnd];simp only;obtain⟨cs,u,y,A,v⟩:=cells_rel hN ((x:Int),⟨o,j⟩) a d g h x Z G x N 0 [] o j V Z V;refine⟨⟨d++[],[]++cs,g.1,h.1⟩,u,y,?_,?_⟩
    · rw[eI];exact A
    · exact Rel.bind (Rel.pure [] l b)<|Rel.bind w<|Rel.bind v<|Rel.pure _ _ _
  |m+1,M+1,i,d,l,b,hi,ha,hM=>by
    rw[H8];have E:=aaI hN e a g h n hy hn m M<|i+1;generalize again (q8 N e a g h) M=K at E⊢;unfold q8;simp only;rw[dT V,cond_true];obtain⟨p,o,j,r,w⟩:=Gj l b;rw[r,bnd];simp only;obtain⟨q,u,y,A,v⟩:=Gj o j;rw[A,bnd];simp only;obtain⟨t,l3,X,e3,r3⟩:=Gj u y;rw[e3,bnd];simp only;obtain⟨x,P,T,F,G,r4⟩:=UO 40 l3 X;rw[show((40:Nat):Int)=40 from rfl]at F;rw[F,bnd];simp only;obtain⟨vs,I,C,R,hv,r5⟩:=aaH (N:=N) (n:=x) V hN P T;rw[R,bnd];simp only;rw[ky (room_le (by simp;omega) zq1),gI V V];obtain⟨s,S,O,Q,B⟩:=E (d++[⟨p,q,vs,t⟩]) I C V (by simp;omega) V;refine⟨s,S,O,?_,?_⟩
    · rw[show((i:Int)+1)=((i+1:Nat):Int) by omega,Q]
    · have z:Rel (SV l) b ⟨p,q,vs,t⟩ I C:=Rel.bind w<|Rel.bind v<|Rel.bind r3<|Rel.bind (Rel.bind r4 r5)<|Rel.pure _ _ _;simp only[ck,eo,cD]at B;rw[times_bind];exact Rel.bind (f:=fun x=>iR (kC SV m) fun fs=>iR (uy 24) fun k=>iR (kC (Eo 4) k) fun c=>yI (⟨d++x::fs,c,g.1,h.1⟩:LX.State)) z B
theorem end_rel{a:List bA}{l b:List Int}{b':Bool}{s:LX.State}{y:Option (LX.State×Int)}(d:¬1200<l.length)(c:Rel (SX l) ao s b b')(h:y=(bif (b'||ab ((0:Int)<(b.length:Int)))then aj (none0,8)else aj (endP a s))):y=aj (dO a l):=by
 rw[h];unfold dO;rw[if_neg d];have:=c.ok Z;cases e:SX l with
 |none=>rw[e]at this;simp only at this;subst this;rfl
 |some q=>
  obtain⟨f,r⟩:=q;rw[e]at this;obtain⟨rfl,rfl,rfl⟩:=this;cases b with
  |nil=>rfl
  |cons x b=>rw[oL,dT zq3,cond_true]
theorem Ep(a:List bA)(l:List Int){N:Nat}(hN:200<=N):sF N a l=aj (dO a l):=by
  unfold sF;by_cases h:1200<l.length
  · rw[dT V,cond_true];unfold dO;rw[if_pos h];rfl
  · rw[dF V,cond_false];obtain⟨st,e,g,n,k⟩:=Gj l ao;rw[n,bnd];simp only;obtain⟨wh,b,f,q,j⟩:=Gj e g;rw[q,bnd];simp only;obtain⟨x,d,c,i,o,r⟩:=UO 10 b f;rw[show((10:Nat):Int)=10 from rfl]at i;rw[i,bnd];simp only;obtain⟨s,u,t,m,p⟩:=aaI hN ((x:Int),⟨d,c⟩) a (st,⟨e,g⟩) (wh,⟨b,f⟩) x Z o x N 0 [] d c V Z V;exact end_rel h (Rel.bind k<|Rel.bind j<|Rel.bind r p) m
section
variable{I:List Int}(hI:I.length<=1200)
include hI
omit hI in
end
open Go Go.Proofs Go.LX
theorem read_all{s:LX.State}(h:Small s):SX (xC s)=aj (s,[]):=by
 have:=aaE h [];rw[eI]at this;exact this
theorem unpack_pack{a:List bA}(d:KW a=0){s:LX.State}(h:wB a s):dO a (xC (dM s))=(dM s,0):=by
 have b:=pU d;have c:=PS b h;unfold dO;rw[if_neg (by have:=aaF c;omega),read_all c];simp only;unfold endP;rw[if_neg V,if_neg (by rw[JJ.2 (UJ b h)];omega),if_pos (NC (h.sw b))]
theorem UQ{a:List bA}{s:LX.State}(h:wB a s):wB a (wake s):=by
  unfold wake;by_cases b:s.status=3
  · rw[if_pos b];refine⟨by simp,by simp,fun _=>rfl,?_,h.many,h.cells,h.frames⟩;have:=h.ended;constructor
    · intro e;simp at e
    · intro e;have:=h.ended.2 e;omega
  · rw[if_neg b];exact h
namespace Dk
open Go Go.Proofs Go.LX
theorem eqInt(a b:List Int):slices_Equal_int a b=aj (ab (a=b)):=by
  unfold slices_Equal_int;by_cases h:a.length=b.length
  · rw[dF V];simp only[cond_false,bh];rw[upto_all2 (fun x y=>ab (x=y)) a b h rfl (fun i x y f c d=>by
      unfold Bg;rw[jP,jP,c,d];by_cases e:x=y<;>simp[e]),P6 (fun _ _=>rfl)]
  · rw[dT V];have:a≠b:=fun e=>h (by rw[e]);rw[dF this];rfl
theorem rec_eq(r:Rec):dV r=ic r:=by
  unfold dV ic Bc uY l9 fu;have d:(((!(bu r.co 0 2))||(!(bu r.aJ 0 100)))||(!(bu r.place 0 2)))=(((((ab ((r.co:Int)<0)||ab ((3:Int)<=r.co))||ab ((r.aJ:Int)<0))||ab ((100:Int)<r.aJ))||ab ((r.place:Int)<0))||ab ((3:Int)<=r.place)):=by
    unfold bu;rw[et];simp;omega
  rw[d];generalize (((((ab ((r.co:Int)<0)||ab ((3:Int)<=r.co))||ab ((r.aJ:Int)<0))||ab ((100:Int)<r.aJ))||ab ((r.place:Int)<0))||ab ((3:Int)<=r.place))=C1;generalize (ab ((40:Int)<(r.says.length:Int))||ab ((1200:Int)<(r.image.length:Int)))=C2;generalize ab ((r.place:Int)≠0)=p0;generalize ab ((0:Int)<(r.says.length:Int))=s1;generalize ab ((0:Int)<(r.image.length:Int))=i1;generalize ab ((r.aJ:Int)=0)=e0;have e:∀l:Str,(hasB l 73=ba\/hasB l 73=ao):=fun l=>by cases hasB l 73<;>simp
  by_cases k1:r.kind=1
  · rw[k1,show hasB ((lk (1:Int) ([(1,[73]),(2,[83,73]),(3,[80]),(4,[73]),(5,[])]:List (Int×Str))).getD []) 80=ao by decide,show hasB ((lk (1:Int) ([(1,[73]),(2,[83,73]),(3,[80]),(4,[73]),(5,[])]:List (Int×Str))).getD []) 83=ao by decide,show hasB ((lk (1:Int) ([(1,[73]),(2,[83,73]),(3,[80]),(4,[73]),(5,[])]:List (Int×Str))).getD []) 73=ba by decide];cases C1<;>cases C2<;>cases p0<;>cases s1<;>cases i1<;>cases e0<;>rfl
  by_cases k2:r.kind=2
  · rw[k2,show hasB ((lk (2:Int) ([(1,[73]),(2,[83,73]),(3,[80]),(4,[73]),(5,[])]:List (Int×Str))).getD []) 80=ao by decide,show hasB ((lk (2:Int) ([(1,[73]),(2,[83,73]),(3,[80]),(4,[73]),(5,[])]:List (Int×Str))).getD []) 83=ba by decide,show hasB ((lk (2:Int) ([(1,[73]),(2,[83,73]),(3,[80]),(4,[73]),(5,[])]:List (Int×Str))).getD []) 73=ba by decide];cases C1<;>cases C2<;>cases p0<;>cases s1<;>cases i1<;>cases e0<;>rfl
  by_cases a:r.kind=3
  · rw[a,show hasB ((lk (3:Int) ([(1,[73]),(2,[83,73]),(3,[80]),(4,[73]),(5,[])]:List (Int×Str))).getD []) 80=ba by decide,show hasB ((lk (3:Int) ([(1,[73]),(2,[83,73]),(3,[80]),(4,[73]),(5,[])]:List (Int×Str))).getD []) 83=ao by decide,show hasB ((lk (3:Int) ([(1,[73]),(2,[83,73]),(3,[80]),(4,[73]),(5,[])]:List (Int×Str))).getD []) 73=ao by decide];cases C1<;>cases C2<;>cases p0<;>cases s1<;>cases i1<;>cases e0<;>rfl
  by_cases b:r.kind=4
  · rw[b,show hasB ((lk (4:Int) ([(1,[73]),(2,[83,73]),(3,[80]),(4,[73]),(5,[])]:List (Int×Str))).getD []) 80=ao by decide,show hasB ((lk (4:Int) ([(1,[73]),(2,[83,73]),(3,[80]),(4,[73]),(5,[])]:List (Int×Str))).getD []) 83=ao by decide,show hasB ((lk (4:Int) ([(1,[73]),(2,[83,73]),(3,[80]),(4,[73]),(5,[])]:List (Int×Str))).getD []) 73=ba by decide];cases C1<;>cases C2<;>cases p0<;>cases s1<;>cases i1<;>cases e0<;>rfl
  by_cases c:r.kind=5
  · rw[c,show hasB ((lk (5:Int) ([(1,[73]),(2,[83,73]),(3,[80]),(4,[73]),(5,[])]:List (Int×Str))).getD []) 80=ao by decide,show hasB ((lk (5:Int) ([(1,[73]),(2,[83,73]),(3,[80]),(4,[73]),(5,[])]:List (Int×Str))).getD []) 83=ao by decide,show hasB ((lk (5:Int) ([(1,[73]),(2,[83,73]),(3,[80]),(4,[73]),(5,[])]:List (Int×Str))).getD []) 73=ao by decide];cases C1<;>cases C2<;>cases p0<;>cases s1<;>cases i1<;>cases e0<;>rfl
  rw[show lk r.kind ([(1,[73]),(2,[83,73]),(3,[80]),(4,[73]),(5,[])]:List (Int×Str))=aw by simp[lk,k1,k2,a,b,c]];rw[show(ab ((r.kind:Int)<1)||ab ((5:Int)<r.kind))=ba by simp;omega];rfl
structure GoodR(r:Rec):Prop where
 kind:1<=r.kind/\r.kind<=5
 co:0<=r.co/\r.co<=2
 aJ:1<=r.aJ/\r.aJ<=100
 place:0<=r.place/\r.place<=2
 says:r.says.length<=40
 image:r.image.length<=1200
 has:(r.kind=1\/r.kind=2\/r.kind=4)->1<=r.image.length
theorem aaJ(r:Rec)(h:ic r=0):GoodR r:=by
 rw[<-rec_eq]at h;unfold dV at h;have hn:0<=(r.image.length:Int):=by omega
 generalize e:(ab ((r.kind:Int)<1)||ab ((5:Int)<r.kind))=A at h;cases A with
 |true=>simp only[cond_true]at h;exact absurd h zq1
 |false=>
 simp only[cond_false]at h;generalize f:(((((ab ((r.co:Int)<0)||ab ((3:Int)<=r.co))||ab ((r.aJ:Int)<0))||ab ((100:Int)<r.aJ))||ab ((r.place:Int)<0))||ab ((3:Int)<=r.place))=B at h;cases B with
 |true=>simp only[cond_true]at h;exact absurd h zq1
 |false=>
 simp only[cond_false]at h;generalize d:(ab ((40:Int)<(r.says.length:Int))||ab ((1200:Int)<(r.image.length:Int)))=C at h;cases C with
 |true=>simp only[cond_true]at h;exact absurd h zq1
 |false=>
 simp only[cond_false]at h;generalize b:((((ab ((r.kind:Int)≠3)&&ab ((r.place:Int)≠0))||(ab ((r.kind:Int)≠2)&&ab ((0:Int)<(r.says.length:Int))))||(((ab ((r.kind:Int)=1)||ab ((r.kind:Int)=2))||ab ((r.kind:Int)=4)) !=ab ((0:Int)<(r.image.length:Int))))||ab ((r.aJ:Int)=0))=D at h;cases D with
 |true=>simp only[cond_true]at h;exact absurd h zq1
 |false=>
 simp only[cX,decide_eq_false_iff_not,bne_eq_false_iff_eq]at e f d b;obtain⟨⟨⟨_,_⟩,a⟩,g⟩:=b;refine⟨by omega,by omega,by omega,by omega,by omega,by omega,fun i=>?_⟩;have:((ab ((r.kind:Int)=1)||ab ((r.kind:Int)=2))||ab ((r.kind:Int)=4))=true:=by
  simp;omega
 rw[this]at a;have c:ab ((0:Int)<(r.image.length:Int))=true:=by
  cases hq:ab ((0:Int)<(r.image.length:Int))with
  |true=>rfl
  |false=>rw[hq]at a;cases a
 have:=Yg c;omega
def QT(r:Rec):Prop:=kv r.kind/\kv r.co/\kv r.aJ/\kv r.place/\(∀x∈r.says,kv x)/\(∀x∈r.image,kv x)
def nl(r:Rec):List Int:=[r.kind,r.co,r.aJ,r.place,(r.says.length:Int)]++r.says++r.image
def zR:Rec:=⟨0,0,0,0,[],[]⟩
def yj(r:Rec):Str×Int:=if dV r=0 then(wR 32 ((nl r).map dq),0)else([],dV r)
def PT(l:List Int)(n:Nat):Rec:=⟨l.getD 0 0,l.getD 1 0,l.getD 2 0,l.getD 3 0,(l.take (5+n)).drop 5,l.drop (5+n)⟩
def Mx(l:List Int):Rec×Int:=
 if l.length<5 then(zR,1)else if l.getD 4 0<0\/(l.length:Int)-5<l.getD 4 0 then(zR,1)else
 if dV (PT l (l.getD 4 0).toNat)=0 then(PT l (l.getD 4 0).toNat,0)else(zR,dV (PT l (l.getD 4 0).toNat))
def nW(s:Str):Rec×Int:=match XC 32 s with|none=>(zR,1)|some l=>Mx l
def UR(s:Str):Rec×Int:=if(60000:Int)<(s.length:Int)then(zR,2)else nW s
theorem concat5:∀(l:List (List Int)) (a:List Int),a.length+(l.map eR).sum<=1000000->each vJ vK l a=aj (a++l.flatten)
 |[],a,_=>by simp[rz,vK]
 |x::l,a,h=>by
  simp only[cj,mC]at h;rw[gW,vJ,ky ⟨by omega,by omega⟩,concat5 l (a++x) (by rw[bk];omega)];simp
theorem concat7(a:List (List Int)):∀(l:List (List Int)) (n:Nat),n+(l.map eR).sum<=1000000->each vL (qF a) l (n:Int)=qF a ((n+(l.map eR).sum:Nat):Int)
 |[],n,_=>by simp[rz]
 |x::l,n,h=>by
  simp only[cj,mC]at h⊢;rw[gW,vL,gI,dF V,cond_false,show((n:Int)+(x.length:Int))=((n+x.length:Nat):Int) by omega,concat7 a l (n+x.length) V,jv]
theorem concat_eq(a:List (List Int))(h:(a.map eR).sum<=1000000):vM a=aj a.flatten:=by
 unfold vM;have:=concat7 a a 0 V;rw[show((0:Nat):Int)=0 from rfl]at this;rw[this];unfold qF;rw[show QY 8 ((0+(a.map eR).sum:Nat):Int)=aj ([]:List Int) by unfold QY;rw[ky ⟨by omega,by omega⟩],bnd,concat5 a [] (by simpa using h)];simp
theorem concat3(a b c:List Int)(h:a.length+b.length+c.length<=1000000):vM [a,b,c]=aj (a++b++c):=by
 rw[concat_eq _ (by simp;omega)];simp
theorem nl_len(r:Rec):(nl r).length=5+r.says.length+r.image.length:=by simp[nl];omega
theorem nl_ok{r:Rec}(g:GoodR r)(w:QT r):∀x∈nl r,kv x:=by
  obtain⟨b,d,e,c,h,f⟩:=w;have i:=g.says;intro x a;simp only[nl,cE,bn,List.not_mem_nil,or_false]at a;rcases a with((rfl|rfl|rfl|rfl|rfl)|a)|a
  · exact b
  · exact d
  · exact e
  · exact c
  · exact kv.mk V V
  · exact h x a
  · exact f x a
theorem aaK{r:Rec}(g:GoodR r):(nl r).length<=1245:=by rw[nl_len];have:=g.says;have:=g.image;omega
theorem nl_ne(r:Rec):nl r≠[]:=by simp[nl]
theorem aaL:∀(l:List Int) (pre:List Str),(∀x∈l,kv x)->gU yD vo (pre.length:Int) l (pre++cd l.length ([]:Str))=vo (pre++l.map dq)
 |[],pre,_=>by simp[U9]
 |x::l,pre,h=>by
  rw[qU,yD,YF (h x zq3),bnd,jP];have a:(pre++cd (x::l).length ([]:Str))[pre.length]? =aj []:=by rw[gx (bq _)];simp
  rw[a,bnd,bh];have c:(pre++cd (x::l).length ([]:Str)).set pre.length (dq x)=(pre++[dq x])++cd l.length ([]:Str):=by
   rw[List.set_append_right _ _ (bq _)];simp[List.replicate_succ]
  have d:((pre.length:Int)+1)=((pre++[dq x]).length:Int):=by simp
  rw[c,d,aaL l (pre++[dq x]) (fun y b=>h y (bj _ b))];simp
theorem join_ok{l:List Int}(h:∀x∈l,kv x)(d:l.length<=1245):YD (l.map dq) [32]=aj (wR 32 (l.map dq)):=by
 have c:=Vg 32 21 (l.map dq) (by intro x a;obtain⟨y,b,rfl⟩:=dJ.1 a;exact itoa_len (h y b));rw[cH]at c;exact joinS_eq 32 (by rw[cH];omega) V
theorem print_eq(r:Rec)(c:dV r=0->QT r):Ht r=aj (yj r):=by
  unfold Ht yj;by_cases h:dV r=0
  · have g:=aaJ r (by rw[<-rec_eq];exact h);have e:=g.says;have f:=g.image;rw[dF V,cond_false,if_pos h,concat3 _ _ _ (by simp;omega),bnd];have d:=aaK g;have a:=nl_ok g<|c h;show iF _ (gU yD vo 0 (nl r)<|cd ((nl r).length:Int).toNat ([]:Str))=_;have b:(r.kind::r.co::r.aJ::r.place::(r.says.length:Int)::(r.says++r.image)).length=(nl r).length:=by simp[nl]
    rw[ky (by
      refine⟨by omega,?_⟩;have:([r.kind,r.co,r.aJ,r.place,(r.says.length:Int)]++r.says++r.image).length=(nl r).length:=rfl;rw[this];omega),bh]
    have:=aaL (nl r) [] a;simp only[eE,cD]at this;rw[show((0:Nat):Int)=0 from rfl]at this;rw[this];unfold vo;rw[join_ok a d,bnd]
  · rw[dT h,cond_true,if_neg h]
theorem numbers_each:∀(w:List Str) (a:List Int),(∀x∈w,x.length<=60000)->a.length+w.length<=1000000->
    each CW CX w a=aj (match w.mapM numOf with|some v=>(a++v,ba)|none=>([],ao))
  |[],a,_,_=>by simp[rz,CX]
  |x::w,a,h,hl=>by
    have f:=h x zq3;simp only[bw]at hl;have c:=fun y=>numbers_each w (a++[y]) (fun z hz=>h z (bj _ hz)) (by simp;omega);rw[gW,CW,parseS_eq V,bnd,mx];cases e:Lib.atoiAll x with
    |ok v=>
      have d:kv v:=rm e;simp only[cond_false];rw[YF d,bnd,xx];by_cases b:dq v=x
      · rw[dF (by simpa using b),cond_false,ky ⟨by simp;omega,by simp;omega⟩,c];have:numOf x=aj v:=by simp[numOf,e,b]
        rw[this];cases e2:w.mapM numOf with
        |none=>rfl
        |some m=>simp
      · rw[dT b,cond_true];have:numOf x=none:=by simp[numOf,e,b]
        rw[this];rfl
    |range=>
      have:numOf x=none:=by simp[numOf,e]
      rw[this];rfl
    |_=>
      have:numOf x=none:=by simp[numOf,e]
      rw[this];rfl
theorem aaM:∀(w:List Str) (a:List Int),(∀x∈w,x.length<=60000)->a.length+w.length<=1000000->
    each AA sM w a=match w.mapM numOf with|some v=>sM (a++v)|none=>aj (zR,1)
  |[],a,_,_=>by simp[rz]
  |x::w,a,h,hl=>by
    have f:=h x zq3;simp only[bw]at hl;have c:=fun y=>aaM w (a++[y]) (fun z hz=>h z (bj _ hz)) (by simp;omega);rw[gW,AA,atoiS_eq V,bnd,mx];cases e:Lib.atoiAll x with
    |ok v=>
      have d:kv v:=rm e;simp only[cond_false];rw[YF d,bnd,Az];by_cases b:dq v=x
      · rw[dF (by simpa using b),cond_false,ky ⟨by simp;omega,by simp;omega⟩,c];have:numOf x=aj v:=by simp[numOf,e,b]
        rw[this];cases e2:w.mapM numOf with
        |none=>rfl
        |some m=>simp
      · rw[dT b,cond_true];have:numOf x=none:=by simp[numOf,e,b]
        rw[this];rfl
    |range=>
      have:numOf x=none:=by simp[numOf,e]
      rw[this];rfl
    |_=>
      have:numOf x=none:=by simp[numOf,e]
      rw[this];rfl
theorem five{l:List Int}(h:¬l.length<5):∃a b c d n r,l=a::b::c::d::n::r:=by
 match l,h with
 |a::b::c::d::n::r,_=>exact⟨a,b,c,d,n,r,rfl⟩
 |[],h=>simp at h
 |[a],h=>simp at h
 |[a,b],h=>simp at h
 |[a,b,c],h=>simp at h
 |[a,b,c,d],h=>simp at h
theorem parse_k31(l:List Int)(o:l.length<=1000000)(hI:∀x∈l,kv x):sM l=aj (Mx l):=by
  unfold sM Mx;by_cases f:l.length<5
  · rw[dT V,if_pos f];rfl
  · rw[dF V,if_neg f,cond_false];obtain⟨a,b,c,d,n,r,rfl⟩:=five f;have hn:kv n:=hI n zq3;have j:idx (a::b::c::d::n::r) 4=aj n:=rfl;rw[j,bnd];have i:(a::b::c::d::n::r).getD 4 0=n:=rfl;rw[i];by_cases h:n<0
    · rw[dT h,if_pos (.inl h)];rfl
    · rw[dF h,cond_false];simp only[bw]at o⊢;rw[gI];by_cases g:((r.length+1+1+1+1+1:Nat):Int)-5<n
      · rw[dT g,if_pos (.inr g)];rfl
      · rw[dF g,if_neg V];unfold xe;obtain⟨m,rfl⟩:=bs (show 0<=n by omega);rw[cond_false,show idx (a::b::c::d::(m:Int)::r) 0=aj a from rfl,bnd,show idx (a::b::c::d::(m:Int)::r) 1=aj b from rfl,bnd,show idx (a::b::c::d::(m:Int)::r) 2=aj c from rfl,bnd,show idx (a::b::c::d::(m:Int)::r) 3=aj d from rfl,bnd,show idx (a::b::c::d::(m:Int)::r) 4=aj (m:Int)from rfl,bnd,gI];rw[show(5+(m:Int))=((5+m:Nat):Int) by omega,show(5:Int)=((5:Nat):Int)from rfl,Tx V (by simp;omega),bnd,gI,Tx (by simp;omega) (bq _),bnd,rJ (by simp;omega) (by simp;omega),bnd,rJ (by simp;omega) (by simp;omega),bnd];have k:((a::b::c::d::(m:Int)::r).take (a::b::c::d::(m:Int)::r).length).drop (5+m)=(a::b::c::d::(m:Int)::r).drop (5+m):=by rw[rN]
        rw[k];unfold EM;show(bif ab ((dV (PT (a::b::c::d::(m:Int)::r) m):Int)≠0)then aj (zR,dV<|PT (a::b::c::d::(m:Int)::r) m)else aj (PT (a::b::c::d::(m:Int)::r) m,0))=_;rw[bh];by_cases e:dV (PT (a::b::c::d::(m:Int)::r) m)=0
        · rw[dF V,if_pos e];rfl
        · rw[dT e,if_neg e];rfl
theorem parse_eq(s:Str):Hm s=aj (UR s):=by
  unfold Hm UR;by_cases h:(60000:Int)<(s.length:Int)
  · rw[dT h,if_pos h];rfl
  · rw[dF h,if_neg h,cond_false];have d:=MM 32 s;rw[splitS_eq 32 V,bnd,aaM _ [] (fun x a=>by have:=EF 32 s x a;omega) (by simp;omega)];unfold nW;cases e:XC 32 s with
    |none=>unfold XC at e;rw[e]
    |some l=>
      have:=Ky (show(jL 32 s).mapM numOf=aj l from e);unfold XC at e;rw[e];have c:l.length<=1000000:=by
        have b:=congrArg eR this.1;rw[cH]at b;omega
      simp only[cD];exact parse_k31 l c this.2
theorem mkRec_nl(r:Rec):PT (nl r) r.says.length=r:=by
 obtain⟨k,c,e,p,s,i⟩:=r;unfold PT nl;have b:((([k,c,e,p,(s.length:Int)]++s++i).take (5+s.length)).drop 5)=s:=by
  rw[ck,show 5+s.length=([k,c,e,p,(s.length:Int)]).length+s.length from rfl,List.take_length_add_append,List.take_left];rfl
 have a:([k,c,e,p,(s.length:Int)]++s++i).drop (5+s.length)=i:=by
  rw[show 5+s.length=([k,c,e,p,(s.length:Int)]++s).length by simp;omega,List.drop_left]
 simp only[b,a];rfl
theorem fromNums_nl{r:Rec}(h:dV r=0):Mx (nl r)=(r,0):=by
 have a:=nl_len r;unfold Mx;rw[if_neg V,show(nl r).getD 4 0=(r.says.length:Int)from rfl,if_neg V,bh,mkRec_nl,if_pos h]
theorem aaN{r:Rec}(h:dV r=0)(w:QT r):nW (wR 32 ((nl r).map dq))=(r,0):=by
 unfold nW;rw[nums_join zq1 (nl_ne r) (nl_ok (aaJ r (by rw[<-rec_eq];exact h)) w)];exact fromNums_nl h
theorem nl_mk{l:List Int}{n:Nat}(e:5+n<=l.length)(f:l.getD 4 0=n):nl (PT l n)=l:=by
 obtain⟨a,b,c,d,m,r,rfl⟩:=five (l:=l) V;have g:m=n:=f;subst g;simp only[bw]at e;have h:((a::b::c::d::(n:Int)::r).take (5+n)).drop 5=r.take n:=by
  rw[show 5+n=n+1+1+1+1+1 by omega];rfl
 have i:(a::b::c::d::(n:Int)::r).drop (5+n)=r.drop n:=by
  rw[show 5+n=n+1+1+1+1+1 by omega];rfl
 show [a,b,c,d,((((a::b::c::d::(n:Int)::r).take (5+n)).drop 5).length:Int)]++((a::b::c::d::(n:Int)::r).take (5+n)).drop 5++(a::b::c::d::(n:Int)::r).drop (5+n)=_;rw[h,i,List.length_take,show min n r.length=n by omega,ck,List.take_append_drop];rfl
theorem read_ok{s:Str}{r:Rec}(h:nW s=(r,0)):dV r=0/\QT r/\s=wR 32 ((nl r).map dq):=by
  unfold nW at h;cases e:XC 32 s with
  |none=>rw[e]at h;cases h
  |some l=>
    rw[e]at h;obtain⟨i,j,o⟩:=join_nums e;simp only at h;unfold Mx at h;split at h
    · cases h
    · rename_i p;split at h
      · cases h
      · rename_i k;split at h
        · rename_i c;obtain⟨m,f⟩:=bs (show 0<=l.getD 4 0 by omega);rw[f]at h c k;simp only[bh]at h c;have g:PT l m=r:=by injection h
          have b:=nl_mk (l:=l) (n:=m) V f;rw[g]at b c;refine⟨c,?_,by rw[b];exact i⟩;have a:∀x∈nl r,kv x:=by rw[b];exact j
          refine⟨a _ (by simp[nl]),a _ (by simp[nl]),a _ (by simp[nl]),a _ (by simp[nl]),fun x d=>a x (by simp[nl,d]),fun x d=>a x (by simp[nl,d])⟩
        · rename_i c;exact absurd (congrArg Prod.snd h) c
theorem text_ok{r:Rec}(h:dV r=0):yj r=(wR 32 ((nl r).map dq),0):=by unfold yj;rw[if_pos h]
def r0:Rec:=⟨2,1,2,0,[7,-8],[1]⟩
def Tg(most:Int):List Str->List Rec->Int->List Rec×Int×Int
 |[],l,n=>(l,n,0)
 |[x],l,n=>if x=[]then(l,n,0)else(l,n,8)
 |x::y::r,l,n=>if(nW x).2≠0 then(l,n,(nW x).2)else if most<=(l.length:Int)then(l,n,2)else Tg most (y::r) (l++[(nW x).1]) (n+(x.length:Int)+1)
def ln(most:Int)(s:Str):List Rec×Int×Int:=Tg most (jL 10 s) [] 0
theorem lnP_cons{most:Int}{x:Str}{q:List Str}{l:List Rec}{n:Int}(a:q≠[]):Tg most (x::q) l n=if(nW x).2≠0 then(l,n,(nW x).2)else if most<=(l.length:Int)then(l,n,2)else Tg most q (l++[(nW x).1]) (n+(x.length:Int)+1):=by
 cases q with
 |nil=>exact absurd Z a
 |cons y r=>rfl
theorem joinC_len2(c:UInt8)(x y:Str)(l:List Str):(wR c (x::y::l)).length=x.length+1+(wR c (y::l)).length:=by
 rw[zw,bk,bw];omega
theorem lnP_len(most:Int):∀(p:List Str) (l:List Rec) (n:Int),0<=n->n<=(Tg most p l n).2.1/\(Tg most p l n).2.1<=n+(wR 10 p).length/\(Tg most p l n).1.length+0<=l.length+p.length/\l.length<=(Tg most p l n).1.length/\((l.length:Int)<=most->((Tg most p l n).1.length:Int)<=most)
  |[],l,n,hn=>by simp[Tg];omega
  |[x],l,n,hn=>by
    unfold Tg;split<;>simp<;>omega
  |x::y::r,l,n,hn=>by
    have b:=joinC_len2 10 x y r;unfold Tg;split
    · simp;omega
    · split
      · simp;omega
      · have a:=lnP_len most (y::r) (l++[(nW x).1]) (n+(x.length:Int)+1) V;simp only[bk,bw,eE]at a⊢;omega
theorem lines_loop(a:Str)(b:Int)(n:a.length<=60000):∀(p:List Str) (s:Str) (l:List Rec) (N:Nat),jL 10 s=p->s.length<=a.length->p.length<=N->l.length+p.length<=60001->(l.length:Int)<=b->
    again (Bt a b) N (s,l)=aj (Tg b p l ((a.length:Int)-(s.length:Int))):=by
  intro p;induction p with
  |nil=>intro s l N hp;exact absurd hp (Ic 10 s)
  |cons x q ih=>
    intro s l N hp k hN j m;cases N with
    |zero=>simp at hN
    |succ N=>
    rw[again,Bt];cases q with
    |nil=>
      obtain⟨rfl,c⟩:=splitC_single hp;by_cases e:s=[]
      · subst e;rw[dF zq3,cond_false];simp[Tg]
      · rw[dT e,cond_true,cutS_free c V,bnd];simp only[ka,cond_true];rw[gI];simp[Tg,e]
    |cons y r=>
      obtain⟨t,rfl,i,c⟩:=splitC_cons hp;have f:(x++10::t).length=x.length+1+t.length:=by simp;omega
      rw[dT zq3,cond_true,cutS_hit c V,bnd];simp only[ej,cond_false];have d:UR x=nW x:=by unfold UR;rw[if_neg V]
      rw[parse_eq,bnd,d,lnP_cons zq3];by_cases g:(nW x).2=0
      · rw[dF V,cond_false,if_neg V];by_cases h:(l.length:Int)=b
        · rw[dT h,cond_true,gI,if_pos V]
        · rw[dF h,cond_false,if_neg V];simp only[bw]at hN j;rw[ky ⟨by simp;omega,by simp;omega⟩,ih t (l++[(nW x).1]) N i V (by simp;omega) (by simp;omega) (by simp;omega)];congr 2;omega
      · rw[dT g,cond_true,gI,if_pos g]
theorem aaO(N:Nat)(a:Str)(b:Int)(hN:60002<=N)(c:a.length<=60000)(d:0<=b):EN N a b=aj (ln b a):=by
 unfold EN ln;have e:=MM 10 a;rw[lines_loop a b c (jL 10 a) a [] N rfl (bq _) V (by simp;omega) (by simpa using d)];congr 2;omega
theorem bcat5:∀(l:List Str) (a:Str),a.length+(l.map eR).sum<=1000000->each uD uE l a=aj (a++l.flatten)
 |[],a,_=>by simp[rz,uE]
 |x::l,a,h=>by
  simp only[cj,mC]at h;rw[gW,uD,ky ⟨by omega,by omega⟩,bcat5 l (a++x) (by rw[bk];omega)];simp
theorem bcat7(a:List Str):∀(l:List Str) (n:Nat),n+(l.map eR).sum<=1000000->each uF (pQ a) l (n:Int)=pQ a ((n+(l.map eR).sum:Nat):Int)
 |[],n,_=>by simp[rz]
 |x::l,n,h=>by
  simp only[cj,mC]at h⊢;rw[gW,uF,gI,dF V,cond_false,show((n:Int)+(x.length:Int))=((n+x.length:Nat):Int) by omega,bcat7 a l (n+x.length) V,jv]
theorem bcat(a b:Str)(h:a.length+b.length<=1000000):tZ [a,b]=aj (a++b):=by
 unfold tZ;have:=bcat7 [a,b] [a,b] 0 (by simp;omega);rw[show((0:Nat):Int)=0 from rfl]at this;rw[this];unfold pQ;rw[show QY 1 ((0+([a,b].map eR).sum:Nat):Int)=aj ([]:Str) by unfold QY;rw[ky ⟨by omega,by simp;omega⟩],bnd,bcat5 [a,b] [] (by simp;omega)];simp
def zD:iV:=⟨[],[]⟩
def jh(d:iV):Int:=if 60000<d.safe.length\/60000<d.safe.length+d.wait.length then 2 else(ln 120 d.safe).2.2
theorem MB(N:Nat)(hN:60002<=N)(d:iV)(b:d.wait.length<=9223372036854775807):vT N d=aj (jh d):=by
  unfold vT jh;by_cases h:60000<d.safe.length
  · rw[dT V,cond_true,if_pos (.inl h)];rfl
  · rw[dF V,cond_false,gI];by_cases a:60000<d.safe.length+d.wait.length
    · rw[dT V,if_pos (.inr a)];rfl
    · rw[dF V,if_neg V];unfold Fx;rw[cond_false,aaO N d.safe 120 hN V V,bnd]
theorem xz{d:iV}(h:jh d=0):d.safe.length+d.wait.length<=60000/\(ln 120 d.safe).2.2=0:=by
  unfold jh at h;split at h
  · cases h
  · exact⟨by omega,h⟩
def putT(d:iV)(r:Rec):iV×Int:=
 if(yj r).2≠0 then(zD,(yj r).2)else if 60000<d.safe.length+d.wait.length+(yj r).1.length+1 then(zD,2)else(⟨d.safe,d.wait++(yj r).1++[10]⟩,0)
def xD(d:iV)(r:Rec):iV×Int:=if jh d≠0 then(zD,jh d)else putT d r
theorem text_len{r:Rec}(w:QT r):(yj r).1.length<=27390:=by
  unfold yj;split
  · rename_i h;have g:=aaJ r (by rw[<-rec_eq];exact h);have c:=Vg 32 21 ((nl r).map dq) (by intro x a;obtain⟨y,b,rfl⟩:=dJ.1 a;exact itoa_len (nl_ok g w y b));have d:=aaK g;rw[cH]at c;show(wR 32 ((nl r).map dq)).length<=_;omega
  · simp
theorem put_eq(N:Nat)(hN:60002<=N)(d:iV)(r:Rec)(c:d.wait.length<=9223372036854775807)(w:QT r):Ji N d r=aj (xD d r):=by
  unfold Ji xD putT;rw[MB N hN d c,bnd];by_cases h:jh d=0
  · obtain⟨f,_⟩:=xz h;have e:=text_len w;rw[dF V,cond_false,if_neg V,print_eq r (fun _=>w),bnd];by_cases a:(yj r).2=0
    · rw[dF V,cond_false,if_neg V,gI,gI,gI];by_cases b:60000<d.safe.length+d.wait.length+(yj r).1.length+1
      · rw[dT V,cond_true,if_pos b];rfl
      · rw[dF V,cond_false,if_neg b,rJ V V,bnd,rJ V V,bnd,ky ⟨by omega,by omega⟩,ky ⟨by simp;omega,by simp;omega⟩]
    · rw[dT a,cond_true,if_pos a];rfl
  · rw[dT h,cond_true,if_pos h];rfl
def syncT(d:iV):iV×Int:=if jh ⟨d.safe++d.wait,[]⟩≠0 then(zD,jh ⟨d.safe++d.wait,[]⟩)else(⟨d.safe++d.wait,[]⟩,0)
def GV(d:iV):iV×Int:=if jh d≠0 then(zD,jh d)else syncT d
theorem sync_eq(N:Nat)(hN:60002<=N)(d:iV)(b:d.wait.length<=9223372036854775807):Mc N d=aj (GV d):=by
  unfold Mc GV syncT;rw[MB N hN d b,bnd];by_cases h:jh d=0
  · obtain⟨c,_⟩:=xz h;rw[dF V,cond_false,if_neg V,bcat _ _ V,bnd,MB N hN _ zq3,bnd];by_cases a:jh ⟨d.safe++d.wait,[]⟩=0
    · rw[dF V,cond_false,if_neg V]
    · rw[dT a,cond_true,if_pos a];rfl
  · rw[dT h,cond_true,if_pos h];rfl
def KZ(d:iV)(n:Int):iV×Int:=if jh d≠0 then(zD,jh d)else if n<0\/(d.wait.length:Int)<n then(zD,3)else(⟨d.safe,d.wait.take n.toNat⟩,0)
theorem crash_eq(N:Nat)(hN:60002<=N)(d:iV)(n:Int)(b:d.wait.length<=9223372036854775807):Jz N d n=aj (KZ d n):=by
  unfold Jz KZ;rw[MB N hN d b,bnd];by_cases h:jh d=0
  · obtain⟨c,_⟩:=xz h;rw[dF V,cond_false,if_neg V];by_cases a:n<0\/(d.wait.length:Int)<n
    · rw[show(ab (n<0)||ab ((d.wait.length:Int)<n))=ba by simpa using a,cond_true,if_pos a];rfl
    · rw[show(ab (n<0)||ab ((d.wait.length:Int)<n))=ao by simp;omega,cond_false,if_neg a];obtain⟨m,rfl⟩:=bs (show 0<=n by omega);rw[show(0:Int)=((0:Nat):Int)from rfl,Tx V V,bnd,rJ V V,bnd,rJ (by simp;omega) (by simp;omega),bnd,ke,bh]
  · rw[dT h,cond_true,if_pos h];rfl
def SY(d:iV):iV×List Rec:=
 (⟨d.safe++d.wait.take (ln (120-((ln 120 d.safe).1.length:Int)) d.wait).2.1.toNat,[]⟩,(ln 120 d.safe).1++(ln (120-((ln 120 d.safe).1.length:Int)) d.wait).1)
def aaP(d:iV):iV×List Rec×Int:=if jh d≠0 then(zD,[],jh d)else((SY d).1,(SY d).2,0)
theorem aaQ(most:Int)(s:Str):0<=(ln most s).2.1/\(ln most s).2.1<=s.length/\(ln most s).1.length<=s.length+1/\(0<=most->((ln most s).1.length:Int)<=most):=by
 have h:=lnP_len most (jL 10 s) [] 0<|Int.le_refl 0;have a:=MM 10 s;rw[Ct]at h;unfold ln;simp only[eE]at h;omega
theorem recover_eq(N:Nat)(hN:60002<=N)(d:iV)(a:d.wait.length<=9223372036854775807):oJ N d=aj (aaP d):=by
  unfold oJ aaP SY;rw[MB N hN d a,bnd];by_cases h:jh d=0
  · obtain⟨e,_⟩:=xz h;have k1:=aaQ 120 d.safe;rw[dF V,cond_false,if_neg V,aaO N d.safe 120 hN V V,bnd,gI,aaO N d.wait _ hN V V,bnd];have k2:=aaQ (120-((ln 120 d.safe).1.length:Int)) d.wait;generalize ln (120-((ln 120 d.safe).1.length:Int)) d.wait=y at*;obtain⟨c,f,b⟩:=y;simp only at k2⊢;obtain⟨m,rfl⟩:=bs k2.1;rw[show(0:Int)=((0:Nat):Int)from rfl,Tx V V,bnd,ke,bcat _ _ (by simp;omega),bnd,ky ⟨by omega,by omega⟩,bh]
  · rw[dT h,cond_true,if_pos h];rfl
def Ao(r:Rec):Str:=wR 32 ((nl r).map dq)
def Gl(l:List Rec):Prop:=∀r∈l,dV r=0/\QT r
def txt:List Rec->Str
 |[]=>[]
 |r::l=>Ao r++10::txt l
theorem NG:∀(a b:List Rec),txt (a++b)=txt a++txt b
 |[],b=>rfl
 |r::a,b=>by simp[txt,NG a b]
theorem mem_joinC(c:UInt8):∀(l:List Str) (x:UInt8),x∈wR c l->x=c\/∃w∈l,x∈w
  |[],x,h=>by simp[wR,Lib.join_nil]at h
  |[y],x,h=>by rw[Cs]at h;exact .inr ⟨y,by simp,h⟩
  |y::z::l,x,h=>by
    rw[zw]at h;rcases cE.1 h with h|h
    · exact .inr ⟨y,by simp,h⟩
    · rcases bn.1 h with h|h
      · exact .inl h
      · rcases mem_joinC c (z::l) x h with h|⟨w,hw,h⟩
        · exact .inl h
        · exact .inr ⟨w,bj _ hw,h⟩
theorem line_free(r:Rec):(10:UInt8)∉Ao r:=by
  intro h;rcases mem_joinC 32 _ _ h with h|⟨w,hw,h⟩
  · exact absurd h zq1
  · obtain⟨n,_,rfl⟩:=dJ.1 hw;exact itoa_free zq1 h
theorem Xl:∀(l:List Rec) (t:Str),jL 10 (txt l++t)=l.map Ao++jL 10 t
 |[],t=>rfl
 |r::l,t=>by
  rw[txt,ck,eo,BX (line_free r),Xl l t];rfl
theorem lnP_txt(most:Int):∀(rs:List Rec) (q:List Str) (l:List Rec) (n:Int),Gl rs->q≠[]->((l.length+rs.length:Nat):Int)<=most->Tg most (rs.map Ao++q) l n=Tg most q (l++rs) (n+((txt rs).length:Int))
 |[],q,l,n,_,_,_=>by simp[txt]
 |r::rs,q,l,n,h,hq,hl=>by
  obtain⟨b,c⟩:=h r zq3;simp only[bw]at hl;have d:nW (Ao r)=(r,0):=aaN b c;rw[cj,eo,lnP_cons (by simp[hq]),d,if_neg zq3,if_neg V,lnP_txt most rs q (l++[r]) _ (fun x a=>h x (bj _ a)) hq (by simp;omega)];simp only[txt,bk,bw,ck,eo,cD];congr 1;omega
theorem ln_txt{most:Int}{rs:List Rec}(t:Str)(h:Gl rs)(a:(rs.length:Int)<=most):ln most (txt rs++t)=Tg most (jL 10 t) rs ((txt rs).length:Int):=by
 unfold ln;rw[Xl,lnP_txt most rs _ [] 0 h (Ic 10 t) (by simpa using a)];simp
theorem ln_all{most:Int}{rs:List Rec}(h:Gl rs)(a:(rs.length:Int)<=most):ln most (txt rs)=(rs,((txt rs).length:Int),0):=by
 have:=ln_txt (most:=most) [] h a;rw[eI]at this;rw[this];simp[jL,Tg]
theorem ln_torn{most:Int}{rs:List Rec}{t:Str}(h:Gl rs)(a:(rs.length:Int)<=most)(b:(10:UInt8)∉t):(ln most (txt rs++t)).1=rs/\(ln most (txt rs++t)).2.1=((txt rs).length:Int):=by
 rw[ln_txt t h a,J5 b];unfold Tg;split<;>simp
theorem Iq{a:List Rec}{w:Str}(h:Gl a)(c:a.length<=120)(b:(txt a).length+w.length<=60000):jh ⟨txt a,w⟩=0:=by
 unfold jh;show(if 60000<(txt a).length\/60000<(txt a).length+w.length then(2:Int)else(ln 120<|txt a).2.2)=0;rw[if_neg V,ln_all h V]
theorem put_txt{a b:List Rec}{r:Rec}(f:Gl a)(i:a.length<=120)(g:(txt a).length+(txt b).length<=60000)(w:QT r):
    (xD ⟨txt a,txt b⟩ r).2≠0\/(xD ⟨txt a,txt b⟩ r=(⟨txt a,txt (b++[r])⟩,0)/\dV r=0/\(txt a).length+(txt (b++[r])).length<=60000):=by
  unfold xD putT;rw[if_neg (by rw[Iq f i g];simp)];by_cases h:dV r=0
  · have e:yj r=(Ao r,0):=text_ok h;rw[e];simp only[ne_eq,not_true_eq_false,if_false];by_cases c:60000<(txt a).length+(txt b).length+(Ao r).length+1
    · rw[if_pos c];left;simp
    · rw[if_neg c];right;have d:txt (b++[r])=txt b++Ao r++[10]:=by rw[NG];simp[txt]
      refine⟨by rw[d],h,by rw[d];simp;omega⟩
  · have e:yj r=([],dV r):=by unfold yj;rw[if_neg h]
    rw[e,if_pos h];exact .inl h
theorem sync_txt{a b:List Rec}(c:Gl a)(d:Gl b)(g:a.length+b.length<=120)(f:(txt a).length+(txt b).length<=60000):GV ⟨txt a,txt b⟩=(⟨txt (a++b),[]⟩,0):=by
 have h:Gl (a++b):=fun r e=>(cE.1 e).elim (c r)<|d r;unfold GV syncT;rw[if_neg (by rw[Iq c V f];simp)];show(if jh ⟨txt a++txt b,[]⟩≠0 then _ else _)=_;rw[<-NG,if_neg (by rw[Iq h (by simpa using g) (by rw[NG];simp;omega)];simp)]
theorem take_txt:∀(b:List Rec) (m:Nat),∃k t,(txt b).take m=txt (b.take k)++t/\(10:UInt8)∉t
  |[],m=>⟨0,[],by simp[txt],by simp⟩
  |r::b,m=>by
    by_cases h:m<=(Ao r).length
    · refine⟨0,(Ao r).take m,?_,fun a=>line_free r<|List.mem_of_mem_take a⟩;simp only[sX,txt,cD];rw[List.take_append_of_le_length h]
    · obtain⟨k,t,c,d⟩:=take_txt b<|m-(Ao r).length-1;refine⟨k+1,t,?_,d⟩;rw[qg,txt,txt,List.take_append,List.take_of_length_le V,ck,eo,<-c];congr 1;rw[show m-(Ao r).length=(m-(Ao r).length-1)+1 by omega,qg];simp
theorem JO:Gl []:=fun r h=>by cases h
theorem coSame(a b:List Co):M8 a b=aj (ab (a=b)):=by
  unfold M8;by_cases h:a.length=b.length
  · rw[dF V];simp only[cond_false];rw[Rj (fun x y=>ab (x=y)) a b h rfl (fun i x y j c=>by
      unfold I7 DX;rw[jP,c];simp only[bnd,eqInt];have e:(((ab (x.kz=y.kz)&&ab (x.aJ=y.aJ))&&ab (x.offered=y.offered))&&ab (x.image=y.image))=ab (x=y):=by
        cases x;cases y;rw[et];simp;exact⟨fun⟨⟨⟨g,c⟩,d⟩,f⟩=>⟨g,c,f,d⟩,fun⟨g,c,f,d⟩=>⟨⟨⟨g,c⟩,d⟩,f⟩⟩
      rw[<-e];cases ((ab (x.kz=y.kz)&&ab (x.aJ=y.aJ))&&ab (x.offered=y.offered))<;>cases ab (x.image=y.image)<;>rfl),P6 (fun _ _=>rfl)]
  · rw[dT V];have:a≠b:=fun e=>h (by rw[e]);rw[dF this];rfl
def coOk(x:Co):Prop:=0<=x.kz/\x.kz<=2/\1<=x.aJ/\x.aJ<=100/\ -1<=x.offered/\x.offered<=2/\1<=x.image.length/\x.image.length<=1200
def rg(x:Co):Bool:=(((((ab ((x.kz:Int)<0)||ab ((3:Int)<=x.kz))||ab ((x.aJ:Int)<1))||ab ((100:Int)<x.aJ))||ab ((x.offered:Int)< -1))||ab ((3:Int)<=x.offered))
def mn(x:Co):Bool:=(ab (((x.image.length:Int):Int)=0)||ab ((1200:Int)<(x.image.length:Int)))
theorem rg_eq(x:Co):(((!(bu x.kz 0 2))||(!(bu x.aJ 1 100)))||(!(bu x.offered (-1) 2)))=rg x:=by
 unfold bu rg;rw[et];simp;omega
theorem mn_eq(x:Co):(!(bu (x.image.length:Int) 1 1200))=mn x:=by
 have hn:0<=(x.image.length:Int):=by omega
 unfold bu mn;generalize (x.image.length:Int)=n at hn⊢;rw[et];simp;omega
theorem coOk_iff(x:Co):coOk x↔rg x=ao/\mn x=false:=by
 have hn:0<=(x.image.length:Int):=by omega
 unfold coOk rg mn;rw[show(1<=x.image.length)=(1<=(x.image.length:Int)) by simp;omega,show(x.image.length<=1200)=((x.image.length:Int)<=1200) by simp;omega];generalize (x.image.length:Int)=n at hn⊢;simp;omega
theorem chkEq(a:List Co):Ki a=aj (ig a):=by
  unfold Ki ig;by_cases h:(3:Int)<(a.length:Int)
  · rw[dT h];rfl
  · rw[dF h];simp only[cond_false];have e:∀(k:List Co) (i:Nat) (b:Int),(∀j,k[j]? =a[i+j]?)->(i=0->b= -1)->(∀j,i=j+1->∃y,a[j]? =aj y/\y.kz=b)->i<=a.length->gU (yC a) BO (i:Int) k ()=aj (each j5 lq k b):=by
      intro k;induction k with
      |nil=>intro i b _ _ _ _;rfl
      |cons x k ih=>
        intro i b l n p r;rw[qU,gW];have f:a[i]? =aj x:=by have:=l 0;simpa using this.symm
        have q:i<a.length:=by
          rcases cF i a.length with h|h
          · exact h
          · rw[bt h]at f;cases f
        have c:=ih (i+1) x.kz (fun j=>by have:=l (j+1);simpa[jv,Nat.add_comm 1 j]using this) V (fun j m=>⟨x,by rw[show j=i by omega];exact f,Z⟩) V;rw[show((i+1:Nat):Int)=(i:Int)+1 from rfl]at c;generalize gU (yC a) BO ((i:Int)+1) k=nx at c⊢;generalize each j5 lq k=nx2 at c⊢;unfold yC j5;rw[rg_eq,mn_eq,<-rg,<-mn];cases hr:rg x with
        |true=>rfl
        |false=>
        cases hm:mn x with
        |true=>rfl
        |false=>
        have g:=(coOk_iff x).2 ⟨hr,hm⟩;simp only[cond_false];unfold BN;cases i with
        |zero=>
          rw[n rfl,dF (show¬x.kz<= -1 by have:=g.1;omega)];simpa using c
        |succ j=>
          obtain⟨y,o,d⟩:=p j Z;rw[dT (show(0:Int)<((j+1:Nat):Int) by omega),show((j+1:Nat):Int)-1=(j:Int) by omega,gI,jP,o];simp only[cond_true,bnd,d];cases ab (x.kz<=b)with
          |true=>rfl
          |false=>exact c
    exact e a 0 (-1) (fun j=>by simp) (fun _=>rfl) (fun j m=>by omega) V
abbrev Up(l:List Co):Prop:=l.Pairwise (fun x y=>x.kz<y.kz)
theorem each_ok:∀(l:List Co) (a:Int),each j5 lq l a=0↔(∀x∈l,coOk x)/\Up l/\∀x∈l,a<x.kz
  |[],a=>by simp[rz,lq]
  |x::r,a=>by
    rw[gW];have g:=each_ok r x.kz;generalize each j5 lq r=nx at g⊢;unfold j5;rw[rg_eq,mn_eq];have c:=coOk_iff x;cases hr:rg x with
    |true=>
      simp only[cond_true];constructor
      · intro h;exact absurd h zq1
      · intro h;have:=(c.1<|h.1 x eN).1;rw[hr]at this;cases this
    |false=>
    cases hm:mn x with
    |true=>
      simp only[cond_true,cond_false];constructor
      · intro h;exact absurd h zq1
      · intro h;have:=(c.1<|h.1 x eN).2;rw[hm]at this;cases this
    |false=>
    have ho:=c.2 ⟨hr,hm⟩;simp only[cond_false];by_cases i:x.kz<=a
    · rw[dT i];simp only[cond_true];constructor
      · intro h;exact absurd h zq1
      · intro h;have:=h.2.2 x eN;omega
    · rw[dF i];simp only[cond_false];rw[g];show _↔_/\oS _ (x::r)/\_;rw[du];constructor
      · rintro⟨e,f,d⟩;refine⟨?_,⟨d,f⟩,?_⟩
        · intro y b;rcases bn.1 b with rfl|b
          · exact ho
          · exact e y b
        · intro y b;rcases bn.1 b with rfl|b
          · omega
          · have:=d y b;omega
      · rintro⟨e,⟨f,d⟩,j⟩;exact⟨fun y b=>e y<|bj _ b,d,f⟩
structure Good(l:List Co):Prop where
 len:l.length<=3
 ok:∀x∈l,coOk x
 up:Up l
theorem good_iff(l:List Co):ig l=0↔Good l:=by
  unfold ig;by_cases h:(3:Int)<(l.length:Int)
  · rw[dT h];simp only[cond_true];exact⟨fun h=>absurd h zq1,fun g=>by have:=g.len;omega⟩
  · rw[dF h];simp only[cond_false];rw[each_ok];exact⟨fun⟨b,c,_⟩=>⟨by omega,b,c⟩,fun g=>⟨g.ok,g.up,fun x a=>by have:=(g.ok x a).1;omega⟩⟩
def Ia(c:Co):List Co->List Co
 |[]=>[c]
 |x::r=>if x.kz<c.kz then x::Ia c r else c::x::r
def Oi(b:Rec)(l:List Co):List Co:=l.filter fun x=>ab (x.kz≠b.co)
def S9(b:Rec)(l:List Co):Option Co:=l.find? fun x=>ab (x.kz=b.co)
def iI(a:List Co)(b:Rec):List Co×Int:=
 if ig a≠0 then([],ig a)else if ic b≠0 then([],ic b)else
 match S9 b a with
 |none=>if b.kind=1\/b.kind=4 then(if(ab (b.aJ=1) !=ab (b.kind=1))=ba then([],7)else(Ia ⟨b.co,b.aJ,b.image,-1⟩ (Oi b a),0))else([],5)
 |some c=>if b.kind=1\/b.kind=4 then([],6)else if(ab (b.aJ≠c.aJ)||(ab (c.offered≠ -1) !=ab (b.kind=5)))=ba then([],7)else
  if b.kind=5 then(Oi b a,0)else if b.kind=2 then(Ia ⟨c.kz,c.aJ,b.image,c.offered⟩ (Oi b a),0)else if c.aJ=100 then([],2)else(Ia ⟨c.kz,c.aJ,c.image,b.place⟩ (Oi b a),0)
theorem oth_up(b:Rec){l:List Co}(h:Up l):Up (Oi b l):=h.filter _
theorem Yo{b:Rec}{l:List Co}{x:Co}(h:x∈Oi b l):x∈l/\x.kz≠b.co:=by
 unfold Oi at h;rw[sx]at h;exact⟨h.1,by simpa using h.2⟩
theorem coCopy{a:List Co}(h:a.length<=3)(e:∀x∈a,x.image.length<=1200):IZ a=aj a:=by
 unfold IZ;rw[rJ V V];simp only[bnd,bh];have c:∀(m i:Nat),i+m=a.length->upto vU Bu (i:Int) m a=aj a:=by
  intro m;induction m with
  |zero=>intro i _;rfl
  |succ m ih=>
   intro i f;have d:i<a.length:=by omega
   show vU (i:Int) a (upto vU Bu ((i:Int)+1) m)=_;have b:=ih (i+1) V;rw[show((i+1:Nat):Int)=(i:Int)+1 from rfl]at b;generalize upto vU Bu ((i:Int)+1) m=nx at b⊢;unfold vU;rw[xM d];have:=e a[i]<|cx d;simp only[bnd];rw[rJ V V];simp only[bnd,bh];rw[show({a[i]with image:=a[i].image}:Co)=a[i]from rfl,lR];exact b
 simpa using c a.length 0 V
theorem findEq(a:List Co)(k:Int):qZ a k=aj (match a.findIdx? (fun x=>ab (x.kz=k))with|some n=>(n:Int)|none=> -1):=by
 unfold qZ;simp only[bh];rw[P7 (fun x=>ab (x.kz=k)) (fun i=>aj i) a (fun i x c b=>by
  unfold KI;rw[jP,b];rfl)]
 cases a.findIdx? (fun x=>ab (x.kz=k))<;>rfl
theorem UT(b:Rec):∀(a:List Co),(S9 b a=aw/\a.findIdx? (fun x=>ab (x.kz=b.co))=aw/\Oi b a=a)\/
    ∃n x,S9 b a=aj x/\a.findIdx? (fun x=>ab (x.kz=b.co))=aj n/\a[n]? =aj x/\x.kz=b.co
  |[]=>.inl ⟨rfl,rfl,rfl⟩
  |x::r=>by
    unfold S9 Oi;rw[List.find?_cons,qv,gR];by_cases h:x.kz=b.co
    · exact .inr ⟨0,x,by simp[h],by simp[h],Z,h⟩
    · simp only[h,decide_false,cM,if_false,ne_eq,not_false_eq_true,decide_true,if_true];rcases UT b r with⟨h1,h2,h3⟩|⟨n,y,h1,h2,h3,h4⟩
      · exact .inl ⟨h1,by rw[h2];rfl,by unfold Oi at h3;rw[h3]⟩
      · exact .inr ⟨n+1,y,h1,by rw[h2];rfl,by simpa using h3,h4⟩
theorem Yp(b:Rec):∀(a:List Co) (n:Nat) (x y:Co),Up a->a[n]? =aj x->x.kz=b.co->y.kz=b.co->a.set n y=Ia y (Oi b a)
 |[],n,x,y,_,h,_,_=>by simp at h
 |z::r,0,x,y,hu,h,hx,hy=>by
  simp only[lf,eA]at h;subst h;rw[Up,du]at hu;have d:Oi b (z::r)=r:=by
   unfold Oi;rw[gR,if_neg (by simp[hx]),mL];intro u c;have:=hu.1 u c;simp;omega
  rw[d,List.set_cons_zero];cases r with
  |nil=>rfl
  |cons u r=>
   have:=hu.1 u eN;simp only[Ia];rw[if_neg V]
 |z::r,n+1,x,y,hu,h,hx,hy=>by
  simp only[pb]at h;rw[Up,du]at hu;have hz:=hu.1 x<|fl h;have d:Oi b (z::r)=z::Oi b r:=by unfold Oi;rw[gR,if_pos (by simp;omega)]
  rw[d,List.set_cons_succ,Yp b r n x y hu.2 h hx hy];simp only[Ia];rw[if_pos V]
theorem del_oth(b:Rec):∀(a:List Co) (n:Nat) (x:Co),Up a->a[n]? =aj x->x.kz=b.co->a.take n++a.drop (n+1)=Oi b a
 |[],n,x,_,h,_=>by simp at h
 |z::r,0,x,hu,h,hx=>by
  simp only[lf,eA]at h;subst h;rw[Up,du]at hu;unfold Oi;rw[gR,if_neg (by simp[hx])];have:r.filter (fun x=>decide<|x.kz≠b.co)=r:=by
   rw[mL];intro u c;have:=hu.1 u c;simp;omega
  rw[this];simp
 |z::r,n+1,x,hu,h,hx=>by
  simp only[pb]at h;rw[Up,du]at hu;have hz:=hu.1 x<|fl h;have d:Oi b (z::r)=z::Oi b r:=by unfold Oi;rw[gR,if_pos (by simp;omega)]
  rw[d,<-del_oth b r n x hu.2 h hx];simp
theorem ins_loop(b:Rec)(a:List Co)(g:a.length<=3)(f:b.image.length<=1200):∀(k i N:Nat),i+k=a.length->k<N->again (kL a b) N (i:Int)=aj (a.take i++Ia ⟨b.co,b.aJ,b.image,-1⟩ (a.drop i),0)
  |0,i,N+1,h,_=>by
    show kL a b (i:Int) (again (kL a b) N)=_;generalize again (kL a b) N=nx;unfold kL zY;rw[dF V];simp only[cond_false];rw[rJ V V];simp only[bnd];rw[ky (Room.mk (by simp;omega) (by simp;omega)),ins1,if_pos ⟨by omega,by omega⟩];rw[cC (show a.length<=i by omega)];simp[Ia,show a.drop i=[]from cC V]
  |k+1,i,N+1,h,hN=>by
    have c:i<a.length:=by omega
    have e:=ins_loop b a g f k (i+1) N V V;rw[show((i+1:Nat):Int)=(i:Int)+1 from rfl]at e;show kL a b (i:Int) (again (kL a b) N)=_;generalize again (kL a b) N=nx at e⊢;unfold kL zY;rw[dT V,xM c];simp only[cond_true,bnd];by_cases d:a[i].kz<b.co
    · rw[dT d];simp only[cond_true];rw[gI,e,cP c];simp only[Ia];rw[if_pos d,List.take_succ_eq_append_getElem c,ck,pw]
    · rw[dF d];simp only[cond_false];rw[rJ V V];simp only[bnd];rw[ky (Room.mk (by simp;omega) (by simp;omega)),ins1,if_pos ⟨by omega,by omega⟩];simp only[bnd,bh];rw[cP c];simp only[Ia];rw[if_neg d,ck,pw]
theorem next_eq(N:Nat)(hN:5<N)(a:List Co)(b:Rec):EO N a b=aj (iI a b):=by
  unfold EO iI;rw[chkEq];simp only[bnd];by_cases f:ig a=0
  · rw[rec_eq];by_cases i:ic b=0
    · have g:=(good_iff a).1 f;have gr:=aaJ b i;have gl:=g.len;rw[f,i];simp only[ne_eq,not_true_eq_false,decide_false,cond_false,if_false];rw[coCopy g.len (fun x p=>(g.ok x p).2.2.2.2.2.2.2)];simp only[bnd];rw[findEq];simp only[bnd];have t:=gr.kind;have e:(ab ((b.kind:Int)=1)||ab ((b.kind:Int)=4))=ab (b.kind=1\/b.kind=4):=by simp
      rw[e];rcases UT b a with⟨e1,e2,e3⟩|⟨n,c,e1,e2,e3,e4⟩
      · rw[e1,e2];simp only;by_cases d:b.kind=1\/b.kind=4
        · rw[dT d,if_pos d];simp only[cond_true];rw[show ab ((0:Int)<= -1)=ao by decide];simp only[cond_false];have s:((ab ((b.kind:Int)=1)&&ab ((b.aJ:Int)≠1))||(ab ((b.kind:Int)=4)&&ab ((b.aJ:Int)=1)))=(ab (b.aJ=1) !=ab (b.kind=1)):=by
            by_cases q:b.aJ=1
            · rcases d with k|k<;>simp[q,k]
            · rcases d with k|k<;>simp[q,k]
          rw[s];cases (ab (b.aJ=1) !=ab (b.kind=1))with
          |true=>rfl
          |false=>
            simp only[cond_false,cM,if_false];have:=ins_loop b a g.len gr.image a.length 0 N V V;simp only[Int.natCast_zero,sX,ke,cD]at this;rw[this,e3]
        · rw[dF d,if_neg d];simp only[cond_false];rw[show ab ((-1:Int)<0)=ba by decide];rfl
      · have hn:n<a.length:=by
          rcases cF n a.length with h|h
          · exact h
          · rw[bt h]at e3;cases e3
        have l:=g.ok c<|fl e3;rw[e1,e2];simp only;by_cases d:b.kind=1\/b.kind=4
        · rw[dT d,if_pos d];simp only[cond_true];rw[dT (show(0:Int)<=(n:Int) by omega)];rfl
        · rw[dF d,if_neg d];simp only[cond_false];rw[dF (show¬(n:Int)<0 by omega),jP,e3];simp only[cond_false,bnd];have ho:ab ((0:Int)<=c.offered)=ab (c.offered≠ -1):=by
            rw[decide_eq_decide];have:=l.2.2.2.2.1;omega
          have r:(bif ab (c.aJ≠b.aJ)then uf b a (n:Int) c ba else uf b a (n:Int) c (ab (b.kind=5) !=ab ((0:Int)<=c.offered)))=uf b a (n:Int) c (ab (b.aJ≠c.aJ)||(ab (c.offered≠ -1) !=ab (b.kind=5))):=by
            rw[ho];by_cases q:b.aJ=c.aJ
            · rw[q];simp only[ne_eq,not_true_eq_false,decide_false,cond_false,oL];cases ab (b.kind=5)<;>cases ab (¬c.offered= -1)<;>rfl
            · rw[show ab (c.aJ≠b.aJ)=ba from dT (fun h=>q h.symm),show ab (b.aJ≠c.aJ)=ba from dT q];rfl
          refine r.trans ?_;unfold uf;cases (ab (b.aJ≠c.aJ)||(ab (c.offered≠ -1) !=ab (b.kind=5)))with
          |true=>rfl
          |false=>
            simp only[cond_false,cM,if_false];by_cases k2:b.kind=2
            · rw[dT k2,if_neg V,if_pos k2];simp only[cond_true];rw[rJ (by have:=gr.image;omega) (by have:=gr.image;omega)];simp only[bnd,bh];rw[Yp b a n c {c with image:=b.image} g.up e3 e4 e4]
            · rw[dF k2,if_neg k2];simp only[cond_false];by_cases m:b.kind=3
              · rw[dT m,if_neg V];simp only[cond_true];by_cases j:c.aJ=100
                · rw[dT j,if_pos j];rfl
                · rw[dF j,if_neg j];simp only[cond_false,bh];rw[Yp b a n c {c with offered:=b.place} g.up e3 e4 e4]
              · have o:b.kind=5:=by omega
                rw[dF m,dT o,if_pos o];simp only[cond_false,cond_true];rw[gI,del_s1 hn];simp only[bnd];rw[del_oth b a n c g.up e3 e4]
    · rw[f];simp only[ne_eq,not_true_eq_false,decide_false,cond_false,if_false];rw[show ab (¬ic b=0)=ba from dT i,if_pos i];rfl
  · rw[show ab (ig a≠0)=ba from dT f,if_pos f];rfl
def jC:List Co->List Rec->List Co×Int
 |s,[]=>(s,0)
 |s,r::l=>if(iI s r).2≠0 then([],(iI s r).2)else jC (iI s r).1 l
theorem rep_each(N:Nat)(hN:5<N):∀(l:List Rec) (s:List Co),each (BP N) BQ l s=aj (jC s l)
  |[],s=>by simp[rz,BQ,jC]
  |r::l,s=>by
    rw[gW,BP,next_eq N hN,bnd,jC];by_cases h:(iI s r).2=0
    · rw[dF V,cond_false,if_neg V,rep_each N hN l]
    · rw[dT h,cond_true,if_pos h]
theorem Xm(N:Nat)(hN:5<N)(l:List Rec):AJ N l=aj (if 120<l.length then([],2)else jC [] l):=by
  unfold AJ;by_cases h:120<l.length
  · rw[dT V,cond_true,if_pos h]
  · rw[dF V,cond_false,if_neg h,rep_each N hN]
theorem pRep_app:∀(a b:List Rec) (s:List Co),jC s (a++b)=if(jC s a).2≠0 then([],(jC s a).2)else jC (jC s a).1 b
  |[],b,s=>by simp[jC]
  |r::a,b,s=>by
    rw[eo,jC,jC];by_cases h:(iI s r).2=0
    · simp only[h,ne_eq,not_true_eq_false,if_false];exact pRep_app a b _
    · simp[h]
theorem PU{c y:Co}:∀{l:List Co},y∈Ia c l↔y=c\/y∈l
  |[]=>by simp[Ia]
  |x::r=>by
    unfold Ia;split
    · rw[bn,PU,bn];constructor
      · rintro(h|h|h)
        · exact .inr<|.inl h
        · exact .inl h
        · exact .inr<|.inr h
      · rintro(h|h|h)
        · exact .inr<|.inl h
        · exact .inl h
        · exact .inr<|.inr h
    · rw[bn]
theorem Gm{c:Co}:∀{l:List Co},(Ia c l).length=l.length+1
  |[]=>rfl
  |x::r=>by
    unfold Ia;split
    · rw[bw,Gm,bw]
    · rfl
theorem insC_up{c:Co}:∀{l:List Co},Up l->(∀x∈l,x.kz≠c.kz)->Up (Ia c l)
  |[],_,_=>by simp[Ia,Up]
  |x::r,h,hn=>by
    rw[Up,du]at h;have b:=hn x eN;unfold Ia;split
    · next hl=>
      show oS _ _;rw[du];refine⟨fun y a=>?_,insC_up h.2 fun y a=>hn y<|bj _ a⟩;rcases PU.1 a with rfl|a
      · exact hl
      · exact h.1 y a
    · next hl=>
      show oS _ _;rw[du,du];refine⟨fun y a=>?_,h.1,h.2⟩;rcases bn.1 a with rfl|a
      · omega
      · have:=h.1 y a;omega
theorem find_of{l:List Co}(b:Up l){x:Co}(a:x∈l):∃n,l.findIdx? (fun y=>ab (y.kz=x.kz))=aj n/\l[n]? =aj x/\n<l.length:=by
  induction l with
  |nil=>cases a
  |cons z r ih=>
    rw[Up,du]at b;rw[qv];rcases bn.1 a with rfl|a
    · exact⟨0,by simp,Z,by simp⟩
    · have:=b.1 x a;obtain⟨n,c,d,e⟩:=ih b.2 a;exact⟨n+1,by rw[if_neg (by simp;omega),c];rfl,by simpa using d,by simp;omega⟩
theorem next_ok(a:List Co)(b:Rec)(h:(iI a b).2=0):Good a/\Good (iI a b).1/\a.length<=(iI a b).1.length+1/\(iI a b).1.length<=a.length+1/\(∀x∈a,x.kz≠b.co->x∈(iI a b).1)/\(∀x∈a,x.kz=b.co->0<=x.offered->b.kind=5):=by
  unfold iI at h⊢;by_cases s:ig a=0
  · by_cases t:ic b=0
    · have g:=(good_iff a).1 s;have gr:=aaJ b t;have gl:=g.len;have B:=gr.co;rw[if_neg (by simpa using s),if_neg (by simpa using t)]at h⊢;have j:∀x∈a,x.kz≠b.co->x∈Oi b a:=fun x f hn=>by unfold Oi;rw[sx];exact⟨f,by simpa using hn⟩
      have k:∀c:Co,coOk c->c.kz=b.co->(Oi b a).length<=2->Good (Ia c (Oi b a)):=fun c M N R=>⟨by rw[Gm];omega,fun x f=>by
        rcases PU.1 f with rfl|f
        · exact M
        · exact g.ok x (Yo f).1,insC_up (oth_up b g.up) (fun x f=>by have:=(Yo f).2;omega)⟩
      rcases UT b a with⟨e1,e2,e3⟩|⟨n,c,e1,e2,e3,e4⟩
      · rw[e1]at h⊢;simp only at h⊢;have hno:∀x∈a,x.kz≠b.co:=fun x f e=>by
          unfold S9 at e1;rw[List.find?_eq_none]at e1;exact e1 x f (by simpa using e)
        by_cases q:b.kind=1\/b.kind=4
        · rw[if_pos q]at h⊢;cases hq:(ab (b.aJ=1) !=ab (b.kind=1))with
          |true=>rw[hq,if_pos Z]at h;exact absurd h zq1
          |false=>
            rw[hq]at h;simp only[cM,if_false]at h⊢;have w:a.length<=2:=by
              match a,g,hno with
              |[],_,_=>simp
              |[x],_,_=>simp
              |[x,y],_,_=>simp
              |[x,y,z],g,hno=>
                have I:=g.up;simp[Up]at I;have o1:=g.ok x zq3;have o2:=g.ok y zq3;have K:=g.ok z zq3;have S:=hno x zq3;have P:=hno y zq3;have O:=hno z zq3;unfold coOk at o1 o2 K;omega
              |x::y::z::u::r,g,_=>have:=g.len;simp at this
            have v:=gr.has V;refine⟨g,k _ ⟨B.1,B.2,gr.aJ.1,gr.aJ.2,by simp,by simp,v,gr.image⟩ Z (by rw[e3];exact w),?_,?_,fun x f hn=>PU.2 (.inr (j x f hn)),fun x f e=>absurd e (hno x f)⟩
            · rw[Gm,e3];omega
            · rw[Gm,e3];omega
        · rw[if_neg q]at h;exact absurd h zq1
      · rw[e1]at h⊢;simp only at h⊢;have hn:n<a.length:=by
          rcases cF n a.length with h|h
          · exact h
          · rw[bt h]at e3;cases e3
        have L:(Oi b a).length+1=a.length:=by
          rw[<-del_oth b a n c g.up e3 e4];simp;omega
        have d:=g.ok c<|fl e3;have o:∀x∈a,x.kz=b.co->x=c:=by
          intro x f p;obtain⟨m,C,F,_⟩:=find_of g.up f;rw[p,e2]at C;cases C;rw[e3]at F;exact(osi F).symm
        by_cases q:b.kind=1\/b.kind=4
        · rw[if_pos q]at h;exact absurd h zq1
        · rw[if_neg q]at h⊢;cases hq:(ab (b.aJ≠c.aJ)||(ab (c.offered≠ -1) !=ab (b.kind=5)))with
          |true=>rw[hq,if_pos Z]at h;exact absurd h zq1
          |false=>
            rw[hq]at h;simp only[cM,if_false]at h⊢;have i:∀x∈a,x.kz=b.co->0<=x.offered->b.kind=5:=by
              intro x f p Q;have:=o x f p;subst this;rw[cX]at hq;have A:=hq.2;rw[show ab (x.offered≠ -1)=ba from dT V]at A;cases h5:ab (b.kind=5)with
              |true=>exact Yg h5
              |false=>rw[h5]at A;cases A
            have l:∀(E:Co) x,x∈a->x.kz≠b.co->x∈Ia E (Oi b a):=fun E x f hn=>PU.2<|.inr<|j x f hn;by_cases G:b.kind=5
            · rw[if_pos G]at h⊢;exact⟨g,⟨by show(Oi b a).length<=3;omega,fun x f=>g.ok x (Yo f).1,oth_up b g.up⟩,by show a.length<=(Oi b a).length+1;omega,by show(Oi b a).length<=a.length+1;omega,j,i⟩
            · rw[if_neg G]at h⊢;by_cases k2:b.kind=2
              · rw[if_pos k2]at h⊢;have v:=gr.has V;refine⟨g,k _ ⟨d.1,d.2.1,d.2.2.1,d.2.2.2.1,d.2.2.2.2.1,d.2.2.2.2.2.1,v,gr.image⟩ e4 V,?_,?_,l _,i⟩
                · rw[Gm];omega
                · rw[Gm];omega
              · rw[if_neg k2]at h⊢;by_cases p:c.aJ=100
                · rw[if_pos p]at h;exact absurd h zq1
                · rw[if_neg p]at h⊢;have hp:=gr.place;refine⟨g,k _ ⟨d.1,d.2.1,d.2.2.1,d.2.2.2.1,by show-1<=b.place;omega,hp.2,d.2.2.2.2.2.2.1,d.2.2.2.2.2.2.2⟩ e4 V,?_,?_,l _,i⟩
                  · rw[Gm];omega
                  · rw[Gm];omega
    · rw[if_neg (by simpa using s),if_pos t]at h;exact absurd h t
  · rw[if_pos s]at h;exact absurd h s
theorem Xn{a:List fI}(h:dN a=0):a.length<=40/\∀x∈a,x.image.length<=1200:=by
  unfold dN at h;by_cases c:(40:Int)<(a.length:Int)
  · rw[decide_eq_true c]at h;cases h
  · rw[decide_eq_false c]at h;refine⟨by omega,?_⟩;simp only[cond_false]at h;clear c;induction a with
    |nil=>intro x b;cases b
    |cons y r ih=>
      rw[gW]at h;unfold Ay at h;generalize e:(((((((ab ((y.from_:Int)<0)||ab ((3:Int)<=y.from_))||ab ((y.jD:Int)<0))||ab ((3:Int)<=y.jD))||ab ((y.co:Int)<0))||ab ((3:Int)<=y.co))||ab ((y.aJ:Int)<2))||ab ((100:Int)<y.aJ))=A at h;cases A with
      |true=>cases h
      |false=>
        simp only[cond_false]at h;generalize d:((y.taken !=ab (((y.image.length:Int):Int)=0))||ab ((1200:Int)<(y.image.length:Int)))=B at h;cases B with
        |true=>cases h
        |false=>
          simp only[cond_false]at h;intro x b;rcases bn.1 b with rfl|b
          · simp only[cX,decide_eq_false_iff_not]at d;omega
          · exact ih h x b
theorem wCopy{a:List fI}(h:a.length<=40)(d:∀x∈a,x.image.length<=1200):Ec a=aj a:=by
 unfold Ec;rw[rJ V V];simp only[bnd,bh];have b:∀(m i:Nat),i+m=a.length->upto CO Kl (i:Int) m a=aj a:=by
  intro m;induction m with
  |zero=>intro i _;rfl
  |succ m ih=>
   intro i e;have c:i<a.length:=by omega
   show CO (i:Int) a (upto CO Kl ((i:Int)+1) m)=_;unfold CO;rw[xM c];have:=d a[i]<|cx c;simp only[bnd];rw[rJ V V];simp only[bnd,bh];rw[show({a[i]with image:=a[i].image}:fI)=a[i]from rfl,lR];exact ih (i+1) V
 simpa using b a.length 0 V
theorem b_t{p:Prop} [Decidable p](h:p):decide p=true:=decide_eq_true h
theorem b_f{p:Prop} [Decidable p](h:¬p):decide p=false:=decide_eq_false h
theorem wSend(a:List fI)(b:fI):Pf a b=aj (if dN a≠0 then([],dN a)else if dN [b]≠0 then([],dN [b])else(if a.length<40 then a++[b]else a,0)):=by
  unfold Pf;by_cases c:dN a≠0
  · rw[b_t c,if_pos c];rfl
  · rw[b_f c,if_neg c];by_cases d:dN [b]≠0
    · rw[b_t d,if_pos d];rfl
    · rw[b_f d,if_neg d];have c1:=Xn<|ei.1 c;have c2:=Xn<|ei.1 d;simp only[cond_false,wCopy c1.1 c1.2,wCopy c2.1 c2.2,bnd];by_cases e:(a.length:Int)<40
      · rw[b_t e,if_pos V];simp only[cond_true];exact ky (Room.mk (by simp;omega) (by simp;omega))
      · rw[b_f e,if_neg V];rfl
def zMail:fI:=⟨0,0,0,0,ao,[]⟩
theorem wTake(a:List fI)(k:Int)(t:Bool):Jh a k t=aj (if dN a≠0 then([],zMail,dN a)else if k<0\/(a.length:Int)<=k then([],zMail,5)else(if t then a else a.take k.toNat++a.drop (k.toNat+1),(a[k.toNat]?).getD zMail,0)):=by
  unfold Jh Km;by_cases b:dN a≠0
  · rw[b_t b,if_pos b];rfl
  · rw[b_f b,if_neg b];have c1:=Xn<|ei.1 b;by_cases c:k<0\/(a.length:Int)<=k
    · rw[show(ab (k<0)||ab ((a.length:Int)<=k))=ba by simpa using c,if_pos c];rfl
    · rw[show(ab (k<0)||ab ((a.length:Int)<=k))=ao by simpa using c,if_neg c];obtain⟨n,rfl⟩:=bs (show 0<=k by omega);have hn:n<a.length:=by omega
      simp only[cond_false,wCopy c1.1 c1.2,bnd,bh];have g1:kv ((n:Int)+1):=kv.mk V V;rw[ky g1];have f:(n:Int)+1=((n+1:Nat):Int):=rfl;rw[f,Tx V V];have e:=one_at hn;rw[e];simp only[bnd];rw[wCopy zq3 (by intro x d;simp at d;subst d;exact c1.2 _ (cx hn))];simp only[bnd];rw[show idx [a[n]] 0=aj a[n]from rfl];simp only[bnd,bc hn,eJ];cases t with
      |true=>simp only[ej,cond_false,if_true]
      |false=>
        simp only[ka,cond_true];rw[ky (show kv (((n+1:Nat):Int))from kv.mk V V),del_s V V];simp only[bnd,cM,if_false]
end Dk
end Go.Proofs.YtodkbibbgakkdaaGreatDoor