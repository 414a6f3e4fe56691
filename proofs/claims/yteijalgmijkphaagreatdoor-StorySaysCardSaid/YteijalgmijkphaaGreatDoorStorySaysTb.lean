/-
  What the law StorySays needs of our own library and of the walks, no more.
-/
import Derived.WalkKit
import Derived.Laws.StructEq
import Derived.ChangeKeysEq
import Derived.StillTail
import Derived.LoopN
import Derived.Deep.Quiet
import Derived.OrdersHeld
import Derived.Deep.RegionHeld3
import Derived.Deep.Slices
import Derived.MapKept
import Derived.ChangeArms
import Derived.Lib.AppendZeros
import Derived.Lib.Overlaps
import Derived.Laws.CopyRow
import Derived.Shelf.SlSortCmp.SmallK
import Derived.Laws.Pointers
import Derived.Laws.OwnMore
import Derived.Laws.Concat
import Derived.Laws.Strings2
import Derived.Laws.Strings3
import Derived.Laws.IdiomStrings
import Derived.Lib.AppendStr
import Derived.Lib.ConvBytes
import Derived.Lib.LaidTab
import Derived.Lib.ItoaNum
import Derived.WideLaws
import Derived.Lib.SplitLaws
import Derived.Lib.JoinLaws
import Derived.Lib.AtoiAll
import Derived.Lib.ParseIntB
import Derived.Laws.NewFold
import Derived.Lib.Join
import Derived.Sort.Grow
import Derived.Lib.Space
import Derived.Handed
import Derived.LaidMore
import Derived.LaidHandle
import Derived.Stop.LaidErr
import Derived.Shelf.Vars
import Derived.WideShapes
import Derived.Lib.ParseIntBTie
import Derived.Lib.ItoaLen
import Derived.Lib.AtoiAllCases
import Derived.Test.YteijalgmijkphaaGreatDoorStorySaysTa
set_option linter.unusedSimpArgs false
set_option linter.unusedVariables false
set_option maxRecDepth 10000
set_option maxHeartbeats 4000000
open Array renaming ext'->me,ext_getElem?->pR,foldl_toList->uz,getD_eq_getD_getElem?->cM,getElem?_append_left->sT,getElem?_eq_getElem->mY,getElem?_eq_none->og,getElem?_modify->fa,getElem?_setIfInBounds->lE,getElem?_toList->ie,length_toList->cm,ofFn->pP,range->pg,replicate->sn,toList_map->sf,toList_push->vn,toList_setIfInBounds->mj,toList_zipIdx->ub
open Bool renaming eq_false_iff->nf,eq_iff_iff->dm,false_eq_true->de,true_and->iv,false->ar,true->ba
open ByteArray renaming ext->vq,mk->sX,size->oi
open Decidable renaming decide->ab
open Go renaming Addr->nh,Calls->bk,Edge->ix,Ending->mv,Exit->fR,Func->yr,FuncId->hQ,MapEntry->yp,MemPlace->tN,NoPanic->tz,Oper->du,Operand->bj,Program->br,TypeId->aw,Value->aj,World->al,asIntOf->kl,binOp->nF,bodyPost->km,builtin->lz,eqGuard->ga,execOp->bc,getObj->nu,grownCap->jj,grownCap_le_maxLen->Bi,invoke->lP,loadVar->wk,maxLen->mX,newRow->wq,resolve->jt,run_convert_bytes_back->wD,run_eql_pointer_nil->As,run_equal_held_nil->Bm,run_loadCells_list->A5,run_neq_pointer_nil->Ax,run_part_plain->hH,run_program->hd,run_storeCells_at->sL,run_underlying->tP,sizeOf->gQ,size_zeroCells->nV,typeInfo->dt,undef->gj,underlying->cx,wpAnyH->wx,wpAnyH_all->sq,wpList->so,wpList_plain->wi,wpQuiet->tx,wp_region_still_tail->yv,yielded->eg,zeroValue->ma
open Go.Act renaming eval->kd
open Go.Addr renaming add->js
open Go.Builtin renaming append_->jg,copy_->xM,firstCells->pC,lenOf->sM,len_->yi,nextslicecap->ld,zeroCells->cy
open Go.Code renaming cond->tr,loop->xw,region->hX,rounds->ue
open Go.DataW renaming trod->sR,trod_int->yy
open Go.Exit renaming inBlock->kj
open Go.Instr renaming fill->ml,findKey->lr,findNow->Aj,indexAt->zv,keyThatStays->mm,loadAt->ts,lookup->Bh,mapUpdate->ox,sameBits->yB,sameNow->Al,slice->lA,sliceAt->lj,sliceBound->eE,sliceBounds->cX,storeAt->zE,sureAddr->kf
open Go.Lib renaming TabIs->pe,atoiAll->ew,atoiSat->uN,bytesWorld->ra,cellsOf->vd,count->tB,countB->dZ,cut->rv,decDigits->ju,index->mw,intSat->wE,itoa->fi,join->tc,parseIntB->ke,parseUint10->gk,pow10Tab->tS,split->y0,splitB->kp,splitB_all->Bq,splitB_data->AE,splitK->wT,strCells->tR
open Go.Op renaming equalIn->ti,intCmp->pQ
open Go.Oper renaming quietUpon->z6,wp->wj
open Go.Proofs renaming sortWorldK->ij
open Go.Region renaming free->fh,lexTailB->wv,noSelect->dy,ready->cI,wanted->cg
open Go.Result renaming andThen_ok->bn,ok->vl
open Go.Sem renaming run->nc,run_bind->cq,run_ite->uA,run_pure->cV
open Go.Sort renaming HoldsK->uf,ahead->s6,grow->mu,insertionSort->fS,mapBlock->pU,putCells->pZ,putRowK->tA
open Go.Value renaming cells->tI,int->da,oneCell'->eh,ownBlock->sK,string->oy
open Go.World renaming alloc->nb,alloc_eq->kh,cell?->eR,cells?_some->vm,frozen?->pF,shape?->Bj
open Int renaming eq_ofNat_of_zero_le->cC,natCast_mul->An,natCast_nonneg->ka
open List renaming append_assoc->bf,cons_append->eL,drop->pD,drop_append->lp,drop_append_of_le_length->hO,drop_drop->pj,drop_eq_getElem_cons->cF,drop_eq_nil_of_le->cr,drop_left'->yQ,drop_set->A6,drop_take->et,drop_zero->hJ,eq_nil_of_length_eq_zero->cd,ext_getElem?->cN,flatten_cons->ni,getElem?_append->jf,getElem?_drop->ck,getElem?_eq_getElem->bh,getElem?_eq_none->bq,getElem?_map->eo,getElem?_set->iu,getElem?_take->bt,getElem_append_left->fg,getElem_append_right->gh,getElem_drop->rB,getElem_set_ne->qS,getElem_set_self->pk,getElem_take->nj,isPrefixOf->sB,length->fp,length_append->an,length_cons->bl,length_drop->cp,length_map->eF,length_replicate->pn,length_set->cj,length_take->bo,mapM_cons->pH,map_cons->ct,map_nil->gC,map_toArray->hF,mem_append->db,mem_cons->bp,mem_cons_of_mem->bm,mem_cons_self->fj,mem_map->ov,mem_singleton->dq,nil_append->cf,not_mem_nil->cO,replicate->cP,take->ki,take_append_of_le_length->cR,take_left->kz,take_of_length_le->kn,take_set->pS,take_take->dY,zipIdx_cons->xF
open Nat renaming add_assoc->lR,add_mul->bw,beq->gR,ble->oj,blt->se,blt_eq->oT,div_add_mod->z7,div_lt_of_lt_mul->pB,eq_of_beq_eq_true->ir,le_max_left->AD,le_max_right->yW,le_mul_of_pos_right->ot,le_of_ble_eq_true->iz,le_of_eq->oX,le_of_not_lt->yq,le_refl->cv,le_trans->dk,lt_of_lt_of_le->bE,lt_or_ge->cE,lt_succ_self->yz,min->lu,min_eq_left->cL,mod_eq_of_lt->za,mod_lt->oY,mul_comm->mf,mul_le_mul_right->aU,mul_one->pE,not_lt_zero->ia,one_mul->sy,strongRecOn->pd,sub_mul->sA,zero_add->hY,zero_le->gd,zero_mul->tM
open Option renaming bind_some->fb,getD_some->vp,map_some->fm,none->aE,some->ah
open Option.some renaming inj->cG,injEq->fl
open Prod.mk renaming injEq->ky
open UInt8 renaming ofNat->ph,toNat_ofNat'->ve
namespace Go.LX
open Go.RowKit
def act(n:Nat)(env:Nat->aj):Act:={tmps:=pP (n:=n) fun i=>env i.val,defers:=[]}
def upd(env:Nat->aj)(d:Nat)(v:aj):Nat->Value:=fun i=>bif gR i d then v else env i
def ev(n:Nat)(env:Nat->aj):bj->aj
 | .tmp t=>bif se t n then env t else gj
 | .const v=>v
 | .global g=>.pointer (ah ⟨g,0,aE⟩)
 | .func f=>.func (.func f) #[] #[]
def gz(env:Nat->aj):Yw Nat->aj->(Nat->aj)
 |some d,v=>upd env d v
 |none,_=>env
theorem iT(n:Nat)(env:Nat->aj):(act n env).eval=ev n env:=by
  funext x;cases x with
  |tmp t=>
    by_cases h:t<n
    · have a:se t n=true:=by rw[oT];exact h
      simp[kd,act,ev,h,a]
    · have a:se t n=false:=by rw[nf,ne_eq,oT];exact h
      simp[kd,act,ev,h,a]
  |_=>rfl
theorem Hw(n:Nat)(env:Nat->aj)(d:Yw Nat)(v:aj):(act n env).put d v=act n (gz env d v):=by
  cases d with
  |none=>rfl
  |some d=>
    simp only[Act.put,act,gz,Act.mk.injEq,and_true];apply Array.ext
    · simp
    · intro i b f;simp at b;have c:i<(pP (n:=n) fun i=>env i.val).size:=by simp;exact b
      rw[Array.getElem_setIfInBounds c];by_cases a:d=i
      · subst a;simp[upd,Nat.beq_refl]
      · have e:gR i d=false:=by rw[nf];intro h;exact a (ir h).symm
        simp[a,upd,e]
def Py(args:Zi aj):Nat->Value:=fun i=>args.getD i gj
theorem act_init(n:Nat)(args:Zi aj)(h:args.length<=n):({tmps:=args.toArray++sn (n-args.toArray.size) gj,defers:=[]}:Act)=act n (Py args):=by
  simp only[act,Act.mk.injEq,and_true];apply Array.ext
  · simp;omega
  · intro i a b;simp[Array.getElem_append,Py,List.getD];by_cases hi:i<args.length
    · simp[hi]
    · simp[hi]
structure WL(P:br)(ops:Array du)(Q:fR->Act->al->Prop)(l:List du)(n:Nat)(env:Nat->aj)(w:al):Prop where
 out:so P ops Q l (act n env) w
structure WC(P:br)(c:Code)(Q:fR->Act->al->Prop)(n:Nat)(env:Nat->aj)(w:al):Prop where
 out:c.wp P Q (act n env) w
section
variable{P:br}{ops:Array du}{Q:fR->Act->al->Prop}{n:Nat}{env:Nat->aj}{w w':al}{rest:Zi du}
 {d:Yw Nat} {op:Op} {ty:aw} {pos:String} {af:Array ix} {v:aj} {g:Yw (Nat×Ys)}
theorem aA(b:(bc (ev n env) ⟨d,op,ty,pos,af,aE⟩).run P w=.ok (.value v) w')(h:WL P ops Q rest n (gz env d v) w'):
  WL P ops Q (⟨d,op,ty,pos,af,aE⟩::rest) n env w:=by
 refine⟨wi Z fun K a=>?_⟩;unfold wj;rw[iT,b];show K _ _;rw[Hw];exact a _ _ h.out
theorem Dn(b:(bc (ev n env) ⟨d,op,ty,pos,af,aE⟩).run P w=.ok .skip w')(h:WL P ops Q rest n (gz env d gj) w'):
  WL P ops Q (⟨d,op,ty,pos,af,aE⟩::rest) n env w:=by
 refine⟨wi Z fun K a=>?_⟩;unfold wj;rw[iT,b];show K _ _;rw[Hw];exact a _ _ h.out
theorem wl_enter{f:hQ}{args:Array aj}{R:mv->al->Prop}(c:(bc (ev n env) ⟨d,op,ty,pos,af,aE⟩).run P w=.ok (.enter f args) w)(g:bk P f args w R)
  (h:∀e w',R e w'->∃v,e=.returned v/\WL P ops Q rest n (gz env d v) w'):
  WL P ops Q (⟨d,op,ty,pos,af,aE⟩::rest) n env w:=by
 refine⟨wi Z fun K a=>?_⟩;unfold wj;rw[iT,c];show bk P f args w _;refine g.mono fun e w' b=>?_;obtain⟨v,rfl,i⟩:=h e w' b;show K _ _;rw[Hw];exact a _ _ i.out
theorem Gt{j dj:Nat}{b:Ys}(c:(ops[j]?).bind (·.dst)=ah dj)(d:ev n env (.tmp dj)=.bool b):eg ops (act n env).tmps j=ah b:=by
  unfold eg;have a:(act n env).eval (.tmp dj)=.bool b:=by rw[iT];exact d
  simp only[c,fb];simp only[kd]at a;cases h2:(act n env).tmps[dj]? with
  |none=>simp[cM,h2,gj]at a
  |some x=>simp[cM,h2]at a;subst a;rfl
theorem Vz{j dj:Nat}{b:Ys}(c:(ops[j]?).bind (·.dst)=ah dj)(f:ev n env (.tmp dj)=.bool b)
    (h:WL P ops Q (⟨d,op,ty,pos,af,aE⟩::rest) n env w):WL P ops Q (⟨d,op,ty,pos,af,ah (j,b)⟩::rest) n env w:=by
  have g:=Gt (ops:=ops) c f;have e:cg ⟨d,op,ty,pos,af,ah (j,b)⟩ (eg ops (act n env).tmps)=true:=by simp[cg,g]
  have a:cg ⟨d,op,ty,pos,af,aE⟩ (eg ops (act n env).tmps)=true:=rfl;obtain⟨h⟩:=h;refine⟨?_⟩;unfold so at h⊢;rw[Z2 a]at h;rw[Z2 e];exact h
theorem CG{j dj:Nat}{b b':Ys}(a:(ops[j]?).bind (·.dst)=ah dj)(f:ev n env (.tmp dj)=.bool b')(c:(b'==b)=ar)
    (h:WL P ops Q rest n (gz env d gj) w):WL P ops Q (⟨d,op,ty,pos,af,ah (j,b)⟩::rest) n env w:=by
  have g:=Gt (ops:=ops) a f;have e:cg ⟨d,op,ty,pos,af,ah (j,b)⟩ (eg ops (act n env).tmps)=false:=by simpa[cg,g]using c
  refine⟨?_⟩;unfold so;rw[Z3 (by rw[e];decide),Hw];exact h.out
theorem ak(h:Q .normal (act n env) w):WL P ops Q [] n env w:=⟨h⟩
end
section
variable{P:br}{Q:fR->Act->al->Prop}{n:Nat}{env:Nat->aj}{w:al}{x y:Code}
theorem iK{id:Nat}{l:Zi du}(h:WL P l.toArray Q l n env w):WC P (hX id l.toArray ar) Q n env w:=⟨wp_region_lit h.out⟩
theorem jb(h:WC P x (Exit.then (y.wp P Q) Q) n env w):WC P (Code.seq x y) Q n env w:=⟨wp_seq h.out⟩
theorem mF{id:Nat}(h:WC P x (kj id Q) n env w):WC P (Code.block id x) Q n env w:=⟨wp_block h.out⟩
theorem bR(h:Q .normal (act n env) w):WC P .skip Q n env w:=⟨wp_skip h⟩
theorem wc_ret(h:Q .ret (act n env) w):WC P .ret Q n env w:=⟨wp_ret h⟩
theorem Jw{id:Nat}(h:Q (.exit id) (act n env) w):WC P (.exit id) Q n env w:=⟨wp_exit h⟩
theorem dA{c:bj}{t:Ys}(a:ev n env c=.bool t)(b:t=ba->WC P x Q n env w)(d:t=ar->WC P y Q n env w):
 WC P (tr c x y) Q n env w:=⟨wp_cond_split (by rw[iT];exact a) (fun h=>(b h).out) (fun h=>(d h).out)⟩
theorem wc_ift{c:bj}(a:ev n env c=.bool ba)(b:WC P x Q n env w):WC P (tr c x y) Q n env w:=⟨wp_cond_true (by rw[iT];exact a) b.out⟩
theorem wc_iff{c:bj}(a:ev n env c=.bool ar)(b:WC P y Q n env w):WC P (tr c x y) Q n env w:=⟨wp_cond_false (by rw[iT];exact a) b.out⟩
theorem aN{Q':fR->Act->al->Prop}(h:WC P y Q n env w):Exit.then (y.wp P Q) Q' .normal (act n env) w:=h.out
def hav(mod:Nat->Ys)(b a:Nat->aj):Nat->Value:=fun i=>bif mod i then b i else a i
def upds(e:Nat->aj):Zi (Nat×aj)->Nat->aj
 |[]=>e
 |(i,v)::r=>upd (upds e r) i v
def Holds(e:Nat->aj):Zi (Nat×aj)->Prop
 |[]=>True
 |(i,v)::r=>e i=v/\Holds e r
def Gu(mod:Nat->Ys)(e a:Nat->aj):Prop:=∀i,mod i=ar->e i=a i
theorem Gu.refl(mod:Nat->Ys)(e:Nat->aj):Gu mod e e:=fun _ _=>rfl
theorem Gu.hav(mod:Nat->Ys)(j e:Nat->aj):Gu mod (hav mod j e) e:=fun i h=>by simp[LX.hav,h]
theorem Gu.upd{mod:Nat->Ys}{e a:Nat->aj}{d:Nat}{v:aj}(b:mod d=ba)(h:Gu mod e a):Gu mod (upd e d v) a:=fun i hi=>by
 have:i≠d:=fun e=>by rw[e,b]at hi;exact Bool.noConfusion hi
 have c:gR i d=false:=by rw[nf];intro h;exact this (ir h)
 simp[LX.upd,c,h i hi]
theorem upd_self(e:Nat->aj){i:Nat}{v:aj}(h:e i=v):upd e i v=e:=by
  funext k;by_cases a:gR k i=ba
  · have:=ir a;subst this;simp[upd,h]
  · simp[upd,a]
theorem hav_self{mod:Nat->Ys}{e a:Nat->aj}(h:Gu mod e a):hav mod e a=e:=by
 funext i;cases hm:mod i with
 |true=>simp[hav,hm]
 |false=>simp[hav,hm,h i hm]
theorem XA{e:Nat->aj}:∀(l:Zi (Nat×aj)),Holds e l->upds e l=e
 |[],_=>rfl
 |(i,v)::r,h=>by
  show upd (upds e r) i v=e;rw[XA r h.2];exact upd_self e h.1
theorem wc_loop{σ:Type}{c:Code}(mod:Nat->Ys)(live:σ->Zi (Nat×aj))(J:σ->al->Prop)(μ:σ->Nat)(s0:σ)
  (hl:Holds env (live s0)) (I:J s0 w)
  (j:∀s G L,J s G->WC P c (Exit.then (fun a' w'=>∃q r,a'=act n r/\Gu mod r env/\Holds r (live q)/\J q w'/\μ q<μ s) Q) n (upds (hav mod L env) (live s)) G):
  WC P (xw c) Q n env w:=by
 refine⟨?_⟩;intro b k cs;have y:∀m s e w,μ s=m->Gu mod e env->Holds e (live s)->J s w->
   ∃p a' w',Q p a' w'/\Arrives P (lone (b.at (act n e) (.code c:: .inLoop c::k)) cs w) b k cs p a' w':=by
  intro m;induction m using pd with
  |_ m ih=>
   intro s e w K hA M N;have F:=(j s w e N).out;have z:upds (hav mod e env) (live s)=e:=by rw[hav_self hA];exact XA _ M
   rw[z]at F;obtain⟨p,f,d,i,a⟩:=F b (.inLoop c::k) cs;cases p with
   |normal=>
    obtain⟨q,r,rfl,C,A,B,E⟩:=i;obtain⟨v,u,t,o,g⟩:=ih (μ q) (K▸E) q r d Z C A B;exact⟨v,u,t,o,.of_steps (Steps.trans a<|.one step_inLoop) g⟩
   |exit id=>exact⟨_,f,d,i,.pass (x:=.inLoop c) Z (fun _ _=>.inl zq3) a⟩
   |goto l=>exact⟨_,f,d,i,.pass (x:=.inLoop c) Z (fun _ _=>.inl zq3) a⟩
   |ret=>exact⟨_,f,d,i,.pass (x:=.inLoop c) Z (fun _ _=>.inl zq3) a⟩
   |panic ch=>exact⟨_,f,d,i,.pass (x:=.inLoop c) Z (fun _ _=>.inl zq3) a⟩
   |outgrown=>exact⟨_,f,d,i,.pass (x:=.inLoop c) Z (fun _ _=>.inl zq3) a⟩
 obtain⟨p,a',w',i,a⟩:=y _ s0 env w Z (Gu.refl _ _) hl I;exact⟨p,a',w',i,.of_steps (.one step_loop) a⟩
end
open Go.RowKit
class One (P:br) (T:aw) (z:outParam aj):Prop where
 desc:∃d,P.underlying T=ah d/\(match d with| .struct _| .array _ _=>False|_=>True)
 info:(P.info? T).map (fun i=>(i.zero,i.size))=ah (ah z,1)
 cell:z.cells= #[z]
class yA (P:br) (T:aw) (zs:outParam (Zi aj)):Prop where
 desc:∃d,P.underlying T=ah d/\(match d with| .struct _| .array _ _=>True|_=>False)
 info:(P.info? T).map (fun i=>(i.zero,i.size))=ah (ah (.agg zs.toArray),zs.length)
class SliceOf (P:br) (T:aw) (E:outParam aw) (sz:outParam Nat):Prop where
  desc:P.underlying T=ah (.slice E)
  info:(P.info? E).map (·.size)=ah sz
class ed (P:br) (T:aw) (k:Nat) (off:outParam Nat):Prop where
  desc:∃fs f s,P.underlying T=ah (.struct fs)/\fs[k]? =ah f/\f.offset=off/\(P.info? f.type).map (·.size)=ah (s+1)
section
variable{P:br}{w:al}{ρ:bj->aj}{d:Yw Nat}{ty:aw}{pos:String}{af:Array ix}{g:Yw (Nat×Ys)}
theorem eu{x:bj}{v:aj}(a:ρ x=v):(bc ρ ⟨d,.move x,ty,pos,af,g⟩).run P w=.ok (.value v) w:=by subst a;rfl
theorem j6{x:bj}{v:aj}(a:ρ x=v):(bc ρ ⟨d,.assign x,ty,pos,af,g⟩).run P w=.ok (.value v) w:=by subst a;rfl
theorem jq{c x y:bj}{b:Ys}{v:aj}(a:ρ c=.bool b)(e:(if b then ρ x else ρ y)=v):(bc ρ ⟨d,.pick c x y,ty,pos,af,g⟩).run P w=.ok (.value v) w:=by
 subst e;simp[bc,a,asBool]
theorem r_not{x:bj}{T:aw}{b:Ys}(a:ρ x=.bool b):(bc ρ ⟨d,.unOp .not T x,ty,pos,af,g⟩).run P w=.ok (.value (.bool !b)) w:=by
 simp[bc,a,Op.unary]
theorem wrap_in{x:Int}(b: -9223372036854775808<=x)(a:x<=9223372036854775807):IntKind.i64.wrap x=x:=IntWalk.i64_in x ⟨b,a⟩
theorem Jn{x y:bj}{T T2:aw}{p q:Int}(a:ρ x=.int .i64 p)(b:ρ y=.int .i64 q):(bc ρ ⟨d,.binOp .lss T x y T2,ty,pos,af,g⟩).run P w=.ok (.value (.bool (ab (p<q)))) w:=by
 simp[bc,a,b,ga,nF,pQ]
theorem r_leq{x y:bj}{T T2:aw}{p q:Int}(a:ρ x=.int .i64 p)(b:ρ y=.int .i64 q):(bc ρ ⟨d,.binOp .leq T x y T2,ty,pos,af,g⟩).run P w=.ok (.value (.bool (ab (p<=q)))) w:=by
 simp[bc,a,b,ga,nF,pQ]
theorem zT{x y:bj}{T T2:aw}{p q:Int}(a:ρ x=.int .i64 p)(b:ρ y=.int .i64 q):(bc ρ ⟨d,.binOp .gtr T x y T2,ty,pos,af,g⟩).run P w=.ok (.value (.bool (ab (q<p)))) w:=by
 simp[bc,a,b,ga,nF,pQ]
theorem LC{x y:bj}{T T2:aw}{p q:Int}(a:ρ x=.int .i64 p)(b:ρ y=.int .i64 q):(bc ρ ⟨d,.binOp .geq T x y T2,ty,pos,af,g⟩).run P w=.ok (.value (.bool (ab (q<=p)))) w:=by
 simp[bc,a,b,ga,nF,pQ]
theorem yo{x y:bj}{T T2:aw}{p q:Int}{k:IntKind}(b:ρ x=.int k p)(a:ρ y=.int k q):(bc ρ ⟨d,.binOp .eql T x y T2,ty,pos,af,g⟩).run P w=.ok (.value (.bool (ab (p=q)))) w:=by
 simp[bc,b,a,ga,nF,pQ];rfl
theorem Pk{x y:bj}{T T2:aw}{p q:Int}{k:IntKind}(b:ρ x=.int k p)(a:ρ y=.int k q):(bc ρ ⟨d,.binOp .neq T x y T2,ty,pos,af,g⟩).run P w=.ok (.value (.bool (ab (p≠q)))) w:=by
 simp[bc,b,a,ga,nF,pQ];rfl
theorem EN{x y:bj}{T T2:aw}{p q:Int}(b:ρ x=.int .i64 p)(a:ρ y=.int .i64 q)(h: -9223372036854775808<=p+q/\p+q<=9223372036854775807):
  (bc ρ ⟨d,.binOp .add T x y T2,ty,pos,af,g⟩).run P w=.ok (.value (.int .i64 (p+q))) w:=by
 simp[bc,b,a,ga,nF,Op.intArith,wrap_in h.1 h.2]
theorem Eb{x y:bj}{T T2:aw}{p q:Int}(b:ρ x=.int .i64 p)(a:ρ y=.int .i64 q)(h: -9223372036854775808<=p-q/\p-q<=9223372036854775807):
  (bc ρ ⟨d,.binOp .sub T x y T2,ty,pos,af,g⟩).run P w=.ok (.value (.int .i64 (p-q))) w:=by
 simp[bc,b,a,ga,nF,Op.intArith,wrap_in h.1 h.2]
theorem oP{x:bj}{T E:aw}{sz:Nat}{a:Yw nh}{l c:Nat}(b:SliceOf P T E sz)(e:ρ x=.slice a l c):
  (bc ρ ⟨d,.call {callee:=.builtin .len,args:= #[x],argTypes:= #[T]},ty,pos,af,g⟩).run P w=.ok (.value (.int .i64 l)) w:=by
 simp[bc,jt,lP,lz,yi,e,cx,b.desc,goInt]
theorem r_load1{x:bj}{T:aw}{z v:aj}{b o:Nat}{cs:Array aj}{E:aw}{a:Nat×Nat}(f:One P T z)(m:ρ x=.pointer (ah ⟨b,o,aE⟩))(i:w.heap[b]? =ah (.cells cs E a))(e:cs[o]? =ah v):
  (bc ρ ⟨d,.load T x,ty,pos,af,g⟩).run P w=.ok (.value v) w:=by
 obtain⟨c,j,k⟩:=f.desc;have l:w.cell? ⟨b,o,aE⟩=ah v:=by simp[eR,i,e]
 cases c<;>simp_all[bc,ts,kf,wk,isAgg,cx]
end
open Go.RowKit
abbrev BS:=Nat->Prop
abbrev BE:BS:=fun _=>False
structure bz(K:BS)(w w':al):Prop where
 os:w'.os=w.os
 tape:w'.tape=w.tape
 output:w'.output=w.output
 size:w.heap.size<=w'.heap.size
 block:∀b,¬K b->b<w.heap.size->w'.heap[b]? =w.heap[b]?
abbrev Grow(w w':al):Prop:=bz BE w w'
abbrev Yd(w:al)(v:aj)(e:mv)(w':al):Prop:=Grow w w'/\e=.returned v
theorem bz.refl(K:BS)(w:al):bz K w w:=⟨rfl,rfl,rfl,cv _,fun _ _ _=>rfl⟩
theorem bz.step{K N:BS}{a b c:al}(h:bz K a b)(k:bz N b c)(e:∀x,N x->x<a.heap.size->K x):bz K a c:=
 ⟨k.os.trans h.os,k.tape.trans h.tape,k.output.trans h.output,dk h.size k.size,fun i d hi=>(k.block i (fun hn=>d (e i hn hi)) (bE hi h.size)).trans (h.block i d hi)⟩
theorem bz.grow{K:BS}{a b c:al}(h:bz K a b)(k:Grow b c):bz K a c:=h.step k (fun _ h=>h.elim)
theorem bz.weaken{K N:BS}{a b:al}(h:bz K a b)(hs:∀x,K x->x<a.heap.size->N x):bz N a b:=⟨h.os,h.tape,h.output,h.size,fun i c hi=>h.block i (fun hn=>c (hs i hn hi)) hi⟩
theorem Grow.keep{K:BS}{a b:al}(h:Grow a b):bz K a b:=h.weaken (fun _ h=>h.elim)
theorem iQ{w:al}{b:Nat}{o:Obj}(a:w.heap[b]? =ah o):b<w.heap.size:=by
  rcases cE b w.heap.size with h1|h1
  · exact h1
  · rw[og h1]at a;cases a
theorem bz.blk{K:BS}{w w':al}(h:bz K w w'){b:Nat}{o:Obj}(a:w.heap[b]? =ah o)(c:¬K b):w'.heap[b]? =ah o:=by
 rw[h.block b c (iQ a),a]
theorem Grow.blk{w w':al}(h:Grow w w'){b:Nat}{o:Obj}(a:w.heap[b]? =ah o):w'.heap[b]? =ah o:=bz.blk h a (fun h=>h)
theorem Grow.below{w w':al}(h:Grow w w'):Below w.heap.size w w':=⟨h.os,h.tape,h.output,h.size,fun k a=>h.block k (fun h=>h) a⟩
theorem Grow.of_below{w w':al}(h:Below w.heap.size w w'):Grow w w':=⟨h.os,h.tape,h.output,h.size,fun k _ a=>h.block k a⟩
theorem Grow.alloc(w:al)(o:Obj):Grow w (w.alloc o):=Grow.of_below ((Below.refl _ _).alloc (cv _) o)
theorem Ry(w:al)(o:Obj):(w.alloc o).heap[w.heap.size]? =ah o:=by show(w.heap.push o)[w.heap.size]? =ah o;simp
theorem alloc_size(w:al)(o:Obj):(w.alloc o).heap.size=w.heap.size+1:=by show(w.heap.push o).size=_;simp
theorem Grow.drew(w:al):Grow w w.drew:=⟨rfl,rfl,rfl,cv _,fun _ _ _=>rfl⟩
theorem Grow.trans{a b c:al}(h:Grow a b)(k:Grow b c):Grow a c:=h.grow k
structure lV(α:Type)where
 sz:Nat
 rd:al->BS->List aj->α->Prop
 len:∀{w A cs x},rd w A cs x->cs.length=sz
 one:∀{w A cs x},rd w A cs x->∀u∈cs,u.oneCell'=ba
 pos:0<sz
 go:∀{w A cs x w' A' K},rd w A cs x->bz K w w'->(∀b,K b->b<w.heap.size->A b)->(∀b,A' b->b<w.heap.size->A b)->rd w' A' cs x
def fB{α:Type}(R:lV α)(w:al)(B A:BS)(v:aj)(l:Zi α):Prop:=
 ∃a cap,v=.slice a l.length cap/\l.length<=cap/\cap<=mX/\(a=aE->cap=0)/\
  ∀i (h:i<l.length),∃b o cells E c,a=ah ⟨b,o,aE⟩/\¬B b/\w.heap[b]? =ah (.cells cells E c)/\R.rd w A ((cells.toList.drop (o+i*R.sz)).take R.sz) l[i]
abbrev bS{α:Type}(R:lV α)(w:al)(A:BS)(v:aj)(l:Zi α):Prop:=fB R w A A v l
theorem fB.go{α:Type}{R:lV α}{w w':al}{B g A A' K:BS}{v:aj}{l:Zi α}(h:fB R w B A v l)(f:bz K w w')(d:∀b,K b->b<w.heap.size->B b)(m:∀b,K b->b<w.heap.size->A b)(hB:∀b,g b->b<w.heap.size->B b)(hA:∀b,A' b->b<w.heap.size->A b):fB R w' g A' v l:=by
 obtain⟨a,cap,rfl,n,r,j,s⟩:=h;refine⟨a,cap,Z,n,r,j,fun i hi=>?_⟩;obtain⟨b,o,cells,E,k,q,e,c,p⟩:=s i hi;exact⟨b,o,cells,E,k,q,fun h=>e<|hB b h<|iQ c,f.blk c fun h=>e<|d b h<|iQ c,R.go p f m hA⟩
theorem fB.sub{α:Type}{R:lV α}{w:al}{B a A A':BS}{v:aj}{l:Zi α}(h:fB R w B A v l)(hB:∀b,a b->b<w.heap.size->B b)(hA:∀b,A' b->b<w.heap.size->A b):fB R w a A' v l:=
 h.go (bz.refl BE w) (fun _ h=>h.elim) (fun _ h=>h.elim) hB hA
theorem fB.src{α:Type}{R:lV α}{w:al}{B A:BS}{v:aj}{l:Zi α}(h:fB R w B A v l):fB R w BE A v l:=h.sub (fun _ h=>h.elim) (fun _ h _=>h)
theorem bS.go{α:Type}{R:lV α}{w w':al}{A A' K:BS}{v:aj}{l:Zi α}(h:bS R w A v l)(c:bz K w w')(a:∀b,K b->b<w.heap.size->A b)(hA:∀b,A' b->b<w.heap.size->A b):bS R w' A' v l:=
 fB.go h c a a hA hA
theorem fB.one{α:Type}{R:lV α}{w:al}{B A:BS}{v:aj}{l:Zi α}(h:fB R w B A v l):v.oneCell'=true:=by
 obtain⟨a,cap,rfl,_⟩:=h;rfl
theorem fB.nil{α:Type}{R:lV α}{w:al}{B A:BS}:fB R w B A (.slice aE 0 0) ([]:Zi α):=⟨aE,0,rfl,cv _,by unfold mX;omega,fun _=>rfl,fun i hi=>Zs hi (ia _)⟩
theorem fB.aO{α:Type}{R:lV α}{w:al}{B A:BS}{v:aj}{l:Zi α}(h:fB R w B A v l):l.length<=9223372036854775807:=by
 obtain⟨a,cap,_,c,b,_⟩:=h;unfold mX at b;omega
def oI{α:Type}(R:lV α):lV (Zi α) where
 sz:=1
 rd w A cs l:=∃v,cs=[v]/\bS R w A v l
 len:=by rintro w A cs x ⟨v,rfl,_⟩;rfl
 one:=by
  rintro w A cs x⟨v,rfl,h⟩u hu;simp at hu;subst hu;exact h.one
 pos:=by decide
 go:=by
  rintro w A cs x w' A' K⟨v,rfl,h⟩hk hK hA;exact⟨v,Z,h.go hk hK hA⟩
def bC:lV Int where
 sz:=1
 rd _ _ cs x:=cs=[.int .i64 x]
 len:=by rintro w A cs x rfl;rfl
 one:=by rintro w A cs x rfl u hu;simp at hu;subst hu;rfl
 pos:=by decide
 go:=fun h _ _ _=>h
def rBool:lV Ys where
 sz:=1
 rd _ _ cs x:=cs=[.bool x]
 len:=by rintro w A cs x rfl;rfl
 one:=by rintro w A cs x rfl u hu;simp at hu;subst hu;rfl
 pos:=by decide
 go:=fun h _ _ _=>h
abbrev Str:=Zi UInt8
def bu(s:Str):Value:=.string ⟨s.toArray⟩
def uG:lV Str where
 sz:=1
 rd _ _ cs x:=cs=[bu x]
 len:=by rintro w A cs x rfl;rfl
 one:=by rintro w A cs x rfl u hu;simp at hu;subst hu;rfl
 pos:=by decide
 go:=fun h _ _ _=>h
def ob:aj->Nat->Prop| .slice (ah a) _ _=>fun b=>b=a.block|_=>fun _=>False
theorem ob_row{v:aj}{k:Nat}:ob v k↔v.ownBlock=ah k:=by
 cases v with
 |slice a l c=>cases a with
  |none=>simp[ob,sK]
  |some a=>simp[ob,sK];exact eq_comm
 |_=>simp[ob,sK]
def cz{α:Type}(R:lV α)(E:aw)(w:al)(A:BS)(v:aj)(l:Zi α):Prop:=
 ∃xs,w.ownsRow 0 E R.sz v l.length xs/\∀i (h:i<l.length),R.rd w (fun b=>A b\/ob v b) ((xs.drop (i*R.sz)).take R.sz) l[i]
theorem cz.nil{α:Type}{R:lV α}{E:aw}{w:al}{A:BS}:cz R E w A (.slice aE 0 0) ([]:Zi α):=
 ⟨[],World.ownsRow_nil _ _ _ _,fun i h=>Zs h (ia _)⟩
theorem cz.lt{α:Type}{R:lV α}{E:aw}{w:al}{A:BS}{v:aj}{l:Zi α}(h:cz R E w A v l):∀k,ob v k->k<w.heap.size:=by
 obtain⟨xs,a,_⟩:=h;intro k b;exact(a.lt k<|ob_row.1 b).2
theorem cz.go{α:Type}{R:lV α}{E:aw}{w w':al}{A A' K:BS}{v:aj}{l:Zi α}(h:cz R E w A v l)(e:bz K w w')(j:∀b,K b->b<w.heap.size->A b)(d:∀b,K b->¬ob v b)(hA:∀b,A' b->b<w.heap.size->A b\/ob v b):cz R E w' A' v l:=by
  obtain⟨xs,c,f⟩:=h;refine⟨xs,?_,fun i hi=>R.go (f i hi) e (fun b c k=>.inl<|j b c k) fun b a hl=>?_⟩
  · refine⟨c.1,?_⟩;rcases c.2 with h|⟨g,cap,cur,rfl,e1,e2,e3⟩
    · exact .inl h
    · exact .inr ⟨g,cap,cur,Z,e1,e.blk e2 (fun h=>d g h (by simp[ob])),e3⟩
  · rcases a with a|a
    · exact hA b a hl
    · exact .inr a
theorem cz.one{α:Type}{R:lV α}{E:aw}{w:al}{A:BS}{v:aj}{l:Zi α}(h:cz R E w A v l):v.oneCell'=true:=by
 obtain⟨xs,a,_⟩:=h;rcases a.2 with⟨rfl,_⟩|⟨g,cap,cur,rfl,_⟩<;>rfl
theorem cz.rd{α:Type}{R:lV α}{E:aw}{w:al}{A A':BS}{v:aj}{l:Zi α}(h:cz R E w A v l)(d:∀b,ob v b->¬A' b)(hA:∀b,A' b->b<w.heap.size->A b\/ob v b):bS R w A' v l:=by
  obtain⟨xs,c,a⟩:=h;rcases c.2 with⟨rfl,hn⟩|⟨g,cap,cur,rfl,e1,e2,e3,e4,e5,e6⟩
  · have:l=[]:=cd hn;subst this;exact fB.nil
  · refine⟨ah ⟨g,0,aE⟩,cap,Z,e3,e4,(fun h=>by cases h),fun i hi=>⟨g,0,cur,E,(0,0),Z,d g (by simp[ob]),e2,?_⟩⟩;have:=R.go (A':=A') (a i hi) (bz.refl BE w) (fun _ h=>h.elim) hA;rw[<-e6,et,dY,cL ?_]at this
    · rw[hY];exact this
    · have:(i+1)*R.sz<=l.length*R.sz:=aU _ hi;rw[bw]at this;omega
def Oq(b:Array yp)(a:Nat):Prop:=(∀e∈b.toList,e.born<a)/\(b.toList.map (·.born)).Nodup
def LD(w:al)(b:Nat)(kE:Zi (Int×aj)):Prop:=
 ∃c a,w.heap[b]? =ah (.map c a)/\c.toList.map (fun e=>(e.key,e.val))=kE.map (fun p=>(da .i64 p.1,p.2))/\Oq c a
structure Pce where
 own:BS
 P:al->BS->Prop
 lt:∀{w A b},P w A->own b->b<w.heap.size
 go:∀{w w' A A' K},P w A->bz K w w'->(∀b,K b->b<w.heap.size->A b)->(∀b,K b->¬own b)->(∀b,A' b->b<w.heap.size->A b\/own b)->P w' A'
inductive Chunk:Type 1 where
 |no
 |rd {α:Type} (R:lV α) (v:aj) (l:List α)
 |sr {α:Type} (R:lV α) (v:aj) (l:List α)
 |pt (b o:Nat) (cs:List aj)
 |blk (b:Nat) (cs:List aj)
 |own {α:Type} (R:lV α) (E:aw) (v:aj) (l:List α)
 |mp (b:Nat) (kE:List (Int×aj))
 |rp {α:Type} (R:lV α) (v:aj) (x:α)
 |two (a b:Chunk)
 |fC (S:Pce)
def Chunk.own':Chunk->BS
 | .blk b _=>fun x=>x=b
 | .own _ _ v _=>ob v
 | .mp b _=>fun x=>x=b
 | .two a b=>fun x=>a.own' x\/b.own' x
 | .fC S=>S.own
 |_=>BE
def Chunk.holds(w:al)(M O:BS):Chunk->Prop
 | .no=>True
 | .rd R v l=>bS R w (fun b=>M b\/O b) v l
 | .sr R v l=>fB R w O (fun b=>M b\/O b) v l
 | .pt b o cs=>¬O b/\∃cells E c,w.heap[b]? =ah (.cells cells E c)/\(cells.toList.drop o).take cs.length=cs
 | .blk b cs=>∃E,w.heap[b]? =ah (.cells cs.toArray E (0,0))
 | .own R E v l=>cz R E w (fun b=>M b\/O b) v l
 | .mp b kE=>LD w b kE
 | .rp R v x=>R.rd w (fun b=>M b\/O b) [v] x
 | .two a b=>a.holds w M O/\b.holds w M O/\∀x,a.own' x->¬b.own' x
 | .fC S=>S.P w (fun b=>M b\/O b)
theorem Chunk.go{c:Chunk}{w w':al}{M O n N:BS}(h:c.holds w M O)(f:bz N w w')(g:∀b,N b->b<w.heap.size->O b)(e:∀b,N b->¬c.own' b)(j:∀b,n b->b<w.heap.size->M b\/O b)(i:∀b,n b->b<w.heap.size->O b):c.holds w' M n:=by
 induction c with
 |no=>trivial
 |rd R v l=>exact bS.go h f (fun b d hl=>.inr (g b d hl)) (fun b d hl=>d.elim .inl (fun d=>j b d hl))
 |sr R v l=>exact fB.go h f g (fun b d hl=>.inr (g b d hl)) i (fun b d hl=>d.elim .inl (fun d=>j b d hl))
 |pt b o cs=>
  obtain⟨p,cells,E,r,m,q⟩:=h;exact⟨fun h=>p<|i b h<|iQ m,cells,E,r,f.blk m fun h=>p<|g b h<|iQ m,q⟩
 |blk b cs=>
  obtain⟨E,h⟩:=h;exact⟨E,f.blk h fun d=>e b d Z⟩
 |own R E v l=>exact cz.go h f (fun b d hl=>.inr (g b d hl)) e (fun b d hl=>.inl (d.elim .inl (fun d=>j b d hl)))
 |rp R v x=>exact R.go h f (fun b d hl=>.inr (g b d hl)) (fun b d hl=>d.elim .inl (fun d=>j b d hl))
 |two a b iha ihb=>exact⟨iha h.1 (fun x k u=>e x k (.inl u)),ihb h.2.1 (fun x k d=>e x k (.inr d)),h.2.2⟩
 |fC S=>exact S.go h f (fun b d hl=>.inr (g b d hl)) e (fun b d hl=>.inl (d.elim .inl (fun d=>j b d hl)))
 |mp b kE=>
  obtain⟨t,c,h,s⟩:=h;exact⟨t,c,f.blk h fun d=>e b d Z,s⟩
theorem Chunk.sub{c:Chunk}{w:al}{M O d:BS}(h:c.holds w M O)(a:∀b,d b->b<w.heap.size->O b):c.holds w M d:=
 Chunk.go h (bz.refl BE w) (fun _ h=>h.elim) (fun _ h=>h.elim) (fun b e hl=>.inr (a b e hl)) a
theorem Chunk.lt{c:Chunk}{w:al}{M O:BS}(h:c.holds w M O):∀b,c.own' b->b<w.heap.size:=by
 intro b d;induction c with
 |no=>exact d.elim
 |rd=>exact d.elim
 |sr=>exact d.elim
 |pt=>exact d.elim
 |blk b' cs=>
  cases d;exact iQ h.choose_spec
 |own R E v l=>exact cz.lt h b d
 |rp=>exact d.elim
 |two a c iha ihc=>exact d.elim (fun d=>iha h.1 d) (fun d=>ihc h.2.1 d)
 |fC S=>exact S.lt h d
 |mp b' kE=>
  cases d;obtain⟨_,_,h,_⟩:=h;exact iQ h
def bH(hp:Nat->Chunk)(i:Nat)(c:Chunk):Nat->Chunk:=fun j=>bif gR j i then c else hp j
theorem bN(hp:Nat->Chunk)(i:Nat)(c:Chunk):bH hp i c i=c:=by simp[bH,Nat.beq_refl]
theorem fe{hp:Nat->Chunk}{i j:Nat}{c:Chunk}(h:j≠i):bH hp i c j=hp j:=by
 have:gR j i=false:=by rw[nf];intro e;exact h (ir e)
 simp[bH,this]
def hno:Nat->Chunk:=fun _=>.no
def jH(hp:Nat->Chunk):BS:=fun b=>∃j,(hp j).own' b
structure SH(w0:al)(M K:BS)(w:al)(hp:Nat->Chunk):Prop where
 keep:bz K w0 w
 ltM:∀b,M b->b<w0.heap.size
 apM:∀i b,(hp i).own' b->¬M b
 ok:∀i,(hp i).holds w M (jH hp)
 apart:∀i j,i≠j->∀b,(hp i).own' b->¬(hp j).own' b
 old:∀i b,(hp i).own' b->b<w0.heap.size->K b
section
variable{w0 w w':al}{M K:BS}{hp:Nat->Chunk}{i:Nat}{c:Chunk}
def rest(hp:Nat->Chunk)(i:Nat):BS:=fun b=>∃j,j≠i/\(hp j).own' b
theorem nz{hp:Nat->Chunk}{i b:Nat}(h:rest hp i b):jH hp b:=let ⟨j,_,h⟩:=h;⟨j,h⟩
abbrev SH.av(hp:Nat->Chunk)(i:Nat)(c:Chunk):BS:=fun b=>rest hp i b\/c.own' b
theorem SH.step{N:BS}(h:SH w0 M K w hp)(i:Nat)(s:bz N w w')(p:∀b,N b->b<w.heap.size->(hp i).own' b)
    (ho:∀b,c.own' b->b<w.heap.size->(hp i).own' b) (t:c.holds w' M (SH.av hp i c)):SH w0 M K w' (bH hp i c):=by
  have u:∀b,M b->b<w.heap.size:=fun b a=>bE (h.ltM b a) h.keep.size;have l:∀b,jH (bH hp i c) b->rest hp i b\/c.own' b:=by
    rintro b⟨j,n⟩;by_cases e:j=i
    · subst e;rw[bN]at n;exact .inr n
    · rw[fe e]at n;exact .inl ⟨j,e,n⟩
  have f:∀b,jH (bH hp i c) b->b<w.heap.size->jH hp b:=fun b a hl=>(l b a).elim nz fun h=>⟨i,ho b h hl⟩;refine⟨?_,h.ltM,?_,?_,?_,?_⟩
  · exact h.keep.step s (fun x q hl=>by
      have m:=bE hl h.keep.size;exact h.old i x (p x q m) hl)
  · intro j b a;by_cases e:j=i
    · subst e;rw[bN]at a;intro r;exact h.apM j b (ho b a<|u b r) r
    · rw[fe e]at a;exact h.apM j b a
  · intro j;by_cases e:j=i
    · subst e;rw[bN];exact Chunk.sub t fun b a _=>l b a
    · rw[fe e];have hl:=h.ok j;refine Chunk.go hl (s.weaken (N:=fun b=>N b/\b<w.heap.size) fun b a hl=>⟨a,hl⟩) ?_ ?_ ?_ ?_
      · intro b a m;exact⟨i,p b a.1 m⟩
      · intro b a n;exact h.apart j i e b n<|p b a.1 a.2
      · exact fun b a hl=>.inr<|f b a hl
      · exact f
  · intro j k g b a d;have lt:∀x,x≠i->(hp x).own' b->b<w.heap.size:=fun x _ q=>Chunk.lt (h.ok x) b q;by_cases e:j=i
    · subst e;have o:k≠j:=fun e=>g e.symm;rw[bN]at a;rw[fe o]at d;exact h.apart j k g b (ho b a<|lt k o d) d
    · rw[fe e]at a;by_cases o:k=i
      · subst o;rw[bN]at d;exact h.apart j k g b a<|ho b d<|lt j e a
      · rw[fe o]at d;exact h.apart j k g b a d
  · intro j b a hl;by_cases e:j=i
    · subst e;rw[bN]at a;exact h.old j b (ho b a<|bE hl h.keep.size) hl
    · rw[fe e]at a;exact h.old j b a hl
abbrev SH.A(M:BS)(hp:Nat->Chunk):BS:=fun b=>M b\/jH hp b
theorem SH.lt(h:SH w0 M K w hp):∀b,SH.A M hp b->b<w.heap.size:=by
  rintro b(a|⟨j,a⟩)
  · exact bE (h.ltM b a) h.keep.size
  · exact Chunk.lt (h.ok j) b a
theorem SH.learn(h:SH w0 M K w hp)(i:Nat)(e:Grow w w')(ho:∀b,c.own' b->w.heap.size<=b)(d:c.holds w' M (fun b=>jH hp b\/c.own' b)):SH w0 M K w' (bH hp i c):=
 h.step i e (fun _ h=>h.elim) (fun b a hl=>Zs (ho b a) V) (Chunk.sub d (fun b a _=>a.imp nz id))
theorem SH.grow(h:SH w0 M K w hp)(c:Grow w w'):SH w0 M K w' hp:=
 ⟨h.keep.grow c,h.ltM,h.apM,fun i=>Chunk.go (h.ok i) c (fun _ h=>h.elim) (fun _ h=>h.elim) (fun b a _=>.inr a) (fun b a _=>a),h.apart,h.old⟩
theorem SH.know(h:SH w0 M K w hp)(i:Nat)(ho:∀b,¬c.own' b)(d:c.holds w M (jH hp)):SH w0 M K w (bH hp i c):=
 h.learn i (bz.refl BE w) (fun b a=>Zs a (ho b)) (Chunk.sub d (fun b a _=>a.elim id (fun a=>Zs a (ho b))))
theorem SH.freeze{α:Type}{R:lV α}{E:aw}{v:aj}{l:Zi α}(h:SH w0 M K w hp)(i:Nat)(hi:hp i=.own R E v l):SH w0 M K w (bH hp i (.rd R v l)):=by
  refine h.step i (bz.refl BE w) (fun _ h=>h.elim) (fun b a=>a.elim) ?_;have hl:=h.ok i;rw[hi]at hl;refine cz.rd hl (fun b a c=>?_) fun b a hl=>?_
  · have d:(hp i).own' b:=by rw[hi];exact a
    rcases c with c|⟨j,hj,c⟩|c
    · exact h.apM i b d c
    · exact h.apart j i hj b c d
    · exact c
  · rcases a with a|a|a
    · exact .inl<|.inl a
    · exact .inl<|.inr<|nz a
    · exact a.elim
def hset:Zi (Nat×Chunk)->Nat->Chunk
 |[]=>hno
 |(i,c)::r=>bH (hset r) i c
def HoldsC(hp:Nat->Chunk):Zi (Nat×Chunk)->Prop
 |[]=>True
 |(i,c)::r=>hp i=c/\HoldsC hp r
theorem hset_is{hp:Nat->Chunk}:∀{l:Zi (Nat×Chunk)},HoldsC hp l->∀j,hset l j=hp j\/hset l j=.no
  |[],_,_=>.inr Z
  |(i,c)::r,h,j=>by
    by_cases e:j=i
    · subst e;left;show bH _ _ _ _=_;rw[bN];exact h.1.symm
    · show bH _ _ _ _=_\/bH _ _ _ _=_;rw[fe e];exact hset_is h.2 j
theorem SH.canon(h:SH w0 M K w hp)(l:Zi (Nat×Chunk))(hl:HoldsC hp l):SH w0 M K w (hset l):=by
  have c:=hset_is hl;have own:∀j b,(hset l j).own' b->(hp j).own' b:=by
    intro j b a;rcases c j with e|e
    · rw[e]at a;exact a
    · rw[e]at a;exact a.elim
  refine⟨h.keep,h.ltM,fun i b a=>h.apM i b<|own i b a,fun i=>?_,fun i j f b a d=>h.apart i j f b (own i b a)<|own j b d,fun i b a=>h.old i b<|own i b a⟩;rcases c i with e|e
  · rw[e];exact Chunk.sub (h.ok i) fun b⟨j,g⟩_=>⟨j,own j b g⟩
  · rw[e];trivial
theorem SH.init{w:al}{M:BS}(a:∀b,M b->b<w.heap.size):SH w M BE w hno:=
 ⟨bz.refl _ _,a,fun _ _ h=>h.elim,fun _=>trivial,fun _ _ _ _ h=>h.elim,fun _ _ h=>h.elim⟩
theorem SH.xS{α:Type}{R:lV α}{E:aw}{v:aj}{l:Zi α}(h:SH w0 M K w hp)(i:Nat)(a:Grow w w')(ho:cz R E w' (SH.A M hp) v l)(c:∀b,ob v b->w.heap.size<=b):SH w0 M K w' (bH hp i (.own R E v l)):=
 h.learn i a c (cz.go ho (bz.refl BE w') (fun _ h=>h.elim) (fun _ h=>h.elim) (fun b d _=>d.elim (fun h=>.inl (.inl h)) (fun h=>h.elim (fun h=>.inl (.inr h)) .inr)))
theorem SH.Cs{α:Type}{R:lV α}{v:aj}{l:Zi α}(h:SH w0 M K w hp)(i:Nat)(c:Grow w w')(ho:bS R w' (SH.A M hp) v l):SH w0 M K w' (bH hp i (.rd R v l)):=
 h.learn i c (fun _ h=>h.elim) (bS.go ho (bz.refl BE w') (fun _ h=>h.elim) (fun b a _=>a.elim .inl (fun h=>h.elim .inr (fun h=>h.elim))))
theorem SH.au{α:Type}{R:lV α}{v:aj}{l:Zi α}(h:SH w0 M K w hp)(i:Nat)(ho:bS R w (SH.A M hp) v l):SH w0 M K w (bH hp i (.rd R v l)):=h.Cs i (bz.refl BE w) ho
theorem SH.EO{α:Type}{R:lV α}{v:aj}{l:Zi α}(h:SH w0 M K w hp)(i:Nat)(ho:bS R w M v l)(hn:∀b,¬jH hp b):SH w0 M K w (bH hp i (.rd R v l)):=
 h.au i (ho.go (bz.refl BE w) (fun _ h=>h.elim) (fun b a _=>a.elim id (fun h=>Zs h (hn b))))
theorem SH.bG{α:Type}{R:lV α}{v:aj}{l:Zi α}(h:SH w0 M K w hp)(i:Nat)(ho:fB R w BE M v l)(hn:∀b,¬jH hp b):SH w0 M K w (bH hp i (.sr R v l)):=
 h.know i (fun _ h=>h) (ho.sub (fun b a _=>Zs a (hn b)) (fun b a _=>a.elim id (fun h=>Zs h (hn b))))
theorem SH.aR{α:Type}{R:lV α}{v:aj}{l:Zi α}(h:SH w0 M K w hp)(i:Nat)(hi:hp i=.rd R v l):bS R w (SH.A M hp) v l:=by
 have:=h.ok i;rw[hi]at this;exact this
theorem SH.srAt{α:Type}{R:lV α}{v:aj}{l:Zi α}(h:SH w0 M K w hp)(i:Nat)(hi:hp i=.sr R v l):fB R w (jH hp) (SH.A M hp) v l:=by
 have:=h.ok i;rw[hi]at this;exact this
theorem SH.aZ{α:Type}{R:lV α}{E:aw}{v:aj}{l:Zi α}(h:SH w0 M K w hp)(i:Nat)(hi:hp i=.own R E v l):cz R E w (SH.A M hp) v l:=by
 have:=h.ok i;rw[hi]at this;exact this
theorem SH.oQ{b:Nat}{cs:Zi aj}(h:SH w0 M K w hp)(i:Nat)(hi:hp i=.blk b cs):∃E,w.heap[b]? =ah (.cells cs.toArray E (0,0)):=by
 have:=h.ok i;rw[hi]at this;exact this
theorem SH.ptAt{b o:Nat}{cs:Zi aj}(h:SH w0 M K w hp)(i:Nat)(hi:hp i=.pt b o cs):∃cells E a,w.heap[b]? =ah (.cells cells E a)/\(cells.toList.drop o).take cs.length=cs:=by
 have:=h.ok i;rw[hi]at this;exact this.2
theorem SH.mpAt{b:Nat}{a:Zi (Int×aj)}(h:SH w0 M K w hp)(i:Nat)(hi:hp i=.mp b a):LD w b a:=by
 have:=h.ok i;rw[hi]at this;exact this
theorem SH.grown(h:SH w0 M BE w hp):Grow w0 w:=h.keep
theorem Ya{α:Type}{e:α}(h:SH w0 M BE w hp):Grow w0 w/\e=e:=⟨h.grown,rfl⟩
theorem SH.fresh(h:SH w0 M BE w hp)(i:Nat):∀b,(hp i).own' b->w0.heap.size<=b:=fun b a=>yq (fun hl=>h.old i b a hl)
theorem SH.kK{α:Type}{R:lV α}{v:aj}{l:Zi α}(h:SH w0 M K w hp)(i:Nat)(hi:hp i=.rd R v l):fB R w BE (SH.A M hp) v l:=(h.aR i hi).src
theorem SH.fU{α:Type}{R:lV α}{v:aj}{l:Zi α}(h:SH w0 M K w hp)(i:Nat)(hi:hp i=.sr R v l):fB R w BE (SH.A M hp) v l:=(h.srAt i hi).src
theorem cz.src{α:Type}{R:lV α}{E:aw}{w:al}{A:BS}{v:aj}{l:Zi α}(h:cz R E w A v l):fB R w BE A v l:=by
  obtain⟨xs,c,a⟩:=h;rcases c.2 with⟨rfl,hn⟩|⟨g,cap,cur,rfl,e1,e2,e3,e4,e5,e6⟩
  · have:l=[]:=cd hn;subst this;exact fB.nil
  · refine⟨ah ⟨g,0,aE⟩,cap,Z,e3,e4,(fun h=>by cases h),fun i hi=>⟨g,0,cur,E,(0,0),Z,fun h=>h,e2,?_⟩⟩;have:=R.go (A':=A) (a i hi) (bz.refl BE w) (fun _ h=>h.elim) fun b d _=>.inl d;rw[<-e6,et,dY,cL ?_]at this
    · rw[hY];exact this
    · have:(i+1)*R.sz<=l.length*R.sz:=aU _ hi;rw[bw]at this;omega
theorem SH.dB{α:Type}{R:lV α}{E:aw}{v:aj}{l:Zi α}(h:SH w0 M K w hp)(i:Nat)(hi:hp i=.own R E v l):fB R w BE (SH.A M hp) v l:=(h.aZ i hi).src
theorem aC:∀b,¬jH hno b:=fun _⟨_,h⟩=>h
theorem xm{α:Type}{R:lV α}{v:aj}{l:Zi α}{i:Nat}(h:∀b,¬jH hp b):∀b,¬jH (bH hp i (.rd R v l)) b:=by
  rintro b⟨j,a⟩;by_cases e:j=i
  · subst e;rw[bN]at a;exact a
  · rw[fe e]at a;exact h b ⟨j,a⟩
theorem aF{α:Type}{R:lV α}{v:aj}{l:Zi α}{i:Nat}(h:∀b,¬jH hp b):∀b,¬jH (bH hp i (.sr R v l)) b:=by
  rintro b⟨j,a⟩;by_cases e:j=i
  · subst e;rw[bN]at a;exact a
  · rw[fe e]at a;exact h b ⟨j,a⟩
end
open Go.RowKit
def gv(c:Ys)(v:aj):Value:=(bif c then [v]else []).headD gj
theorem iR{c:Ys}{v:aj}(h:c=ba):gv c v=v:=by rw[h];rfl
theorem gl{a b:Ys}(h:(a&&b)=ba):a=true:=by cases a<;>simp_all
theorem gr{a b:Ys}(h:(a&&b)=ba):b=true:=by cases a<;>simp_all
structure lH(P:br)(T E:aw)(sz bytes:Nat):Prop where
 desc:P.underlying T=ah (.slice E)
 info:∃i z,P.info? E=ah i/\i.zero=ah z/\i.size=sz/\i.bytes=bytes/\z.cells.size=sz
theorem VA{P:br}{T:aw}{z:Yw aj}{s:Nat}(h:(P.info? T).map (fun i=>(i.zero,i.size))=ah (z,s)):∃i,P.info? T=ah i/\i.zero=z/\i.size=s:=by
 cases hi:P.info? T with
 |none=>simp[hi]at h
 |some i=>simp[hi]at h;exact⟨i,Z,h.1,h.2⟩
def zn(w:al)(b:Nat)(o:Obj):World:={w with heap:=w.heap.setIfInBounds b o}
theorem yG{w:al}{b:Nat}{o:Obj}(h:b<w.heap.size):(zn w b o).heap[b]? =ah o:=by simp[zn,h]
theorem bz.zn(w:al)(b:Nat)(o:Obj):bz (fun x=>x=b) w (zn w b o):=
 ⟨rfl,rfl,rfl,by simp[LX.zn],fun k a _=>by
  have:b≠k:=fun e=>a (by simp[e]);show(w.heap.setIfInBounds b o)[k]? =_;rw[Array.getElem?_setIfInBounds_ne this]⟩
theorem setCell_putb{w:al}{b o:Nat}{cs:Array aj}{E:aw}{c:Nat×Nat}{v:aj}(d:w.heap[b]? =ah (.cells cs E c)):w.setCell ⟨b,o,aE⟩ v=zn w b (.cells (cs.setIfInBounds o v) E c):=by
  simp only[World.setCell,zn];congr 1;have a:=iQ d;apply pR;intro i;simp only[fa,lE];by_cases hi:b=i
  · subst hi;rw[Z2 rfl,Z2 rfl,Z2 a,d];rfl
  · simp[hi]
theorem LF{w:al}{b:Nat}{cs a:Array aj}{E:aw}{d:Nat×Nat}(e:w.heap[b]? =ah (.cells cs E d)):w.setRow b a=zn w b (.cells a E d):=by
  simp only[World.setRow,zn];congr 1;have c:=iQ e;apply pR;intro i;simp only[fa,lE];by_cases hi:b=i
  · subst hi;rw[Z2 rfl,Z2 rfl,Z2 c,e];rfl
  · simp[hi]
def Oo(cs:Zi aj)(o:Nat)(vs:Zi aj):Zi Value:=cs.take o++vs++cs.drop (o+vs.length)
def At(w:al)(b o:Nat)(cs:Zi aj):Prop:=∃cells E a,w.heap[b]? =ah (.cells cells E a)/\(cells.toList.drop o).take cs.length=cs
section
variable{P:br}{ops:Array du}{Q:fR->Act->al->Prop}{n:Nat}{env:Nat->aj}{w w' w0:al}{M K:BS}{hp:Nat->Chunk}{rest:Zi du}
 {d:Yw Nat} {op:Op} {ty:aw} {pos:String} {af:Array ix} {v:aj} {g:Yw (Nat×Ys)} {T:aw} {ρ:bj->aj} {x y:bj}
theorem kC{j dj:Nat}{b want:Ys}(a:Ys)(i:(ops[j]?).bind (·.dst)=ah dj)(g:ev n env (.tmp dj)=gv a (.bool b))
    (p:(a&&(b==want))=ba->(bc (ev n env) ⟨d,op,ty,pos,af,aE⟩).run P w=.ok (.value v) w) (h:WL P ops Q rest n (gz env d (gv (a&&(b==want)) v)) w):
    WL P ops Q (⟨d,op,ty,pos,af,ah (j,want)⟩::rest) n env w:=by
  by_cases c:(a&&(b==want))=ba
  · have k:=gl c;have e:=gr c;rw[iR k]at g;rw[iR c]at h;have o:b=want:=by simpa using e
    subst o;exact Vz i g<|aA (p c) h
  · have f:(a&&(b==want))=false:=by simpa using c
    rw[f]at h;cases a with
    |true=>
      refine CG i g ?_ h;simpa using f
    |false=>
      have l:ev n env (.tmp dj)=undef:=g;have m:eg ops (act n env).tmps j=none:=by
        unfold eg;have e:(act n env).eval (.tmp dj)=undef:=by rw[iT];exact l
        simp only[i,fb];simp only[kd]at e;cases h2:(act n env).tmps[dj]? with
        |none=>rfl
        |some x=>simp[cM,h2]at e;subst e;rfl
      have q:cg ⟨d,op,ty,pos,af,ah (j,want)⟩ (eg ops (act n env).tmps)=false:=by simp[cg,m]
      refine⟨?_⟩;unfold so;rw[Z3 (by rw[q];decide),Hw];exact h.out
theorem bV{j dj:Nat}{b want:Ys}(a:(ops[j]?).bind (·.dst)=ah dj)(e:ev n env (.tmp dj)=.bool b)
    (c:(b==want)=ba->(bc (ev n env) ⟨d,op,ty,pos,af,aE⟩).run P w=.ok (.value v) w) (h:WL P ops Q rest n (gz env d (gv (b==want) v)) w):
    WL P ops Q (⟨d,op,ty,pos,af,ah (j,want)⟩::rest) n env w:=
  kC ba a e (fun h=>c (by simpa using h)) (by simpa using h)
theorem LG{c a:bj}{b p:Ys}(e:ρ c=.bool b)(f:ρ a=gv (b==ar) (.bool p))(i:∀v,ρ (.const v)=v):(bc ρ ⟨d,.pick c (.const (.bool ba)) a,ty,pos,af,g⟩).run P w=.ok (.value (.bool (b||p))) w:=by
 cases b<;>simp_all[bc,asBool,gv]
theorem xU{c a:bj}{b p:Ys}(e:ρ c=.bool b)(i:ρ a=gv (b==ba) (.bool p))(f:∀v,ρ (.const v)=v):(bc ρ ⟨d,.pick c a (.const (.bool ar)),ty,pos,af,g⟩).run P w=.ok (.value (.bool (b&&p))) w:=by
 cases b<;>simp_all[bc,asBool,gv]
theorem PT{n:Nat}{env:Nat->aj}:∀v,ev n env (.const v)=v:=fun _=>rfl
theorem rC{T:aw}{b:Ys}(a:ρ x=.bool b):(bc ρ ⟨d,.unOp .not T x,ty,pos,af,g⟩).run P w=.ok (.value (.bool !b)) w:=r_not a
theorem Md{T2:aw}{p q:Ys}(c:P.underlying T=ah .bool)(a:ρ x=.bool p)(b:ρ y=.bool q):(bc ρ ⟨d,.binOp .neq T x y T2,ty,pos,af,g⟩).run P w=.ok (.value (.bool (p !=q))) w:=by
 simp[bc,a,b,ga,nF,run_equal_bool w T p q c,bne]
theorem dW{z:aj}{b o:Nat}{cs:Zi aj}(h:SH w0 M K w hp)(i:Nat)(hi:hp i=.blk b cs)(e:One P T z)(c:ρ x=.pointer (ah ⟨b,o,aE⟩))(a:cs[o]? =ah v):
 (bc ρ ⟨d,.load T x,ty,pos,af,g⟩).run P w=.ok (.value v) w:=let ⟨_,f⟩:=h.oQ i hi;r_load1 e c f (by simpa using a)
theorem r_loadN{zs vs:Zi aj}{b o:Nat}{cells:Array aj}{E:aw}{n:Nat×Nat}(e:yA P T zs)(p:ρ x=.pointer (ah ⟨b,o,aE⟩))(f:w.heap[b]? =ah (.cells cells E n))(s:(cells.toList.drop o).take zs.length=vs)(hl:vs.length=zs.length):
    (bc ρ ⟨d,.load T x,ty,pos,af,g⟩).run P w=.ok (.value (.agg vs.toArray)) w:=by
  obtain⟨i,hi,u,hs⟩:=VA e.info;obtain⟨r,m,t⟩:=e.desc;have q:∀j v,vs[j]? =ah v->w.cell? ((⟨b,o,aE⟩:nh).add j)=ah v:=by
    intro j v a;have c:j<zs.length:=by
      rcases cE j vs.length with h|h
      · omega
      · rw[bq h]at a;cases a
    rw[<-s,bt,Z2 c,ck]at a;by_cases l:j=0
    · subst l;simpa[js,eR,f]using a
    · simpa[js,eR,f,l]using a
  have k:=A5 (P:=P) (w:=w) ⟨b,o,aE⟩ vs q;rw[hl]at k;cases r<;>simp at t<;>simp[bc,ts,p,kf,wk,isAgg,cx,m,gQ,dt,hi,hs,k]
theorem wV{zs vs:Zi aj}{b o:Nat}{cs:Zi aj}(h:SH w0 M K w hp)(i:Nat)(hi:hp i=.blk b cs)(e:yA P T zs)(c:ρ x=.pointer (ah ⟨b,o,aE⟩))(a:(cs.drop o).take zs.length=vs)(hl:vs.length=zs.length):
 (bc ρ ⟨d,.load T x,ty,pos,af,g⟩).run P w=.ok (.value (.agg vs.toArray)) w:=let ⟨_,f⟩:=h.oQ i hi;r_loadN e c f (by simpa using a) hl
theorem kD{z:aj}{b o k:Nat}{cs:Zi aj}(h:At w b o cs)(i:One P T z)(l:ρ x=.pointer (ah ⟨b,o+k,aE⟩))(a:cs[k]? =ah v):
    (bc ρ ⟨d,.load T x,ty,pos,af,g⟩).run P w=.ok (.value v) w:=by
  obtain⟨cells,E,m,j,e⟩:=h;refine r_load1 i l j ?_;have f:k<cs.length:=by
    rcases cE k cs.length with h1|h1
    · exact h1
    · rw[bq h1]at a;cases a
  have c:((cells.toList.drop o).take cs.length)[k]? =ah v:=by rw[e];exact a
  rw[bt,Z2 f,ck]at c;simpa using c
theorem drop_take_add{α:Type}{l:Zi α}{o k m s:Nat}{cs:Zi α}(h:(l.drop o).take s=cs)(a:k+m<=s):(l.drop (o+k)).take m=(cs.drop k).take m:=by
 rw[<-h,et,dY,pj,cL V]
theorem ib{zs vs:Zi aj}{b o k:Nat}{cs:Zi aj}(h:At w b o cs)(f:yA P T zs)(j:ρ x=.pointer (ah ⟨b,o+k,aE⟩))(c:(cs.drop k).take zs.length=vs)(hl:vs.length=zs.length)(e:k+zs.length<=cs.length):
  (bc ρ ⟨d,.load T x,ty,pos,af,g⟩).run P w=.ok (.value (.agg vs.toArray)) w:=by
 obtain⟨cells,E,l,i,a⟩:=h;exact r_loadN f j i (by rw[drop_take_add a e];exact c) hl
theorem Jo{z:aj}{b o k:Nat}{cs:Zi aj}(h:SH w0 M K w hp)(i:Nat)(hi:hp i=.pt b o cs)(e:One P T z)(c:ρ x=.pointer (ah ⟨b,o+k,aE⟩))(a:cs[k]? =ah v):
 (bc ρ ⟨d,.load T x,ty,pos,af,g⟩).run P w=.ok (.value v) w:=kD (h.ptAt i hi) e c a
theorem Ot{zs vs:Zi aj}{b o k:Nat}{cs:Zi aj}(h:SH w0 M K w hp)(i:Nat)(hi:hp i=.pt b o cs)(f:yA P T zs)(e:ρ x=.pointer (ah ⟨b,o+k,aE⟩))(a:(cs.drop k).take zs.length=vs)(hl:vs.length=zs.length)(c:k+zs.length<=cs.length):
 (bc ρ ⟨d,.load T x,ty,pos,af,g⟩).run P w=.ok (.value (.agg vs.toArray)) w:=ib (h.ptAt i hi) f e a hl c
theorem dC{b o k off:Nat}(j:ed P T k off)(l:ρ x=.pointer (ah ⟨b,o,aE⟩)):
  (bc ρ ⟨d,.fieldAddr T x k,ty,pos,af,g⟩).run P w=.ok (.value (.pointer (ah ⟨b,o+off,aE⟩))) w:=by
 obtain⟨p,f,s,e,n,c,a⟩:=j.desc;obtain⟨i,hi,hs⟩:∃i,P.info? f.type=ah i/\i.size=s+1:=by
  cases hi:P.info? f.type with
  |none=>simp[hi]at a
  |some i=>simp[hi]at a;exact⟨i,Z,a⟩
 by_cases m:off=0<;>simp[bc,Instr.fieldAt,cx,e,n,l,kf,fieldPlace,gQ,dt,hi,hs,c,js,m]
theorem fM{a:nh}(b:ρ x=.pointer (ah a)):(bc ρ ⟨d,.nilCheck x,ty,pos,af,g⟩).run P w=.ok (.value (.pointer (ah a))) w:=by
 simp[bc,b]
theorem ui{α:Type}{R:lV α}{E:aw}{sz:Nat}{B A:BS}{l:Zi α}{e:al}(c:SliceOf P T E sz)(f:ρ x=v)(b:fB R e B A v l):
  (bc ρ ⟨d,.call {callee:=.builtin .len,args:= #[x],argTypes:= #[T]},ty,pos,af,g⟩).run P w=.ok (.value (.int .i64 l.length)) w:=by
 obtain⟨a,cap,rfl,_⟩:=b;exact oP c f
theorem Gv{s:Str}(b:P.underlying T=ah .string)(a:ρ x=bu s):
  (bc ρ ⟨d,.call {callee:=.builtin .len,args:= #[x],argTypes:= #[T]},ty,pos,af,g⟩).run P w=.ok (.value (.int .i64 s.length)) w:=by
 have c:(⟨s.toArray⟩:ByteArray).size=s.length:=by simp[oi]
 simp[bc,jt,lP,lz,yi,a,bu,cx,b,goInt,c]
theorem r_ix{α:Type}{R:lV α}{E:aw}{B A:BS}{l:Zi α}{k:Int}{a:α}{j:al}(q:SliceOf P T E R.sz)(z:fB R j B A v l)(p:0<=k)(e:l[k.toNat]? =ah a):
    ∃b o cs,(∀(ρ:bj->aj) x y w d ty pos af g,ρ x=v->ρ y=.int .i64 k->(bc ρ ⟨d,.indexAddr T x y,ty,pos,af,g⟩).run P w=.ok (.value (.pointer (ah ⟨b,o,aE⟩))) w)/\¬B b/\At j b o cs/\R.rd j A cs a:=by
  have c:k.toNat<l.length:=by
    rcases cE k.toNat l.length with h|h
    · exact h
    · rw[bq h]at e;cases e
  obtain⟨a',cap,rfl,L,M,K,G⟩:=z;obtain⟨b,o,cells,F,s,rfl,r,t,m⟩:=G k.toNat c;obtain⟨i,hi,hs⟩:∃i,P.info? E=ah i/\i.size=R.sz:=by
    have:=q.info;cases hi:P.info? E with
    |none=>simp[hi]at this
    |some i=>simp[hi]at this;exact⟨i,Z,this⟩
  have n:l[k.toNat]=a:=by rw[bh c]at e;exact cG e
  rw[n]at m;refine⟨b,o+k.toNat*R.sz,_,?_,r,⟨cells,F,s,t,by rw[R.len m]⟩,m⟩;intro ρ x y w d ty pos af g u C;simp only[bc,zv,u,C,kl,cx,gQ,dt];have I:(⟨b,o,aE⟩:nh).add (k.toNat*R.sz)=⟨b,o+k.toNat*R.sz,aE⟩:=by
    unfold js;split
    · next hz=>rw[hz];rfl
    · rfl
  have f:k<(l.length:Int):=by omega
  simp[q.desc,hi,hs,p,f,I]
theorem SH.pt(h:SH w0 M K w hp)(i:Nat){b o:Nat}{cs:Zi aj}(c:¬jH hp b)(a:At w b o cs):SH w0 M K w (bH hp i (.pt b o cs)):=
 h.know i (fun _ h=>h) ⟨c,a⟩
theorem allOwn_up{i:Nat}{c:Chunk}(d:∀b,¬c.own' b):∀b,jH (bH hp i c) b->jH hp b:=by
  rintro b⟨j,a⟩;by_cases e:j=i
  · subst e;rw[bN]at a;exact Zs a (d b)
  · rw[fe e]at a;exact⟨j,a⟩
theorem fB.up{α:Type}{R:lV α}{l:Zi α}{i:Nat}{c:Chunk}(h:bS R w (SH.A M hp) v l)(d:∀b,¬c.own' b:=by exact fun _ h=>h):bS R w (SH.A M (bH hp i c)) v l:=
 h.sub (fun b a _=>a.imp id (allOwn_up d b)) (fun b a _=>a.imp id (allOwn_up d b))
abbrev IxOk(P:br)(T:aw)(v:aj)(k:Int)(p:aj):Prop:=∀(ρ:bj->aj) x y w d ty pos af g,ρ x=v->ρ y=.int .i64 k->(bc ρ ⟨d,.indexAddr T x y,ty,pos,af,g⟩).run P w=.ok (.value p) w
theorem SH.Ic{α:Type}{R:lV α}{E:aw}{sz:Nat}{l:Zi α}{k:Int}{a:α}(h:SH w0 M K w hp)(i j:Nat)(hi:hp i=.rd R v l)(e:SliceOf P T E sz)(hs:R.sz=sz)(c:0<=k)(g:l[k.toNat]? =ah a):
  ∃b o cs,SH w0 M K w (bH hp j (.pt b o cs))/\R.rd w (SH.A M hp) cs a/\IxOk P T v k (.pointer (ah ⟨b,o,aE⟩)):=by
 subst hs;obtain⟨b,o,cs,m,p,d,n⟩:=r_ix e (h.aR i hi) c g;exact⟨b,o,cs,h.pt j (fun f=>p<|.inr f) d,n,m⟩
theorem SH.wS{α:Type}{R:lV α}{E:aw}{sz:Nat}{l:Zi α}{k:Int}{a:α}(h:SH w0 M K w hp)(i j:Nat)(hi:hp i=.sr R v l)(e:SliceOf P T E sz)(hs:R.sz=sz)(c:0<=k)(f:l[k.toNat]? =ah a):
  ∃b o cs,SH w0 M K w (bH hp j (.pt b o cs))/\R.rd w (SH.A M hp) cs a/\IxOk P T v k (.pointer (ah ⟨b,o,aE⟩)):=by
 subst hs;obtain⟨b,o,cs,g,n,d,m⟩:=r_ix e (h.srAt i hi) c f;exact⟨b,o,cs,h.pt j n d,m,g⟩
def SQ(o:Yw aj)(a:Int)(b:Nat):Prop:=(o=aE/\a=b)\/o=ah (.int .i64 a)
def cut{α:Type}(l:Zi α)(a b:Int):Zi α:=(l.take b.toNat).drop a.toNat
theorem r_slv{α:Type}{R:lV α}{E:aw}{a b:Int}{B A:BS}{l:Zi α}{y:al}(S:SliceOf P T E R.sz)(hv:fB R y B A v l)(ha:0<=a)(m:a<=b)(X:b<=l.length):
    ∃u,(∀(ρ:bj->aj) x (lo hi:Yw bj) w d ty pos af g,ρ x=v->SQ (lo.map ρ) a 0->SQ (hi.map ρ) b l.length->(bc ρ ⟨d,.slice T x lo hi aE,ty,pos,af,g⟩).run P w=.ok (.value u) w)/\fB R y B A u (cut l a b)/\(∀(q:al) (p r:BS) (f:Zi α),fB R q p r v f->f.length=l.length->fB R q p r u (cut f a b)):=by
  obtain⟨a,rfl⟩:=cC ha;obtain⟨b,rfl⟩:=cC (by omega:0<=b);have m:a<=b:=by omega
  have X:b<=l.length:=by omega
  obtain⟨ad,cap,rfl,h1,h2,s,C⟩:=hv;obtain⟨i,M,I⟩:∃i,P.info? E=ah i/\i.size=R.sz:=by
    have:=S.info;cases hi:P.info? E with
    |none=>simp[hi]at this
    |some i=>simp[hi]at this;exact⟨i,Z,this⟩
  have n:b<=cap:=by omega
  refine⟨.slice (if cap=a then ad else ad.map (·.add (a*R.sz))) (b-a)<|cap-a,fun ρ x lo hi w d ty pos af g hx L K=>?_,?_⟩
  · have z:(cX ba l.length cap (lo.map ρ) (hi.map ρ) aE).run P w=.ok (a,b,cap) w:=by
      have h0:(0:Int)<=(a:Int):=ka a;have a4:(0:Int)<=(b:Int):=ka b;have a2:(a:Int)<=(b:Int):=by omega
      have a0:(b:Int)<=(cap:Int):=by omega
      rcases L with⟨k,Q⟩|k<;>rcases K with⟨f1,f2⟩|f1
      · obtain rfl:a=0:=by omega
        obtain rfl:b=l.length:=by omega
        simp[cX,k,f1]
      · obtain rfl:a=0:=by omega
        simp[cX,k,f1,eE,kl,n]
      · obtain rfl:b=l.length:=by omega
        simp[cX,k,f1,eE,kl,m]
      · simp[cX,k,f1,eE,kl,m,n]
    simp only[bc,lj,lA,cx,hx];simp[S.desc,z,gQ,dt,M,I]
  suffices c:∀(q:al) (p r:BS) (f:Zi α),fB R q p r (.slice ad l.length cap) f->f.length=l.length->fB R q p r (.slice (if cap=a then ad else ad.map (·.add (a*R.sz))) (b-a) (cap-a)) (cut f a b)from⟨c _ _ _ l ⟨ad,cap,Z,h1,h2,s,C⟩ Z,c⟩
  · intro y B A l⟨a5,N,e0,h1,h2,s,C⟩a1;obtain⟨t,a3,G⟩:=Value.slice.inj e0;subst t;subst G;have X:b<=l.length:=by omega
    have e:(cut l a b).length=b-a:=by simp[cut];omega
    refine⟨_,cap-a,by rw[e],by rw[e];omega,by omega,?_,?_⟩
    · intro hn;split at hn
      · omega
      · cases ad with
        |none=>have:=s Z;omega
        |some x=>simp at hn
    · intro j O;rw[e]at O;obtain⟨bb,o,cells,F,fz,k,Q,e3,e4⟩:=C (a+j) V;subst k;refine⟨bb,o+a*R.sz,cells,F,fz,?_,Q,e3,?_⟩
      · rw[Z3 V];simp only[fm,fl];unfold js;split
        · next hz=>rw[hz];rfl
        · rfl
      · have:(cut l a b)[j]'(by rw[e];exact O)=l[a+j]'V:=by simp[cut]
        rw[this];rw[show o+a*R.sz+j*R.sz=o+(a+j)*R.sz by rw[bw,lR]];exact e4
theorem r_sl{α:Type}{R:lV α}{E:aw}{a b:Int}{B A:BS}{l:Zi α}{e:al}(f:SliceOf P T E R.sz)(j:fB R e B A v l)(n:0<=a)(c:a<=b)(i:b<=l.length):
  ∃u,(∀(ρ:bj->aj) x (lo hi:Yw bj) w d ty pos af g,ρ x=v->SQ (lo.map ρ) a 0->SQ (hi.map ρ) b l.length->(bc ρ ⟨d,.slice T x lo hi aE,ty,pos,af,g⟩).run P w=.ok (.value u) w)/\fB R e B A u (cut l a b):=
 let ⟨u,k,m,_⟩:=r_slv f j n c i;⟨u,k,m⟩
abbrev SlOk(P:br)(T:aw)(v:aj)(a b:Int)(n:Nat)(u:aj):Prop:=∀(ρ:bj->aj) x (lo hi:Yw bj) w d ty pos af g,ρ x=v->SQ (lo.map ρ) a 0->SQ (hi.map ρ) b n->(bc ρ ⟨d,.slice T x lo hi aE,ty,pos,af,g⟩).run P w=.ok (.value u) w
theorem SH.slR{α:Type}{R:lV α}{E:aw}{sz:Nat}{a b:Int}{l:Zi α}(h:SH w0 M K w hp)(i j:Nat)(hi:hp i=.rd R v l)(d:SliceOf P T E sz)(hs:R.sz=sz)(k:0<=a)(c:a<=b)(e:b<=l.length):
  ∃u,SH w0 M K w (bH hp j (.rd R u (cut l a b)))/\SlOk P T v a b l.length u:=by
 subst hs;obtain⟨u,f,g⟩:=r_sl d (h.aR i hi) k c e;exact⟨u,h.au j g,f⟩
theorem SH.slS{α:Type}{R:lV α}{E:aw}{sz:Nat}{a b:Int}{l:Zi α}(h:SH w0 M K w hp)(i j:Nat)(hi:hp i=.sr R v l)(d:SliceOf P T E sz)(hs:R.sz=sz)(k:0<=a)(c:a<=b)(e:b<=l.length):
  ∃u,SH w0 M K w (bH hp j (.sr R u (cut l a b)))/\SlOk P T v a b l.length u:=by
 subst hs;obtain⟨u,f,g⟩:=r_sl d (h.srAt i hi) k c e;exact⟨u,h.know j (fun _ h=>h) g,f⟩
theorem r_allocN{zs:Zi aj}(a:yA P T zs):(bc ρ ⟨d,.alloc T,ty,pos,af,g⟩).run P w=.ok (.value (.pointer (ah ⟨w.heap.size,0,aE⟩))) (w.alloc (.cells zs.toArray T)):=by
 obtain⟨i,hi,b,hs⟩:=VA a.info;simp[bc,Instr.alloc,ma,dt,hi,b,newVar,wq,tI,nb,-kh]
theorem r_alloc1{z:aj}(a:One P T z):(bc ρ ⟨d,.alloc T,ty,pos,af,g⟩).run P w=.ok (.value (.pointer (ah ⟨w.heap.size,0,aE⟩))) (w.alloc (.cells #[z] T)):=by
 obtain⟨i,hi,b,hs⟩:=VA a.info;simp[bc,Instr.alloc,ma,dt,hi,b,newVar,wq,a.cell,nb,-kh]
theorem r_box(a:ρ x=v):(bc ρ ⟨d,.box T x,ty,pos,af,g⟩).run P w=.ok (.value (.pointer (ah ⟨w.heap.size,0,aE⟩))) (w.alloc (.cells v.cells T)):=by
 simp[bc,Instr.box,newVar,wq,a,nb,-kh]
theorem SH.newB(h:SH w0 M K w hp)(i:Nat)(cs:Zi aj)(T:aw):SH w0 M K (w.alloc (.cells cs.toArray T)) (bH hp i (.blk w.heap.size cs)):=
 h.learn i (Grow.alloc _ _) (fun b a=>oX a.symm) ⟨T,Ry _ _⟩
theorem aL{zs:Zi aj}(h:SH w0 M K w hp)(i:Nat)(a:yA P T zs)(k:∀w' b,SH w0 M K w' (bH hp i (.blk b zs))->WL P ops Q rest n (gz env d (.pointer (ah ⟨b,0,aE⟩))) w'):WL P ops Q (⟨d,.alloc T,ty,pos,af,aE⟩::rest) n env w:=
 aA (r_allocN a) (k _ _ (h.newB i zs T))
theorem uH{z:aj}(h:SH w0 M K w hp)(i:Nat)(a:One P T z)(k:∀w' b,SH w0 M K w' (bH hp i (.blk b [z]))->WL P ops Q rest n (gz env d (.pointer (ah ⟨b,0,aE⟩))) w'):WL P ops Q (⟨d,.alloc T,ty,pos,af,aE⟩::rest) n env w:=
 aA (r_alloc1 a) (k _ _ (h.newB i [z] T))
theorem gD{cs:Zi aj}(h:SH w0 M K w hp)(i:Nat)(c:ev n env x=v)(a:v.cells=cs.toArray)(k:∀w' b,SH w0 M K w' (bH hp i (.blk b cs))->WL P ops Q rest n (gz env d (.pointer (ah ⟨b,0,aE⟩))) w'):WL P ops Q (⟨d,.box T x,ty,pos,af,aE⟩::rest) n env w:=
 aA (by rw[r_box c,a]) (k _ _ (h.newB i cs T))
theorem VB{z:aj}{b o:Nat}{cs:Array aj}{E:aw}(l:One P T z)(m:ρ x=.pointer (ah ⟨b,o,aE⟩))(a:w.heap[b]? =ah (.cells cs E (0,0)))(ho:o<cs.size)(k:ρ y=v)(e:v.oneCell'=ba):
  (bc ρ ⟨d,.store T x y,ty,pos,af,g⟩).run P w=.ok .skip (zn w b (.cells (cs.setIfInBounds o v) E (0,0))):=by
 obtain⟨i,hi,n,hs⟩:=VA l.info;have f:w.cell? ⟨b,o,aE⟩=ah cs[o]:=by simp[eR,a,ho]
 have j:w.frozen? ⟨b,o,aE⟩=false:=by simp[pF,a]
 have c:v.cells= #[v]:=by cases v<;>first|rfl|simp[eh]at e
 rw[<-setCell_putb a];simp only[bc,zE,m,k,kf,storeVar,c,gQ,dt];simp[hi,hs,storeCells,run_store _ _ _ _ _ e,f,j,js]
theorem VC{zs vs:Zi aj}{b o:Nat}{cs:Zi aj}{E:aw}(f:yA P T zs)(j:ρ x=.pointer (ah ⟨b,o,aE⟩))(a:w.heap[b]? =ah (.cells cs.toArray E (0,0)))(e:ρ y=.agg vs.toArray)(hl:vs.length=zs.length)(ho:o+vs.length<=cs.length)(c:∀v∈vs,v.oneCell'=ba):
  (bc ρ ⟨d,.store T x y,ty,pos,af,g⟩).run P w=.ok .skip (zn w b (.cells (Oo cs o vs).toArray E (0,0))):=by
 obtain⟨i,hi,k,hs⟩:=VA f.info;have:=sL (P:=P) b o E vs 0 cs.toArray w a (by simpa using ho) c;simp only[bc,zE,j,e,kf,storeVar,tI,gQ,dt];simp[hi,hs,hl,this,LF a,Oo]
theorem SH.putB{b:Nat}{cs:Zi aj}(h:SH w0 M K w hp)(i:Nat)(hi:hp i=.blk b cs)(a:Zi aj)(E:aw):SH w0 M K (zn w b (.cells a.toArray E (0,0))) (bH hp i (.blk b a)):=by
 have c:=h.oQ i hi;obtain⟨e,c⟩:=c;exact h.step i (bz.zn _ _ _) (fun x d _=>by rw[hi];exact d) (fun x d _=>by rw[hi];exact d) ⟨E,yG (iQ c)⟩
theorem fV{z:aj}{b o:Nat}{cs:Zi aj}(h:SH w0 M K w hp)(i:Nat)(a:Zi aj)(hi:hp i=.blk b cs)(g:One P T z)(e:ev n env x=.pointer (ah ⟨b,o,aE⟩))(f:ev n env y=v)(ho:cs.set o v=a)(hl:se o cs.length=ba)(c:v.oneCell'=ba)
  (k:∀w',SH w0 M K w' (bH hp i (.blk b a))->WL P ops Q rest n (gz env d gj) w'):
  WL P ops Q (⟨d,.store T x y,ty,pos,af,aE⟩::rest) n env w:=by
 obtain⟨E,j⟩:=h.oQ i hi;refine Dn (VB g e j (by rw[oT]at hl;simpa using hl) f c) (k _ ?_);have:=h.putB i hi a E;subst ho;simpa using this
theorem w_stN{zs vs:Zi aj}{b o:Nat}{cs:Zi aj}(h:SH w0 M K w hp)(i:Nat)(a:Zi aj)(hi:hp i=.blk b cs)(e:yA P T zs)(g:ev n env x=.pointer (ah ⟨b,o,aE⟩))(l:ev n env y=.agg vs.toArray)(hl:vs.length=zs.length)(ho:Oo cs o vs=a)(f:oj (o+vs.length) cs.length=ba)(j:∀v∈vs,v.oneCell'=ba)
  (k:∀w',SH w0 M K w' (bH hp i (.blk b a))->WL P ops Q rest n (gz env d gj) w'):
  WL P ops Q (⟨d,.store T x y,ty,pos,af,aE⟩::rest) n env w:=by
 obtain⟨E,c⟩:=h.oQ i hi;subst ho;exact Dn (VC e g c l hl (iz f) j)<|k _<|h.putB i hi _ E
def VD(P:br)(f:hQ):Prop:=∃a,P.funcs[f]? =ah a/\(a.name== "runtime.NumGoroutine")=ar/\a.body.isNone=ar
theorem r_call{f:hQ}{first captured:Array aj}{xs:Array bj}{i:Array aw}(m:VD P f)(l:ρ x=.func (.func f) first captured):
  (bc ρ ⟨d,.call {callee:=.value x,args:=xs,argTypes:=i},ty,pos,af,g⟩).run P w=.ok (.enter f (first++xs.map ρ++captured)) w:=by
 obtain⟨c,k,n,j⟩:=m;have a:¬c.name= "runtime.NumGoroutine" :=by simpa using n
 have b:¬c.body=none:=fun e=>by simp[e]at j
 simp[bc,jt,l,Deferred.ofValue,lP,callFunc,k,a,b]
theorem bA{f:hQ}{first captured:Array aj}{xs:Array bj}{a:Array aw}{args:Zi aj}{R:mv->al->Prop}(c:VD P f)(g:ev n env x=.func (.func f) first captured)
  (i:first.toList++xs.toList.map (ev n env)++captured.toList=args) (b:bk P f args.toArray w R)
  (h:∀e w',R e w'->∃v,e=.returned v/\WL P ops Q rest n (gz env d v) w'):
  WL P ops Q (⟨d,.call {callee:=.value x,args:=xs,argTypes:=a},ty,pos,af,aE⟩::rest) n env w:=by
 refine wl_enter (r_call c g) ?_ h;have:first++xs.map (ev n env)++captured=args.toArray:=by
  rw[<-i];apply me;simp
 rw[this];exact b
theorem eP{i:Nat}{vs:Zi aj}(a:ρ x=.tuple vs.toArray)(b:vs[i]? =ah v):(bc ρ ⟨d,.extract x i,ty,pos,af,g⟩).run P w=.ok (.value v) w:=by
 simp[bc,Instr.extract,a,b]
theorem qp{f:hQ}{first captured:Array bj}{c1 c2:Zi aj}(c:first.toList.map ρ=c1)(e:captured.toList.map ρ=c2):
  (bc ρ ⟨d,.makeFunc (.func f) first captured,ty,pos,af,g⟩).run P w=.ok (.value (.func (.func f) c1.toArray c2.toArray)) w:=by
 have a:first.map ρ=c1.toArray:=by rw[<-c];apply me;simp
 have b:captured.map ρ=c2.toArray:=by rw[<-e];apply me;simp
 simp[bc,Instr.makeFunc,a,b]
theorem calls_start{f:hQ}{a:yr}{c:Code}{args:Zi aj}{R:mv->al->Prop}{n:Nat}
  (b:P.funcs[f]? =ah a) (d:a.body=ah c) (hn:a.ntmps=n) (hl:args.length<=n)
  (h:WC P c (km P a R) n (Py args) w):bk P f args.toArray w R:=by
 refine calls_of_wp b d ?_;rw[hn,act_init n args hl];exact h.out
theorem ek{a:yr}{R:mv->al->Prop}{t:Tmp}(b:a.results= #[.tmp t])(c:ev n env (.tmp t)=v)(h:R (.returned v) w):km P a R .ret (act n env) w:=by
 refine⟨Z,v,?_,h⟩;rw[results_tmp b];have:=congrFun (iT n env)<|.tmp t;rw[c]at this;exact ZD (fun v=>vl v w) this
theorem fin0{a:yr}{R:mv->al->Prop}(b:a.results= #[])(h:R (.returned (.tuple #[])) w):km P a R .ret (act n env) w:=⟨rfl,_,results_none b _ _ _,h⟩
theorem Jp{a:yr}{R:mv->al->Prop}(b:a.results= #[])(h:R (.returned (.tuple #[])) w):km P a R .normal (act n env) w:=⟨rfl,_,results_none b _ _ _,h⟩
theorem fin2{c:yr}{R:mv->al->Prop}{t u:Tmp}{v1 v2:aj}(f:c.results= #[.tmp t,.tmp u])(d:ev n env (.tmp t)=v1)(e:ev n env (.tmp u)=v2)(h:R (.returned (.tuple #[v1,v2])) w):km P c R .ret (act n env) w:=by
 refine⟨Z,_,?_,h⟩;rw[results_tmp2 f];have b:=congrFun (iT n env)<|.tmp t;have a:=congrFun (iT n env)<|.tmp u;rw[d]at b;rw[e]at a;simp only[kd]at b a;rw[b,a]
end
section
variable{α β σ ρ:Type}{r:ρ}{G:Prop}
theorem gJ{b:Ys}{X a:ρ}(hs:cond b X a=r)(c:b=ba->X=r->G)(d:b=ar->a=r->G):G:=by
  cases b
  · exact d Z hs
  · exact c Z hs
theorem ai{o:Yw α}{f:α->Yw β}{r:β}(h:o.bind f=ah r):∃x,o=ah x/\f x=ah r:=by
 cases o with
 |none=>cases h
 |some x=>exact⟨x,rfl,h⟩
def fI(p:Prop) [Decidable p](x:Yw β):Yw β:=if p then x else aE
theorem bO{p:Prop} [Decidable p]{x:Yw β}{r:β}(h:fI p x=some r):p/\x=some r:=by
  unfold fI at h;by_cases hp:p
  · rw[Z2 hp]at h;exact⟨hp,h⟩
  · rw[Z3 hp]at h;cases h
def idx(l:Zi α)(k:Int):Yw α:=if 0<=k then l[k.toNat]? else aE
theorem J{l:Zi α}{k:Int}{x:α}(h:idx l k=ah x):0<=k/\l[k.toNat]? =ah x:=by
  unfold idx at h;by_cases hp:0<=k
  · rw[Z2 hp]at h;exact⟨hp,h⟩
  · rw[Z3 hp]at h;cases h
def sub?(l:Zi α)(a b:Int):Yw (Zi α):=if 0<=a/\a<=b/\b<=l.length then ah (cut l a b)else aE
theorem Pm{l:Zi α}{a b:Int}{x:Zi α}(h:sub? l a b=ah x):x=cut l a b/\0<=a/\a<=b/\b<=l.length:=by
  unfold sub? at h;by_cases hp:0<=a/\a<=b/\b<=l.length
  · rw[Z2 hp]at h;cases h;exact⟨Z,hp⟩
  · rw[Z3 hp]at h;cases h
def iZ(x:Int):Prop:= -9223372036854775808<=x/\x<=9223372036854775807
def i64b:Int->Ys
 | .ofNat n=>oj n 9223372036854775807
 | .negSucc n=>oj n 9223372036854775807
theorem i64b_iff{x:Int}:i64b x=ba↔iZ x:=by
 unfold iZ;cases x with
 |ofNat n=>simp[i64b,Nat.ble_eq];omega
 |negSucc n=>simp[i64b,Nat.ble_eq];omega
instance (x:Int):Decidable (iZ x):=decidable_of_iff (i64b x=ba) i64b_iff
theorem iZ.mk{x:Int}(b: -9223372036854775808<=x)(a:x<=9223372036854775807):iZ x:=⟨b,a⟩
def each(body:α->σ->(σ->ρ)->ρ)(k:σ->ρ):Zi α->σ->ρ
 |[],s=>k s
 |x::r,s=>body x s (each body k r)
def fG(body:Int->α->σ->(σ->ρ)->ρ)(k:σ->ρ):Int->Zi α->σ->ρ
 |_,[],s=>k s
 |i,x::r,s=>body i x s (fG body k (i+1) r)
def upto(body:Int->σ->(σ->ρ)->ρ)(k:σ->ρ):Int->Nat->σ->ρ
 |_,0,s=>k s
 |i,m+1,s=>body i s (upto body k (i+1) m)
def again(body:σ->(σ->Yw β)->Yw β):Nat->σ->Yw β
 |0,_=>aE
 |n+1,s=>body s (again body n)
end
section
variable{P:br}{Q:fR->Act->al->Prop}{n:Nat}{env:Nat->aj}{w:al}{x y:Code}
theorem az{ρ:Type}{r X a:ρ}{c:bj}{b:Ys}(hs:cond b X a=r)(d:ev n env c=.bool b)(e:b=ba->X=r->WC P x Q n env w)(f:b=ar->a=r->WC P y Q n env w):
 WC P (tr c x y) Q n env w:=dA d (fun h=>e h (by rw[h]at hs;exact hs)) (fun h=>f h (by rw[h]at hs;exact hs))
def JP{σ:Type}(n:Nat)(mod:Nat->Ys)(Py:Nat->aj)(live:σ->Zi (Nat×aj))(J:σ->al->Prop):Act->al->Prop:=
 fun a' w'=>∃s e,a'=act n e/\Gu mod e Py/\Holds e (live s)/\J s w'
def JL{σ:Type}(n:Nat)(mod:Nat->Ys)(Py:Nat->aj)(live:σ->Zi (Nat×aj))(J:σ->al->Prop)(μ:σ->Nat)(s0:σ):Act->al->Prop:=
 fun a' w'=>∃s e,a'=act n e/\Gu mod e Py/\Holds e (live s)/\J s w'/\μ s<μ s0
theorem cK{σ:Type}{c:Code}(mod:Nat->Ys)(live:σ->Zi (Nat×aj))(J:σ->al->Prop)(μ:σ->Nat)(s0:σ)
 (hl:Holds env (live s0)) (d:J s0 w)
 (a:∀s b e,J s b->WC P c (Exit.then (JL n mod env live J μ s) Q) n (upds (hav mod e env) (live s)) b):
 WC P (xw c) Q n env w:=wc_loop mod live J μ s0 hl d a
theorem aY{σ:Type}(mod:Nat->Ys)(live:σ->Zi (Nat×aj))(J:σ->al->Prop)
  (d:∀s w g,J s w->WC P y Q n (upds (hav mod g env) (live s)) w)
  (h:WC P x (Exit.then (JP n mod env live J) Q) n env w):WC P (Code.seq x y) Q n env w:=by
 refine jb ⟨wp_mono h.out fun f a w h=>?_⟩;cases f with
 |normal=>
  obtain⟨s,e,rfl,hA,b,c⟩:=h;have:=d s w e c;rw[hav_self hA,XA _ b]at this;exact this.out
 |_=>exact h
end
section
variable{K:Act->al->Prop}{Q:fR->Act->al->Prop}{a:Act}{w:al}{i j:Nat}
theorem ay(h:K a w):Exit.then K Q .normal a w:=h
theorem jM(h:Q .ret a w):Exit.then K Q .ret a w:=h
theorem sj(h:Q (.exit i) a w):Exit.then K Q (.exit i) a w:=h
theorem gK(h:Q .normal a w):kj i Q .normal a w:=h
theorem zq(h:Q .ret a w):kj i Q .ret a w:=h
theorem AR(h:Q .normal a w):kj i Q (.exit i) a w:=by simp only[kj,if_true];exact h
theorem Gw(hn:¬j=i)(h:Q (.exit j) a w):kj i Q (.exit j) a w:=by simp only[kj,Z3 hn];exact h
end
theorem Gu.os{mod:Nat->Ys}{e a:Nat->aj}{d:Nat}{v:aj}(b:mod d=ba)(h:Gu mod e a):Gu mod (gz e (ah d) v) a:=Gu.upd b h
theorem Gu.on{mod:Nat->Ys}{e a:Nat->aj}{v:aj}(h:Gu mod e a):Gu mod (gz e aE v) a:=h
theorem Gu.uc{mod:Nat->Ys}{e a:Nat->aj}{d:Nat}{v:aj}{l:Zi (Nat×aj)}(b:mod d=ba)(h:Gu mod (upds e l) a):Gu mod (upds e ((d,v)::l)) a:=Gu.upd b h
theorem Gu.un{mod:Nat->Ys}{e a:Nat->aj}(h:Gu mod e a):Gu mod (upds e []) a:=h
def inl(l:Zi Nat)(i:Nat):Ys:=match l with|[]=>ar|a::r=>bif gR i a then ba else inl r i
def subl(l m:Zi Nat):Ys:=match l with|[]=>ba|a::r=>bif inl m a then subl r m else ar
theorem subl_inl{m:Zi Nat}:∀{l:Zi Nat},subl l m=ba->∀i,inl l i=ba->inl m i=ba
 |[],_,i,h=>by simp[inl]at h
 |a::r,hs,i,h=>by
  unfold subl at hs;unfold inl at h;cases ha:inl m a with
  |false=>simp[ha]at hs
  |true=>
   simp only[ha,ZS]at hs;cases hb:gR i a with
   |true=>have:=ir hb;subst this;exact ha
   |false=>simp only[hb,Z1]at h;exact subl_inl hs i h
theorem Gu.hin{l m:Zi Nat}{j e a:Nat->aj}(hs:subl l m=ba)(h:Gu (inl m) e a):Gu (inl m) (LX.hav (inl l) j e) a:=fun i hi=>by
 have:inl l i=false:=by
  cases hc:inl l i with
  |false=>rfl
  |true=>rw[subl_inl hs i hc]at hi;cases hi
 simp only[LX.hav,this,Z1];exact h i hi
open Go.RowKit
theorem fB.row{α:Type}{R:lV α}{w:al}{B A:BS}{v:aj}{l:Zi α}(h:fB R w B A v l):
    (v=.slice aE 0 0/\l=[])\/∃(a:nh) (cap:Nat) (news:Zi aj),v=.slice (ah a) l.length cap/\news.length=l.length*R.sz/\(∀j u,news[j]? =ah u->w.cell? (a.add j)=ah u)/\(∀u∈news,u.oneCell'=ba)/\
      ∀i (h:i<l.length),R.rd w A ((news.drop (i*R.sz)).take R.sz) l[i]:=by
  obtain⟨a,cap,rfl,I,N,t,s⟩:=h;cases a with
  |none=>
    have x:=t Z;subst x;have hl:l=[]:=cd V;subst hl;exact .inl ⟨Z,Z⟩
  |some a=>
    right;by_cases hl:l.length=0
    · have:l=[]:=cd hl;subst this;exact⟨a,cap,[],Z,by simp,fun j u h=>by simp at h,fun u h=>by simp at h,fun i h=>Zs h<|ia _⟩
    · obtain⟨b,o,cells,E,C,n,F,q,K⟩:=s 0 V;cases n;have c:∀i (hi:i<l.length),R.rd w A ((cells.toList.drop<|o+i*R.sz).take R.sz) l[i]:=by
        intro i hi;obtain⟨b',L,m,G,y,n,_,g,p⟩:=s i hi;cases n;rw[q]at g;cases g;exact p
      have e:=R.len<|c (l.length-1) V;simp only[bo,cp,cm]at e;have f:=R.pos;have r:o+l.length*R.sz<=cells.size:=by
        have M:l.length*R.sz=(l.length-1)*R.sz+R.sz:=by
          conv=>lhs;rw[show l.length=(l.length-1)+1 by omega]
          rw[bw,sy]
        omega
      refine⟨⟨b,o,aE⟩,cap,(cells.toList.drop o).take<|l.length*R.sz,Z,?_,?_,?_,?_⟩
      · simp only[bo,cp,cm];omega
      · intro j u d;rw[bt]at d;split at d
        · rw[ck]at d;have z:(⟨b,o,aE⟩:nh).add j=⟨b,o+j,aE⟩:=by unfold js;split<;>simp_all
          rw[z];simpa[eR,q]using d
        · cases d
      · intro u d;obtain⟨j,k⟩:=List.getElem?_of_mem d;rw[bt]at k;split at k
        · next hlt=>
          rw[ck]at k;have hi:j / R.sz<l.length:=pB (by rw[mf];exact hlt);refine R.one (c (j / R.sz) hi) u<|List.mem_of_getElem? (i:=j%R.sz) ?_;rw[bt,Z2 (oY _ f),ck];rw[show o+j / R.sz*R.sz+j%R.sz=o+j by rw[lR,Nat.div_add_mod' j R.sz]];exact k
        · cases k
      · intro i hi;rw[et,dY,pj,cL]
        · exact c i hi
        · have:(i+1)*R.sz<=l.length*R.sz:=aU _ hi;rw[bw]at this;omega
theorem fill_fold(c:Zi aj):∀(cells:Array aj) (o:Nat),o+c.length<=cells.size->
  (c.zipIdx.foldl (fun cs(p:aj×Nat)=>cs.setIfInBounds (o+p.2) p.1) cells).toList=Oo cells.toList o c:=by
 suffices a:∀(k:Nat) (cells:Array aj) (o:Nat),o+k+c.length<=cells.size->
   ((c.zipIdx k).foldl (fun cs(p:aj×Nat)=>cs.setIfInBounds (o+p.2) p.1) cells).toList=Oo cells.toList (o+k) c by
  intro cells o h;have:=a 0 cells o (by simpa using h);simpa using this
 induction c with
 |nil=>intro k cells o h;simp[Oo]
 |cons x r ih=>
  intro k cells o h;simp only[bl]at h;rw[xF,List.foldl_cons,ih (k+1) _ o (by simp;omega)];simp only[mj,Oo];rw[show o+(k+1)=o+k+1 by omega];apply cN;intro i;simp only[bf,jf,bo,cj,cm,bt,iu,ck,bl,List.getElem?_cons]
  grind
theorem fill_parts{sz:Nat}(l:0<sz):∀(vs:Zi aj) (k:Nat) (cells:Array aj),(∀v∈vs,v.cells.size=sz)->(k+vs.length)*sz<=cells.size->
    ∃out,ml (fun i=>ah (i*sz,sz)) cells ((vs.zipIdx k).map fun p=>(p.2,p.1))=ah out/\out.toList=Oo cells.toList (k*sz) (vs.map fun v=>v.cells.toList).flatten
  |[],k,cells,_,_=>⟨cells,rfl,by simp[Oo]⟩
  |v::r,k,cells,hv,hs=>by
    have b:v.cells.size=sz:=hv v zq3;simp only[bl]at hs;have g:(k+1+r.length)*sz<=cells.size:=by rw[show k+1+r.length=k+(r.length+1) by omega];exact hs
    have m:k*sz+sz<=cells.size:=by
      have:(k+1)*sz<=(k+1+r.length)*sz:=aU _ V;rw[bw,sy]at this;omega
    have n:=fill_fold v.cells.toList cells (k*sz) (by rw[cm,b];exact m);let c2:=v.cells.zipIdx.foldl (fun cs(p:aj×Nat)=>cs.setIfInBounds (k*sz+p.2) p.1) cells;have a:c2.toList=Oo cells.toList (k*sz) v.cells.toList:=by
      rw[<-n];show(v.cells.zipIdx.foldl _ cells).toList=_;rw[<-uz,ub]
    have f:c2.size=cells.size:=by
      have:=ZD fp a;simp only[Oo,an,bo,cp,cm]at this;omega
    obtain⟨out,e,d⟩:=fill_parts l r (k+1) c2 (fun x j=>hv x (by simp[j])) (by rw[f];exact g);refine⟨out,?_,?_⟩
    · rw[xF,ct];unfold ml;simp only[b,ne_eq,not_true_eq_false,decide_false,Bool.false_or];rw[Z3 (by simp;omega)];exact e
    · rw[d,a];simp only[ct,ni,Oo];rw[show(k+1)*sz=k*sz+sz by rw[bw,sy]];have o:v.cells.toList.length=sz:=by rw[cm,b]
      generalize v.cells.toList=c at*;generalize (r.map fun v=>v.cells.toList).flatten=q;apply cN;intro i;simp only[bf,jf,bo,cm,an,bt,ck,cp]
      grind
def MK{α:Type}(R:lV α)(w:al)(A:BS):Zi aj->Zi α->Prop
 |[],[]=>True
 |v::vs,x::xs=>R.rd w A v.cells.toList x/\MK R w A vs xs
 |_,_=>False
theorem MK.len{α:Type}{R:lV α}{w:al}{A:BS}:∀{vs:Zi aj} {xs:Zi α},MK R w A vs xs->vs.length=xs.length
 |[],[],_=>rfl
 |v::vs,x::xs,h=>by simp[MK.len h.2]
 |[],_::_,h=>h.elim
 |_::_,[],h=>h.elim
theorem MK.sizes{α:Type}{R:lV α}{w:al}{A:BS}:∀{vs:Zi aj} {xs:Zi α},MK R w A vs xs->∀v∈vs,v.cells.size=R.sz
  |[],[],_=>by simp
  |v::vs,x::xs,h=>by
    intro u a;rcases bp.1 a with rfl|a
    · have:=R.len h.1;simpa using this
    · exact MK.sizes h.2 u a
  |[],_::_,h=>h.elim
  |_::_,[],h=>h.elim
theorem flat_len{sz:Nat}:∀{vs:Zi aj},(∀v∈vs,v.cells.size=sz)->(vs.map fun v=>v.cells.toList).flatten.length=vs.length*sz
 |[],_=>by simp
 |v::r,h=>by
  have a:=h v zq3;have c:=flat_len fun u b=>h u<|bm _ b;simp only[ct,ni,an,c,cm,a,bl,bw];omega
theorem MK.at{α:Type}{R:lV α}{w:al}{A:BS}:∀{vs:Zi aj} {xs:Zi α},MK R w A vs xs->∀i (h:i<xs.length),R.rd w A (((vs.map fun v=>v.cells.toList).flatten.drop (i*R.sz)).take R.sz) xs[i]
 |[],[],_,i,h=>Zs h (ia _)
 |v::vs,x::xs,h,i,hi=>by
  have a:v.cells.toList.length=R.sz:=R.len h.1;cases i with
  |zero=>
   simp only[ct,ni,tM,hJ,List.getElem_cons_zero];rw[cR V,kn V];exact h.1
  |succ i=>
   have:=MK.at h.2 i (by simpa using hi);simp only[ct,ni,List.getElem_cons_succ];rw[lp,cr (by rw[a,bw];omega),cf,a,show(i+1)*R.sz-R.sz=i*R.sz by rw[bw];omega];exact this
 |[],_::_,h,_,_=>h.elim
 |_::_,[],h,_,_=>h.elim
class Struct (P:br) (T:aw) (zs:outParam (Zi aj)) (pl:outParam (Zi (Nat×Nat))):Prop where
  zero:(P.info? T).map (·.zero)=ah (ah (.agg zs.toArray))
  desc:∃fs,P.underlying T=ah (.struct fs)/\fs.toList.map (fun f=>(f.offset,(P.info? f.type).map (·.size)))=pl.map (fun p=>(p.1,ah p.2))
def FillOk(b:Zi (Nat×Nat))(cs:Zi aj):Zi (Nat×aj)->Zi aj->Prop
 |[],out=>cs=out
 |(i,v)::r,out=>∃off a vs,b[i]? =ah (off,a)/\v.cells.toList=vs/\vs.length=a/\off+a<=cs.length/\FillOk b (Oo cs off vs) r out
theorem fill_ok{g:Zi (Nat×Nat)}:∀{a:Zi (Nat×aj)} {cs out:Zi aj},FillOk g cs a out->ml (fun i=>g[i]?) cs.toArray a=ah out.toArray
 |[],cs,out,h=>by cases h;rfl
 |(i,v)::r,cs,out,h=>by
  obtain⟨off,b,vs,j,f,d,l,m⟩:=h;unfold ml;simp only[j];have c:v.cells.size=b:=by rw[<-d,<-f,cm]
  rw[Z3 (by simp[c];omega)];have k:=fill_fold vs cs.toArray off (by rw[d];simpa using l);have:(v.cells.zipIdx.foldl (fun cs(p:aj×Nat)=>cs.setIfInBounds (off+p.2) p.1) cs.toArray)=(Oo cs off vs).toArray:=by
   apply me;rw[<-uz,ub,f];exact k
  have e:=fill_ok m;rw[<-this]at e;exact e
section
variable{P:br}{ops:Array du}{Q:fR->Act->al->Prop}{n:Nat}{env:Nat->aj}{w w' w0:al}{M K:BS}{hp:Nat->Chunk}{rest:Zi du}
 {d:Yw Nat} {op:Op} {ty:aw} {pos:String} {af:Array ix} {v:aj} {g:Yw (Nat×Ys)} {T:aw} {ρ:bj->aj} {x y:bj}
theorem Dp(h:w.grownBy w' v.ownBlock):bz (ob v) w w':=
 ⟨h.os,h.tape,h.output,h.size,fun b a hl=>h.block b hl (fun e=>a (ob_row.2 e.symm))⟩
theorem SS{E:aw}{sz b:Nat}{a:Yw nh}{l c:Nat}(e:lH P T E sz b)(j:ρ x=.slice a l c)(hl:l<=c)(f:ρ y=.slice aE 0 0):
  (bc ρ ⟨d,.call {callee:=.builtin .append,args:= #[x,y],argTypes:= #[T,T]},ty,pos,af,g⟩).run P w=.ok (.value (.slice a l c)) w:=by
 obtain⟨i,z,hi,k,hs,_,_⟩:=e.info;cases a<;>simp[bc,jt,lP,lz,j,f,jg,cx,e.desc,gQ,dt,hi,sM,hl,pC,storeCells]
theorem run_app{α:Type}{R:lV α}{E:aw}{sz f:Nat}{A:BS}{u:aj}{l m:Zi α}(o:lH P T E sz f)(hs:R.sz=sz)(N:ρ x=v)(hv:cz R E w A v l)(X:ρ y=u)(hu:fB R w BE A u m)
    (hA:∀b,ob v b->A b) (a:(l.length+m.length)*f<=140737488355328) (hm:l.length+m.length<=9223372036854775807):
    ∃p w',(bc ρ ⟨d,.call {callee:=.builtin .append,args:= #[x,y],argTypes:= #[T,T]},ty,pos,af,g⟩).run P w=.ok (.value p) w'/\cz R E w' A p (l++m)/\bz (ob v) w w'/\(∀b,ob p b->b<w.heap.size->ob v b):=by
  subst hs;have S:=hv;obtain⟨xs,B,h3⟩:=hv;rcases hu.row with⟨rfl,rfl⟩|⟨ad,c,news,rfl,n1,n2,n3,n4⟩
  · have hw:(bc ρ ⟨d,.call {callee:=.builtin .append,args:= #[x,y],argTypes:= #[T,T]},ty,pos,af,g⟩).run P w=.ok (.value v) w:=by
      rcases B.2 with⟨rfl,hn⟩|⟨gg,cap,cur,rfl,_,_,hc,_⟩
      · exact SS o N (cv _) X
      · exact SS o N hc X
    exact⟨v,w,hw,by simpa using S,bz.refl _ _,fun _ a _=>a⟩
  · obtain⟨i,z,hi,M,hs,r,a0⟩:=o.info;obtain⟨p,w',n,C,hg,_⟩:=run_append_own (P:=P) w 0 T ty E i z R.sz f o.desc hi M hs r a0 R.pos v l.length xs B ad m.length c news n1 n2 n3 (by unfold mX;omega) a (gd _);have O:=Dp hg;have q:∀b,ob p b->b<w.heap.size->ob v b:=by
      rcases B.2 with⟨rfl,hn⟩|⟨gg,cap,cur,rfl,_,hgg,hc,hcm,hcs,htake⟩
      · by_cases K:m.length=0
        · have t:news=[]:=cd (by rw[n1,K];simp);subst t;have e:(jg #[T,T] ty #[.slice aE 0 0,.slice (ah ad) m.length c]).run P w=.ok (.slice aE 0 0) w:=by
            simp[jg,cx,o.desc,gQ,dt,hi,sM,K,pC,loadCells,loadCellsFrom]
          rw[e]at n;cases n;exact fun b a _=>a
        · have e:=run_append_nil (P:=P) w T ty E i z o.desc hi M ad m.length c news (by rw[hs];exact n1) n2 V V (by rw[r];have:=a;rw[bw]at this;omega);rw[e]at n;cases n;intro b a hl;simp[ob]at a;omega
      · by_cases k:l.length+m.length<=cap
        · have L:l.length*i.size+news.length<=cur.size:=by rw[n1,hs,hcs,<-bw];exact aU _ k
          have e:=run_append_room (P:=P) w T ty E i o.desc hi gg l.length cap cur hgg ad m.length c news (by rw[hs];exact n1) n2 n3 k L;rw[e]at n;cases n;exact fun b a _=>a
        · have holds:∀j u,xs[j]? =ah u->w.cell? ((⟨gg,0,aE⟩:nh).add j)=ah u:=B.cells (g:=gg) Z;have e:=run_append_grow (P:=P) w T ty E i z o.desc hi M ⟨gg,0,aE⟩ l.length cap xs (by rw[hs];exact B.1) holds ad m.length c news (by rw[hs];exact n1) n2 V V (growslice_fits V (by rw[r];exact a));rw[e]at n;cases n;intro b a hl;simp[ob]at a;omega
    have I:(bc ρ ⟨d,.call {callee:=.builtin .append,args:= #[x,y],argTypes:= #[T,T]},ty,pos,af,g⟩).run P w=.ok (.value p) w':=by
      simp only[bc,jt,lP,lz,cq,cV,bn,hF,ct,gC,N,X,n]
    refine⟨p,w',I,⟨xs++news,by rw[an];exact C,?_⟩,O,q⟩;intro i a1;have F:=B.1;have G:∀b,A b\/ob p b->b<w.heap.size->A b\/ob v b:=fun b a hl=>a.imp id fun a=>q b a hl;by_cases s:i<l.length
    · have h5:=R.go (h3 i s) O (fun b a _=>.inr a) G;have Q:(i+1)*R.sz<=l.length*R.sz:=aU _ s;rw[bw]at Q;rw[fg s,hO V,cR (by rw[cp];omega)];exact h5
    · rw[an]at a1;have h5:=R.go (n4 (i-l.length) V) O (fun b a _=>hA b a) fun b a hl=>(G b a hl).elim id<|hA b;rw[gh V,lp,cr (by rw[F];exact aU _ V),cf,F,<-sA];exact h5
theorem SH.wP{α:Type}{R:lV α}{E:aw}(h:SH w0 M K w hp)(i:Nat):SH w0 M K w (bH hp i (.own R E (.slice aE 0 0) ([]:Zi α))):=
 h.learn i (bz.refl BE w) (fun _ h=>h.elim) cz.nil
theorem jB{α:Type}{R:lV α}{E:aw}{sz c:Nat}{u:aj}{l m:Zi α}(h:SH w0 M K w hp)(i:Nat)(hi:hp i=.own R E v l)(p:fB R w BE (SH.A M hp) u m)(q:lH P T E sz c)(hs:R.sz=sz)(r:ev n env x=v)(s:ev n env y=u)
    (a:(l.length+m.length)*c<=140737488355328) (o:l.length+m.length<=9223372036854775807)
    (k:∀w' e,SH w0 M K w' (bH hp i (.own R E e (l++m)))->WL P ops Q rest n (gz env d e) w'):
    WL P ops Q (⟨d,.call {callee:=.builtin .append,args:= #[x,y],argTypes:= #[T,T]},ty,pos,af,aE⟩::rest) n env w:=by
  obtain⟨e,w',j,t,f,z⟩:=run_app (d:=d) (ty:=ty) (pos:=pos) (af:=af) (g:=aE) q hs r (h.aZ i hi) s p (fun b a=>.inr ⟨i,by rw[hi];exact a⟩) a o;refine aA j (k w' e (h.step i f (fun b a _=>by rw[hi];exact a) (fun b a hl=>by rw[hi];exact z b a hl) ?_));refine cz.go t (bz.refl BE w') (fun _ h=>h.elim) (fun _ h=>h.elim) fun b a _=>?_;rcases a with a|a|a
  · exact .inl<|.inl a
  · exact .inl<|.inr<|nz a
  · exact .inr a
theorem run_bs{α:Type}{R:lV α}{E:aw}{sz m:Nat}{A:BS}{a:Array (Nat×bj)}{len:Nat}{vs:Zi aj}{xs:Zi α}(G:lH P T E sz m)(hs:R.sz=sz)
    (S:(a.toList.map fun p=>(p.1,ev n env p.2))=vs.zipIdx.map fun p=>(p.2,p.1)) (C:vs.length=len) (I:MK R w A vs xs) (hA:∀b,A b->b<w.heap.size) (Q:len*sz<=16777216):
    ∃u w',(bc (ev n env) ⟨d,.buildSlice T len a,ty,pos,af,g⟩).run P w=.ok (.value u) w'/\Grow w w'/\cz R E w' A u xs/\∀b,ob u b->w.heap.size=b:=by
  subst hs;subst C;obtain⟨i,z,hi,N,y,O,X⟩:=G.info;have e:=I.sizes;have o:=I.len;let zero:Array Value:=if vs.length*R.sz=0 then #[]else z.cells
  let c:Array Value:=(pg (vs.length*R.sz)).map (zero[· %zero.size]!);have f:c.size=vs.length*R.sz:=by simp[c]
  obtain⟨out,r,F⟩:=fill_parts R.pos vs 0 c e (by rw[f];simp);have j:=flat_len e;have q:out.toList=(vs.map fun v=>v.cells.toList).flatten:=by
    rw[F,tM];simp only[Oo,List.take_zero,cf,hY];rw[cr (by rw[cm,f,j];omega),List.append_nil]
  have k:out.size=vs.length*R.sz:=by rw[<-cm,q,j]
  have s:(a.map fun p=>(p.1,ev n env p.2)).toList=vs.zipIdx.map fun p=>(p.2,p.1):=by simpa using S
  have t:(bc (ev n env) ⟨d,.buildSlice T vs.length a,ty,pos,af,g⟩).run P w=.ok (.value<|.slice (ah ⟨w.heap.size,0,aE⟩) vs.length vs.length) (w.alloc<|.cells out E):=by
    simp only[bc,Instr.buildSlice,cx,gQ,dt];have L:¬(vs.length*R.sz>2 ^ 24):=by omega
    by_cases B:vs.length*R.sz=0
    · simp only[cq,hd,bn,G.desc,cV,hi,y,uA,B,if_true];have:out= #[]:=Array.eq_empty_of_size_eq_zero (by rw[k,B]);have K:ml (fun i=>ah (i*R.sz,R.sz)) ((pg 0).map fun x=>(#[]:Array aj)[x%(#[]:Array aj).size]!) (a.map fun p=>(p.1,ev n env p.2)).toList=ah out:=by
        rw[s];have:c=(pg 0).map (fun x=>(#[]:Array aj)[x%(#[]:Array aj).size]!):=by simp[c,B]
        rw[<-this];exact r
      rw[K];simp[wq,nb,-kh]
    · simp only[cq,hd,bn,G.desc,cV,hi,y,uA,Z3 L,B,if_false,ma,dt,N];have K:ml (fun i=>ah (i*R.sz,R.sz)) ((pg<|vs.length*R.sz).map fun x=>z.cells[x%z.cells.size]!) (a.map fun p=>(p.1,ev n env p.2)).toList=ah out:=by
        rw[s];have:c=(pg<|vs.length*R.sz).map (fun x=>z.cells[x%z.cells.size]!):=by simp[c,zero,B]
        rw[<-this];exact r
      rw[K];simp[wq,nb,-kh]
  refine⟨_,_,t,Grow.alloc _ _,⟨out.toList,⟨by rw[cm,k,o],.inr ⟨w.heap.size,vs.length,out,by rw[o],gd _,Ry _ _,by omega,?_,k,?_⟩⟩,?_⟩,?_⟩
  · unfold mX;have:vs.length<=vs.length*R.sz:=ot _ R.pos;omega
  · rw[kn];rw[cm,k,o];exact cv _
  · intro i M;have h5:=R.go (A':=fun b=>A b\/ob (.slice (ah ⟨w.heap.size,0,aE⟩) vs.length vs.length) b) (I.at i M) (Grow.alloc w (.cells out E)) (fun _ h=>h.elim) (fun b l hl=>by
      rcases l with l|l
      · exact l
      · simp[ob]at l;omega)
    rw[q];exact h5
  · intro b l;simp[ob]at l;exact l.symm
theorem oC{α:Type}{R:lV α}{E:aw}{sz c:Nat}{a:Array (Nat×bj)}{len:Nat}{vs:Zi aj}{xs:Zi α}(h:SH w0 M K w hp)(i:Nat)(m:lH P T E sz c)(hs:R.sz=sz)
  (r:(a.toList.map fun p=>(p.1,ev n env p.2))=vs.zipIdx.map fun p=>(p.2,p.1)) (e:vs.length=len) (q:MK R w (SH.A M hp) vs xs) (f:oj (len*sz) 16777216=ba)
  (k:∀w' u,SH w0 M K w' (bH hp i (.own R E u xs))->WL P ops Q rest n (gz env d u) w'):
  WL P ops Q (⟨d,.buildSlice T len a,ty,pos,af,aE⟩::rest) n env w:=by
 obtain⟨u,w',l,t,j,s⟩:=run_bs (d:=d) (ty:=ty) (pos:=pos) (af:=af) (g:=aE) m hs r e q h.lt<|iz f;exact aA l<|k w' u<|h.xS i t j fun b o=>oX<|s b o
theorem run_places{P:br}{w:al}:∀(b:Zi Field) (a:Zi (Nat×Nat)),b.map (fun f=>(f.offset,(P.info? f.type).map (·.size)))=a.map (fun p=>(p.1,ah p.2))->
    (b.mapM (m:=Sem) fun f=>do pure (f.offset,<-gQ f.type)).run P w=.ok a w
  |[],[],_=>rfl
  |[],_::_,h=>by simp at h
  |_::_,[],h=>by simp at h
  |f::b,p::a,h=>by
    simp only[ct,List.cons.injEq,ky]at h;obtain⟨⟨g,c⟩,e⟩:=h;have d:=run_places (w:=w) b a e;obtain⟨i,hi,hs⟩:∃i,P.info? f.type=ah i/\i.size=p.2:=by
      cases hi:P.info? f.type with
      |none=>simp[hi]at c
      |some i=>simp[hi]at c;exact⟨i,Z,c⟩
    rw[pH];simp only[cq,gQ,dt,hd,bn,hi,cV,hs,g];simp only[gQ,dt]at d;rw[d];simp
theorem oU{zs out:Zi aj}{c:Zi (Nat×Nat)}{a:Array (Nat×bj)}{pv:Zi (Nat×aj)}(o:Struct P T zs c)(hp:(a.toList.map fun p=>(p.1,ρ p.2))=pv)(t:FillOk c zs pv out):
  (bc ρ ⟨d,.build T a,ty,pos,af,g⟩).run P w=.ok (.value (.agg out.toArray)) w:=by
 obtain⟨q,l,k⟩:=o.desc;obtain⟨i,hi,r⟩:∃i,P.info? T=ah i/\i.zero=ah (.agg zs.toArray):=by
  have:=o.zero;cases hi:P.info? T with
  |none=>simp[hi]at this
  |some i=>simp[hi]at this;exact⟨i,Z,this⟩
 have s:=run_places (w:=w) q.toList c k;have n:(q.mapM (m:=Sem) fun f=>do pure (f.offset,<-gQ f.type)).run P w=.ok c.toArray w:=by
  rw[Array.mapM_eq_mapM_toList];simp only[Sem.run_map,s,bn]
 have j:(a.map fun p=>(p.1,ρ p.2)).toList=pv:=by rw[<-hp];simp
 have b:=fill_ok t;simp only[bc,Instr.build,ma,dt,cx];simp only[cq,hd,bn,hi,cV,r,l,n,j,tI];have e:(fun(x:Nat)=>c.toArray[x]?)=fun(i:Nat)=>c[i]? :=by funext x;simp
 rw[e,b];simp
def isNil:aj->Ys| .slice aE _ _=>ba|_=>ar
theorem Hy{α:Type}{R:lV α}{T2 E:aw}{sz:Nat}{B A:BS}{l:Zi α}{f:al}(e:SliceOf P T E sz)(i:ρ x=v)(j:fB R f B A v l)(k:ρ y=.slice aE 0 0):(bc ρ ⟨d,.binOp .eql T x y T2,ty,pos,af,g⟩).run P w=.ok (.value (.bool (isNil v))) w:=by
 obtain⟨a,cap,rfl,n,p,m,o⟩:=j;have b:∀a l c,(ti Op.maxDepth T (.slice a l c)<|.slice aE 0 0).run P w=.ok a.isNone w:=by
  intro a l c;show(ti (9999+1) T (.slice a l c)<|.slice aE 0 0).run P w=_;unfold ti;simp only[cq,cx,hd,bn,e.desc,cV];cases a<;>simp
 cases a<;>simp[bc,i,k,ga,nF,isNil,Op.equal,b]
theorem sQ{α:Type}{R:lV α}{B A:BS}{l:Zi α}(c:fB R w B A v l)(h:isNil v=ba):v=.slice aE 0 0/\l=[]:=by
 obtain⟨a,cap,rfl,d,e,b,f⟩:=c;cases a with
 |none=>
  have:=b Z;subst this;have hl:l.length=0:=by omega
  exact⟨by rw[hl],cd hl⟩
 |some a=>simp[isNil]at h
theorem SH.rD{α:Type}{R:lV α}{E:aw}{l:Zi α}{k:Int}{a:α}{b:Nat}(h:SH w0 M K w hp)(i:Nat)(hi:hp i=.own R E v l)(m:ob v b)(d:l[k.toNat]? =ah a):
    ∃cs,At w b (k.toNat*R.sz) cs/\R.rd w (SH.A M hp) cs a:=by
  have c:k.toNat<l.length:=by
    rcases cE k.toNat l.length with h|h
    · exact h
    · rw[bq h]at d;cases d
  have g:l[k.toNat]=a:=by rw[bh c]at d;exact cG d
  obtain⟨a',cap,rfl,s,t,r,q⟩:=h.dB i hi;obtain⟨b',o,cells,F,j,rfl,_,n,f⟩:=q k.toNat c;have:b=b':=m;subst this;have ho:o=0:=by
    obtain⟨xs,p,_⟩:=h.aZ i hi;rcases p.2 with⟨e,_⟩|⟨_,_,_,e,_⟩
    · cases e
    · cases e;rfl
  subst ho;rw[g]at f;rw[hY]at f;exact⟨_,⟨cells,F,j,n,by rw[R.len f]⟩,f⟩
theorem SH.oJ{α:Type}{R:lV α}{E:aw}{sz:Nat}{l:Zi α}{k:Int}{a:α}(h:SH w0 M K w hp)(i:Nat)(hi:hp i=.own R E v l)(f:SliceOf P T E sz)(hs:R.sz=sz)(e:0<=k)(j:l[k.toNat]? =ah a):
    ∃b,ob v b/\IxOk P T v k (.pointer (ah ⟨b,k.toNat*sz,aE⟩)):=by
  subst hs;have n:k.toNat<l.length:=by
    rcases cE k.toNat l.length with h|h
    · exact h
    · rw[bq h]at j;cases j
  obtain⟨xs,o,_⟩:=h.aZ i hi;rcases o.2 with⟨rfl,hn⟩|⟨g',cap,cur,rfl,_⟩
  · omega
  refine⟨g',Z,fun ρ x y w d ty pos af g m p=>?_⟩;obtain⟨i,hi,hs⟩:∃i,P.info? E=ah i/\i.size=R.sz:=by
    have:=f.info;cases hi:P.info? E with
    |none=>simp[hi]at this
    |some i=>simp[hi]at this;exact⟨i,Z,this⟩
  simp only[bc,zv,m,p,kl,cx,gQ,dt];have q:(⟨g',0,aE⟩:nh).add (k.toNat*R.sz)=⟨g',k.toNat*R.sz,aE⟩:=by
    unfold js;split
    · next hz=>rw[hz]
    · simp
  have c:k<(l.length:Int):=by omega
  simp[f.desc,hi,hs,e,c,q]
theorem SH.cutO{α:Type}{R:lV α}{E:aw}{sz:Nat}{l:Zi α}{b:Int}(h:SH w0 M K w hp)(i:Nat)(hi:hp i=.own R E v l)(p:SliceOf P T E sz)(hs:R.sz=sz)(k:0<=b)(N:b<=l.length):
    ∃u,SH w0 M K w (bH hp i (.own R E u (l.take b.toNat)))/\SlOk P T v 0 b l.length u:=by
  subst hs;have n:b.toNat<=l.length:=by omega
  have d:(l.take b.toNat).length=b.toNat:=by rw[bo];omega
  obtain⟨xs,C,q2⟩:=h.aZ i hi;obtain⟨u,G,Q⟩:=r_sl (P:=P) (T:=T) p (h.dB i hi) (Int.le_refl 0) k N;have hv:∃cap,v=.slice aE 0 0\/∃g,v=.slice (ah ⟨g,0,aE⟩) l.length cap:=by
    rcases C.2 with⟨rfl,_⟩|⟨g',cap,cur,rfl,_⟩
    · exact⟨0,.inl Z⟩
    · exact⟨cap,.inr ⟨g',Z⟩⟩
  have e:=G (fun o=>match o with| .tmp 0=>v| .const v=>v|_=>gj) (.tmp 0) aE (ah<|.const<|.int .i64 b) w aE 0 "" #[] aE Z (.inl ⟨Z,Z⟩) (.inr Z);rcases C.2 with⟨rfl,hn⟩|⟨g',cap,cur,rfl,e1,e2,e3,e4,e5,e6⟩
  · have F:l=[]:=cd hn;subst F;obtain⟨a,cap,rfl,h1,h2,h3,h4⟩:=Q;have B:b=0:=by simp at N;omega
    subst B;have:a=aE/\cap=0:=by
      obtain⟨r,m⟩:∃r,P.info? E=ah r:=by
        have:=p.info;cases q:P.info? E with
        |none=>simp[q]at this
        |some i=>exact⟨i,rfl⟩
      simp[bc,lj,lA,cx,p.desc,cX,eE,kl,gQ,dt,m,cut]at e;exact⟨e.1.symm,e.2.symm⟩
    obtain⟨rfl,rfl⟩:=this;refine⟨_,?_,G⟩;have:=h.step (c:=.own R E (.slice aE 0 0) ([]:Zi α)) i (bz.refl BE w) (fun _ h=>h.elim) (fun _ h=>h.elim) cz.nil;simpa[cut]using this
  · have I:u=.slice (ah ⟨g',0,aE⟩) b.toNat cap:=by
      obtain⟨r,m,s⟩:∃r,P.info? E=ah r/\r.size=R.sz:=by
        have:=p.info;cases q:P.info? E with
        |none=>simp[q]at this
        |some i=>simp[q]at this;exact⟨i,Z,this⟩
      obtain⟨y,rfl⟩:=cC k;have A:y<=cap:=by simp at n;omega
      have t:(⟨g',0,aE⟩:nh).add 0=⟨g',0,aE⟩:=rfl;have X:(0:Int)<=(y:Int):=ka y;have S:(y:Int)<=(cap:Int):=by omega
      by_cases z:cap=0
      · subst z;have k:y=0:=by omega
        subst k;simp[bc,lj,lA,cx,p.desc,cX,eE,kl,gQ,dt,m,s]at e;simpa using e.symm
      · simp[bc,lj,lA,cx,p.desc,cX,eE,kl,gQ,dt,m,s,A,z,t]at e;simpa using e.symm
    subst I;refine⟨_,h.step (c:=.own R E (.slice (ah ⟨g',0,aE⟩) b.toNat cap) (l.take b.toNat)) i (bz.refl BE w) (fun _ h=>h.elim) (fun x f _=>by rw[hi];exact f) ⟨xs.take (b.toNat*R.sz),⟨?_,.inr ⟨g',cap,cur,by rw[d],e1,e2,?_,e4,e5,?_⟩⟩,?_⟩,G⟩
    · rw[d,bo,C.1,cL (aU _ n)]
    · rw[d];omega
    · rw[d,<-e6,dY,cL (aU _ n)]
    · intro j O;rw[d]at O;have L:j<l.length:=by omega
      have q:=R.go (A':=fun x=>(M x\/SH.av hp i (.own R E (.slice (ah ⟨g',0,aE⟩) b.toNat cap) (l.take b.toNat)) x)\/ob (.slice (ah ⟨g',0,aE⟩) b.toNat cap) x) (q2 j L) (bz.refl BE w) (fun _ h=>h.elim) (fun x f _=>by
        rcases f with(f|f|f)|f
        · exact .inl<|.inl f
        · exact .inl<|.inr<|nz f
        · exact .inr f
        · exact .inr f)
      rw[nj];rw[et,dY,cL]
      · exact q
      · have:(j+1)*R.sz<=b.toNat*R.sz:=aU _ O;rw[bw]at this;omega
theorem SV{α:Type}{l:Zi α}{i o s off:Nat}{x:α}(ho:o=i+off):((l.set o x).drop i).take s=((l.drop i).take s).set off x:=by
 subst ho;rw[A6,Z3 V,Nat.add_sub_cancel_left,pS]
theorem PU{α:Type}{l:Zi α}{i o s:Nat}{x:α}(h:o<i\/i+s<=o):((l.set o x).drop i).take s=(l.drop i).take s:=by
  rw[A6];split
  · rfl
  · rw[pS,List.set_eq_of_length_le];rw[bo];omega
theorem ML{α:Type}{R:lV α}{E:aw}{sz:Nat}{l:Zi α}{k:Int}{a a':α}{b off:Nat}{z u:aj}(h:SH w0 M K w hp)(i:Nat)(hi:hp i=.own R E u l)(s:ob u b)(hs:R.sz=sz)(q:l[k.toNat]? =ah a)(hT:One P T z)(c:ev n env x=.pointer (ah ⟨b,k.toNat*sz+off,aE⟩))
    (hy:ev n env y=v) (h1:v.oneCell'=ba) (p:se off sz=ba) (hset:∀cs,R.rd w (SH.A M hp) cs a->R.rd w (SH.A M hp) (cs.set off v) a')
    (S:∀w',SH w0 M K w' (bH hp i (.own R E u (l.set k.toNat a')))->WL P ops Q rest n (gz env d gj) w'):
    WL P ops Q (⟨d,.store T x y,ty,pos,af,aE⟩::rest) n env w:=by
  subst hs;rw[oT]at p;have f:k.toNat<l.length:=by
    rcases cE k.toNat l.length with h|h
    · exact h
    · rw[bq h]at q;cases q
  have F:l[k.toNat]=a:=by rw[bh f]at q;exact cG q
  generalize k.toNat=k at*;have e:∀b,ob u b->SH.A M hp b:=fun b s=>.inr ⟨i,by rw[hi];exact s⟩;obtain⟨xs,L,O⟩:=h.aZ i hi;rcases L.2 with⟨rfl,hn⟩|⟨g',cap,cur,rfl,e1,e2,e3,e4,e5,e6⟩
  · omega
  have r:b=g':=s;subst r;have t:(k+1)*R.sz<=l.length*R.sz:=aU _ f;have N:l.length*R.sz<=cap*R.sz:=aU _ e3;rw[bw]at t;have B:k*R.sz+off<cur.size:=by omega
  have o:=bz.zn w b<|.cells (cur.setIfInBounds (k*R.sz+off) v) E (0,0);refine Dn (VB hT c e2 B hy h1) (S _ (h.step i o (fun x c _=>by rw[hi];exact c) (fun x c _=>by rw[hi];exact c) ⟨xs.set (k*R.sz+off) v,⟨?_,.inr ⟨b,cap,cur.setIfInBounds (k*R.sz+off) v,?_,e1,?_,?_,e4,?_,?_⟩⟩,?_⟩))
  · rw[cj,cj];exact L.1
  · rw[cj]
  · rw[yG (iQ e2)]
  · rw[cj];exact e3
  · simpa using e5
  · rw[cj,mj,pS,e6]
  · intro g G;have C:g<l.length:=by rwa[cj]at G
    have m:=fun cs a(h:R.rd w (SH.A M hp) cs a)=>R.go (A':=fun x=>(M x\/(SH.av hp i (.own R E (.slice (ah ⟨b,0,aE⟩) l.length cap) (l.set k a'))) x)\/ob (.slice (ah ⟨b,0,aE⟩) l.length cap) x) h o (fun x c _=>e x c) (fun x c _=>by
      rcases c with(c|c|c)|c
      · exact .inl c
      · exact .inr<|nz c
      · exact e x c
      · exact e x c)
    have I:=fun j(X:j<l.length)=>R.go (A':=SH.A M hp) (O j X) (bz.refl BE w) (fun _ h=>h.elim) fun x c _=>.inl c;by_cases hik:g=k
    · subst hik;rw[pk,SV rfl];exact m _ _<|hset _<|F▸I g f
    · rw[qS (Ne.symm hik),PU]
      · exact m _ _<|I g C
      · rcases cE k g with h5|h5
        · left;have:(k+1)*R.sz<=g*R.sz:=aU _ h5;rw[bw]at this;omega
        · right;have:(g+1)*R.sz<=k*R.sz:=aU _ V;rw[bw]at this;omega
structure WK(P:br)(ops:Array du)(w:al)(Q:Act->Prop)(l:List du)(n:Nat)(env:Nat->aj):Prop where
 out:tx P ops (fun x=>x=w) Q l (act n env)
end
section
variable{P:br}{ops:Array du}
theorem yH{w:al}{Q:Act->Prop}:∀{l:Zi du} {a:Act},tx P ops (fun x=>x=w) Q l a->wpStill P ops w Q l a
  |[],_,h=>h
  |o::rest,a,h=>by
    unfold tx at h;unfold wpStill;split
    · rename_i c;rw[Z2 c]at h;obtain⟨v,g,d⟩:=h;have b:=g w Z;unfold Oper.quietAt at b;unfold Oper.still;generalize (bc a.eval o).run P w=r at b⊢;cases r with
      |ok n w'=>
        cases n<;>simp only[z6]at b<;>simp only[Oper.stillUpon];case value u=>exact⟨b.1,by rw[b.2];exact yH d⟩
        case skip=>exact⟨b.1,by rw[<-b.2];exact yH d⟩
        case enter f args=>exact⟨b.1,v,b.2.mono (fun e i h=>h),yH d⟩
      |halt x w'=>simp only[z6]at b
    · rename_i c;rw[Z3 c]at h;exact yH h
end
section
variable{P:br}{ops:Array du}{Q:fR->Act->al->Prop}{n:Nat}{env:Nat->aj}{w w' w0:al}{M K:BS}{hp:Nat->Chunk}{rest:Zi du}
 {d:Yw Nat} {op:Op} {ty:aw} {pos:String} {af:Array ix} {v:aj} {g:Yw (Nat×Ys)} {T:aw} {ρ:bj->aj} {x y:bj}
variable{Q1:Act->Prop}
theorem bT(c:(bc (ev n env) ⟨d,op,ty,pos,af,aE⟩).run P w=.ok (.value v) w)(h:WK P ops w Q1 rest n (gz env d v)):WK P ops w Q1 (⟨d,op,ty,pos,af,aE⟩::rest) n env:=by
  refine⟨?_⟩;unfold tx;have a:cg ⟨d,op,ty,pos,af,aE⟩ (eg ops (act n env).tmps)=true:=rfl;rw[Z2 a];refine⟨v,fun w' b=>?_,?_⟩
  · subst b;unfold Oper.quietAt;rw[iT,c];exact⟨Z,Z⟩
  · rw[Hw];exact h.out
theorem wk_on{j dj:Nat}{b:Ys}(c:(ops[j]?).bind (·.dst)=ah dj)(f:ev n env (.tmp dj)=.bool b)(h:WK P ops w Q1 (⟨d,op,ty,pos,af,aE⟩::rest) n env):WK P ops w Q1 (⟨d,op,ty,pos,af,ah (j,b)⟩::rest) n env:=by
  have g:=Gt (ops:=ops) c f;have e:cg ⟨d,op,ty,pos,af,ah (j,b)⟩ (eg ops (act n env).tmps)=true:=by simp[cg,g]
  have a:cg ⟨d,op,ty,pos,af,aE⟩ (eg ops (act n env).tmps)=true:=rfl;obtain⟨h⟩:=h;refine⟨?_⟩;unfold tx at h⊢;rw[Z2 a]at h;rw[Z2 e];exact h
theorem wk_skip(a:cg ⟨d,op,ty,pos,af,g⟩ (eg ops (act n env).tmps)=ar)(h:WK P ops w Q1 rest n (gz env d gj)):WK P ops w Q1 (⟨d,op,ty,pos,af,g⟩::rest) n env:=by
 refine⟨?_⟩;unfold tx;rw[Z3 (by rw[a];decide),Hw];exact h.out
theorem I4{j dj:Nat}{b b':Ys}(a:(ops[j]?).bind (·.dst)=ah dj)(e:ev n env (.tmp dj)=.bool b')(c:(b'==b)=ar)(h:WK P ops w Q1 rest n (gz env d gj)):WK P ops w Q1 (⟨d,op,ty,pos,af,ah (j,b)⟩::rest) n env:=
  wk_skip (by have f:=Gt (ops:=ops) a e;simpa[cg,f]using c) h
theorem Me{j dj:Nat}(b:(ops[j]?).bind (·.dst)=ah dj)(c:ev n env (.tmp dj)=gj):eg ops (act n env).tmps j=none:=by
  unfold eg;have a:(act n env).eval (.tmp dj)=undef:=by rw[iT];exact c
  simp only[b,fb];simp only[kd]at a;cases h2:(act n env).tmps[dj]? with
  |none=>rfl
  |some x=>simp[cM,h2]at a;subst a;rfl
theorem Dq{j dj:Nat}{b:Ys}(a:(ops[j]?).bind (·.dst)=ah dj)(c:ev n env (.tmp dj)=gj)(h:WK P ops w Q1 rest n (gz env d gj)):WK P ops w Q1 (⟨d,op,ty,pos,af,ah (j,b)⟩::rest) n env:=
  wk_skip (by simp[cg,Me a c]) h
theorem wl_offU{j dj:Nat}{b:Ys}(a:(ops[j]?).bind (·.dst)=ah dj)(e:ev n env (.tmp dj)=gj)(h:WL P ops Q rest n (gz env d gj) w):WL P ops Q (⟨d,op,ty,pos,af,ah (j,b)⟩::rest) n env w:=by
  have c:cg ⟨d,op,ty,pos,af,ah (j,b)⟩ (eg ops (act n env).tmps)=false:=by simp[cg,Me a e]
  refine⟨?_⟩;unfold so;rw[Z3 (by rw[c];decide),Hw];exact h.out
theorem wk_gd{j dj:Nat}{b want:Ys}(a:Ys)(g:(ops[j]?).bind (·.dst)=ah dj)(f:ev n env (.tmp dj)=gv a (.bool b))
    (m:(a&&(b==want))=ba->(bc (ev n env) ⟨d,op,ty,pos,af,aE⟩).run P w=.ok (.value v) w) (h:WK P ops w Q1 rest n (gz env d (gv (a&&(b==want)) v))):
    WK P ops w Q1 (⟨d,op,ty,pos,af,ah (j,want)⟩::rest) n env:=by
  by_cases c:(a&&(b==want))=ba
  · have i:=gl c;have k:=gr c;rw[iR i]at f;rw[iR c]at h;have l:b=want:=by simpa using k
    subst l;exact wk_on g f<|bT (m c) h
  · have e:(a&&(b==want))=false:=by simpa using c
    rw[e]at h;cases a with
    |true=>exact I4 g f (by simpa using e) h
    |false=>exact Dq g f h
theorem qh{j dj:Nat}{b want:Ys}(a:(ops[j]?).bind (·.dst)=ah dj)(e:ev n env (.tmp dj)=.bool b)
    (c:(b==want)=ba->(bc (ev n env) ⟨d,op,ty,pos,af,aE⟩).run P w=.ok (.value v) w) (h:WK P ops w Q1 rest n (gz env d (gv (b==want) v))):
    WK P ops w Q1 (⟨d,op,ty,pos,af,ah (j,want)⟩::rest) n env:=
  wk_gd ba a e (fun h=>c (by simpa using h)) (by simpa using h)
theorem Ct{l:Zi du}(h:WL P ops Q l n env w):WK P ops w (fun a=>so P ops Q l a w) [] n env:=⟨h.out⟩
theorem wF{id:Nat}(k:Nat){l:Zi du}(b:P.follows .mixedOrders=ba)(hB:wv .any l.toArray k=ba)(h:SH w0 M K w hp)
  (c:∀w,SH w0 M K w hp->WK P l.toArray w (fun a=>so P l.toArray Q (l.drop k) a w) (l.take k) n env):WC P (hX id l.toArray ba) Q n env w:=
 ⟨yv k b hB (yH (c _ (h.grow (Grow.drew w))).out)⟩
theorem uI{id:Nat}{l:Zi du}(b:P.follows .mixedOrders=ba)(hB:Region.lexB .any l.toArray=ba)(h:SH w0 M K w hp)
  (c:∀w,SH w0 M K w hp->WK P l.toArray w (fun a=>∀w',w'=w->Q .normal a w') l n env):WC P (hX id l.toArray ba) Q n env w:=
 ⟨wp_region_quiet (C:=fun x=>x=w.drew) b hB Z (c _ (h.grow (Grow.drew w))).out⟩
theorem wk_end(h:Q .normal (act n env) w):WK P ops w (fun a=>∀w',w'=w->Q .normal a w') [] n env:=⟨fun _ e=>by rw[e];exact h⟩
end
open Go.RowKit
section
variable{P:br}{ops:Array du}{Q:fR->Act->al->Prop}{n:Nat}{env:Nat->aj}{w w' w0:al}{M K:BS}{hp:Nat->Chunk}{rest:Zi du}
 {d:Yw Nat} {op:Op} {ty:aw} {pos:String} {af:Array ix} {v:aj} {g:Yw (Nat×Ys)} {T:aw} {ρ:bj->aj} {x y:bj}
theorem EP{v:aj}(h:v.oneCell'=ba):v.cells= #[v]:=by
 cases v<;>first|rfl|simp[eh]at h
theorem dx{v:aj}(h:v.oneCell'=ba):v.cells.toList=[v]:=by rw[EP h]
theorem fB.rdc{α:Type}{R:lV α}{A:BS}{l:Zi α}(h:bS R w A v l):(oI R).rd w A v.cells.toList l:=by
 rw[EP h.one];exact⟨v,Z,h⟩
theorem gvn{c d:Ys}{v:aj}(h:c=ba):gv (c&&d) v=gv d v:=by rw[h,iv]
theorem aD:∀v∈([]:Zi aj),v.oneCell'=true:=fun _ h=>by cases h
theorem aa{a:aj}{l:Zi aj}(b:a.oneCell'=ba)(c:∀v∈l,v.oneCell'=ba):∀v∈a::l,v.oneCell'=true:=fun v h=>by
  rcases bp.1 h with rfl|h
  · exact b
  · exact c v h
def Room{α:Type}(a:Nat)(l m:Zi α):Prop:=(l.length+m.length)*a<=140737488355328/\l.length+m.length<=9223372036854775807
instance {α:Type} (bytes:Nat) (l m:List α):Decidable (Room bytes l m):=inferInstanceAs (Decidable (_/\_))
theorem Room.mk{α:Type}{a:Nat}{l m:Zi α}(b:(l.length+m.length)*a<=140737488355328)(c:l.length+m.length<=9223372036854775807):Room a l m:=⟨b,c⟩
theorem set1{α:Type}{R:lV α}{A:BS}{cs:Zi aj}{a a':α}{v:aj}(h:R.rd w A v.cells.toList a')(d:R.rd w A cs a)(hs:R.sz=1:=by rfl)(b:v.oneCell'=true:=by assumption):R.rd w A (cs.set 0 v) a':=by
 have:=R.len d;rw[hs]at this
 match cs,this with
 |[c],_=>rw[dx b]at h;exact h
theorem gX{f:hQ}{first captured:Array aj}{xs:Array bj}{a:Array aw}{args:Zi aj}(g:VD P f)(b:ev n env x=.func (.func f) first captured)
  (i:first.toList++xs.toList.map (ev n env)++captured.toList=args) (c:bk P f args.toArray w (fun e w'=>∃v,e=.returned v/\WL P ops Q rest n (gz env d v) w')):
  WL P ops Q (⟨d,.call {callee:=.value x,args:=xs,argTypes:=a},ty,pos,af,aE⟩::rest) n env w:=
 bA g b i c (fun _ _ h=>h)
theorem eX{α:Type}{a b:α}{l m:Zi α}(h:a=b)(c:l=m):a::l=b::m:=by rw[h,c]
theorem w_callG{f:hQ}{first captured:Array aj}{xs:Array bj}{m:Array aw}{args:Zi aj}{j dj:Nat}{b want:Ys}(c:Ys)(l:(ops[j]?).bind (·.dst)=ah dj)(i:ev n env (.tmp dj)=gv c (.bool b))(u:VD P f)(p:ev n env x=.func (.func f) first captured)
    (y:(c&&(b==want))=ba->first.toList++xs.toList.map (ev n env)++captured.toList=args) (q:bk P f args.toArray w (fun e w'=>Grow w w'/\e=.returned v))
    (k:∀w',Grow w w'->WL P ops Q rest n (gz env d (gv (c&&(b==want)) v)) w'):
    WL P ops Q (⟨d,.call {callee:=.value x,args:=xs,argTypes:=m},ty,pos,af,ah (j,want)⟩::rest) n env w:=by
  by_cases a:(c&&(b==want))=ba
  · have t:=gl a;have s:=gr a;rw[iR t]at i;have o:b=want:=by simpa using s
    subst o;refine Vz l i<|bA u p (y a) q ?_;rintro e w'⟨r,rfl⟩;refine⟨_,Z,?_⟩;have:=k w' r;rw[iR a]at this;exact this
  · have g:(c&&(b==want))=false:=by simpa using a
    have h:=k w<|bz.refl _ _;rw[g]at h;cases c with
    |true=>exact CG l i (by simpa using g) h
    |false=>exact wl_offU l i h
theorem uJ{f:hQ}{first captured:Array aj}{xs:Array bj}{a:Array aw}{args:Zi aj}{j dj:Nat}{b want:Ys}(c:(ops[j]?).bind (·.dst)=ah dj)(i:ev n env (.tmp dj)=.bool b)(l:VD P f)(m:ev n env x=.func (.func f) first captured)
    (o:(b==want)=ba->first.toList++xs.toList.map (ev n env)++captured.toList=args) (g:bk P f args.toArray w (fun e w'=>Grow w w'/\e=.returned v))
    (k:∀w',Grow w w'->WL P ops Q rest n (gz env d (gv (b==want) v)) w'):
    WL P ops Q (⟨d,.call {callee:=.value x,args:=xs,argTypes:=a},ty,pos,af,ah (j,want)⟩::rest) n env w:=
  w_callG ba c i l m (fun h=>o (by simpa using h)) g (by simpa using k)
theorem SH.mq{α:Type}{R:lV α}{E:aw}{l:Zi α}(h:SH w0 M BE w hp)(i:Nat)(hi:hp i=.own R E v l):cz R E w M v l/\∀b,ob v b->w0.heap.size<=b:=
 ⟨cz.go (h.aZ i hi) (bz.refl BE w) (fun _ h=>h.elim) (fun _ h=>h.elim) (fun b a _=>.inl (.inl a)),fun b a=>h.fresh i b (by rw[hi];exact a)⟩
theorem lL{s:Nat}:∀b,ob (.slice aE 0 0) b->s<=b:=fun _ h=>h.elim
theorem rJ{P:br}{E:aw}{z:aj}{s b:Nat}(h:(P.info? E).map (fun i=>(i.zero,i.size,i.bytes))=ah (ah z,s,b))(a:z.cells.size=s):∃i z,P.info? E=ah i/\i.zero=ah z/\i.size=s/\i.bytes=b/\z.cells.size=s:=by
 cases hi:P.info? E with
 |none=>simp[hi]at h
 |some i=>simp[hi]at h;exact⟨i,z,Z,h.1,h.2.1,h.2.2,a⟩
theorem r_max{T2:aw}{p q:Int}(b:ρ x=.int .i64 p)(a:ρ y=.int .i64 q):(bc ρ ⟨d,.call {callee:=.builtin .max,args:= #[x,y],argTypes:= #[T,T2]},ty,pos,af,g⟩).run P w=.ok (.value (.int .i64 (max p q))) w:=by
 have h:(if q>p then q else p)=max p q:=by split<;>omega
 simp[bc,jt,lP,lz,Builtin.max_,Builtin.max2,b,a,h]
theorem r_min{T2:aw}{p q:Int}(b:ρ x=.int .i64 p)(a:ρ y=.int .i64 q):(bc ρ ⟨d,.call {callee:=.builtin .min,args:= #[x,y],argTypes:= #[T,T2]},ty,pos,af,g⟩).run P w=.ok (.value (.int .i64 (min p q))) w:=by
 have h:(if q<p then q else p)=min p q:=by split<;>omega
 simp[bc,jt,lP,lz,Builtin.min_,Builtin.min2,b,a,h]
theorem ER{zs vs cs:Zi aj}{b i:Nat}(e:SH w0 M K w hp)(hi:hp i=.blk b cs)(j:yA P T zs)(hl:vs.length=zs.length)(f:cs=vs):(wk T ⟨b,0,aE⟩).run P w=.ok (.agg vs.toArray) w:=by
 subst f;have h:=wV (P:=P) (ρ:=fun _=>.pointer (ah ⟨b,0,aE⟩)) (d:=aE) (ty:=0) (pos:= "") (af:= #[]) (g:=aE) (x:=.tmp 0) (o:=0) (vs:=cs) e i hi j Z (by rw[<-hl];simp) hl;simp only[bc,ts,kf]at h;have c:((wk T ⟨b,0,aE⟩).run P w).andThen (fun a w'=>vl (Next.value a) w')=vl (Next.value (Value.agg cs.toArray)) w:=by simpa using h
 cases hres:(wk T ⟨b,0,aE⟩).run P w with
 |ok v w'=>rw[hres]at c;simp at c;rw[c.1,c.2]
 |halt x w'=>rw[hres]at c;simp[Result.andThen]at c
theorem fin_tct{g:yr}{R:mv->al->Prop}{t u a:Tmp}{T:aw}{v1 v3:aj}{zs vs:Zi aj}{b:Nat}(l:g.results= #[.tmp t,.cell a T,.tmp u])(j:ev n env (.tmp t)=v1)(p:ev n env (.tmp a)=.pointer (ah ⟨b,0,aE⟩))(o:ev n env (.tmp u)=v3)
  (m:SH w0 M K w hp) (i:Nat) (hi:hp i=.blk b vs) (k:yA P T zs) (hl:vs.length=zs.length) (h:R (.returned (.tuple #[v1,.agg vs.toArray,v3])) w):km P g R .ret (act n env) w:=by
 refine⟨Z,_,?_,h⟩;have e:=congrFun (iT n env)<|.tmp t;have c:=congrFun (iT n env)<|.tmp u;have d:=congrFun (iT n env)<|.tmp a;rw[j]at e;rw[o]at c;rw[p]at d;simp only[kd]at e c d;rw[cM]at e c d;have f:=ER (P:=P) m hi k hl Z;unfold results;rw[l];simp[e,c,d,asAddr,f]
theorem SH.kU{α:Type}{R:lV α}{E:aw}{l:Zi α}(h:SH w0 M K w hp)(j i:Nat)(p:hp j=.own R E v l)(hi:hp i=.no)(s:j≠i):SH w0 M K w (bH (bH hp j .no) i (.own R E v l)):=by
  have ho:=h.aZ j p;have d:∀x b,(bH (bH hp j .no) i (.own R E v l) x).own' b->∃y,(hp y).own' b/\(x=i->y=j)/\(x≠i->y=x/\x≠j):=by
    intro x b a;by_cases e:x=i
    · subst e;rw[bN]at a;exact⟨j,by rw[p];exact a,fun _=>rfl,fun h=>Zs Z h⟩
    · rw[fe e]at a;by_cases c:x=j
      · subst c;rw[bN]at a;exact a.elim
      · rw[fe c]at a;exact⟨x,a,fun h=>Zs h e,fun _=>⟨Z,c⟩⟩
  have f:∀b,jH (bH (bH hp j .no) i<|.own R E v l) b->jH hp b:=fun b⟨x,o⟩=>let ⟨y,g,_⟩:=d x b o;⟨y,g⟩;refine⟨h.keep,h.ltM,fun x b a=>let ⟨y,g,_⟩:=d x b a;h.apM y b g,fun x=>?_,fun x y k b o g=>?_,fun x b a=>let ⟨y,g,_⟩:=d x b a;h.old y b g⟩
  · by_cases e:x=i
    · subst e;rw[bN];have:=h.ok j;rw[p]at this;exact Chunk.sub this fun b a _=>f b a
    · rw[fe e];by_cases c:x=j
      · subst c;rw[bN];trivial
      · rw[fe c];exact Chunk.sub (h.ok x) (fun b a _=>f b a)
  · obtain⟨r,t,u,m⟩:=d x b o;obtain⟨q,k1,k2,n⟩:=d y b g;have:r≠q:=by
      by_cases e:x=i
      · have c:y≠i:=fun h=>k<|e.trans h.symm;rw[u e,(n c).1];exact fun h=>(n c).2 h.symm
      · by_cases c:y=i
        · rw[k2 c,(m e).1];exact(m e).2
        · rw[(m e).1,(n c).1];exact k
    exact h.apart r q this b t k1
theorem SH.ji{α:Type}{R:lV α}{l:Zi α}(h:SH w0 M K w hp)(j i:Nat)(a:hp j=.rd R v l):SH w0 M K w (bH hp i (.rd R v l)):=h.au i (h.aR j a)
theorem SH.Az{α:Type}{R:lV α}{l:Zi α}(h:SH w0 M K w hp)(i:Nat)(hi:hp i=.rd R v l):bS R w M v l:=
 (h.aR i hi).sub (fun b a _=>.inl a) (fun b a _=>.inl a)
def clone{α:Type}(b:Nat)(a:Zi α):Yw (Zi α):=fI (Room b ([]:Zi α) a) (ah a)
structure Arr2(P:br)(T E:aw):Prop where
  desc:P.underlying T=ah (.array 2 E)
  zero:∃z0 z1,(P.info? T).map (·.zero)=ah (ah (.agg #[z0,z1]))
  size:(P.info? E).map (·.size)=ah 1
  plain:∃F,P.underlying E=ah (.slice F)
theorem r_build2{E:aw}{x y:bj}{p q:aj}(a:Arr2 P T E)(k:ρ x=p)(l:ρ y=q)(n:p.oneCell'=ba)(r:q.oneCell'=ba):(bc ρ ⟨d,.build T #[(0,x),(1,y)],ty,pos,af,g⟩).run P w=.ok (.value (.agg #[p,q])) w:=by
 obtain⟨z0,b,c⟩:=a.zero;obtain⟨i,hi,f⟩:∃i,P.info? T=ah i/\i.zero=ah (.agg #[z0,b]):=by
  cases hi:P.info? T with
  |none=>simp[hi]at c
  |some i=>simp[hi]at c;exact⟨i,Z,c⟩
 obtain⟨j,o,e⟩:∃j,P.info? E=ah j/\j.size=1:=by
  have:=a.size;cases hi:P.info? E with
  |none=>simp[hi]at this
  |some i=>simp[hi]at this;exact⟨i,Z,this⟩
 have c1:=EP n;have c2:=EP r;simp only[bc,Instr.build,k,l,cx,ma,dt,gQ];have m:(Value.agg #[z0,b]).cells= #[z0,b]:=rfl;simp[hi,f,a.desc,o,e,ml,c1,c2,m,k,l]
theorem r_index2{E:aw}{x y:bj}{p q v:aj}{k:Nat}(b:Arr2 P T E)(m:ρ x=.agg #[p,q])(o:ρ y=.int .i64 k)(a:[p,q][k]? =ah v):(bc ρ ⟨d,.index T x y,ty,pos,af,g⟩).run P w=.ok (.value v) w:=by
  obtain⟨F,l⟩:=b.plain;obtain⟨j,r,e⟩:∃j,P.info? E=ah j/\j.size=1:=by
    have:=b.size;cases hi:P.info? E with
    |none=>simp[hi]at this
    |some i=>simp[hi]at this;exact⟨i,Z,this⟩
  have f:k<2:=by
    rcases cE k 2 with h|h
    · exact h
    · rw[bq (by simpa using h)]at a;cases a
  have n:(#[p,q]:Array aj)[k]? =ah v:=by simpa using a
  have c:((k:Int)<2):=by omega
  simp only[bc,Instr.index,m,o,cx,kl,part,isAgg,gQ,dt];simp[b.desc,r,e,l,c,f];rw[bh (by simpa using f)]at a;exact cG a
structure PairI(P:br)(T:aw):Prop where
 desc:∃f0 f1,P.underlying T=ah (.struct #[f0,f1])/\f0.name≠ "_" /\f1.name≠ "_" /\f0.offset=0/\f1.offset=1/\P.underlying f0.type=ah (.int .i64)/\P.underlying f1.type=ah (.int .i64)/\P.plainKey f0.type=ba/\P.plainKey f1.type=ba
 stood:P.stoodInHeld T=ar
 guard:P.eqGuardType P.depth T=ar
theorem eq_pairI(i:PairI P T)(a b c e:Int):(ti 10000 T (.agg #[.int .i64 a,.int .i64 b]) (.agg #[.int .i64 c,.int .i64 e])).run P w=.ok (ab (a=c)&&ab (b=e)) w:=by
  obtain⟨f,k,g,m,n,q,o1,l,o,d,k1⟩:=i.desc;have j:P.fieldsOf T= #[f,k]:=by simp[Program.fieldsOf,g]
  rw[show(10000:Nat)=9999+1 from rfl,run_equalIn_agg w 9999 T _ _ (by rw[j];exact g) i.stood,j];simp only[Op.eqFields,m,n,ne_eq,not_false_eq_true,if_true,q,o1,cq];rw[hH w d (xs:= #[.int .i64 a,.int .i64 b]) (off:=0) (v:=.int .i64 a) rfl];simp only[bn];rw[hH w d (xs:= #[.int .i64 c,.int .i64 e]) (off:=0) (v:=.int .i64 c) rfl];simp only[bn];rw[show(9999:Nat)=9998+1 from rfl,run_equalIn_int w 9998 f.type .i64 .i64 a c l];simp only[bn,uA,cq];by_cases h:a=c
  · subst h;simp only[beq_self_eq_true,Bool.not_true,de,if_false];rw[hH w k1 (xs:= #[.int .i64 a,.int .i64 b]) (off:=1) (v:=.int .i64 b) rfl];simp only[bn];rw[hH w k1 (xs:= #[.int .i64 a,.int .i64 e]) (off:=1) (v:=.int .i64 e) rfl];simp only[bn];rw[run_equalIn_int w 9998 k.type .i64 .i64 b e o];by_cases p:b=e<;>simp[p]
  · simp[h]
theorem r_eqlP{T2:aw}{a b c e:Int}(f:PairI P T)(j:ρ x=.agg #[.int .i64 a,.int .i64 b])(i:ρ y=.agg #[.int .i64 c,.int .i64 e]):(bc ρ ⟨d,.binOp .eql T x y T2,ty,pos,af,g⟩).run P w=.ok (.value (.bool (ab (a=c)&&ab (b=e)))) w:=by
 simp only[bc,j,i,cq,run_eqGuard_agg w .eql T x y _ _ f.guard,bn,run_eql_struct,eq_pairI f];simp
theorem r_neqP{T2:aw}{a b c e:Int}(f:PairI P T)(j:ρ x=.agg #[.int .i64 a,.int .i64 b])(i:ρ y=.agg #[.int .i64 c,.int .i64 e]):(bc ρ ⟨d,.binOp .neq T x y T2,ty,pos,af,g⟩).run P w=.ok (.value (.bool (!(ab (a=c)&&ab (b=e))))) w:=by
 simp only[bc,j,i,cq,run_eqGuard_agg w .neq T x y _ _ f.guard,bn,run_neq_struct,eq_pairI f];simp
end
section
variable{σ:Type}{n:Nat}{e Py:Nat->aj}{mod:Nat->Ys}{live:σ->Zi (Nat×aj)}{J:σ->al->Prop}{w:al}
theorem gU(s:σ)(b:J s w)(a:Holds e (live s):=by repeat (first|exact U|refine⟨rfl,?_⟩))
 (hA:Gu mod e Py:=by repeat (first|(with_reducible exact Gu.refl _ _)|(with_reducible exact Gu.hav _ _ _)|(with_reducible refine Gu.on ?_)|((with_reducible refine Gu.hin ?_ ?_);rfl)|(with_reducible refine Gu.un ?_)|((with_reducible refine Gu.os ?_ ?_);rfl)|((with_reducible refine Gu.uc ?_ ?_);rfl))):
 JP n mod Py live J (act n e) w:=⟨s,e,rfl,hA,a,b⟩
theorem oK{μ:σ->Nat}{s0:σ}(s:σ)(b:J s w)(a:μ s<μ s0:=by dsimp only;omega)(c:Holds e (live s):=by repeat (first|exact U|refine⟨rfl,?_⟩))
 (hA:Gu mod e Py:=by repeat (first|(with_reducible exact Gu.refl _ _)|(with_reducible exact Gu.hav _ _ _)|(with_reducible refine Gu.on ?_)|((with_reducible refine Gu.hin ?_ ?_);rfl)|(with_reducible refine Gu.un ?_)|((with_reducible refine Gu.os ?_ ?_);rfl)|((with_reducible refine Gu.uc ?_ ?_);rfl))):
 JL n mod Py live J μ s0 (act n e) w:=⟨s,e,rfl,hA,c,b,a⟩
end
section
variable{P:br}{Q:fR->Act->al->Prop}{n:Nat}{env:Nat->aj}{w:al}
theorem wc_rounds{c:Code}(m:Nat)(h:WC P c (Exit.then (ue P c Q m) Q) n env w):WC P (xw c) Q n env w:=⟨wp_loop_rounds (m+1) h.out⟩
theorem then_round{c:Code}{m:Nat}(h:WC P c (Exit.then (ue P c Q m) Q) n env w):Exit.then (ue P c Q (m+1)) Q .normal (act n env) w:=h.out
end
theorem SH.cn{w0 w:al}{M K:BS}{hp:Nat->Chunk}(h:SH w0 M K w hp)(l:Zi (Nat×Chunk))(hl:HoldsC hp l:=by repeat (first|exact U|refine⟨rfl,?_⟩)):SH w0 M K w (hset l):=h.canon l hl
section
variable{α β σ ρ:Type}
theorem drop_lt{l:Zi α}{k:Nat}(h:ab ((k:Int)<(l.length:Int))=ba):∃x,l[k]? =ah x/\l.drop k=x::l.drop (k+1):=by
 have a:k<l.length:=by have:=of_decide_eq_true h;omega
 exact⟨l[k],bh a,cF a⟩
theorem drop_ge{l:Zi α}{k:Nat}(h:ab ((k:Int)<(l.length:Int))=ar):l.drop k=[]:=by
 have:=of_decide_eq_false h;exact cr V
theorem eQ{body:α->σ->(σ->ρ)->ρ}{k:σ->ρ}{x:α}{l:Zi α}{s:σ}:each body k (x::l) s=body x s (each body k l):=rfl
theorem kW{body:α->σ->(σ->ρ)->ρ}{k:σ->ρ}{s:σ}:each body k [] s=k s:=rfl
theorem vG{body:Int->α->σ->(σ->ρ)->ρ}{k:σ->ρ}{x:α}{l:Zi α}{s:σ}{i:Int}:fG body k i (x::l) s=body i x s (fG body k (i+1) l):=rfl
theorem eachI_nil{body:Int->α->σ->(σ->ρ)->ρ}{k:σ->ρ}{s:σ}{i:Int}:fG body k i [] s=k s:=rfl
theorem upto_lt{body:Int->σ->(σ->ρ)->ρ}{k:σ->ρ}{s:σ}{i:Int}{j m:Nat}(h:j<m):upto body k i (m-j) s=body i s (upto body k (i+1) (m-(j+1))):=by
 rw[show m-j=(m-(j+1))+1 by omega];rfl
theorem upto_ge{body:Int->σ->(σ->ρ)->ρ}{k:σ->ρ}{s:σ}{i:Int}{j m:Nat}(h:m<=j):upto body k i (m-j) s=k s:=by
 rw[show m-j=0 by omega];rfl
theorem iL{body:σ->(σ->Yw β)->Yw β}{m:Nat}{s:σ}{r:β}(h:again body m s=ah r):∃a,m=a+1/\body s (again body a)=ah r:=by
 cases m with
 |zero=>cases h
 |succ m=>exact⟨m,rfl,h⟩
theorem bW{l:Zi α}{k:Nat}{i:Int}{x:α}(hi:i=(k:Int))(h:l[k]? =ah x):l[i.toNat]? =ah x:=by subst hi;simpa using h
theorem eU{k:Nat}{i:Int}(hi:i=(k:Int)):0<=i:=by omega
theorem dn{l:Zi α}{k:Nat}{i:Int}(hl:l.length<=9223372036854775807)(hi:i=(k:Int))(a:ab (i<(l.length:Int))=ba):iZ (i+1):=by
 have:=of_decide_eq_true a;exact⟨by omega,by omega⟩
end
open Go.RowKit
section
variable{P:br}{ops:Array du}{C:al->Prop}{Q:fR->Act->al->Prop}{n:Nat}{env:Nat->aj}{w w':al}{rest:Zi du}
 {d:Yw Nat} {op:Op} {ty:aw} {pos:String} {af:Array ix} {v:aj} {g:Yw (Nat×Ys)} {T:aw} {ρ:bj->aj}
def BndN(o:Yw aj)(a b:Nat):Prop:=(o=aE/\a=b)\/o=ah (.int .i64 a)
theorem addr_zero(g:Nat):(⟨g,0,aE⟩:nh).add 0=⟨g,0,aE⟩:=rfl
theorem Ae{x:bj}{lo:Yw bj}{hi:bj}{E:aw}{sz b len cap:Nat}{ad:Yw nh}(k:SliceOf P T E sz)(m:ρ x=.slice ad len cap)(o:ad=aE\/∃g,ad=ah ⟨g,0,aE⟩)(f:BndN (lo.map ρ) 0 0)(a:ρ hi=.int .i64 b)(l:b<=cap):
    (bc ρ ⟨d,.slice T x lo (ah hi) aE,ty,pos,af,g⟩).run P w=.ok (.value (.slice ad b cap)) w:=by
  obtain⟨i,j,e⟩:∃i,P.info? E=ah i/\i.size=sz:=by
    have:=k.info;cases hi:P.info? E with
    |none=>simp[hi]at this
    |some i=>simp[hi]at this;exact⟨i,Z,this⟩
  have c:(cX ba len cap (lo.map ρ) ((ah hi).map ρ) aE).run P w=.ok (0,b,cap) w:=by
    have n:(b:Int)<=(cap:Int):=by omega
    rcases f with⟨e1,_⟩|e1
    · simp[cX,e1,a,eE,kl,l]
    · simp[cX,e1,a,eE,kl,l]
  simp only[bc,lj,lA,cx,m];simp only[fm,a]at c;rcases o with rfl|⟨g,rfl⟩<;>simp[k.desc,c,gQ,dt,j,e,a,addr_zero]
theorem su{x:bj}{lo hi l:Yw bj}{E:aw}{sz gg a b m len cap:Nat}(t:SliceOf P T E sz)(u:ρ x=.slice (ah ⟨gg,0,aE⟩) len cap)(e:BndN (lo.map ρ) a 0)(n:BndN (hi.map ρ) b len)(o:(l.map ρ=aE/\m=cap)\/(l.map ρ=ah (.int .i64 m)/\hi.map ρ=ah (.int .i64 b)))
    (k:a<=b) (f:b<=m) (r:m<=cap):
    (bc ρ ⟨d,.slice T x lo hi l,ty,pos,af,g⟩).run P w=.ok (.value (.slice (ah (if m=a then⟨gg,0,aE⟩else⟨gg,a*sz,aE⟩)) (b-a) (m-a))) w:=by
  obtain⟨i,s,p⟩:∃i,P.info? E=ah i/\i.size=sz:=by
    have:=t.info;cases hi:P.info? E with
    |none=>simp[hi]at this
    |some i=>simp[hi]at this;exact⟨i,Z,this⟩
  have c:(cX ba len cap (lo.map ρ) (hi.map ρ)<|l.map ρ).run P w=.ok (a,b,m) w:=by
    have z:(0:Int)<=(a:Int):=ka a;have y:(0:Int)<=(b:Int):=ka b;have j:b<=cap:=by omega
    have q:a<=m:=by omega
    rcases o with⟨g1,g2⟩|⟨g1,f1⟩
    · subst g2;rcases e with⟨e1,e2⟩|e1<;>rcases n with⟨f1,f2⟩|f1<;>(try subst e2)<;>(try subst f2)<;>
        simp[cX,e1,f1,g1,eE,kl,k,f,j]
    · rcases e with⟨e1,e2⟩|e1<;>(try subst e2)<;>
        simp[cX,e1,f1,g1,eE,kl,k,f,r,q]
  have v:(⟨gg,0,aE⟩:nh).add (a*sz)=⟨gg,a*sz,aE⟩:=by
    unfold js;split
    · next hz=>rw[hz]
    · simp
  simp only[bc,lj,lA,cx,u];simp[t.desc,c,gQ,dt,s,p,v];split<;>rfl
structure Raw(w:al)(gg cap sz:Nat)(E:aw)(cur:List aj):Prop where
 blk:w.heap[gg]? =ah (.cells cur.toArray E (0,0))
 len:cur.length=cap*sz
 le:cap<=mX
theorem addr_add(gg o k:Nat):(⟨gg,o,aE⟩:nh).add k=⟨gg,o+k,aE⟩:=by
  unfold js;split
  · next hz=>rw[hz];rfl
  · rfl
theorem VE{x y:bj}{E:aw}{sz l gg cap a m c j:Nat}{b:Zi aj}{ad:nh}(B:lH P T E sz l)(q:Raw w gg cap sz E b)(G:ev n env x=.slice (ah ⟨gg,0,aE⟩) a cap)(K:ev n env y=.slice (ah ad) m c)
    (A:m=0\/ad=⟨gg,j*sz,aE⟩) (C:j+m<=cap) (t:a+m<=cap) (I:∀u∈(b.drop (j*sz)).take (m*sz),u.oneCell'=ba)
    (h:∀w',bz (fun x=>x=gg) w w'->Raw w' gg cap sz E (b.take (a*sz)++(b.drop (j*sz)).take (m*sz)++b.drop (a*sz+m*sz))->WL P ops Q rest n (gz env d (.slice (ah ⟨gg,0,aE⟩) (a+m) cap)) w'):
    WL P ops Q (⟨d,.call {callee:=.builtin .append,args:= #[x,y],argTypes:= #[T,T]},ty,pos,af,aE⟩::rest) n env w:=by
  obtain⟨i,z,hi,N,hs,F,L⟩:=B.info;have M:j*sz+m*sz<=cap*sz:=by rw[<-bw];exact aU _ C
  have r:a*sz+m*sz<=cap*sz:=by rw[<-bw];exact aU _ t
  have g:=q.len;have e:((b.drop<|j*sz).take<|m*sz).length=m*sz:=by rw[bo,cp];omega
  have p:∀k u,((b.drop<|j*sz).take<|m*sz)[k]? =ah u->w.cell? (ad.add k)=ah u:=by
    intro k u s;rcases A with rfl|rfl
    · simp at s
    · rw[addr_add];have v:k<m*sz:=by
        rcases cE k (m*sz)with h|h
        · exact h
        · rw[bq V]at s;cases s
      rw[bt,Z2 v,ck]at s;simp[eR,q.blk,s]
  have f:=run_append_room (P:=P) w T ty E i B.desc hi gg a cap b.toArray q.blk ad m c _ (by rw[hs];exact e) p I t (by rw[hs,e];simpa[g]using r);have o:(bc (ev n env) ⟨d,.call {callee:=.builtin .append,args:= #[x,y],argTypes:= #[T,T]},ty,pos,af,aE⟩).run P w=.ok (.value<|.slice (ah ⟨gg,0,aE⟩) (a+m) cap) (zn w gg<|.cells (b.take (a*sz)++(b.drop<|j*sz).take (m*sz)++b.drop (a*sz+m*sz)).toArray E (0,0)):=by
    rw[hs,e,LF q.blk]at f;simp only[bc,jt,lP,lz,cq,cV,bn,hF,ct,gC,G,K,f]
  refine aA o<|h _ (bz.zn _ _ _) ⟨yG<|iQ q.blk,?_,q.le⟩;rw[an,an,e,bo,cp,g];omega
def ZeroOne(P:br)(E:aw):Prop:=∃z,(P.info? E).map (·.zero)=ah (ah z)/\z.cells.all (·.oneCell')=ba
theorem zeroCells_one{z:Array aj}{k:Nat}(h:z.all (·.oneCell')=ba):∀u∈(cy z k).toList,u.oneCell'=true:=by
  intro u c;simp only[cy,sf,ov]at c;obtain⟨i,hi,rfl⟩:=c;have b:i<k*z.size:=by simpa using hi
  have d:0<z.size:=by
    rcases Nat.eq_zero_or_pos z.size with h0|h0
    · rw[h0,Nat.mul_zero]at b;omega
    · exact h0
  have a:i%z.size<z.size:=oY _ d;rw[getElem!_pos z (i%z.size) a];exact(Array.all_eq_true.1 h) _ a
theorem wl_clearRaw{x:bj}{E:aw}{sz g gg cap m k c:Nat}{a:Zi aj}(B:lH P T E sz g)(t:ZeroOne P E)(p:Raw w gg cap sz E a)(G:ev n env x=.slice (ah ⟨gg,m*sz,aE⟩) k c)(I:0<k)(v:m+k<=cap)
    (h:∀w' e,bz (fun x=>x=gg) w w'->Raw w' gg cap sz E e->e.take (m*sz)=a.take (m*sz)->WL P ops Q rest n (gz env d (.tuple #[])) w'):
    WL P ops Q (⟨d,.call {callee:=.builtin .clear,args:= #[x],argTypes:= #[T]},ty,pos,af,aE⟩::rest) n env w:=by
  obtain⟨i,z,hi,C,hs,F,y⟩:=B.info;obtain⟨s,l,o⟩:=t;have A:s=z:=by simp[hi,C]at l;exact l.symm
  subst A;have u:m*sz+k*sz<=cap*sz:=by rw[<-bw];exact aU _ v
  have f:=p.len;have j:(cy s.cells k).toList.length=k*sz:=by rw[cm,nV,y]
  have b:=sL (P:=P) gg (m*sz) E (cy s.cells k).toList 0 a.toArray w p.blk (by rw[j];simpa[f]using u) (zeroCells_one o);rw[LF p.blk]at b;obtain⟨r,rfl⟩:∃r,k=r+1:=⟨k-1,by omega⟩;have q:(bc (ev n env) ⟨d,.call {callee:=.builtin .clear,args:= #[x],argTypes:= #[T]},ty,pos,af,aE⟩).run P w=.ok (.value<|.tuple #[]) (zn w gg<|.cells (a.take (m*sz)++(cy s.cells<|r+1).toList++a.drop (m*sz+(r+1)*sz)).toArray E (0,0)):=by
    rw[j]at b;simp only[Nat.add_zero]at b;simp only[bc,jt,lP,lz,Builtin.clear_,cx,ma,dt,cq,cV,bn,hF,ct,gC,G];simp[B.desc,hi,C,b]
  refine aA q<|h _ _ (bz.zn _ _ _) ⟨yG<|iQ p.blk,?_,p.le⟩ ?_
  · rw[an,an,j,bo,cp,f];omega
  · rw[bf,cR (by rw[bo];omega),dY,Nat.min_self]
end
theorem VF{α:Type}{R:lV α}{E:aw}{w:al}{A:BS}{v:aj}{l:Zi α}(h:cz R E w A v l)(hl:0<l.length):
    ∃gg cap a,v=.slice (ah ⟨gg,0,aE⟩) l.length cap/\Raw w gg cap R.sz E a/\l.length<=cap/\∀i (h:i<l.length),R.rd w (fun b=>A b\/b=gg) ((a.drop (i*R.sz)).take R.sz) l[i]:=by
  obtain⟨xs,e,f⟩:=h;rcases e.2 with⟨rfl,hn⟩|⟨gg,cap,a,rfl,e1,e2,e3,e4,e5,e6⟩
  · omega
  refine⟨gg,cap,a.toList,Z,⟨by simpa using e2,by simpa using e5,e4⟩,e3,fun i hi=>?_⟩;have c:(i+1)*R.sz<=l.length*R.sz:=aU _ hi;rw[bw]at c;have d:=f i hi;rw[<-e6,et,dY,cL V]at d;exact d
theorem rd_ones{α:Type}{R:lV α}{w:al}{A:BS}{l:Zi α}{a:Zi aj}(h:∀i (h:i<l.length),R.rd w A ((a.drop (i*R.sz)).take R.sz) l[i]){j m:Nat}(n:j+m<=l.length):∀u∈(a.drop (j*R.sz)).take (m*R.sz),u.oneCell'=true:=by
 intro u f;obtain⟨k,d,rfl⟩:=List.getElem_of_mem f;have b:k<m*R.sz:=by rw[bo]at d;omega
 have hp:=R.pos;have g:k / R.sz<m:=pB (by rw[mf];exact b);refine R.one (h (j+k / R.sz) V) _ ?_;rw[List.mem_iff_getElem?];refine⟨k%R.sz,?_⟩;have c:k%R.sz<R.sz:=oY _ hp;rw[bt,Z2 c,ck,nj,rB];have e:(j+k / R.sz)*R.sz+k%R.sz=j*R.sz+k:=by
  rw[bw,lR,mf (k / R.sz),z7]
 rw[e,bh]
theorem raw_del{α:Type}{R:lV α}{E:aw}{w w':al}{A:BS}{l:Zi α}{gg cap i j:Nat}{c d:Zi aj}(q:Raw w' gg cap R.sz E d)(K:Raw w gg cap R.sz E c)(F:bz (fun x=>x=gg) w w')(p:i<=j)(y:j<=l.length)(C:l.length<=cap)
    (n:∀k (h:k<l.length),R.rd w (fun b=>A b\/b=gg) ((c.drop (k*R.sz)).take R.sz) l[k])
    (z:d.take ((i+(l.length-j))*R.sz)=c.take (i*R.sz)++(c.drop (j*R.sz)).take ((l.length-j)*R.sz)):
    cz R E w' A (.slice (ah ⟨gg,0,aE⟩) (i+(l.length-j)) cap) (l.take i++l.drop j):=by
  have e:(l.take i++l.drop j).length=i+(l.length-j):=by rw[an,bo,cp];omega
  have v:=K.len;have L:l.length*R.sz<=cap*R.sz:=aU _ C;have M:j*R.sz<=l.length*R.sz:=aU _ y;have G:i*R.sz<=j*R.sz:=aU _ p;have u:(l.length-j)*R.sz=l.length*R.sz-j*R.sz:=sA _ _ _;have m:(c.take<|i*R.sz).length=i*R.sz:=by rw[bo];omega
  refine⟨c.take (i*R.sz)++(c.drop<|j*R.sz).take ((l.length-j)*R.sz),⟨?_,.inr ⟨gg,cap,d.toArray,?_,gd _,q.blk,?_,q.le,?_,?_⟩⟩,?_⟩
  · rw[e,an,m,bo,cp,bw];omega
  · rw[e]
  · rw[e];omega
  · simpa using q.len
  · rw[e];exact z
  · intro k r;rw[e]at r;have g:=fun cs a(h:R.rd w (fun b=>A b\/b=gg) cs a)=>R.go (A':=fun b=>A b\/b=gg) h F (fun x B _=>.inr B) fun _ h _=>h;by_cases s:k<i
    · have f:(k+1)*R.sz<=i*R.sz:=aU _ s;rw[bw]at f;have t:=g _ _<|n k V;rw[fg (by rw[bo];omega),nj,hO V,cR (by rw[cp];omega),et,dY,cL V];exact t
    · have t:=g _ _<|n (j+(k-i)) V;have f:(k-i+1)*R.sz<=(l.length-j)*R.sz:=aU _ V;rw[bw]at f;have hik:i*R.sz<=k*R.sz:=aU _ V;have o:(k-i)*R.sz=k*R.sz-i*R.sz:=sA _ _ _;rw[gh (by rw[bo];omega)];have I:(l.drop j)[k-(l.take i).length]'(by rw[bo,cp];omega)=l[j+(k-i)]'V:=by
        rw[rB];congr 1;rw[bo];omega
      rw[I,lp,cr V,cf,m,<-o,et,dY,cL V,pj,<-bw];exact t
theorem Raw.keep{w w':al}{gg cap sz:Nat}{E:aw}{a:Zi aj}{N:BS}(h:Raw w gg cap sz E a)(b:bz N w w')(hn:¬N gg):Raw w' gg cap sz E a:=⟨b.blk h.blk hn,h.len,h.le⟩
section
variable{P:br}{Q:fR->Act->al->Prop}{n:Nat}{env:Nat->aj}{w w' w0:al}{M K:BS}{hp:Nat->Chunk}
theorem VG{id:Nat}(k:Nat){l:Zi du}(d:P.follows .mixedOrders=ba)(hB:wv .any l.toArray k=ba)
  (c:∀b,Grow w b->WK P l.toArray b (fun a=>so P l.toArray Q (l.drop k) a b) (l.take k) n env):WC P (hX id l.toArray ba) Q n env w:=
 ⟨yv k d hB (yH (c _ (Grow.drew w)).out)⟩
theorem SH.given{α:Type}{R:lV α}{E:aw}{v u:aj}{l c:Zi α}(h:SH w0 M K w hp)(i:Nat)(hi:hp i=.own R E v l)(ho:cz R E w' (fun b=>M b\/rest hp i b) u c)(d:bz (ob v) w w')(hn:∀b,ob u b->b<w.heap.size->ob v b):SH w0 M K w' (bH hp i (.own R E u c)):=by
  refine h.step i d (fun b a _=>by rw[hi];exact a) (fun b a hl=>by rw[hi];exact hn b a hl) ?_;refine cz.go ho (bz.refl BE w') (fun _ h=>h.elim) (fun _ h=>h.elim) fun b a _=>?_;rcases a with a|a|a
  · exact .inl<|.inl a
  · exact .inl<|.inr a
  · exact .inr a
theorem SH.giveO{α:Type}{R:lV α}{E:aw}{v:aj}{l:Zi α}(h:SH w0 M K w hp)(i:Nat)(hi:hp i=.own R E v l):cz R E w (fun b=>M b\/rest hp i b) v l:=
 cz.go (h.aZ i hi) (bz.refl BE w) (fun _ h=>h.elim) (fun _ h=>h.elim) (fun b a _=>.inl (a.imp id nz))
theorem SH.I5{α β:Type}{R:lV α}{R':lV β}{E:aw}{v u:aj}{l:Zi α}{d:Zi β}(h:SH w0 M K w hp)(i j:Nat)(hi:hp i=.rd R v l)(c:hp j=.own R' E u d):bS R w (fun b=>M b\/ob u b) v l:=
 (h.aR i hi).sub (fun b a _=>a.elim .inl (fun a=>.inr ⟨j,by rw[c];exact a⟩)) (fun b a _=>a.elim .inl (fun a=>.inr ⟨j,by rw[c];exact a⟩))
theorem bS.Xx{α β:Type}{R:lV α}{R':lV β}{E:aw}{v u:aj}{l:Zi α}{d:Zi β}{i:Nat}(h:bS R w (fun b=>SH.A M hp b\/ob u b) v l):bS R w (SH.A M (bH hp i (.own R' E u d))) v l:=by
  have c:∀b,SH.A M (bH hp i<|.own R' E u d) b->SH.A M hp b\/ob u b:=by
    rintro b(a|⟨j,a⟩)
    · exact .inl<|.inl a
    · by_cases e:j=i
      · subst e;rw[bN]at a;exact .inr a
      · rw[fe e]at a;exact .inl (.inr ⟨j,a⟩)
  exact h.sub (fun b a _=>c b a) fun b a _=>c b a
theorem SH.toSr{α:Type}{R:lV α}{v:aj}{l:Zi α}(h:SH w0 M K w hp)(j i:Nat)(c:hp j=.rd R v l):SH w0 M K w (bH hp i (.sr R v l)):=
 h.know i (fun _ h=>h) (fB.sub (h.aR j c) (fun b a _=>.inr a) (fun b a _=>a))
theorem SH.copyS{α:Type}{R:lV α}{v:aj}{l:Zi α}(h:SH w0 M K w hp)(j i:Nat)(a:hp j=.sr R v l):SH w0 M K w (bH hp i (.sr R v l)):=
 h.know i (fun _ h=>h) (h.srAt j a)
theorem del_len{i j l cap sz:Nat}{a:Zi aj}(hl:a.length=cap*sz)(c:i<=j)(k:j<=l)(e:l<=cap):
  ((a.take (i*sz)++(a.drop (j*sz)).take ((l-j)*sz)++a.drop (i*sz+(l-j)*sz)).take ((i+(l-j))*sz))=a.take (i*sz)++(a.drop (j*sz)).take ((l-j)*sz):=by
 have g:i*sz<=j*sz:=aU _ c;have m:j*sz+(l-j)*sz=l*sz:=by rw[<-bw];congr 1;omega
 have f:l*sz<=cap*sz:=aU _ e;have d:(a.take<|i*sz).length=i*sz:=by rw[bo];omega
 have b:((a.drop<|j*sz).take ((l-j)*sz)).length=(l-j)*sz:=by rw[bo,cp];omega
 rw[bw,cR (by rw[an,d,b];omega),kn (by rw[an,d,b];omega)]
def del1{α:Type}(l:Zi α)(i j:Int):Yw (Zi α):=if 0<=i/\i<j/\j<=l.length then ah (l.take i.toNat++l.drop j.toNat)else aE
theorem o_del{α:Type}{l r:Zi α}{i j:Int}(h:del1 l i j=ah r):∃a b:Nat,i=a/\j=b/\a<b/\b<=l.length/\r=l.take a++l.drop b:=by
  unfold del1 at h;by_cases hp:0<=i/\i<j/\j<=l.length
  · rw[Z2 hp]at h;cases h;exact⟨i.toNat,j.toNat,by omega,by omega,by omega,by omega,Z⟩
  · rw[Z3 hp]at h;cases h
end
open Go.RowKit
def selK(K:Act->al->Prop)(Q:fR->Act->al->Prop):fR->Act->al->Prop
 | .normal,a,w=>K a w
 |e,a,w=>Q e a w
section
variable{P:br}{ops:Array du}
variable{Q:fR->Act->al->Prop}{n:Nat}{env:Nat->aj}{w w0:al}{M K:BS}{hp:Nat->Chunk}
structure WH(P:br)(ops:Array du)(ws:al)(Q:fR->Act->al->Prop)(fuel:Nat)(listed:Array Bool)(n:Nat)(env:Nat->aj)(w:al):Prop where
 out:wx P .any ops (tz Q) (Grow ws) fuel listed (act n env) w
theorem qw{id:Nat}{l:Zi du}(b:P.follows .mixedOrders=ba)(a:SH w0 M K w hp)
  (h:∀w,SH w0 M K w hp->WH P l.toArray w Q l.length (sn l.length ar) n env w):WC P (hX id l.toArray ba) Q n env w:=
 ⟨wp_region_noPanic (wp_region_held (S:=Grow w.drew) b (h _ (a.grow (Grow.drew w))).out)⟩
theorem held_weak{S S':al->Prop}(b:∀w,S' w->S w):∀(fuel:Nat) (listed:Array Ys) (a:Act) (w:al),wx P .any ops Q S' fuel listed a w->wx P .any ops Q S fuel listed a w
 |0,_,_,_,h=>h
 |fuel+1,_,_,_,h=>⟨h.1,fun i hi=>wpOp_mono (fun a' w' c=>⟨b _ c.1,held_weak b fuel _ a' w' c.2⟩) (h.2 i hi)⟩
variable{d:Yw Nat}{op:Op}{ty:aw}{pos:String}{af:Array ix}{v:aj}{g:Yw (Nat×Ys)}{i fuel:Nat}{listed:Array Ys}
theorem aT:cg ⟨d,op,ty,pos,af,aE⟩ (eg ops (act n env).tmps)=true:=rfl
theorem dz{j dj:Nat}{b:Ys}(a:(ops[j]?).bind (·.dst)=ah dj)(e:ev n env (.tmp dj)=.bool b):cg ⟨d,op,ty,pos,af,ah (j,b)⟩ (eg ops (act n env).tmps)=true:=by
  have c:=Gt (ops:=ops) a e;simp[cg,c]
theorem bU{j dj:Nat}{b b':Ys}(a:(ops[j]?).bind (·.dst)=ah dj)(e:ev n env (.tmp dj)=.bool b')(f:(b'==b)=ar):cg ⟨d,op,ty,pos,af,ah (j,b)⟩ (eg ops (act n env).tmps)=false:=by
  have c:=Gt (ops:=ops) a e;simpa[cg,c]using f
theorem TH{j dj:Nat}{b:Ys}(a:(ops[j]?).bind (·.dst)=ah dj)(e:ev n env (.tmp dj)=gj):cg ⟨d,op,ty,pos,af,ah (j,b)⟩ (eg ops (act n env).tmps)=false:=by
  have c:=Me (ops:=ops) a e;simp[cg,c]
theorem wh_first{ws:al}{o:du}(a:Grow ws w)(hi:ops[i]? =ah o)(hs:dy ops=ba)(b:fh .any ops listed i=ba)(d:(cI .any ops listed).contains i=ba)
  (c:YieldsIf P ops (Grow ws) o v (act n env)) (h:WH P ops ws Q fuel (listed.setIfInBounds i ba) n (gz env o.dst v) w):WH P ops ws Q (fuel+1) listed n env w:=by
 refine⟨wpAnyH_take hi hs b d (fun _ _ _ h=>h) c a ?_⟩;rw[Hw];exact h.out
theorem iP{ws:al}(i:Nat)(b:Grow ws w)(hi:ops[i]? =ah ⟨d,op,ty,pos,af,g⟩)(f:cg ⟨d,op,ty,pos,af,g⟩ (eg ops (act n env).tmps)=ba)(hs:dy ops=ba)(c:fh .any ops listed i=ba)(j:(cI .any ops listed).contains i=ba)
  (e:∀a,Grow ws a->(bc (ev n env) ⟨d,op,ty,pos,af,g⟩).run P a=.ok (.value v) a) (h:WH P ops ws Q fuel (listed.setIfInBounds i ba) n (gz env d v) w):WH P ops ws Q (fuel+1) listed n env w:=
 wh_first (o:=⟨d,op,ty,pos,af,g⟩) b hi hs c j (.inl ⟨f,fun a k=>by rw[iT];exact e a k⟩) h
theorem dK{ws:al}(i:Nat)(a:Grow ws w)(hi:ops[i]? =ah ⟨d,op,ty,pos,af,g⟩)(c:cg ⟨d,op,ty,pos,af,g⟩ (eg ops (act n env).tmps)=ar)(hs:dy ops=ba)(b:fh .any ops listed i=ba)(e:(cI .any ops listed).contains i=ba)
  (h:WH P ops ws Q fuel (listed.setIfInBounds i ba) n (gz env d gj) w):WH P ops ws Q (fuel+1) listed n env w:=
 wh_first (o:=⟨d,op,ty,pos,af,g⟩) a hi hs b e (.inr ⟨c,rfl⟩) h
theorem wh_done{ws:al}(a:cI .any ops listed=[])(h:Q .normal (act n env) w):WH P ops ws Q fuel listed n env w:=⟨wpAnyH_done a (NoPanic.normal h) fuel⟩
def after(P:br)(ops:Array du)(ws:al)(Q:fR->Act->al->Prop)(fuel:Nat)(listed:Array Ys):fR->Act->al->Prop:=
 selK (fun a' w'=>Grow ws w'/\wx P .any ops (tz Q) (Grow ws) fuel listed a' w') (tz Q)
theorem dL{ws:al}(a:Grow ws w)(h:WH P ops ws Q fuel listed n env w):after P ops ws Q fuel listed .normal (act n env) w:=⟨a,h.out⟩
theorem Kc{K:Act->al->Prop}{Q1:fR->Act->al->Prop}(hi:ops[i]? =ah ⟨d,op,ty,pos,af,g⟩)(k:cg ⟨d,op,ty,pos,af,g⟩ (eg ops (act n env).tmps)=ba)
    (h:WL P ops (selK K Q1) [⟨d,op,ty,pos,af,aE⟩] n env w):wpOp P ops Q1 i K (act n env) w:=by
  unfold wpOp;simp only[hi,k,if_true];have b:=h.out;unfold so at b;rw[Z2 (show cg _ _=ba from rfl)]at b;rcases b with b|⟨ha,hl⟩
  rotate_left
  · exact .inr ⟨ha,let ⟨a,w,h⟩:=hl;⟨a,w,h⟩⟩
  refine .inl ?_;unfold wj at b⊢;have e:(bc (act n env).eval ⟨d,op,ty,pos,af,g⟩)=bc (act n env).eval ⟨d,op,ty,pos,af,aE⟩:=by unfold bc;rfl
  rw[e];generalize (bc (act n env).eval ⟨d,op,ty,pos,af,aE⟩).run P w=r at b⊢;cases r with
  |ok nx w'=>
    cases nx with
    |value v=>exact b
    |skip=>exact b
    |defer d=>exact b
    |enter f args=>
      refine Calls.mono b fun e l j=>?_;cases e with
      |returned v=>exact j
      |panicked c=>exact j
      |outgrown=>exact j
    |row r args=>exact b
    |_=>exact b
  |halt x w'=>
    cases x<;>exact b
theorem Mf{ws:al}(i:Nat)(a:cI .any ops listed=[i])(hi:ops[i]? =ah ⟨d,op,ty,pos,af,g⟩)(b:cg ⟨d,op,ty,pos,af,g⟩ (eg ops (act n env).tmps)=ba)
  (h:WL P ops (after P ops ws Q fuel (listed.setIfInBounds i ba)) [⟨d,op,ty,pos,af,aE⟩] n env w):WH P ops ws Q (fuel+1) listed n env w:=by
 refine⟨sq a zq3 fun k c=>?_⟩;obtain rfl:k=i:=by simpa using c
 exact Kc hi b h
theorem LH{ws:al}{d':Yw Nat}{e:Op}{c:aw}{a:String}{b:Array ix}{m:Yw (Nat×Ys)}(i j:Nat)(q:cI .any ops listed=[i,j])(hi:ops[i]? =ah ⟨d,op,ty,pos,af,g⟩)(r:cg ⟨d,op,ty,pos,af,g⟩ (eg ops (act n env).tmps)=ba)
    (o:ops[j]? =ah ⟨d',e,c,a,b,m⟩) (f:cg ⟨d',e,c,a,b,m⟩ (eg ops (act n env).tmps)=ba)
    (h:WL P ops (after P ops ws Q fuel (listed.setIfInBounds i ba)) [⟨d,op,ty,pos,af,aE⟩] n env w) (p:WL P ops (after P ops ws Q fuel (listed.setIfInBounds j ba)) [⟨d',e,c,a,b,aE⟩] n env w):WH P ops ws Q (fuel+1) listed n env w:=by
  refine⟨sq q zq3 fun k l=>?_⟩;rcases bp.1 l with rfl|l
  · exact Kc hi r h
  · obtain rfl:k=j:=by simpa using l
    exact Kc o f p
theorem Jy{ws:al}(a:Grow ws w)(h:WH P ops w Q fuel listed n env w):WH P ops ws Q fuel listed n env w:=⟨held_weak (fun _ h=>a.trans h) _ _ _ _ h.out⟩
variable{w':al}{rest:Zi du}{T:aw}{x y:bj}
theorem vC{α:Type}{R:lV α}{E:aw}{sz c:Nat}{a:Array (Nat×bj)}{len:Nat}{vs:Zi aj}{xs:Zi α}(h:SH w0 M K w hp)(i:Nat)(r:lH P T E sz c)(hs:R.sz=sz)
  (t:(a.toList.map fun p=>(p.1,ev n env p.2))=vs.zipIdx.map fun p=>(p.2,p.1)) (e:vs.length=len) (s:MK R w (SH.A M hp) vs xs) (f:oj (len*sz) 16777216=ba)
  (k:∀w' u,SH w0 M K w' (bH hp i (.own R E u xs))->Grow w w'->(∀b,ob u b->w.heap.size<=b)->WL P ops Q rest n (gz env d u) w'):
  WL P ops Q (⟨d,.buildSlice T len a,ty,pos,af,aE⟩::rest) n env w:=by
 obtain⟨u,w',q,m,o,l⟩:=run_bs (d:=d) (ty:=ty) (pos:=pos) (af:=af) (g:=aE) r hs t e s h.lt<|iz f;exact aA q<|k w' u (h.xS i m o fun b j=>oX<|l b j) m fun b j=>oX<|l b j
theorem bz.fresh{a b c:al}{N:BS}(h:Grow a b)(k:bz N b c)(d:∀x,N x->a.heap.size<=x):Grow a c:=h.step k (fun x e hl=>by have:=d x e;omega)
end
open Go.RowKit Go.Deep
def AU{α:Type}(P:br)(T:aw)(R:lV α):Prop:=
 ∀(a:Type) (enc:aw×aj->a) (w:al) (b:Nat->Ys) (c:Ys) (fuel:Nat) (cs:Zi aj) (x:DataW a×Zi tN),sR enc P w 0 b c fuel T cs=ah x->∃d,R.rd w BE cs d
theorem opens_int{P:br}{T:aw}(d:P.underlying T=ah (.int .i64)):AU P T bC:=by
 intro a enc w b c fuel cs x h;obtain⟨n,rfl,_,e⟩:=yy d h;exact⟨n,Z⟩
theorem opens_bool{P:br}{T:aw}(e:P.underlying T=ah .bool):AU P T rBool:=by
 intro a enc w c d fuel cs x h;obtain⟨b,rfl,_⟩:=DataW.trod_bool e h;exact⟨b,Z⟩
theorem AV{α:Type}{P:br}{T E:aw}{R:lV α}(ht:P.underlying T=ah (.slice E))(N:P.cellsOf E=R.sz)(h:AU P E R):AU P T (oI R):=by
  intro c enc w q A fuel cs x hx;rcases open_slice ht hx with⟨rfl,rfl⟩|⟨a,len,cap,m,n,D,Pl,rfl,_,hl,hm,hmm,rfl,hel⟩
  · exact⟨[],_,Z,fB.nil⟩
  · have a0:len<=m:=by rw[hmm];split<;>omega
    have t:∀i,i<len->∃d:α,∃b o cells F l,a=⟨b,o,aE⟩/\w.heap[b]? =ah (.cells cells F l)/\R.rd w BE ((cells.toList.drop<|o+i*R.sz).take R.sz) d:=by
      intro i hi;obtain⟨g,O,h2⟩:=hel i V;obtain⟨d,X⟩:=h c enc w q A n g _ h2;refine⟨d,?_⟩;rw[N]at O;obtain⟨_,Q,r⟩:=vm O;have hp:=R.pos;have C:a.spot=none:=by
        obtain⟨u,g1,_⟩:=hel 0 V;rw[N]at g1;obtain⟨_,M,p⟩:=vm g1;have K:=p 0 hp;rw[tM,add_add,hY]at K;have:∃v,u[0]? =ah v:=⟨u[0]'V,bh V⟩;obtain⟨v,I⟩:=this;rw[I]at K;have:=World.cell?_spot K;simpa[js]using this
      obtain⟨b,o,sp⟩:=a;simp only at C;subst C;have B:∀k,(⟨b,o,aE⟩:nh).add k=⟨b,o+k,aE⟩:=by
        intro k;unfold js;split<;>simp_all
      have y:∀j,j<R.sz->w.cell? ⟨b,o+i*R.sz+j,aE⟩=g[j]? :=by
        intro j z;have:=r j z;rw[add_add,B]at this;rw[<-this,lR]
      have G:=y 0 hp;have I:g[0]? =ah (g[0]'V):=bh V;rw[I]at G;unfold eR at G;cases s:w.heap[b]? with
      |none=>simp[s]at G
      |some ob=>
        cases ob with
        |cells cells F l=>
          refine⟨b,o,cells,F,l,Z,s,?_⟩;have e:(cells.toList.drop<|o+i*R.sz).take R.sz=g:=by
            apply cN;intro j;rw[bt,ck];by_cases z:j<R.sz
            · rw[Z2 z,<-y j z];simp[eR,s]
            · rw[Z3 z,bq V]
          rw[e];exact X
        |_=>simp[s]at G
    obtain⟨f,S⟩:∃f:(i:Nat)->i<len->α,∀i hi,∃b o cells F l,a=⟨b,o,aE⟩/\w.heap[b]? =ah (.cells cells F l)/\R.rd w BE ((cells.toList.drop<|o+i*R.sz).take R.sz) (f i hi):=
      ⟨fun i hi=>Classical.choose (t i hi),fun i hi=>Classical.choose_spec (t i hi)⟩
    refine⟨List.ofFn fun i:Fin len=>f i.val i.isLt,_,Z,ah a,cap,by simp,by simpa using hl,hm,(fun h=>by cases h),?_⟩;intro i hi;have L:i<len:=by simpa using hi
    obtain⟨b,o,cells,F,l,rfl,s,hr⟩:=S i L;refine⟨b,o,cells,F,l,Z,fun h=>h,s,?_⟩;simpa using hr
theorem DJ{a:Type}{enc:aw×aj->a}{P:br}{w:al}{b:Nat->Ys}{c:Ys}{T:aw}{e:Array Field}{fuel:Nat}{cs:Zi aj}{x:DataW a×Zi tN}(j:P.underlying T=ah (.struct e))(h:sR enc P w 0 b c fuel T cs=ah x):
    cs.length=P.cellsOf T/\∃n:Nat,∀(i:Nat) (f:Field),e[i]? =ah f->∃y:DataW a×Zi tN,sR enc P w 0 b c n f.type ((cs.drop f.offset).take (P.cellsOf f.type))=ah y:=by
  obtain⟨xs,n,_,_,hl,d,k⟩:=DataW.trod_struct j h;refine⟨hl,n,fun i f hi=>?_⟩;have:=k i f hi;have g:i<xs.length:=by
    rw[d];rcases cE i e.size with h1|h1
    · exact h1
    · rw[og h1]at hi;cases hi
  rw[bh g]at this;exact⟨_,this⟩
theorem gY{α:Type}{a:Type}{enc:aw×aj->a}{P:br}{w:al}{b:Nat->Ys}{c:Ys}{e:Array Field}{n:Nat}{cs:Zi aj}{R:lV α}{i:Nat}{f:Field}
  (h:∀(i:Nat) (f:Field),e[i]? =ah f->∃y:DataW a×Zi tN,sR enc P w 0 b c n (Field.type f) ((cs.drop f.offset).take (P.cellsOf f.type))=ah y) (hi:e[i]? =ah f) (j:P.cellsOf f.type=R.sz) (k:AU P f.type R):
  ∃d,R.rd w BE ((cs.drop f.offset).take R.sz) d:=by
 obtain⟨y,g⟩:=h i f hi;rw[j]at g;exact k a enc w b c n _ _ g
theorem cells_one{l:Zi aj}{o:Nat}{v:aj}(h:(l.drop o).take 1=[v]):l[o]? =ah v:=by
 have:=ZD (fun l=>l[0]?) h;simpa[bt,ck]using this
theorem yI{α:Type}{l:Zi α}{n:Nat}(h:l.length=n+1):∃a t,l=a::t/\t.length=n:=by
 cases l with
 |nil=>simp at h
 |cons a t=>exact⟨a,t,rfl,by simpa using h⟩
theorem nobody{w:al}:∀b,BE b->b<w.heap.size:=fun _ h=>h.elim
open Go.RowKit Go.MapKept
def TI(z:aj)(kE:Zi (Int×aj))(k:Int):Value:=match kE with|[]=>z|p::r=>if k=p.1 then p.2 else TI z r k
def Pz(kE:Zi (Int×aj))(k:Int)(v:aj):Zi (Int×aj):=match kE with|[]=>[(k,v)]|p::r=>if k=p.1 then(p.1,v)::r else p::Pz r k v
def ahas(kE:Zi (Int×aj))(k:Int):Ys:=match kE with|[]=>ar|p::r=>if k=p.1 then ba else ahas r k
def TJ(kE:Zi (Int×aj))(k:Int)(i:Nat):Yw (Nat×aj):=match kE with|[]=>aE|p::r=>if k=p.1 then ah (i,p.2)else TJ r k (i+1)
theorem Jz{kE:Zi (Int×aj)}{k:Int}:∀{a:Zi yp} {i:Nat},a.map (fun e=>(e.key,e.val))=kE.map (fun p=>(da .i64 p.1,p.2))->
    Aj (.int .i64) (.int .i64 k) a i=ah (TJ kE k i):=by
  induction kE with
  |nil=>intro a i h;cases a with|nil=>rfl|cons e r=>simp at h
  |cons p r ih=>
    intro a i h;cases a with
    |nil=>simp at h
    |cons e s=>
      simp only[ct,List.cons.injEq,ky]at h;obtain⟨⟨c,f⟩,d⟩:=h;unfold Aj TJ;by_cases b:k=p.1
      · simp[Al,c,f,b]
      · have:(k==p.1)=false:=by simpa using b
        simp[Al,c,this,b,ih d]
theorem aidx_get{z:aj}{k:Int}:∀{kE:Zi (Int×aj)} {i:Nat},TI z kE k=match TJ kE k i with|some (_,v)=>v|none=>z
  |[],i=>rfl
  |p::r,i=>by
    unfold TI TJ;by_cases a:k=p.1
    · simp[a]
    · simp only[a,if_false];exact aidx_get
theorem XB{k:Int}{v:aj}:∀{kE:Zi (Int×aj)} {i:Nat},TJ kE k i=aE->Pz kE k v=kE++[(k,v)]
  |[],i,_=>rfl
  |p::r,i,h=>by
    unfold TJ at h;unfold Pz;by_cases a:k=p.1
    · simp[a]at h
    · simp only[a,if_false]at h⊢;rw[XB h];rfl
theorem XC{k:Int}{v u:aj}:∀{kE:Zi (Int×aj)} {i j:Nat},TJ kE k i=ah (j,u)->i<=j/\∃p,kE[j-i]? =ah p/\p.1=k/\Pz kE k v=kE.set (j-i) (k,v)
  |[],i,j,h=>by cases h
  |p::r,i,j,h=>by
    unfold TJ at h;unfold Pz;by_cases a:k=p.1
    · simp only[a,if_true,fl,ky]at h;obtain⟨rfl,_⟩:=h;refine⟨cv _,p,by simp,a.symm,?_⟩;simp[a]
    · simp only[a,if_false]at h⊢;obtain⟨e,q,d,b,c⟩:=XC (v:=v) h;refine⟨by omega,q,?_,b,?_⟩
      · rw[show j-i=(j-(i+1))+1 by omega];simpa using d
      · rw[show j-i=(j-(i+1))+1 by omega,c];simp
section
variable{P:br}{ops:Array du}{Q:fR->Act->al->Prop}{n:Nat}{env:Nat->aj}{w w' w0:al}{M K:BS}{hp:Nat->Chunk}{rest:Zi du}
 {d:Yw Nat} {op:Op} {ty:aw} {pos:String} {af:Array ix} {v:aj} {g:Yw (Nat×Ys)} {T:aw} {ρ:bj->aj}
structure MapOf(P:br)(T:aw)(z:aj):Prop where
  desc:∃K E,P.underlying T=ah (.map K E)/\P.underlying K=ah (.int .i64)/\(P.info? E).map (·.zero)=ah (ah z)
theorem r_makeMap:(bc ρ ⟨d,.makeMap T aE,ty,pos,af,g⟩).run P w=.ok (.value (.map (ah w.heap.size))) (w.alloc (.map #[] 0)):=by
 simp[bc,Instr.makeMap,nb,-kh]
theorem ckInt{e:Ys}{K:aw}{k:Int}(a:P.underlying K=ah (.int .i64)):(Instr.checkKey e 10000 K (.int .i64 k)).run P w=.ok () w:=
 run_checkKey a (by trivial) e 9999
theorem Oq.push{b:Array yp}{c:Nat}(h:Oq b c)(k v:aj):Oq (b.push {key:=k,val:=v,born:=c}) (c+1):=by
  refine⟨fun e a=>?_,?_⟩
  · simp only[vn,db,dq]at a;rcases a with a|rfl
    · exact Nat.lt_succ_of_lt<|h.1 e a
    · exact yz c
  · rw[vn,List.map_append,List.nodup_append];refine⟨h.2,by simp,fun x d y f=>?_⟩;simp only[ct,gC,dq]at f;obtain⟨e,a,rfl⟩:=ov.1 d;have:=h.1 e a;omega
theorem Oq.modify{a:Array yp}{c:Nat}(h:Oq a c)(j:Nat)(k v:aj):Oq (a.modify j fun e=>{e with key:=k,val:=v}) c:=by
  have e:(a.modify j fun e=>{e with key:=k,val:=v}).toList.map (·.born)=a.toList.map (·.born):=by
    apply cN;intro i;simp only[eo,ie,fa];by_cases hi:j=i
    · subst hi;cases a[j]? <;>simp
    · simp[hi]
  refine⟨fun x d=>?_,by rw[e];exact h.2⟩;have:x.born∈(a.modify j fun e=>{e with key:=k,val:=v}).toList.map (·.born):=ov.2 ⟨x,d,Z⟩;rw[e]at this;obtain⟨y,f,b⟩:=ov.1 this;rw[<-b];exact h.1 y f
theorem r_lookup{z:aj}{x y:bj}{b:Nat}{k:Int}{kE:Zi (Int×aj)}(l:MapOf P T z)(m:ρ x=.map (ah b))(v:ρ y=.int .i64 k)(f:LD w b kE):
  (bc ρ ⟨d,.lookup T x y ar,ty,pos,af,g⟩).run P w=.ok (.value (TI z kE k)) w:=by
 obtain⟨K,E,r,j,c⟩:=l.desc;obtain⟨t,a,f,s,A⟩:=f;obtain⟨i,hi,n⟩:∃i,P.info? E=ah i/\i.zero=ah z:=by
  cases hi:P.info? E with
  |none=>simp[hi]at c
  |some i=>simp[hi]at c;exact⟨i,Z,c⟩
 have u:=Jz (k:=k) (i:=0) s;have q:(nu b).run P w=.ok (.map t a) w:=by simp[nu,nc,f]
 rw[aidx_get (z:=z) (k:=k) (kE:=kE) (i:=0)];simp only[bc,Bh,cx,m,v];have o:=fun e=>ckInt (P:=P) (w:=w) (e:=e) (K:=K) (k:=k) j;simp only[cq,hd,bn,r,cV,q,o,lr,cx,j,u];cases ha:TJ kE k 0 with
 |none=>simp[ma,dt,hi,n]
 |some p=>simp
theorem VH{z:aj}{x y u:bj}{b:Nat}{k:Int}{kE:Zi (Int×aj)}(X:MapOf P T z)(I:ev n env x=.map (ah b))(S:ev n env y=.int .i64 k)(O:ev n env u=v)(c:LD w b kE)
    (h:∀w',bz (fun x=>x=b) w w'->LD w' b (Pz kE k v)->WL P ops Q rest n (gz env d gj) w'):
    WL P ops Q (⟨d,.mapUpdate T x y u,ty,pos,af,aE⟩::rest) n env w:=by
  obtain⟨K,E,N,G,h3⟩:=X.desc;obtain⟨f,a,c,g,s⟩:=c;have A:=Jz (k:=k) (i:=0) g;have M:(nu b).run P w=.ok (.map f a) w:=by simp[nu,nc,c]
  have r:=iQ c;have L:=fun e=>ckInt (P:=P) (w:=w) (e:=e) (K:=K) (k:=k) G;have m:f.toList.length=kE.length:=by have:=ZD fp g;simpa using this
  cases ha:TJ kE k 0 with
  |none=>
    refine Dn (w':=zn w b<|.map (f.push {key:=.int .i64 k,val:=v,born:=a})<|a+1) ?_<|h _ (bz.zn _ _ _) ⟨_,_,yG r,?_,s.push _ _⟩
    · rw[ha]at A;simp only[bc,ox,cx,I,S,O];simp only[cq,hd,bn,N,cV,M,L,lr,cx,G,A,run_setObj_map _ c];rfl
    · rw[XB ha];simp[g]
  |some p=>
    obtain⟨j,u0⟩:=p;obtain⟨_,q,t,B,hset⟩:=XC (v:=v) ha;simp only[Nat.sub_zero]at t hset;have F:j<f.size:=by
      have o:j<kE.length:=by
        rcases cE j kE.length with o|o
        · exact o
        · rw[bq o]at t;cases t
      simpa[<-m]using o
    have hkey:f[j].key=.int .i64 k:=by
      have R:=ZD (fun l=>l[j]?) g;simp[t,F]at R;rw[R.1,B]
    refine Dn (w':=zn w b<|.map (f.modify j fun e=>{e with key:=.int .i64 k,val:=v}) a) ?_<|h _ (bz.zn _ _ _) ⟨_,_,yG r,?_,s.modify _ _ _⟩
    · rw[ha]at A;have C:(mm (.int .i64 k)<|.int .i64 k).run P w=.ok (.int .i64 k) w:=by simp[mm,yB]
      simp only[bc,ox,cx,I,S,O];simp only[cq,hd,bn,N,cV,M,L,lr,cx,G,A,mY F,fm,vp,hkey,C,run_setObj_map _ c];rfl
    · rw[hset,List.map_set,<-g];apply cN;intro i;simp only[eo,ie,fa,iu,eF,cm];by_cases hi:j=i
      · subst hi;simp[F]
      · simp[hi]
theorem wl_insert{z:aj}{x y u:bj}{b:Nat}{k:Int}{kE:Zi (Int×aj)}(X:MapOf P T z)(I:ev n env x=.map (ah b))(S:ev n env y=.int .i64 k)(O:ev n env u=v)(c:LD w b kE)
    (h:∀w',bz (fun x=>x=b) w w'->LD w' b (Pz kE k v)->WL P ops Q rest n (gz env d gj) w'):
    WL P ops Q (⟨d,.insert T x y u,ty,pos,af,aE⟩::rest) n env w:=by
  obtain⟨K,E,N,G,h3⟩:=X.desc;obtain⟨f,a,c,g,s⟩:=c;have A:=Jz (k:=k) (i:=0) g;have M:(nu b).run P w=.ok (.map f a) w:=by simp[nu,nc,c]
  have r:=iQ c;have L:=fun e=>ckInt (P:=P) (w:=w) (e:=e) (K:=K) (k:=k) G;have m:f.toList.length=kE.length:=by have:=ZD fp g;simpa using this
  cases ha:TJ kE k 0 with
  |none=>
    refine Dn (w':=zn w b<|.map (f.push {key:=.int .i64 k,val:=v,born:=a})<|a+1) ?_<|h _ (bz.zn _ _ _) ⟨_,_,yG r,?_,s.push _ _⟩
    · rw[ha]at A;simp only[bc,ox,cx,I,S,O];simp only[cq,hd,bn,N,cV,M,L,lr,cx,G,A,run_setObj_map _ c];rfl
    · rw[XB ha];simp[g]
  |some p=>
    obtain⟨j,u0⟩:=p;obtain⟨_,q,t,B,hset⟩:=XC (v:=v) ha;simp only[Nat.sub_zero]at t hset;have F:j<f.size:=by
      have o:j<kE.length:=by
        rcases cE j kE.length with o|o
        · exact o
        · rw[bq o]at t;cases t
      simpa[<-m]using o
    have hkey:f[j].key=.int .i64 k:=by
      have R:=ZD (fun l=>l[j]?) g;simp[t,F]at R;rw[R.1,B]
    refine Dn (w':=zn w b<|.map (f.modify j fun e=>{e with key:=.int .i64 k,val:=v}) a) ?_<|h _ (bz.zn _ _ _) ⟨_,_,yG r,?_,s.modify _ _ _⟩
    · rw[ha]at A;have C:(mm (.int .i64 k)<|.int .i64 k).run P w=.ok (.int .i64 k) w:=by simp[mm,yB]
      simp only[bc,ox,cx,I,S,O];simp only[cq,hd,bn,N,cV,M,L,lr,cx,G,A,mY F,fm,vp,hkey,C,run_setObj_map _ c];rfl
    · rw[hset,List.map_set,<-g];apply cN;intro i;simp only[eo,ie,fa,iu,eF,cm];by_cases hi:j=i
      · subst hi;simp[F]
      · simp[hi]
theorem aidx_has{k:Int}:∀{kE:Zi (Int×aj)} {i:Nat},ahas kE k=(TJ kE k i).isSome
  |[],i=>rfl
  |p::r,i=>by
    unfold ahas TJ;by_cases a:k=p.1
    · simp[a]
    · simp only[a,if_false];exact aidx_has
theorem r_lookup2{z:aj}{x y:bj}{b:Nat}{k:Int}{kE:Zi (Int×aj)}(l:MapOf P T z)(m:ρ x=.map (ah b))(v:ρ y=.int .i64 k)(f:LD w b kE):
  (bc ρ ⟨d,.lookup T x y ba,ty,pos,af,g⟩).run P w=.ok (.value (.tuple #[TI z kE k,.bool (ahas kE k)])) w:=by
 obtain⟨K,E,r,j,c⟩:=l.desc;obtain⟨t,a,f,s,A⟩:=f;obtain⟨i,hi,n⟩:∃i,P.info? E=ah i/\i.zero=ah z:=by
  cases hi:P.info? E with
  |none=>simp[hi]at c
  |some i=>simp[hi]at c;exact⟨i,Z,c⟩
 have u:=Jz (k:=k) (i:=0) s;have q:(nu b).run P w=.ok (.map t a) w:=by simp[nu,nc,f]
 rw[aidx_get (z:=z) (k:=k) (kE:=kE) (i:=0),aidx_has (i:=0)];simp only[bc,Bh,cx,m,v];have o:=fun e=>ckInt (P:=P) (w:=w) (e:=e) (K:=K) (k:=k) j;simp only[cq,hd,bn,r,cV,q,o,lr,cx,j,u];cases ha:TJ kE k 0 with
 |none=>simp[ma,dt,hi,n]
 |some p=>simp
def lk{α:Type}(k:Int):Zi (Int×α)->Yw α
 |[]=>aE
 |p::r=>if k=p.1 then ah p.2 else lk k r
theorem aget_lk{α:Type}{f:α->aj}{z:α}{k:Int}:∀(l:Zi (Int×α)),TI (f z) (l.map fun p=>(p.1,f p.2)) k=f ((lk k l).getD z)
  |[]=>rfl
  |p::r=>by
    show(if k=p.1 then f p.2 else TI _ _ k)=f ((if k=p.1 then ah p.2 else lk k r).getD z);by_cases h:k=p.1
    · simp[h]
    · simp only[h,if_false];exact aget_lk r
theorem ahas_lk{α:Type}{f:α->aj}{k:Int}:∀(l:Zi (Int×α)),ahas (l.map fun p=>(p.1,f p.2)) k=(lk k l).isSome
  |[]=>rfl
  |p::r=>by
    show(if k=p.1 then ba else ahas _ k)=(if k=p.1 then ah p.2 else lk k r).isSome;by_cases h:k=p.1
    · simp[h]
    · simp only[h,if_false];exact ahas_lk r
theorem r_lk2{α:Type}{f:α->aj}{zz:α}{z:aj}{x y:bj}{b:Nat}{k:Int}{kE:Zi (Int×aj)}(l:Zi (Int×α))(h:SH w0 M K w hp)(i:Nat)(hi:hp i=.mp b kE)(a:MapOf P T z)(c:ρ x=.map (ah b))(m:ρ y=.int .i64 k)(e:z=f zz)(j:kE=l.map fun p=>(p.1,f p.2)):
  (bc ρ ⟨d,.lookup T x y ba,ty,pos,af,g⟩).run P w=.ok (.value (.tuple #[f ((lk k l).getD zz),.bool (lk k l).isSome])) w:=by
 have:=r_lookup2 (d:=d) (ty:=ty) (pos:=pos) (af:=af) (g:=g) a c m<|h.mpAt i hi;rw[e,j,aget_lk,ahas_lk]at this;exact this
theorem r_lk1{α:Type}{f:α->aj}{zz:α}{z:aj}{x y:bj}{b:Nat}{k:Int}{kE:Zi (Int×aj)}(l:Zi (Int×α))(h:SH w0 M K w hp)(i:Nat)(hi:hp i=.mp b kE)(a:MapOf P T z)(c:ρ x=.map (ah b))(m:ρ y=.int .i64 k)(e:z=f zz)(j:kE=l.map fun p=>(p.1,f p.2)):
  (bc ρ ⟨d,.lookup T x y ar,ty,pos,af,g⟩).run P w=.ok (.value (f ((lk k l).getD zz))) w:=by
 have:=r_lookup (d:=d) (ty:=ty) (pos:=pos) (af:=af) (g:=g) a c m<|h.mpAt i hi;rw[e,j,aget_lk]at this;exact this
theorem Gx(h:SH w0 M K w hp)(i:Nat)(k:∀w' b,SH w0 M K w' (bH hp i (.mp b []))->WL P ops Q rest n (gz env d (.map (ah b))) w'):WL P ops Q (⟨d,.makeMap T aE,ty,pos,af,aE⟩::rest) n env w:=
 aA r_makeMap (k _ _ (h.learn i (Grow.alloc _ _) (fun b a=>oX a.symm) ⟨#[],0,Ry _ _,rfl,by simp[Oq]⟩))
theorem SH.mpSet{b:Nat}{kE nW:Zi (Int×aj)}(h:SH w0 M K w hp)(i:Nat)(hi:hp i=.mp b kE)(c:bz (fun x=>x=b) w w')(d:LD w' b nW):SH w0 M K w' (bH hp i (.mp b nW)):=
 h.step i c (fun x a _=>by rw[hi];exact a) (fun x a _=>by rw[hi];exact a) d
theorem jN{z:aj}{x y u:bj}{b:Nat}{k:Int}{kE nW:Zi (Int×aj)}(h:SH w0 M K w hp)(i:Nat)(hi:hp i=.mp b kE)(a:MapOf P T z)(c:ev n env x=.map (ah b))(m:ev n env y=.int .i64 k)(g:ev n env u=v)(j:Pz kE k v=nW)
  (l:∀w',SH w0 M K w' (bH hp i (.mp b nW))->WL P ops Q rest n (gz env d gj) w'):WL P ops Q (⟨d,.insert T x y u,ty,pos,af,aE⟩::rest) n env w:=
 wl_insert a c m g (h.mpAt i hi) fun w' e f=>l w' (h.mpSet i hi e (j▸f))
theorem PV{z:aj}{x y u:bj}{b:Nat}{k:Int}{kE nW:Zi (Int×aj)}(h:SH w0 M K w hp)(i:Nat)(hi:hp i=.mp b kE)(a:MapOf P T z)(c:ev n env x=.map (ah b))(m:ev n env y=.int .i64 k)(g:ev n env u=v)(j:Pz kE k v=nW)
  (l:∀w',SH w0 M K w' (bH hp i (.mp b nW))->WL P ops Q rest n (gz env d gj) w'):WL P ops Q (⟨d,.mapUpdate T x y u,ty,pos,af,aE⟩::rest) n env w:=
 VH a c m g (h.mpAt i hi) fun w' e f=>l w' (h.mpSet i hi e (j▸f))
end
theorem SH.SX{w:al}{M K:BS}{hp:Nat->Chunk}{w0:al}{b:Nat}{cs:Zi aj}(h:SH w0 M K w hp)(i:Nat)(ho:∃E,w.heap[b]? =ah (.cells cs.toArray E (0,0)))(hn:∀b,¬jH hp b):SH w0 M K w (bH hp i (.pt b 0 cs)):=by
 obtain⟨E,ho⟩:=ho;exact h.know i (fun _ h=>h) ⟨hn b,_,_,_,ho,by simp⟩
open Go.RowKit
def hasB(s:Str)(c:UInt8):Ys:=ab (0<=Go.Lib.indexByte s c)
section
variable{P:br}{ops:Array du}{Q:fR->Act->al->Prop}{n:Nat}{env:Nat->aj}{w:al}{rest:Zi du}
 {d:Yw Nat} {ty:aw} {pos:String} {af:Array ix} {v:aj} {x:bj}
theorem Rz{f:hQ}(a:Zi aj){xs:Array bj}{o:Array aw}{args:Zi aj}{j dj:Nat}{b want:Ys}(g:Ys)(m:(ops[j]?).bind (·.dst)=ah dj)(l:ev n env (.tmp dj)=gv g (.bool b))(u:VD P f)(r:(g&&(b==want))=ba->ev n env x=.func (.func f) #[] a.toArray)
    (z:(g&&(b==want))=ba->xs.toList.map (ev n env)++a=args) (s:bk P f args.toArray w (fun e w'=>Grow w w'/\e=.returned v))
    (k:∀w',Grow w w'->WL P ops Q rest n (gz env d (gv (g&&(b==want)) v)) w'):
    WL P ops Q (⟨d,.call {callee:=.value x,args:=xs,argTypes:=o},ty,pos,af,ah (j,want)⟩::rest) n env w:=by
  by_cases c:(g&&(b==want))=ba
  · have t:=gl c;have p:=gr c;rw[iR t]at l;have q:b=want:=by simpa using p
    subst q;refine Vz m l<|bA u (r c) (by simpa using z c) s ?_;rintro e w'⟨y,rfl⟩;refine⟨_,Z,?_⟩;have:=k w' y;rw[iR c]at this;exact this
  · have i:(g&&(b==want))=false:=by simpa using c
    have h:=k w<|bz.refl _ _;rw[i]at h;cases g with
    |true=>exact CG m l (by simpa using i) h
    |false=>exact wl_offU m l h
theorem w_callH0{f:hQ}(a:Zi aj){xs:Array bj}{c:Array aw}{args:Zi aj}{j dj:Nat}{b want:Ys}(g:(ops[j]?).bind (·.dst)=ah dj)(m:ev n env (.tmp dj)=.bool b)(o:VD P f)(i:(b==want)=ba->ev n env x=.func (.func f) #[] a.toArray)
    (p:(b==want)=ba->xs.toList.map (ev n env)++a=args) (l:bk P f args.toArray w (fun e w'=>Grow w w'/\e=.returned v))
    (k:∀w',Grow w w'->WL P ops Q rest n (gz env d (gv (b==want) v)) w'):
    WL P ops Q (⟨d,.call {callee:=.value x,args:=xs,argTypes:=c},ty,pos,af,ah (j,want)⟩::rest) n env w:=
  Rz a ba g m o (fun h=>i (by simpa using h)) (fun h=>p (by simpa using h)) l (by simpa using k)
end
open Go.RowKit
section
variable{P:br}{ops:Array du}{Q:fR->Act->al->Prop}{n:Nat}{env:Nat->aj}{w w' w0:al}{M K:BS}{hp:Nat->Chunk}{rest:Zi du}
 {d:Yw Nat} {op:Op} {ty:aw} {pos:String} {af:Array ix} {v:aj} {g:Yw (Nat×Ys)} {T:aw} {ρ:bj->aj}
theorem r_cap{x:bj}{T E:aw}{sz:Nat}{a:Yw nh}{l c:Nat}(b:SliceOf P T E sz)(e:ρ x=.slice a l c):
  (bc ρ ⟨d,.call {callee:=.builtin .cap,args:= #[x],argTypes:= #[T]},ty,pos,af,g⟩).run P w=.ok (.value (.int .i64 c)) w:=by
 simp[bc,jt,lP,lz,Builtin.cap_,e,cx,b.desc,goInt]
theorem PD(w:al)(t s ty e:aw)(i:TypeInfo)(z:aj)(y:P.underlying t=ah (.slice e))(p:P.underlying s=ah (.int .i64))(hi:P.info? e=ah i)(A:i.zero=ah z)(hs:0<i.size)
  (b:nh) (a c:Nat) (d:Zi aj) (q:d.length=a*i.size) (holds:∀j v,d[j]? =ah v->w.cell? (b.add j)=ah v)
  (n:Nat) (F:0<n) (E:c<a+n) (C:((a+n:Nat):Int)<=9223372036854775807) (u:ld (a+n) c*i.bytes<=281474976710656) (x:n*i.bytes<=281474976710656):
  (jg #[t,s] ty #[.slice (ah b) a c,.int .i64 n]).run P w=
   .ok (.slice (ah ⟨w.heap.size,0,aE⟩) (a+n) (jj w (a+n) c e))
    (w.drew.alloc (.cells (d.toArray++cy z.cells n++cy z.cells (jj w (a+n) c e-(a+n))) e)):=by
 have hn:¬(a+n<=c):=by omega
 have f:n≠0:=by omega
 have m:¬(9223372036854775807<((a:Int)+(n:Int))):=by omega
 have k:¬(281474976710656<ld (a+n) c*i.bytes):=by omega
 have B:IntKind.i64.wrap (n:Int)=n:=by rw[IntKind.wrap_i64];omega
 have g:¬(281474976710656<(n:Int)*(i.bytes:Int)):=by
  rw[<-An];omega
 have l:¬((n:Int)<0):=by omega
 have r:¬(n*i.size=0):=Nat.mul_ne_zero f V;have o:=run_firstCells_some (P:=P) w.drew i.size a b a c d q (by simpa using holds);simp[jg,tP y,tP p,gQ,dt,ma,hi,A,asInt,kl,B,hn,f,l,r,m,k,g,Question.forced,o,wq,jj]
theorem wl_growRaw{x y:bj}{E r:aw}{sz c gg cap a k:Nat}{b:Zi aj}(I:lH P T E sz c)(O:P.underlying r=ah (.int .i64))(K:Raw w gg cap sz E b)(R:ev n env x=.slice (ah ⟨gg,0,aE⟩) a cap)(hy:ev n env y=.int .i64 (k:Nat))(hs:0<sz)(t:a<=cap)(S:0<k)(X:cap<a+k)
    (hb:(a+k)*c<=140737488355328) (L:a+k<=mX)
    (h:∀w' g2 e f,Grow w w'->w.heap.size<=g2->a+k<=e->Raw w' g2 e sz E f->f.take (a*sz)=b.take (a*sz)->WL P ops Q rest n (gz env d (.slice (ah ⟨g2,0,aE⟩) (a+k) e)) w'):
    WL P ops Q (⟨d,.call {callee:=.builtin .append,args:= #[x,y],argTypes:= #[T,r]},ty,pos,af,aE⟩::rest) n env w:=by
  obtain⟨i,z,hi,N,B,l,C⟩:=I.info;have G:a*sz<=cap*sz:=aU _ t;have M:=K.len;have m:(b.take<|a*sz).length=a*sz:=by rw[bo];omega
  have holds:∀j u,(b.take<|a*sz)[j]? =ah u->w.cell? ((⟨gg,0,aE⟩:nh).add j)=ah u:=by
    intro j u q;rw[addr_add,hY];rw[bt]at q;split at q
    · simp[eR,K.blk,q]
    · cases q
  have s:((a+k:Nat):Int)<=9223372036854775807:=by simp only[mX]at L;omega
  have F:ld (a+k) cap<=2*(a+k):=by
    exact nextslicecap_le V
  have p:ld (a+k) cap*i.bytes<=281474976710656:=by
    have:=aU i.bytes F;rw[Nat.mul_assoc,l]at this;rw[l];omega
  have A:k*i.bytes<=281474976710656:=by
    rw[l];have:k*c<=(a+k)*c:=aU _ V;omega
  have g:=PD (P:=P) w T r ty E i z I.desc O hi N V ⟨gg,0,aE⟩ a cap (b.take (a*sz)) (by rw[B];exact m) holds k S X s p A;have o:(bc (ev n env) ⟨d,.call {callee:=.builtin .append,args:= #[x,y],argTypes:= #[T,r]},ty,pos,af,aE⟩).run P w=.ok (.value<|.slice (ah ⟨w.heap.size,0,aE⟩) (a+k)<|jj w (a+k) cap E) (w.drew.alloc<|.cells ((b.take<|a*sz).toArray++cy z.cells k++cy z.cells (jj w (a+k) cap E-(a+k))) E):=by
    simp only[bc,jt,lP,lz,cq,cV,bn,hF,ct,gC,R,hy,g]
  have hge:=grownCap_ge w (a+k) cap E;have v:jj w (a+k) cap E<=maxLen:=Bi w (a+k) cap E L;refine aA o<|h _ _ _ ((b.take<|a*sz)++(cy z.cells k).toList++(cy z.cells<|jj w (a+k) cap E-(a+k)).toList) ?_ (cv _) hge ⟨?_,?_,v⟩ ?_
  · exact(Grow.drew w).trans<|Grow.alloc _ _
  · have:=heap_alloc_new w.drew<|.cells ((b.take<|a*sz).toArray++cy z.cells k++cy z.cells (jj w (a+k) cap E-(a+k))) E;rw[show((b.take (a*sz))++(cy z.cells k).toList++(cy z.cells (jj w (a+k) cap E-(a+k))).toList).toArray=((b.take (a*sz)).toArray++cy z.cells k++cy z.cells (jj w (a+k) cap E-(a+k))) by apply me;simp];exact this
  · rw[an,an,m,cm,cm,nV,nV,C,<-bw,<-bw];congr 1;omega
  · rw[bf,cR V,kn V]
theorem run_copyN(w:al)(dT s ty e:aw)(i:TypeInfo)(g o d k:Nat)(a:nh)(c l:Nat)(b:Array aj)(t:aw)(cs:Zi aj)
  (r:P.underlying dT=ah (.slice e)) (hi:P.info? e=ah i)
  (p:w.heap[g]? =ah (.cells b t (0,0))) (hn:cs.length=lu c d*i.size)
  (f:∀j v,cs[j]? =ah v->w.cell? (a.add j)=ah v) (m:o+cs.length<=b.size) (q:∀v∈cs,v.oneCell'=ba):
  (xM #[dT,s] ty #[.slice (ah ⟨g,o,aE⟩) d k,.slice (ah a) c l]).run P w=
   .ok (goInt (lu c d)) (w.setRow g (b.toList.take o++cs++b.toList.drop (o+cs.length)).toArray):=by
 have hl:=A5 (P:=P) w a cs f;have n:=sL P g o t cs 0 b w p (by simpa using m) q;simp[xM,tP r,sM,pC,gQ,dt,hi,<-hn,hl,n]
theorem Ou{x y:bj}{E q:aw}{sz f gg cap o dl dc m c:Nat}{a news:Zi aj}{ad:nh}(t:lH P T E sz f)(k:Raw w gg cap sz E a)(A:ev n env x=.slice (ah ⟨gg,o*sz,aE⟩) dl dc)(C:ev n env y=.slice (ah ad) m c)
  (hl:news.length=lu m dl*sz) (g:∀j u,news[j]? =ah u->w.cell? (ad.add j)=ah u) (B:∀u∈news,u.oneCell'=ba) (p:o+lu m dl<=cap)
  (h:∀w',bz (fun x=>x=gg) w w'->Raw w' gg cap sz E (a.take (o*sz)++news++a.drop (o*sz+news.length))->WL P ops Q rest n (gz env d (.int .i64 (lu m dl:Nat))) w'):
  WL P ops Q (⟨d,.call {callee:=.builtin .copy,args:= #[x,y],argTypes:= #[T,q]},ty,pos,af,aE⟩::rest) n env w:=by
 obtain⟨i,z,hi,G,r,v,F⟩:=t.info;have e:=k.len;have s:o*sz+news.length<=cap*sz:=by rw[hl,<-bw];exact aU _ p
 have b:=run_copyN (P:=P) w T q ty E i gg (o*sz) dl dc ad m c a.toArray E news t.desc hi k.blk (by rw[r];exact hl) g (by simpa[e]using s) B;rw[LF k.blk]at b;have l:(bc (ev n env) ⟨d,.call {callee:=.builtin .copy,args:= #[x,y],argTypes:= #[T,q]},ty,pos,af,aE⟩).run P w=.ok (.value<|.int .i64 (lu m dl:Nat)) (zn w gg<|.cells (a.take (o*sz)++news++a.drop (o*sz+news.length)).toArray E (0,0)):=by
  simp only[bc,jt,lP,lz,cq,cV,bn,hF,ct,gC,A,C,b];rfl
 refine aA l<|h _ (bz.zn _ _ _) ⟨yG<|iQ k.blk,?_,k.le⟩;rw[an,an,bo,cp,e];omega
structure OverFn(P:br)(f:hQ)(T B:aw):Prop where
 out:∀(args:Array aj) (w:al),(callFunc f args).run P w=((Extern.SlicesOverlaps.overlaps #[T,T] #[B] args).run P w).andThen fun v w'=>.ok (.value v) w'
theorem wl_overlaps{x:bj}{xs:Array bj}{s:Array aw}{f:hQ}{E B:aw}{sz e g1 g2 c2 o1 o2 m1 m2 k1 k2:Nat}{a c:Zi aj}{o:aw}(t:OverFn P f T B)(p:lH P T E sz e)(m:w.heap[g1]? =ah (.cells a.toArray o (0,0)))(r:Raw w g2 c2 sz E c)(k:g1≠g2)(q:0<c2*sz)
  (v:ev n env x=.func (.func f) #[] #[]) (j:xs.toList.map (ev n env)=[.slice (ah ⟨g1,o1,aE⟩) m1 k1,.slice (ah ⟨g2,o2,aE⟩) m2 k2])
  (h:WL P ops Q rest n (gz env d (.bool ar)) w):
  WL P ops Q (⟨d,.call {callee:=.value x,args:=xs,argTypes:=s},ty,pos,af,aE⟩::rest) n env w:=by
 obtain⟨i,z,hi,A,l,u,y⟩:=p.info;have ho:=Lib.run_overlaps_apart (P:=P) w T B E p.desc sz (fun w=>by simp[gQ,dt,hi,l]) ⟨g1,o1,aE⟩ ⟨g2,o2,aE⟩ m1 k1 m2 k2 k o E a.length c.length (by simp[Bj,m]) (by simp[Bj,r.blk]) (by rw[r.len];omega) (by simp[pF,m]) (by simp[pF,m]);have g:xs.map (ev n env)= #[.slice (ah ⟨g1,o1,aE⟩) m1 k1,.slice (ah ⟨g2,o2,aE⟩) m2 k2]:=by
  apply me;simpa using j
 have b:=t.out #[.slice (ah ⟨g1,o1,aE⟩) m1 k1,.slice (ah ⟨g2,o2,aE⟩) m2 k2] w;rw[ho]at b;refine aA ?_ h;simp only[bc,jt,v,Deferred.ofValue,lP];simp[g,b]
end
open Go.RowKit
section
variable{β:Type}
theorem ins_l1{C X:Zi β}{p s:Nat}(a:X.length=s)(hp:p<=C.length):(C.take p++X++C.drop (p+s)).take (p+s)=C.take p++X:=by
 have h:(C.take p++X).length=p+s:=by simp[a];omega
 rw[<-h,kz]
theorem ins_l2{B a R:Zi β}{p q:Nat}(hB:p<=B.length)(b:a.length=q):(B.take p++a++R).take (p+q)=B.take p++a:=by
 have h:(B.take p++a).length=p+q:=by simp[b];omega
 rw[<-h,kz]
theorem ins_l3{C X a R:Zi β}{p s q:Nat}(e:X.length=s)(hp:p+s<=C.length)(d:a.length=q):
  ((C.take (p+s)++a++R).take p++X++(C.take (p+s)++a++R).drop (p+s)).take (p+s+q)=C.take p++X++a:=by
 have c:(C.take<|p+s).length=p+s:=by simp;omega
 have f:(C.take (p+s)++a++R).take p=C.take p:=by
  rw[bf,cR V,dY,cL V]
 have b:(C.take (p+s)++a++R).drop (p+s)=a++R:=by
  rw[bf];exact yQ c
 rw[f,b,<-bf];have g:(C.take p++X++a).length=p+s+q:=by simp[e,d];omega
 rw[<-g,kz]
end
theorem raw_ins{α:Type}{R:lV α}{E:aw}{w w':al}{A N:BS}{l:Zi α}{x:α}{gg g2 d i:Nat}{c g m:Zi aj}(z:Raw w' g2 d R.sz E g)(M:bz (fun y=>y=gg) w w')(t:g2<w.heap.size->g2=gg)(hi:i<=l.length)(hc:l.length+1<=d)(Q:l.length*R.sz<=c.length)
    (s:∀k (h:k<l.length),R.rd w (fun b=>A b\/b=gg) ((c.drop (k*R.sz)).take R.sz) l[k]) (L:R.rd w N m x) (K:∀b,(A b\/b=gg)->b<w.heap.size->N b) (S:gg<w.heap.size)
    (P:g.take (i*R.sz+R.sz+(l.length-i)*R.sz)=c.take (i*R.sz)++m++(c.drop (i*R.sz)).take ((l.length-i)*R.sz)):
    cz R E w' A (.slice (ah ⟨g2,0,aE⟩) (l.length+1) d) (l.take i++[x]++l.drop i):=by
  have e:(l.take i++[x]++l.drop i).length=l.length+1:=by simp;omega
  have q:=R.len L;have T:i*R.sz<=l.length*R.sz:=aU _ hi;have n:(l.length-i)*R.sz=l.length*R.sz-i*R.sz:=sA _ _ _;have o:(c.take<|i*R.sz).length=i*R.sz:=by rw[bo];omega
  have O:(l.length+1)*R.sz=i*R.sz+R.sz+(l.length-i)*R.sz:=by rw[bw,n];omega
  have r:∀cs a,R.rd w (fun b=>A b\/b=gg) cs a->R.rd w' (fun b=>A b\/ob (.slice (ah ⟨g2,0,aE⟩) (l.length+1) d) b) cs a:=fun cs a h=>
    R.go h M (fun b f _=>.inr f) (fun b f hl=>f.elim .inl (fun f=>.inr (by have:b=g2:=f;subst this;exact t hl)))
  have I:R.rd w' (fun b=>A b\/ob (.slice (ah ⟨g2,0,aE⟩) (l.length+1) d) b) m x:=
    R.go L M (fun b f hl=>K b (.inr f) hl) (fun b f hl=>K b (f.elim .inl (fun f=>.inr (by have:b=g2:=f;subst this;exact t hl))) hl)
  refine⟨c.take (i*R.sz)++m++(c.drop<|i*R.sz).take ((l.length-i)*R.sz),⟨?_,.inr ⟨g2,d,g.toArray,?_,gd _,z.blk,?_,z.le,?_,?_⟩⟩,?_⟩
  · rw[e,O,an,an,o,q,bo,cp,n];omega
  · rw[e]
  · rw[e];omega
  · simpa using z.len
  · rw[e,O];exact P
  · intro k B;rw[e]at B;by_cases C:k<i
    · have p:(k+1)*R.sz<=i*R.sz:=aU _ C;rw[bw]at p;have G:=r _ _<|s k V;have u:(l.take i++[x]++l.drop i)[k]'(by rw[e];omega)=l[k]'V:=by
        rw[fg (by simp;omega),fg (by simp;omega),nj]
      rw[u,bf,hO V,cR (by rw[cp];omega),et,dY,cL V];exact G
    · by_cases F:k=i
      · subst F;have u:(l.take k++[x]++l.drop k)[k]'(by rw[e];omega)=x:=by
          rw[fg (by simp;omega),gh (by simp;omega)];simp
        rw[u,bf];have v:(c.take (k*R.sz)++(m++(c.drop<|k*R.sz).take ((l.length-k)*R.sz))).drop (k*R.sz)=m++(c.drop<|k*R.sz).take ((l.length-k)*R.sz):=by
          exact yQ o
        rw[v,<-q,kz];exact I
      · obtain⟨j,rfl⟩:∃j,k=i+1+j:=⟨k-i-1,by omega⟩;have G:=r _ _<|s (i+j) V;have u:(l.take i++[x]++l.drop i)[i+1+j]'(by rw[e];omega)=l[i+j]'V:=by
          rw[gh (by simp;omega),rB];congr 1;simp;omega
        have X:(c.take (i*R.sz)++m).length=i*R.sz+R.sz:=by rw[an,o,q]
        have v:(c.take (i*R.sz)++m++(c.drop<|i*R.sz).take ((l.length-i)*R.sz)).drop ((i+1+j)*R.sz)=((c.drop<|i*R.sz).take ((l.length-i)*R.sz)).drop (j*R.sz):=by
          rw[show(i+1+j)*R.sz=(c.take (i*R.sz)++m).length+j*R.sz by rw[X,bw,bw,sy]];rw[lp];have:(c.take (i*R.sz)++m).drop ((c.take (i*R.sz)++m).length+j*R.sz)=[]:=cr V;rw[this,cf];congr 1;omega
        have p:(j+1)*R.sz<=(l.length-i)*R.sz:=aU _ V;rw[bw]at p;rw[u,v,et,dY,cL V,pj,<-bw];exact G
def ins1{α:Type}(l:Zi α)(i:Int)(m:Zi α):Yw (Zi α):=if 0<=i/\i<=l.length then ah (l.take i.toNat++m++l.drop i.toNat)else aE
theorem o_ins{α:Type}{l r m:Zi α}{i:Int}(h:ins1 l i m=ah r):∃a:Nat,i=a/\a<=l.length/\r=l.take a++m++l.drop a:=by
  unfold ins1 at h;by_cases hp:0<=i/\i<=l.length
  · rw[Z2 hp]at h;cases h;exact⟨i.toNat,by omega,by omega,Z⟩
  · rw[Z3 hp]at h;cases h
theorem RA{w:al}{gg cap sz:Nat}{E:aw}{b:Zi aj}(c:Raw w gg cap sz E b)(o k:Nat):∀j u,((b.drop o).take k)[j]? =ah u->w.cell? ((⟨gg,o,aE⟩:nh).add j)=ah u:=by
  intro j u a;rw[addr_add];rw[bt]at a;split at a
  · rw[ck]at a;simp[eR,c.blk,a]
  · cases a
theorem cz.srcO{α:Type}{R:lV α}{E:aw}{w:al}{A:BS}{v:aj}{l:Zi α}(h:cz R E w A v l):fB R w BE (fun b=>A b\/ob v b) v l:=by
  obtain⟨xs,c,a⟩:=h;rcases c.2 with⟨rfl,hn⟩|⟨g,cap,cur,rfl,e1,e2,e3,e4,e5,e6⟩
  · have:l=[]:=cd hn;subst this;exact fB.nil
  · refine⟨ah ⟨g,0,aE⟩,cap,Z,e3,e4,(fun h=>by cases h),fun i hi=>⟨g,0,cur,E,(0,0),Z,fun h=>h,e2,?_⟩⟩;have:=a i hi;rw[<-e6,et,dY,cL ?_]at this
    · rw[hY];exact this
    · have:(i+1)*R.sz<=l.length*R.sz:=aU _ hi;rw[bw]at this;omega
section
variable{P:br}{ops:Array du}{Q:fR->Act->al->Prop}{n:Nat}{env:Nat->aj}{w:al}{rest:Zi du}
 {d:Yw Nat} {ty:aw} {pos:String} {af:Array ix} {v:aj} {T:aw} {x y:bj}
theorem wl_appO{α:Type}{R:lV α}{E:aw}{sz a:Nat}{A:BS}{u:aj}{l m:Zi α}(j:lH P T E sz a)(hs:R.sz=sz)(r:cz R E w A v l)(o:fB R w BE A u m)(q:ev n env x=v)(s:ev n env y=u)
  (hA:∀b,ob v b->A b) (p:(l.length+m.length)*a<=140737488355328) (i:l.length+m.length<=9223372036854775807)
  (k:∀w' c,cz R E w' A c (l++m)->bz (ob v) w w'->(∀b,ob c b->b<w.heap.size->ob v b)->WL P ops Q rest n (gz env d c) w'):
  WL P ops Q (⟨d,.call {callee:=.builtin .append,args:= #[x,y],argTypes:= #[T,T]},ty,pos,af,aE⟩::rest) n env w:=by
 obtain⟨c,w',f,t,e,z⟩:=run_app (d:=d) (ty:=ty) (pos:=pos) (af:=af) (g:=aE) j hs q r s o hA p i;exact aA f<|k w' c t e z
end
theorem ins_av{α β:Type}{R:lV α}{R':lV β}{E f:aw}{w0 w:al}{M K:BS}{hp:Nat->Chunk}{i j:Nat}{v u:aj}{l:Zi α}{m:Zi β}(h:SH w0 M K w hp)(c:i≠j)(hi:hp i=.own R E v l)(d:hp j=.own R' f u m):∀b,((M b\/rest hp i b)\/ob v b)->b<w.heap.size->(M b\/rest hp j b)\/ob u b:=by
  rintro b((a|⟨k,g,a⟩)|a)_
  · exact .inl<|.inl a
  · by_cases e:k=j
    · subst e;rw[d]at a;exact .inr a
    · exact .inl<|.inr ⟨k,e,a⟩
  · exact .inl (.inr ⟨i,c,by rw[hi];exact a⟩)
open Go.RowKit
section
variable{P:br}{ops:Array du}
variable{Q:fR->Act->al->Prop}{n:Nat}{env:Nat->aj}{w w0:al}{M K:BS}{hp:Nat->Chunk}
structure WHK(P:br)(ops:Array du)(L:BS)(ws:al)(Q:fR->Act->al->Prop)(fuel:Nat)(listed:Array Bool)(n:Nat)(env:Nat->aj)(w:al):Prop where
 out:wx P .any ops (tz Q) (bz L ws) fuel listed (act n env) w
theorem iG{L:BS}{id:Nat}{l:Zi du}(b:P.follows .mixedOrders=ba)(a:SH w0 M K w hp)
  (h:∀w,SH w0 M K w hp->WHK P l.toArray L w Q l.length (sn l.length ar) n env w):WC P (hX id l.toArray ba) Q n env w:=
 ⟨wp_region_noPanic (wp_region_held (S:=bz L w.drew) b (h _ (a.grow (Grow.drew w))).out)⟩
variable{d:Yw Nat}{op:Op}{ty:aw}{pos:String}{af:Array ix}{v:aj}{g:Yw (Nat×Ys)}{i fuel:Nat}{listed:Array Ys}
theorem whk_first{L:BS}{ws:al}{o:du}(a:bz L ws w)(hi:ops[i]? =ah o)(hs:dy ops=ba)(b:fh .any ops listed i=ba)(d:(cI .any ops listed).contains i=ba)
  (c:YieldsIf P ops (bz L ws) o v (act n env)) (h:WHK P ops L ws Q fuel (listed.setIfInBounds i ba) n (gz env o.dst v) w):WHK P ops L ws Q (fuel+1) listed n env w:=by
 refine⟨wpAnyH_take hi hs b d (fun _ _ _ h=>h) c a ?_⟩;rw[Hw];exact h.out
theorem whk_ok{L:BS}{ws:al}(i:Nat)(b:bz L ws w)(hi:ops[i]? =ah ⟨d,op,ty,pos,af,g⟩)(f:cg ⟨d,op,ty,pos,af,g⟩ (eg ops (act n env).tmps)=ba)(hs:dy ops=ba)(c:fh .any ops listed i=ba)(j:(cI .any ops listed).contains i=ba)
  (e:∀a,bz L ws a->(bc (ev n env) ⟨d,op,ty,pos,af,g⟩).run P a=.ok (.value v) a) (h:WHK P ops L ws Q fuel (listed.setIfInBounds i ba) n (gz env d v) w):WHK P ops L ws Q (fuel+1) listed n env w:=
 whk_first (o:=⟨d,op,ty,pos,af,g⟩) b hi hs c j (.inl ⟨f,fun a k=>by rw[iT];exact e a k⟩) h
theorem whk_done{L:BS}{ws:al}(a:cI .any ops listed=[])(h:Q .normal (act n env) w):WHK P ops L ws Q fuel listed n env w:=⟨wpAnyH_done a (NoPanic.normal h) fuel⟩
def XD(P:br)(ops:Array du)(L:BS)(ws:al)(Q:fR->Act->al->Prop)(fuel:Nat)(listed:Array Ys):fR->Act->al->Prop:=
 selK (fun a' w'=>bz L ws w'/\wx P .any ops (tz Q) (bz L ws) fuel listed a' w') (tz Q)
theorem ae{L:BS}{ws:al}(a:bz L ws w)(h:WHK P ops L ws Q fuel listed n env w):XD P ops L ws Q fuel listed .normal (act n env) w:=⟨a,h.out⟩
theorem whk_eff{L:BS}{ws:al}(i:Nat)(a:cI .any ops listed=[i])(hi:ops[i]? =ah ⟨d,op,ty,pos,af,g⟩)(b:cg ⟨d,op,ty,pos,af,g⟩ (eg ops (act n env).tmps)=ba)
  (h:WL P ops (XD P ops L ws Q fuel (listed.setIfInBounds i ba)) [⟨d,op,ty,pos,af,aE⟩] n env w):WHK P ops L ws Q (fuel+1) listed n env w:=by
 refine⟨sq a zq3 fun k c=>?_⟩;obtain rfl:k=i:=by simpa using c
 exact Kc hi b h
theorem iH{L:BS}{ws:al}{d':Yw Nat}{e:Op}{c:aw}{a:String}{b:Array ix}{m:Yw (Nat×Ys)}(i j:Nat)(o:cI .any ops listed=[i,j])(hi:ops[i]? =ah ⟨d,op,ty,pos,af,g⟩)(p:cg ⟨d,op,ty,pos,af,g⟩ (eg ops (act n env).tmps)=ba)
    (q:ops[j]? =ah ⟨d',e,c,a,b,m⟩) (l:cg ⟨d',e,c,a,b,m⟩ (eg ops (act n env).tmps)=ba)
    (h:WL P ops (XD P ops L ws Q fuel (listed.setIfInBounds i ba)) [⟨d,op,ty,pos,af,aE⟩] n env w) (r:WL P ops (XD P ops L ws Q fuel (listed.setIfInBounds j ba)) [⟨d',e,c,a,b,aE⟩] n env w):WHK P ops L ws Q (fuel+1) listed n env w:=by
  refine⟨sq o zq3 fun k f=>?_⟩;rcases bp.1 f with rfl|f
  · exact Kc hi p h
  · obtain rfl:k=j:=by simpa using f
    exact Kc q l r
end
theorem bz.I7{a b c:al}{L N:BS}(h:bz L a b)(k:bz N b c)(d:∀x,N x->a.heap.size<=x):bz L a c:=h.step k (fun x e hl=>by have:=d x e;omega)
theorem bz.same{a b c:al}{L:BS}(h:bz L a b)(k:bz L b c):bz L a c:=h.step k (fun _ d _=>d)
section
variable{P:br}{ops:Array du}{Q:fR->Act->al->Prop}{n:Nat}{env:Nat->aj}{w w' w0:al}{M K:BS}{hp:Nat->Chunk}{rest:Zi du}
 {d:Yw Nat} {op:Op} {ty:aw} {pos:String} {af:Array ix} {v:aj} {g:Yw (Nat×Ys)} {T:aw} {ρ:bj->aj} {x y:bj}
theorem w_stOG{α:Type}{R:lV α}{E:aw}{sz:Nat}{l:Zi α}{k:Int}{a a':α}{b off:Nat}{z u:aj}(h:SH w0 M K w hp)(i:Nat)(hi:hp i=.own R E u l)(s:ob u b)(hs:R.sz=sz)(q:l[k.toNat]? =ah a)(hT:One P T z)(c:ev n env x=.pointer (ah ⟨b,k.toNat*sz+off,aE⟩))
    (hy:ev n env y=v) (h1:v.oneCell'=ba) (p:se off sz=ba) (hset:∀cs,R.rd w (SH.A M hp) cs a->R.rd w (SH.A M hp) (cs.set off v) a')
    (S:∀w',SH w0 M K w' (bH hp i (.own R E u (l.set k.toNat a')))->bz (ob u) w w'->WL P ops Q rest n (gz env d gj) w'):
    WL P ops Q (⟨d,.store T x y,ty,pos,af,aE⟩::rest) n env w:=by
  subst hs;rw[oT]at p;have f:k.toNat<l.length:=by
    rcases cE k.toNat l.length with h|h
    · exact h
    · rw[bq h]at q;cases q
  have F:l[k.toNat]=a:=by rw[bh f]at q;exact cG q
  generalize k.toNat=k at*;have e:∀b,ob u b->SH.A M hp b:=fun b s=>.inr ⟨i,by rw[hi];exact s⟩;obtain⟨xs,L,O⟩:=h.aZ i hi;rcases L.2 with⟨rfl,hn⟩|⟨g',cap,cur,rfl,e1,e2,e3,e4,e5,e6⟩
  · omega
  have r:b=g':=s;subst r;have t:(k+1)*R.sz<=l.length*R.sz:=aU _ f;have N:l.length*R.sz<=cap*R.sz:=aU _ e3;rw[bw]at t;have B:k*R.sz+off<cur.size:=by omega
  have m:=bz.zn w b<|.cells (cur.setIfInBounds (k*R.sz+off) v) E (0,0);refine Dn (VB hT c e2 B hy h1) (S _ (h.step i m (fun x c _=>by rw[hi];exact c) (fun x c _=>by rw[hi];exact c) ⟨xs.set (k*R.sz+off) v,⟨?_,.inr ⟨b,cap,cur.setIfInBounds (k*R.sz+off) v,?_,e1,?_,?_,e4,?_,?_⟩⟩,?_⟩) (m.weaken (fun x c _=>c)))
  · rw[cj,cj];exact L.1
  · rw[cj]
  · rw[yG (iQ e2)]
  · rw[cj];exact e3
  · simpa using e5
  · rw[cj,mj,pS,e6]
  · intro g G;have C:g<l.length:=by rwa[cj]at G
    have o:=fun cs a(h:R.rd w (SH.A M hp) cs a)=>R.go (A':=fun x=>(M x\/(SH.av hp i (.own R E (.slice (ah ⟨b,0,aE⟩) l.length cap) (l.set k a'))) x)\/ob (.slice (ah ⟨b,0,aE⟩) l.length cap) x) h m (fun x c _=>e x c) (fun x c _=>by
      rcases c with(c|c|c)|c
      · exact .inl c
      · exact .inr<|nz c
      · exact e x c
      · exact e x c)
    have I:=fun j(X:j<l.length)=>R.go (A':=SH.A M hp) (O j X) (bz.refl BE w) (fun _ h=>h.elim) fun x c _=>.inl c;by_cases hik:g=k
    · subst hik;rw[pk,SV rfl];exact o _ _<|hset _<|F▸I g f
    · rw[qS (Ne.symm hik),PU]
      · exact o _ _<|I g C
      · rcases cE k g with h5|h5
        · left;have:(k+1)*R.sz<=g*R.sz:=aU _ h5;rw[bw]at this;omega
        · right;have:(g+1)*R.sz<=k*R.sz:=aU _ V;rw[bw]at this;omega
end
open Go.RowKit Go.Sort
section
variable{α β:Type} [Inhabited α] [Inhabited β]
theorem get_map{f:α->β}(a:f default=default)(d:Array α)(i:Nat):(d.map f)[i]! =f d[i]! :=by
  rcases cE i d.size with h|h
  · rw[getElem!_pos (d.map f) i (by simpa using h),getElem!_pos d i h];simp
  · rw[getElem!_neg (d.map f) i (by simpa using h),getElem!_neg d i V];exact a.symm
theorem swp_map{f:α->β}(a:f default=default)(d:Array α)(i j:Nat):(swp d i j).map f=swp (d.map f) i j:=by
  unfold swp;rw[get_map a,get_map a];apply pR;intro k;simp only[Array.getElem?_map,lE,Array.size_setIfInBounds,Array.size_map];split
  · split<;>simp
  · split
    · split<;>simp
    · rfl
theorem VI{f:α->β}(b:f default=default)(lt:β->β->Ys)(a:Nat):∀(j:Nat) (d:Array α),(insInner (fun x y=>lt (f x) (f y)) a j d).map f=insInner lt a j (d.map f)
  |0,d=>rfl
  |j+1,d=>by
    unfold insInner;simp only[get_map b];split
    · rw[VI b lt a j,swp_map b]
    · rfl
theorem insOuter_map{f:α->β}(c:f default=default)(lt:β->β->Ys)(a b:Nat):∀(m i:Nat) (d:Array α),b-i=m->(insOuter (fun x y=>lt (f x) (f y)) a b i d).map f=insOuter lt a b i (d.map f):=by
 intro m;induction m with
 |zero=>
  intro i d h
  conv=>lhs;rw[insOuter.eq_def]
  conv=>rhs;rw[insOuter.eq_def]
  rw[Z3 V,Z3 V]
 |succ m ih=>
  intro i d h;rw[insOuter.eq_def]
  conv=>rhs;rw[insOuter.eq_def]
  rw[Z2 V,Z2 V,ih (i+1) _ V,VI c]
theorem VJ{f:α->β}(c:f default=default)(lt:β->β->Ys)(d:Array α)(a b:Nat):(fS (fun x y=>lt (f x) (f y)) d a b).map f=fS lt (d.map f) a b:=insOuter_map c lt a b _ _ d Z
theorem swp_all{p:α->Prop}{d:Array α}{i j:Nat}(hi:i<d.size)(b:j<d.size)(h:∀k,k<d.size->p d[k]!):∀k,k<(swp d i j).size->p (swp d i j)[k]! :=by
  intro k a;rw[size_swp]at a;rw[swp_get d hi b];split
  · exact h i hi
  · split
    · exact h j b
    · exact h k a
theorem VK{p:α->Prop}(lt:α->α->Ys)(a:Nat):∀(j:Nat) (d:Array α),j<d.size->(∀k,k<d.size->p d[k]!)->(insInner lt a j d).size=d.size/\∀k,k<(insInner lt a j d).size->p (insInner lt a j d)[k]!
  |0,d,_,h=>⟨rfl,h⟩
  |j+1,d,hj,h=>by
    unfold insInner;split
    · have:=VK lt a j (swp d (j+1) j) (by rw[size_swp];omega) (swp_all hj V h);rw[size_swp]at this;exact this
    · exact⟨Z,h⟩
theorem insOuter_all{p:α->Prop}(lt:α->α->Ys)(a b:Nat):∀(m i:Nat) (d:Array α),b-i=m->b<=d.size->(∀k,k<d.size->p d[k]!)->(insOuter lt a b i d).size=d.size/\∀k,k<(insOuter lt a b i d).size->p (insOuter lt a b i d)[k]! :=by
 intro m;induction m with
 |zero=>
  intro i d h f hp;rw[insOuter.eq_def,Z3 V];exact⟨Z,hp⟩
 |succ m ih=>
  intro i d h f hp;rw[insOuter.eq_def,Z2 V];obtain⟨e,g⟩:=VK (p:=p) lt a i d V hp;obtain⟨c,j⟩:=ih (i+1) (insInner lt a i d) V V g;exact⟨c.trans e,j⟩
end
theorem bz.mapBlock(w:al)(b:Nat)(f:Array aj->Array aj):bz (fun x=>x=b) w (pU w b f):=
 ⟨rfl,rfl,rfl,by simp[pU],fun k a _=>by
  have:b≠k:=fun e=>a e.symm;simp[pU,fa,this]⟩
theorem Grow.ahead(w:al)(n:Nat):Grow w (s6 w n):=⟨rfl,rfl,rfl,cv _,fun _ _ _=>rfl⟩
theorem Grow.grow(w:al)(os:Array Obj):Grow w (mu w os):=
 ⟨rfl,rfl,rfl,by simp[mu],fun k _ a=>by simp[mu,sT a]⟩
section
variable{α β:Type} [Inhabited α]{R:lV β}{E:aw}{w:al}{A:BS}{v:aj}{l:Zi β}{enc:α->Zi aj}{f:α->β}
theorem own_holds(a:∀w A cs x,R.rd w A cs x->∃p,enc p=cs/\f p=x)(G:cz R E w A v l)(hl:0<l.length):
    ∃gg cap g,∃d:Array α,v=.slice (ah ⟨gg,0,aE⟩) l.length cap/\d.size=l.length/\d.toList.map f=l/\uf enc R.sz w gg 0 d/\Raw w gg cap R.sz E g/\l.length<=cap/\(∀k,k<d.size->R.rd w (fun b=>A b\/b=gg) (enc d[k]!) (f d[k]!)):=by
  obtain⟨gg,cap,g,rfl,j,q,r⟩:=VF G hl;have c:∀i:Fin l.length,∃p,enc p=(g.drop<|i.1*R.sz).take R.sz/\f p=l[i.1]:=fun i=>a _ _ _ _<|r i.1 i.2;have m:(pP fun i:Fin l.length=>(c i).choose).size=l.length:=by simp
  have o:∀k (n:k<l.length),(pP fun i:Fin l.length=>(c i).choose)[k]! =(c ⟨k,n⟩).choose:=by
    intro k n;rw[getElem!_pos _ k (by simpa using n)];simp
  refine⟨gg,cap,g,pP fun i:Fin l.length=>(c i).choose,Z,m,?_,?_,j,q,?_⟩
  · apply List.ext_getElem
    · simp
    · intro k C s;simp only[List.getElem_map,Array.getElem_toList,Array.getElem_ofFn];exact(c ⟨k,s⟩).choose_spec.2
  · intro t u;rw[size_flatK,m]at u;have hp:=R.pos;have B:t / R.sz<l.length:=pB (by rw[mf];exact u);have z:t%R.sz<R.sz:=oY _ hp;have e:t / R.sz*R.sz+t%R.sz=t:=by rw[mf];exact z7 _ _
    have F:=j.len;have y:(t / R.sz+1)*R.sz<=cap*R.sz:=aU _ V;rw[bw]at y;constructor
    · rw[get_flatK _ _ _ _ (by rw[m];exact u),o _ B,(c ⟨t / R.sz,B⟩).choose_spec.1];have C:((g.drop<|t / R.sz*R.sz).take R.sz)[t%R.sz]? =g[t]? :=by rw[bt,Z2 z,ck,e]
      have s:t<g.length:=by omega
      rw[getElem!_def,C,bh s];simp[eR,j.blk,s]
    · simp[pF,j.blk]
  · intro k n;rw[m]at n;rw[o k n,(c ⟨k,n⟩).choose_spec.1,(c ⟨k,n⟩).choose_spec.2];exact r k n
theorem holds_own{gg cap n:Nat}{a:Zi aj}{d d':Array α}{os:Array Obj}(c:Raw w gg cap R.sz E a)(q:∀x,(enc x).length=R.sz)(hs:d'.size=d.size)(g:d.size<=cap)(K:uf enc R.sz w gg 0 d)
    (s:∀k,k<d'.size->R.rd w (fun b=>A b\/b=gg) (enc d'[k]!) (f d'[k]!)):
    cz R E (ij enc R.sz w gg 0 n d' os) A (.slice (ah ⟨gg,0,aE⟩) d.size cap) (d'.toList.map f)/\bz (fun x=>x=gg) w (ij enc R.sz w gg 0 n d' os):=by
  have j:=c.len;have I:d.size*R.sz<=cap*R.sz:=aU _ g;have p:bz (fun x=>x=gg) w (tA enc R.sz (s6 w n) gg 0 d'):=(Grow.ahead w n).keep.step (bz.mapBlock _ _ _) fun _ h _=>h;have y:bz (fun x=>x=gg) w (ij enc R.sz w gg 0 n d' os):=p.grow<|Grow.grow _ _;refine⟨⟨(flatK enc R.sz d').toList,⟨by simp,.inr ⟨gg,cap,pZ id 0 (flatK enc R.sz d') a.toArray,by simp[hs],gd _,?_,by simp[hs,g],c.le,by simp[pZ,j],?_⟩⟩,?_⟩,y⟩
  · have v:(tA enc R.sz (s6 w n) gg 0 d').heap[gg]? =ah (.cells (pZ id 0 (flatK enc R.sz d') a.toArray) E (0,0)):=by
      unfold tA Sort.putRow pU;simp only[fa,if_true];rw[show(s6 w n).heap[gg]? =ah (.cells a.toArray E (0,0))from c.blk];rfl
    exact(Grow.grow _ os).blk v
  · apply cN;intro t;rw[bt];have u:(d'.toList.map f).length=d'.size:=by simp
    rw[u];split
    · next ht=>
      have v:t<a.length:=by rw[j];rw[hs]at ht;omega
      have L:t<(flatK enc R.sz d').size:=by rw[size_flatK];exact ht
      simp[pZ,v,ht]
    · next ht=>
      rw[bq];simp only[cm,size_flatK];omega
  · intro i hi;have l:i<d'.size:=by simpa using hi
    have hp:=R.pos;have e:((flatK enc R.sz d').toList.drop<|i*R.sz).take R.sz=enc d'[i]! :=by
      apply cN;intro t;rw[bt];split
      · next ht=>
        have r:(i+1)*R.sz<=d'.size*R.sz:=aU _ l;rw[bw]at r;have z:(i*R.sz+t) / R.sz=i:=(Sort.blk_iff R.sz i _ hp).1 ⟨by omega,by omega⟩;have B:(i*R.sz+t)%R.sz=t:=by rw[Nat.mod_eq_sub_div_mul,z];omega
        have m:=get_flatK enc R.sz d' (i*R.sz+t) V;rw[z,B]at m;rw[ck,ie,mY (by rw[size_flatK];omega),bh (by rw[q];exact ht)];rw[getElem!_pos (flatK enc R.sz d') _ (by rw[size_flatK];omega),getElem!_pos (enc d'[i]!) t (by rw[q];exact ht)]at m;rw[m]
      · next ht=>rw[bq (by rw[q];omega)]
    have G:=s i l;rw[e];have C:(d'.toList.map f)[i]=f d'[i]! :=by
      simp[getElem!_pos d' i l]
    rw[C];exact R.go G y (fun x F _=>.inr F) (fun b o _=>o.imp id (fun o=>by simpa[ob]using o))
end
def sortF{α:Type} [Inhabited α](lt:α->α->Ys)(l:Zi α):Zi α:=(fS lt l.toArray 0 l.length).toList
structure One1 where
 v:aj
 one:v.oneCell'=ba
instance:Inhabited One1:=⟨⟨.bool ar,rfl⟩⟩
theorem sort_own{α β:Type} [Inhabited α] [Inhabited β]{R:lV β}{E:aw}{w:al}{A:BS}{l:Zi β}{enc:α->Zi aj}{f:α->β}{gg cap n:Nat}{c:Zi aj}{d:Array α}{os:Array Obj}{lt:β->β->Ys}{lt':α->α->Ys}(s:f default=default)(i:lt'=fun x y=>lt (f x) (f y))(a:Raw w gg cap R.sz E c)(r:∀x,(enc x).length=R.sz)(hs:d.size=l.length)(m:l.length<=cap)(q:uf enc R.sz w gg 0 d)(hl:d.toList.map f=l)
  (g:∀k,k<d.size->R.rd w (fun b=>A b\/b=gg) (enc d[k]!) (f d[k]!)):
  cz R E (ij enc R.sz w gg 0 n (fS lt' d 0 d.size) os) A (.slice (ah ⟨gg,0,aE⟩) l.length cap) (sortF lt l)/\bz (fun x=>x=gg) w (ij enc R.sz w gg 0 n (fS lt' d 0 d.size) os):=by
 subst i;obtain⟨o,t⟩:=insOuter_all (p:=fun x=>R.rd w (fun b=>A b\/b=gg) (enc x)<|f x) (fun x y=>lt (f x)<|f y) 0 d.size _ 1 d Z (cv _) g;have j:=holds_own (f:=f) (n:=n) (os:=os) (E:=E) (d':=fS (fun x y=>lt (f x)<|f y) d 0 d.size) a r o V q t;have e:(fS (fun x y=>lt (f x)<|f y) d 0 d.size).toList.map f=sortF lt l:=by
  rw[<-sf,VJ s];unfold sortF;have:d.map f=l.toArray:=by apply me;rw[sf];simpa using hl
  rw[this,hs]
 rw[e,hs]at j;rw[hs];exact j
open Go.RowKit
def rPtr{α:Type}(R:lV α):lV (Yw α) where
  sz:=1
  rd w A cs x:=∃v,cs=[v]/\((v=.pointer aE/\x=aE)\/∃b cells E fz a,v=.pointer (ah ⟨b,0,aE⟩)/\¬A b/\w.heap[b]? =ah (.cells cells E fz)/\R.rd w A (cells.toList.take R.sz) a/\x=ah a)
  len:=by rintro w A cs x ⟨v,rfl,_⟩;rfl
  one:=by
    rintro w A cs x⟨v,rfl,h⟩u hu;simp at hu;subst hu;rcases h with⟨rfl,_⟩|⟨b,cells,E,fz,a,rfl,_⟩<;>rfl
  pos:=by decide
  go:=by
    rintro w A cs x w' A' K⟨v,rfl,h⟩hk hK hA;refine⟨v,Z,?_⟩;rcases h with h|⟨b,cells,E,fz,a,h1,h2,h3,h4,h5⟩
    · exact .inl h
    · exact .inr ⟨b,cells,E,fz,a,h1,fun hb=>h2<|hA b hb<|iQ h3,hk.blk h3 fun hb=>h2<|hK b hb<|iQ h3,R.go h4 hk hK hA,h5⟩
section
variable{w0 w:al}{M K:BS}{hp:Nat->Chunk}{α:Type}{R:lV α}
theorem SH.rpAt{v:aj}{x:α}(h:SH w0 M K w hp)(i:Nat)(hi:hp i=.rp R v x):R.rd w (SH.A M hp) [v] x:=by
 have:=h.ok i;rw[hi]at this;exact this
theorem SH.iA(h:SH w0 M K w hp)(i:Nat):SH w0 M K w (bH hp i .no):=h.step i (bz.refl BE w) (fun _ h=>h.elim) (fun _ h=>h.elim) U
theorem SH.nilRp(h:SH w0 M K w hp)(i:Nat):SH w0 M K w (bH hp i (.rp (rPtr R) (.pointer aE) aE)):=h.know i (fun _ h=>h) ⟨_,rfl,.inl ⟨rfl,rfl⟩⟩
theorem SH.copyRp{v:aj}{x:α}(h:SH w0 M K w hp)(j i:Nat)(a:hp j=.rp R v x):SH w0 M K w (bH hp i (.rp R v x)):=h.know i (fun _ h=>h) (h.rpAt j a)
theorem SH.boxRp{b:Nat}{cs:Zi aj}{x:α}(h:SH w0 M K w hp)(j i:Nat)(f:hp j=.blk b cs)(hl:R.sz=cs.length)(l:R.rd w (SH.A M hp) cs x):SH w0 M K w (bH (bH hp j .no) i (.rp (rPtr R) (.pointer (ah ⟨b,0,aE⟩)) (ah x))):=by
  obtain⟨E,c⟩:=h.oQ j f;have m:SH w0 M K w (bH hp j .no):=h.step j (bz.refl BE w) (fun _ h=>h.elim) (fun b c=>c.elim) U;have d:(hp j).own' b:=by rw[f];rfl
  refine m.know i (fun _ h=>h) ⟨_,Z,.inr ⟨b,_,_,_,x,Z,?_,c,?_,Z⟩⟩
  · rintro(g|⟨k,a⟩)
    · exact h.apM j b d g
    · by_cases e:k=j
      · subst e;rw[bN]at a;exact a
      · rw[fe e]at a;exact h.apart k j e b a d
  · rw[hl];have:(cs.toArray.toList.take cs.length)=cs:=by simp
    rw[this];refine R.go l (bz.refl BE w) (fun _ h=>h.elim) fun b c _=>c.imp id fun⟨k,a⟩=>?_;by_cases e:k=j
    · subst e;rw[bN]at a;exact a.elim
    · rw[fe e]at a;exact⟨k,a⟩
theorem SH.openRp{v:aj}{o:Yw α}{x:α}(h:SH w0 M K w hp)(i j:Nat)(hi:hp i=.rp (rPtr R) v o)(d:o=ah x):
    ∃b cs,v=.pointer (ah ⟨b,0,aE⟩)/\SH w0 M K w (bH hp j (.pt b 0 cs))/\R.rd w (SH.A M hp) cs x:=by
  obtain⟨u,e,c|⟨b,cells,E,l,a,c,n,k,f,g⟩⟩:=h.rpAt i hi
  · rw[d]at c;cases c.2
  · cases e;rw[d]at g;cases g;refine⟨b,_,c,h.pt j (fun m=>n<|.inr m) ⟨cells,E,l,k,?_⟩,f⟩;rw[hJ,R.len f]
theorem rp_nil{A:BS}{v:aj}{o:Yw α}(h:(rPtr R).rd w A [v] o):v=.pointer aE/\o=aE\/∃a x,v=.pointer (ah a)/\o=ah x:=by
  obtain⟨u,e,c|⟨b,cells,E,g,a,c,i,f,j,d⟩⟩:=h
  · cases e;exact .inl c
  · cases e;exact .inr ⟨_,_,c,d⟩
variable{P:br}{T T2 ty:aw}{ρ:bj->aj}{d:Yw Nat}{pos:String}{af:Array ix}{g:Yw (Nat×Ys)}{x y:bj}{v:aj}{A:BS}{o:Yw α}
def PtrTo(P:br)(T:aw):Prop:=∃E,P.underlying T=ah (.pointer E)
theorem PtrTo.p(a:PtrTo P T):P.underlying T=ah (.pointer (P.pointee T)):=by
 obtain⟨E,a⟩:=a;simp[Program.pointee,a]
theorem r_eqptr(e:PtrTo P T)(b:ρ x=v)(f:(rPtr R).rd w A [v] o)(c:ρ y=.pointer aE):(bc ρ ⟨d,.binOp .eql T x y T2,ty,pos,af,g⟩).run P w=.ok (.value (.bool o.isNone)) w:=by
  rcases rp_nil f with⟨rfl,rfl⟩|⟨a,z,rfl,rfl⟩
  · simp[bc,b,c,ga,As w T _ e.p]
  · simp[bc,b,c,ga,As w T _ e.p]
theorem r_neptr(e:PtrTo P T)(b:ρ x=v)(f:(rPtr R).rd w A [v] o)(c:ρ y=.pointer aE):(bc ρ ⟨d,.binOp .neq T x y T2,ty,pos,af,g⟩).run P w=.ok (.value (.bool o.isSome)) w:=by
  rcases rp_nil f with⟨rfl,rfl⟩|⟨a,z,rfl,rfl⟩
  · simp[bc,b,c,ga,Ax w T _ e.p]
  · simp[bc,b,c,ga,Ax w T _ e.p]
theorem r_nilCheckP{a:nh}(b:ρ x=v)(c:v=.pointer (ah a)):(bc ρ ⟨d,.nilCheck x,ty,pos,af,g⟩).run P w=.ok (.value (.pointer (ah a))) w:=fM (b.trans c)
end
open Go.RowKit
def Chunk.VL:Chunk->Prop
 | .sr .. =>False
 | .pt .. =>False
 | .two a b=>a.VL/\b.VL
 |_=>True
theorem Chunk.re{c:Chunk}{w:al}{M O g i:BS}(e:c.VL)(h:c.holds w M O)(d:∀b,g b\/i b->b<w.heap.size->M b\/O b):c.holds w g i:=by
 induction c with
 |no=>trivial
 |rd R v l=>exact fB.sub h d d
 |sr R v l=>exact e.elim
 |pt b o cs=>exact e.elim
 |blk b cs=>exact h
 |own R E v l=>exact cz.go h (bz.refl BE w) (fun _ h=>h.elim) (fun _ h=>h.elim) (fun b f hl=>.inl (d b f hl))
 |rp R v x=>exact R.go h (bz.refl BE w) (fun _ h=>h.elim) d
 |two a b iha ihb=>exact⟨iha e.1 h.1,ihb e.2 h.2.1,h.2.2⟩
 |fC S=>exact S.go h (bz.refl BE w) (fun _ h=>h.elim) (fun _ h=>h.elim) (fun b f hl=>.inl (d b f hl))
 |mp b kE=>exact h
section
variable{w0 w w':al}{M K:BS}{hp:Nat->Chunk}
theorem SH.pair(h:SH w0 M K w hp)(i j:Nat)(k:i≠j):SH w0 M K w (bH (bH hp j .no) i (.two (hp i) (hp j))):=by
  have c:∀x b,(bH (bH hp j .no) i (.two (hp i)<|hp j) x).own' b->(x=i/\((hp i).own' b\/(hp j).own' b))\/(x≠i/\x≠j/\(hp x).own' b):=by
    intro x b a;by_cases e:x=i
    · subst e;rw[bN]at a;exact .inl ⟨Z,a⟩
    · rw[fe e]at a;by_cases f:x=j
      · subst f;rw[bN]at a;exact a.elim
      · rw[fe f]at a;exact .inr ⟨e,f,a⟩
  have d:∀b,jH (bH (bH hp j .no) i<|.two (hp i)<|hp j) b->jH hp b:=by
    rintro b⟨x,l⟩;rcases c x b l with⟨_,h1|h1⟩|⟨_,_,h1⟩
    · exact⟨i,h1⟩
    · exact⟨j,h1⟩
    · exact⟨x,h1⟩
  refine⟨h.keep,h.ltM,fun x b a=>?_,fun x=>?_,fun x y g b l m=>?_,fun x b a=>?_⟩
  · rcases c x b a with⟨_,h1|h1⟩|⟨_,_,h1⟩
    · exact h.apM i b h1
    · exact h.apM j b h1
    · exact h.apM x b h1
  · by_cases e:x=i
    · subst e;rw[bN];exact⟨Chunk.sub (h.ok x) fun b a _=>d b a,Chunk.sub (h.ok j) fun b a _=>d b a,fun b a=>h.apart x j k b a⟩
    · rw[fe e];by_cases f:x=j
      · subst f;rw[bN];trivial
      · rw[fe f];exact Chunk.sub (h.ok x) (fun b a _=>d b a)
  · rcases c x b l with⟨e1,h1⟩|⟨e1,e1',h1⟩<;>rcases c y b m with⟨f,h2⟩|⟨f,e2',h2⟩
    · exact g<|e1.trans f.symm
    · rcases h1 with h1|h1
      · exact h.apart i y (fun e=>f e.symm) b h1 h2
      · exact h.apart j y (fun e=>e2' e.symm) b h1 h2
    · rcases h2 with h2|h2
      · exact h.apart x i e1 b h1 h2
      · exact h.apart x j e1' b h1 h2
    · exact h.apart x y g b h1 h2
  · rcases c x b a with⟨_,h1|h1⟩|⟨_,_,h1⟩
    · exact h.old i b h1
    · exact h.old j b h1
    · exact h.old x b h1
theorem SH.unpair{a c:Chunk}(h:SH w0 M K w hp)(i j:Nat)(p:i≠j)(hi:hp i=.two a c)(r:hp j=.no):SH w0 M K w (bH (bH hp i a) j c):=by
  have g:∀x b,(bH (bH hp i a) j c x).own' b->(x=i/\a.own' b)\/(x=j/\c.own' b)\/(x≠i/\x≠j/\(hp x).own' b):=by
    intro x b d;by_cases e:x=j
    · subst e;rw[bN]at d;exact .inr (.inl ⟨Z,d⟩)
    · rw[fe e]at d;by_cases f:x=i
      · subst f;rw[bN]at d;exact .inl ⟨Z,d⟩
      · rw[fe f]at d;exact .inr (.inr ⟨f,e,d⟩)
  have hA:∀b,a.own' b->(hp i).own' b:=fun b d=>by rw[hi];exact .inl d
  have n:∀b,c.own' b->(hp i).own' b:=fun b d=>by rw[hi];exact .inr d
  have k:∀b,jH (bH (bH hp i a) j c) b->jH hp b:=by
    rintro b⟨x,o⟩;rcases g x b o with⟨_,h1⟩|⟨_,h1⟩|⟨_,_,h1⟩
    · exact⟨i,hA b h1⟩
    · exact⟨i,n b h1⟩
    · exact⟨x,h1⟩
  have l:=h.ok i;rw[hi]at l;refine⟨h.keep,h.ltM,fun x b d=>?_,fun x=>?_,fun x y m b o q=>?_,fun x b d=>?_⟩
  · rcases g x b d with⟨_,h1⟩|⟨_,h1⟩|⟨_,_,h1⟩
    · exact h.apM i b<|hA b h1
    · exact h.apM i b<|n b h1
    · exact h.apM x b h1
  · by_cases e:x=j
    · subst e;rw[bN];exact Chunk.sub l.2.1 (fun b d _=>k b d)
    · rw[fe e];by_cases f:x=i
      · subst f;rw[bN];exact Chunk.sub l.1 (fun b d _=>k b d)
      · rw[fe f];exact Chunk.sub (h.ok x) (fun b d _=>k b d)
  · rcases g x b o with⟨e1,h1⟩|⟨e1,h1⟩|⟨e1,e1',h1⟩<;>rcases g y b q with⟨f,h2⟩|⟨f,h2⟩|⟨f,e2',h2⟩
    · exact m<|e1.trans f.symm
    · exact l.2.2 b h1 h2
    · exact h.apart i y (fun e=>f e.symm) b (hA b h1) h2
    · exact l.2.2 b h2 h1
    · exact m<|e1.trans f.symm
    · exact h.apart i y (fun e=>f e.symm) b (n b h1) h2
    · exact h.apart x i e1 b h1<|hA b h2
    · exact h.apart x i e1 b h1<|n b h2
    · exact h.apart x y m b h1 h2
  · rcases g x b d with⟨_,h1⟩|⟨_,h1⟩|⟨_,_,h1⟩
    · exact h.old i b<|hA b h1
    · exact h.old i b<|n b h1
    · exact h.old x b h1
theorem SH.lendC(h:SH w0 M K w hp)(i:Nat)(d:(hp i).VL):(hp i).holds w (fun b=>M b\/rest hp i b) (hp i).own'/\(∀b,(hp i).own' b->¬(M b\/rest hp i b))/\(∀b,(M b\/rest hp i b)->b<w.heap.size):=by
  refine⟨Chunk.re d (h.ok i) fun b a _=>?_,fun b a c=>?_,fun b a=>?_⟩
  · rcases a with(a|a)|a
    · exact .inl a
    · exact .inr<|nz a
    · exact .inr ⟨i,a⟩
  · rcases c with c|⟨j,hj,c⟩
    · exact h.apM i b a c
    · exact h.apart j i hj b c a
  · rcases a with a|⟨j,_,a⟩
    · exact bE (h.ltM b a) h.keep.size
    · exact Chunk.lt (h.ok j) b a
theorem SH.givenC{C:Chunk}(h:SH w0 M K w hp)(i:Nat)(e:C.VL)(c:C.holds w' (fun b=>M b\/rest hp i b) C.own')(d:bz (hp i).own' w w')(hn:∀b,C.own' b->b<w.heap.size->(hp i).own' b):SH w0 M K w' (bH hp i C):=
  h.step i d (fun _ a _=>a) hn (Chunk.re e c (fun b a _=>by
    rcases a with a|a|a
    · exact .inl<|.inl a
    · exact .inl<|.inr a
    · exact .inr a))
theorem SH.vH{C:Chunk}(n:∀b,M b->b<w.heap.size)(m:C.holds w M C.own')(g:∀b,C.own' b->¬M b):SH w M C.own' w (bH hno 1 C):=by
  have a:∀b,jH (bH hno 1 C) b->C.own' b:=by
    rintro b⟨j,f⟩;by_cases e:j=1
    · subst e;rw[bN]at f;exact f
    · rw[fe e]at f;exact f.elim
  refine⟨bz.refl _ _,n,fun i b c=>g b<|a b ⟨i,c⟩,fun i=>?_,fun i j k b c d=>?_,fun i b c _=>a b ⟨i,c⟩⟩
  · by_cases e:i=1
    · subst e;rw[bN];exact Chunk.sub m (fun b c _=>a b c)
    · rw[fe e];trivial
  · by_cases e:i=1
    · have l:j≠1:=fun h=>k<|e.trans h.symm;rw[fe l]at d;exact d.elim
    · rw[fe e]at c;exact c.elim
theorem SH.outC{C:Chunk}(h:SH w0 M K w hp)(i:Nat)(hi:hp i=C)(c:C.VL):C.holds w M C.own'/\bz K w0 w/\(∀b,C.own' b->b<w0.heap.size->K b):=by
 subst hi;exact⟨Chunk.re c (h.ok i) fun b a _=>a.imp id fun a=>⟨i,a⟩,h.keep,h.old i⟩
end
structure Val where
 kind:Int
 n:Int
deriving DecidableEq
def aQ:lV Val where
 sz:=2
 rd w A cs x:=cs=[.int .i64 x.kind,.int .i64 x.n]
 len:=by rintro w A cs x rfl;rfl
 one:=by rintro w A cs x rfl u hu;simp only[bp,cO,or_false]at hu;rcases hu with rfl|rfl<;>first|rfl
 pos:=by decide
 go:=fun h _ _ _=>h
structure Tok where
 kind:Int
 n:Int
deriving DecidableEq
def uO:lV Tok where
 sz:=2
 rd w A cs x:=cs=[.int .i64 x.kind,.int .i64 x.n]
 len:=by rintro w A cs x rfl;rfl
 one:=by rintro w A cs x rfl u hu;simp only[bp,cO,or_false]at hu;rcases hu with rfl|rfl<;>first|rfl
 pos:=by decide
 go:=fun h _ _ _=>h
structure lI where
 from_:Int
 ru:Int
 co:Int
 ax:Int
 taken:Bool
 image:List Int
deriving DecidableEq
def gm:lV lI where
 sz:=6
 rd w A cs x:=∃tq,cs=[.int .i64 x.from_,.int .i64 x.ru,.int .i64 x.co,.int .i64 x.ax,.bool x.taken,tq]/\bS bC w A tq x.image
 len:=by rintro w A cs x ⟨tq,rfl,h0⟩;rfl
 one:=by rintro w A cs x ⟨tq,rfl,h0⟩ u hu;simp only[bp,cO,or_false]at hu;rcases hu with rfl|rfl|rfl|rfl|rfl|rfl<;>first|rfl|exact h0.one
 pos:=by decide
 go:=by rintro w A cs x w2 A2 K ⟨tq,rfl,h0⟩ hk hK hA;exact⟨_,Z,h0.go hk hK hA⟩
theorem DK{w:al}{A:BS}{cs:Zi aj}{x:lI}(h:gm.rd w A cs x):∃a,cs=[.int .i64 x.from_,.int .i64 x.ru,.int .i64 x.co,.int .i64 x.ax,.bool x.taken,a]/\bS bC w A a x.image:=h
structure Co where
 jL:Int
 ax:Int
 image:List Int
 offered:Int
deriving DecidableEq
def xR:lV Co where
 sz:=4
 rd w A cs x:=∃tq,cs=[.int .i64 x.jL,.int .i64 x.ax,tq,.int .i64 x.offered]/\bS bC w A tq x.image
 len:=by rintro w A cs x ⟨tq,rfl,h0⟩;rfl
 one:=by rintro w A cs x ⟨tq,rfl,h0⟩ u hu;simp only[bp,cO,or_false]at hu;rcases hu with rfl|rfl|rfl|rfl<;>first|rfl|exact h0.one
 pos:=by decide
 go:=by rintro w A cs x w2 A2 K ⟨tq,rfl,h0⟩ hk hK hA;exact⟨_,Z,h0.go hk hK hA⟩
theorem jC{w:al}{A:BS}{cs:Zi aj}{x:Co}(h:xR.rd w A cs x):∃a,cs=[.int .i64 x.jL,.int .i64 x.ax,a,.int .i64 x.offered]/\bS bC w A a x.image:=h
structure Rec where
 kind:Int
 co:Int
 ax:Int
 place:Int
 says:List Int
 image:List Int
deriving DecidableEq
def iU:lV Rec where
 sz:=6
 rd w A cs x:=∃vsays,∃tq,cs=[.int .i64 x.kind,.int .i64 x.co,.int .i64 x.ax,.int .i64 x.place,vsays,tq]/\bS bC w A vsays x.says/\bS bC w A tq x.image
 len:=by rintro w A cs x ⟨vsays,tq,rfl,h0,h1⟩;rfl
 one:=by rintro w A cs x ⟨vsays,tq,rfl,h0,h1⟩ u hu;simp only[bp,cO,or_false]at hu;rcases hu with rfl|rfl|rfl|rfl|rfl|rfl<;>first|rfl|exact h0.one|exact h1.one
 pos:=by decide
 go:=by rintro w A cs x w2 A2 K ⟨vsays,tq,rfl,h0,h1⟩ hk hK hA;exact⟨_,_,Z,h0.go hk hK hA,h1.go hk hK hA⟩
theorem iM{w:al}{A:BS}{cs:Zi aj}{x:Rec}(h:iU.rd w A cs x):∃a,∃b,cs=[.int .i64 x.kind,.int .i64 x.co,.int .i64 x.ax,.int .i64 x.place,a,b]/\bS bC w A a x.says/\bS bC w A b x.image:=h
theorem fB.mapR{α:Type}{R R':lV α}{w:al}{B A:BS}{v:aj}{l:Zi α}(hs:R.sz=R'.sz)(h:∀cs x,x∈l->R.rd w A cs x->R'.rd w A cs x)(g:fB R w B A v l):fB R' w B A v l:=by
 obtain⟨a,cap,rfl,j,p,c,n⟩:=g;refine⟨a,cap,Z,j,p,c,fun i hi=>?_⟩;obtain⟨b,o,cells,E,e,m,d,f,k⟩:=n i hi;refine⟨b,o,cells,E,e,m,d,f,?_⟩;rw[<-hs];exact h _ _ (List.getElem_mem hi) k
structure cZ where
 kind:Int
 n:Int
 e:List Tok
 f:List Tok
 a:List cZ
 b:List cZ
def yJ:Nat->{R:lV cZ // R.sz=6}
 |0=>⟨{sz:=6,rd:=fun _ _ _ _=>False,len:=fun h=>h.elim,one:=fun h=>h.elim,pos:=by decide,go:=fun h=>h.elim},rfl⟩
 |d+1=>⟨{
  sz:=6
  rd:=fun w A cs x=>∃c j g i,cs=[.int .i64 x.kind,.int .i64 x.n,c,j,g,i]/\bS uO w A c x.e/\bS uO w A j x.f/\bS (yJ d).1 w A g x.a/\bS (yJ d).1 w A i x.b
  len:=by rintro w A cs x ⟨c,j,g,i,rfl,_⟩;rfl
  one:=by rintro w A cs x ⟨c,j,g,i,rfl,o,q,m,p⟩ u r;simp only[bp,cO,or_false]at r;rcases r with rfl|rfl|rfl|rfl|rfl|rfl<;>first|rfl|exact o.one|exact q.one|exact m.one|exact p.one
  pos:=by decide
  go:=by rintro w A cs x s t K ⟨c,j,g,i,rfl,o,q,m,p⟩ k l hA;exact⟨_,_,_,_,Z,o.go k l hA,q.go k l hA,m.go k l hA,p.go k l hA⟩},Z⟩
theorem PW:∀(d:Nat) {w:al} {A:BS} {cs:Zi aj} {x:cZ},(yJ d).1.rd w A cs x->(yJ (d+1)).1.rd w A cs x
 |0,_,_,_,_,h=>h.elim
 |d+1,_,_,_,_,h=>by
  obtain⟨f,j,c,e,rfl,b,g,a,i⟩:=h;exact⟨f,j,c,e,Z,b,g,a.mapR ((yJ d).2.trans (yJ<|d+1).2.symm) fun _ _ _ h=>PW d h,i.mapR ((yJ d).2.trans (yJ<|d+1).2.symm) fun _ _ _ h=>PW d h⟩
theorem rStmtN_le{d d':Nat}(a:d<=d'){w:al}{A:BS}{cs:Zi aj}{x:cZ}(h:(yJ d).1.rd w A cs x):(yJ d').1.rd w A cs x:=by
 induction a with
 |refl=>exact h
 |step _ ih=>exact PW _ ih
def jO:lV cZ where
 sz:=6
 rd w A cs x:=∃d,(yJ d).1.rd w A cs x
 len:=by rintro w A cs x ⟨d,h⟩;exact((yJ d).1.len h).trans (yJ d).2
 one:=by rintro w A cs x ⟨d,h⟩;exact(yJ d).1.one h
 pos:=by decide
 go:=by rintro w A cs x w2 A2 K ⟨d,h⟩ hk hK hA;exact⟨d,(yJ d).1.go h hk hK hA⟩
theorem max_of{P:Nat->Nat->Prop}(a:∀d d' i,d<=d'->P d i->P d' i):∀n,(∀i,i<n->∃d,P d i)->∃d,∀i,i<n->P d i
  |0,_=>⟨0,fun i hi=>Zs hi (ia _)⟩
  |n+1,h=>by
    obtain⟨d,c⟩:=max_of a n fun i hi=>h i V;obtain⟨d',b⟩:=h n V;refine⟨max d d',fun i hi=>?_⟩;by_cases e:i=n
    · subst e;exact a _ _ _ (yW _ _) b
    · exact a _ _ _ (AD _ _)<|c i V
theorem rStmt_deep{w:al}{A:BS}{v:aj}{l:Zi cZ}(h:bS jO w A v l):∃d,∀d',d<=d'->bS (yJ d').1 w A v l:=by
 obtain⟨a,cap,rfl,p,q,n,r⟩:=h;have s:=max_of (P:=fun d i=>∀h:i<l.length,∃b o cells E c,a=ah ⟨b,o,aE⟩/\¬A b/\w.heap[b]? =ah (.cells cells E c)/\(yJ d).1.rd w A ((cells.toList.drop<|o+i*6).take 6) l[i])
  (fun d d' i k hp h=>let ⟨b,o,cells,E,c,j,e,g,f⟩:=hp h;⟨b,o,cells,E,c,j,e,g,rStmtN_le k f⟩) l.length
  (fun i hi=>by obtain⟨b,o,cells,E,c,j,e,g,d,f⟩:=r i hi;exact⟨d,fun _=>⟨b,o,cells,E,c,j,e,g,f⟩⟩)
 obtain⟨d,k⟩:=s;refine⟨d,fun d' m=>⟨a,cap,Z,p,q,n,fun i hi=>?_⟩⟩;obtain⟨b,o,cells,E,c,j,e,g,f⟩:=k i hi hi;exact⟨b,o,cells,E,c,j,e,g,by rw[(yJ d').2];exact rStmtN_le m f⟩
theorem Ov{w:al}{A:BS}{cs:Zi aj}{x:cZ}(h:jO.rd w A cs x):∃i j c g,cs=[.int .i64 x.kind,.int .i64 x.n,i,j,c,g]/\bS uO w A i x.e/\bS uO w A j x.f/\bS jO w A c x.a/\bS jO w A g x.b:=by
 obtain⟨d,h⟩:=h;cases d with
 |zero=>exact h.elim
 |succ d=>
  obtain⟨i,j,c,g,rfl,l,m,k,o⟩:=h;exact⟨i,j,c,g,Z,l,m,k.mapR (yJ d).2 fun _ _ _ h=>⟨d,h⟩,o.mapR (yJ d).2 fun _ _ _ h=>⟨d,h⟩⟩
theorem rStmt_mk{w:al}{A:BS}{cs:Zi aj}{x:cZ}(h:∃i j c g,cs=[.int .i64 x.kind,.int .i64 x.n,i,j,c,g]/\bS uO w A i x.e/\bS uO w A j x.f/\bS jO w A c x.a/\bS jO w A g x.b):jO.rd w A cs x:=by
 obtain⟨i,j,c,g,rfl,o,p,l,q⟩:=h;obtain⟨d,m⟩:=rStmt_deep l;obtain⟨d',k⟩:=rStmt_deep q;exact⟨max d d'+1,i,j,c,g,Z,o,p,m _<|AD _ _,k _<|yW _ _⟩
structure j5 where
 params:Int
 locals:Int
 body:List cZ
def pK:lV j5 where
 sz:=3
 rd w A cs x:=∃vbody,cs=[.int .i64 x.params,.int .i64 x.locals,vbody]/\bS jO w A vbody x.body
 len:=by rintro w A cs x ⟨vbody,rfl,h0⟩;rfl
 one:=by rintro w A cs x ⟨vbody,rfl,h0⟩ u hu;simp only[bp,cO,or_false]at hu;rcases hu with rfl|rfl|rfl<;>first|rfl|exact h0.one
 pos:=by decide
 go:=by rintro w A cs x w2 A2 K ⟨vbody,rfl,h0⟩ hk hK hA;exact⟨_,Z,h0.go hk hK hA⟩
theorem Ec{w:al}{A:BS}{cs:Zi aj}{x:j5}(h:pK.rd w A cs x):∃a,cs=[.int .i64 x.params,.int .i64 x.locals,a]/\bS jO w A a x.body:=h
section
variable{α β σ ρ:Type}
theorem nX{l:Zi α}{i:Nat}:idx l (i:Int)=l[i]? :=by simp[idx]
theorem DL{l:Zi α}{i:Nat}(h:i<l.length):idx l (i:Int)=ah l[i]:=by rw[nX,bh h]
theorem jV{p:Prop} [Decidable p]{x:Yw β}(h:p):fI p x=x:=Z2 h
theorem Ow{b:Nat}{a:Zi α}(h:a.length*b<=140737488355328)(c:a.length<=9223372036854775807):clone b a=ah a:=by
 unfold clone;exact jV<|Room.mk (by simpa using h) (by simpa using c)
theorem sub_s{l:Zi α}{a b:Nat}(h:a<=b)(c:b<=l.length):sub? l (a:Int) (b:Int)=ah ((l.take b).drop a):=by
 unfold sub? cut;rw[Z2 ⟨by omega,by omega,by omega⟩];simp
theorem del_s{l:Zi α}{a b:Nat}(h:a<b)(c:b<=l.length):del1 l (a:Int) (b:Int)=ah (l.take a++l.drop b):=by
 unfold del1;rw[Z2 ⟨by omega,by omega,by omega⟩];simp
def all2(p:α->β->Ys):Zi α->Zi β->Ys
 |[],[]=>ba
 |x::xs,y::ys=>p x y&&all2 p xs ys
 |_,_=>ar
theorem JA [DecidableEq α]{p:α->α->Ys}(hp:∀x y,p x y=ab (x=y)):∀(a b:Zi α),all2 p a b=ab (a=b)
 |[],[]=>by simp[all2]
 |[],_::_=>by simp[all2]
 |_::_,[]=>by simp[all2]
 |x::xs,y::ys=>by simp[all2,hp,JA hp xs ys]
theorem MM{body:Int->Unit->(Unit->Yw Ys)->Yw Ys}{c:Unit->Yw Ys}(p:α->β->Ys)(a:Zi α)(b:Zi β)(hl:a.length=b.length)(g:c ()=ah ba)
  (j:∀(i:Nat) x y nx,a[i]? =ah x->b[i]? =ah y->body (i:Int) () nx=bif p x y then nx ()else ah ar):upto body c 0 a.length ()=ah (all2 p a b):=by
 have d:∀(m i:Nat),i+m=a.length->upto body c (i:Int) m ()=ah (all2 p (a.drop i)<|b.drop i):=by
  intro m;induction m with
  |zero=>
   intro i h;rw[cr V,cr V];exact g
  |succ m ih=>
   intro i h;have e:i<a.length:=by omega
   have f:i<b.length:=by omega
   rw[cF e,cF f];show body (i:Int) () (upto body c ((i:Int)+1) m)=_;rw[j i a[i] b[i] _ (bh e) (bh f)];cases hp:p a[i] b[i]with
   |true=>simp only[ZS,all2,hp,iv];exact ih (i+1) V
   |false=>simp[all2,hp]
 simpa using d a.length 0 V
theorem TK{body:Int->α->Unit->(Unit->Yw Ys)->Yw Ys}{c:Unit->Yw Ys}(p:α->β->Ys)(a:Zi α)(b:Zi β)(hl:a.length=b.length)(f:c ()=ah ba)
  (g:∀(i:Nat) x y nx,b[i]? =ah y->body (i:Int) x () nx=bif p x y then nx ()else ah ar):fG body c 0 a ()=ah (all2 p a b):=by
 have d:∀(l:Zi α) (i:Nat),i+l.length=b.length->fG body c (i:Int) l ()=ah (all2 p l<|b.drop i):=by
  intro l;induction l with
  |nil=>
   intro i h;rw[cr (by simp at h;omega)];exact f
  |cons x l ih=>
   intro i h;simp only[bl]at h;have e:i<b.length:=by omega
   rw[cF e];show body (i:Int) x () (fG body c ((i:Int)+1) l)=_;rw[g i x b[i] _ (bh e)];cases hp:p x b[i]with
   |true=>simp only[ZS,all2,hp,iv];exact ih (i+1) V
   |false=>simp[all2,hp]
 simpa using d a 0 V
theorem upto_find{body:Int->Unit->(Unit->ρ)->ρ}{a:Unit->ρ}(p:α->Ys)(F:Int->ρ)(l:Zi α)(c:∀(i:Nat) x nx,l[i]? =ah x->body (i:Int) () nx=bif p x then F i else nx ()):
  upto body a 0 l.length ()=match l.findIdx? p with|some n=>F (n:Int)|none=>a ():=by
 have b:∀(m i:Nat),i+m=l.length->upto body a (i:Int) m ()=match (l.drop i).findIdx? p with|some n=>F ((i+n:Nat):Int)|none=>a ():=by
  intro m;induction m with
  |zero=>intro i h;rw[cr V];rfl
  |succ m ih=>
   intro i h;have hi:i<l.length:=by omega
   rw[cF hi,List.findIdx?_cons];show body (i:Int) () (upto body a ((i:Int)+1) m)=_;rw[c i l[i] _ (bh hi)];cases hp:p l[i]with
   |true=>rfl
   |false=>
    simp only[Z1,de,if_false];have:=ih (i+1) V;rw[show((i+1:Nat):Int)=(i:Int)+1 from rfl]at this;rw[this];cases (l.drop (i+1)).findIdx? p with
    |none=>rfl
    |some n=>simp only[fm];congr 1;omega
 have:=b l.length 0 V;simp only[hJ,hY]at this;exact this
theorem del_s1{l:Zi α}{a:Nat}(h:a<l.length):del1 l (a:Int) ((a:Int)+1)=ah (l.take a++l.drop (a+1)):=by
 have:=del_s (l:=l) (a:=a) (b:=a+1) V V;exact this
theorem dT{p:Prop} [Decidable p](h:p):decide p=true:=decide_eq_true h
theorem dF{p:Prop} [Decidable p](h:¬p):decide p=false:=decide_eq_false h
theorem gI{x:Int}{y:Yw β}(b: -9223372036854775808<=x:=by omega)(a:x<=9223372036854775807:=by omega):fI (iZ x) y=y:=jV (iZ.mk b a)
end
open Go.RowKit
def gN:lV UInt8 where
 sz:=1
 rd _ _ cs x:=cs=[.int .u8 (x.toNat:Int)]
 len:=by rintro w A cs x rfl;rfl
 one:=by rintro w A cs x rfl u hu;simp at hu;subst hu;rfl
 pos:=by decide
 go:=fun h _ _ _=>h
def IsErr(v:aj)(b:Ys):Prop:=(b=ar/\v=.nilIface)\/(b=ba/\∃t p,v=.iface t p)
structure IfaceT(P:br)(T:aw):Prop where
 desc:P.underlying T=ah (.interface (P.methodsAt T))
def MN{α:Type}(a:Nat)(k:Int):Yw (Zi α):=fI (0<=k/\k*a<=140737488355328) (ah [])
section
variable{P:br}{ops:Array du}{Q:fR->Act->al->Prop}{n:Nat}{env:Nat->aj}{w w' w0:al}{M K:BS}{hp:Nat->Chunk}{rest:Zi du}
 {d:Yw Nat} {op:Op} {ty:aw} {pos:String} {af:Array ix} {v:aj} {g:Yw (Nat×Ys)} {T:aw} {ρ:bj->aj} {x y:bj}
theorem TL{a b:Str}{T2:aw}(e:ρ x=bu a)(c:ρ y=bu b):(bc ρ ⟨d,.binOp .eql T x y T2,ty,pos,af,g⟩).run P w=.ok (.value (.bool (ab (a=b)))) w:=by
 simp[bc,nF,e,c,bu,Op.stringOp,ga];rw[dm];simp
theorem PX{a b:Str}{T2:aw}(e:ρ x=bu a)(c:ρ y=bu b):(bc ρ ⟨d,.binOp .neq T x y T2,ty,pos,af,g⟩).run P w=.ok (.value (.bool (ab (a≠b)))) w:=by
 simp[bc,nF,e,c,bu,Op.stringOp,ga];rw[dm];simp
theorem Ke{a b:Str}{T2:aw}(i:ρ x=bu a)(f:ρ y=bu b)(h:a.length+b.length<=9223372036854775807):(bc ρ ⟨d,.binOp .add T x y T2,ty,pos,af,g⟩).run P w=.ok (.value (bu (a++b))) w:=by
 have c:=run_string_add_sum (P:=P) (w:=w) ⟨a.toArray⟩ ⟨b.toArray⟩ (by simpa[oi]using h);have e:(⟨a.toArray⟩++⟨b.toArray⟩:ByteArray)=⟨(a++b).toArray⟩:=by
  apply vq;simp
 rw[e]at c;simp[bc,nF,i,f,bu,ga,c]
theorem r_neqnilI{b:Ys}{T2:aw}(a:IfaceT P T)(e:ρ x=v)(f:IsErr v b)(c:ρ (.const .nilIface)=.nilIface):(bc ρ ⟨d,.binOp .neq T x (.const .nilIface) T2,ty,pos,af,g⟩).run P w=.ok (.value (.bool b)) w:=by
  rcases f with⟨rfl,rfl⟩|⟨rfl,t,p,rfl⟩
  · simp[bc,nF,e,c,ga,run_equal_nil_nil w T a.desc]
  · simp[bc,nF,e,c,ga,Bm w T t p a.desc]
theorem r_eqlnilI{b:Ys}{T2:aw}(a:IfaceT P T)(e:ρ x=v)(f:IsErr v b)(c:ρ (.const .nilIface)=.nilIface):(bc ρ ⟨d,.binOp .eql T x (.const .nilIface) T2,ty,pos,af,g⟩).run P w=.ok (.value (.bool !b)) w:=by
  rcases f with⟨rfl,rfl⟩|⟨rfl,t,p,rfl⟩
  · simp[bc,nF,e,c,ga,run_equal_nil_nil w T a.desc]
  · simp[bc,nF,e,c,ga,Bm w T t p a.desc]
theorem w_makeSl{α:Type}{R:lV α}{E:aw}{c:Nat}{k:Int}{z:aj}{a:α}(h:SH w0 M K w hp)(i:Nat)(r:lH P T E 1 c)(t:One P E z)(hs:R.sz=1)(l:0<c)(G:ev n env x=.int .i64 k)(hy:ev n env y=.int .i64 k)
    (I:0<=k/\k*c<=140737488355328) (ha:∀w A,R.rd w A [z] a)
    (X:∀w' u,SH w0 M K w' (bH hp i (.own R E u (cP k.toNat a)))->WL P ops Q rest n (gz env d u) w'):
    WL P ops Q (⟨d,.makeSlice T x y,ty,pos,af,aE⟩::rest) n env w:=by
  obtain⟨h0,S⟩:=I;obtain⟨m,rfl⟩:=cC h0;obtain⟨j,z',hi,B,o,g,a0⟩:=r.info;have e:=t.info;rw[hi]at e;simp only[fm,fl,ky]at e;have L:m<=m*c:=ot _ l;have N:m*c<=140737488355328:=by
    have:((m*c:Nat):Int)<=140737488355328:=by rw[An];exact S
    omega
  obtain⟨w',C,ho,O⟩:=run_make_full (P:=P) w 0 T E j z 1 r.desc hi e.1 o .i64 .i64 m (by rw[g,mf];omega) (by unfold mX;omega) (gd _);have p:Grow w w':=(Dp (v:=.slice aE 0 0) O).weaken fun _ h _=>h.elim;have f:(bc (ev n env) ⟨d,.makeSlice T x y,ty,pos,af,aE⟩).run P w=.ok (.value<|.slice (ah ⟨w.heap.size,0,aE⟩) m m) w':=by
    simp only[bc,cq,cV,bn,G,hy,C]
  refine aA f<|X w' _<|h.xS i p ⟨(madeCells z.cells<|m*1).toList,?_,?_⟩ ?_
  · rw[hs,pn];exact ho
  · intro q s;simp only[pn]at s;have F:q<m:=s;rw[hs,t.cell,toList_madeCells_one];have:(pD (q*1)<|cP (m*1) z).take 1=[z]:=by
      rw[List.drop_replicate,List.take_replicate,show min 1 (m*1-q*1)=1 by omega];rfl
    rw[this];simp only[List.getElem_replicate];exact ha _ _
  · intro b l;have:b=w.heap.size:=l;omega
theorem run_appS{E u:aw}{A:BS}{l s:Str}(o:lH P T E 1 1)(S:One P E (.int .u8 0))(B:P.underlying u=ah .string)(R:ρ x=v)(X:cz gN E w A v l)(hy:ρ y=bu s)
    (p:(l.length+s.length)*1<=140737488355328) (hm:l.length+s.length<=9223372036854775807):
    ∃n w',(bc ρ ⟨d,.call {callee:=.builtin .append,args:= #[x,y],argTypes:= #[T,u]},ty,pos,af,g⟩).run P w=.ok (.value n) w'/\cz gN E w' A n (l++s)/\bz (ob v) w w'/\(∀b,ob n b->b<w.heap.size->ob v b):=by
  obtain⟨xs,ho,O⟩:=X;obtain⟨i,z',hi,N,k,f,a0⟩:=o.info;have c:=S.info;rw[hi]at c;simp only[fm,fl,ky]at c;have e:(sX s.toArray).size=s.length:=by simp[oi]
  obtain⟨n,w',m,h2,M,h4⟩:=Lib.run_append_own_string (P:=P) w 0 T u ty E i o.desc B hi c.1 k f v l.length xs ho ⟨s.toArray⟩ (by rw[e];unfold mX;omega) (by rw[e];omega) (gd _);have hk:=Dp M;have z:xs.length=l.length:=by simpa[gN]using ho.1
  have t:(bc ρ ⟨d,.call {callee:=.builtin .append,args:= #[x,y],argTypes:= #[T,u]},ty,pos,af,g⟩).run P w=.ok (.value n) w':=by
    simp only[bc,jt,lP,lz,cq,cV,bn,hF,ct,gC,R,hy];rw[show(jg #[T,u] ty #[v,bu s]).run P w=_ from m];rfl
  have I:tR ⟨s.toArray⟩=s.map fun b=>da .u8 (b.toNat:Int):=by simp[tR]
  refine⟨n,w',t,⟨xs++tR ⟨s.toArray⟩,?_,?_⟩,hk,?_⟩
  · rw[an,<-e];exact h2
  · intro q Q;show ki 1 (pD (q*1) _)=_;rw[pE,I];by_cases r:q<l.length
    · have:=O q r;have K:ki 1 (pD (q*1) xs)=[.int .u8 (l[q].toNat:Int)]:=this;rw[pE]at K;rw[hO V,cR (by rw[cp];omega),K,fg r]
    · rw[an]at Q;rw[gh V,lp,cr V,cf,z,cF (by simp;omega)];simp
  · intro b p hl;rcases ho.2 with⟨rfl,hn⟩|⟨gg,cap,cur,rfl,_,hgg,hc,hcm,hcs',htake⟩
    · by_cases C:s.length=0
      · have G:s=[]:=cd C;subst G;have:n=.slice aE 0 0:=h4.2 ⟨Z,e⟩;subst this;exact p
      · have a:=run_append_nil_string (P:=P) w T u ty E i (.int .u8 0) o.desc B hi c.1 ⟨s.toArray⟩ V V (by rw[f];omega);rw[a]at m;cases m;simp[ob]at p;omega
    · by_cases F:l.length+s.length<=cap
      · have L:cur.size=cap:=by simpa[gN]using hcs'
        have a:=Lib.run_append_room_string (P:=P) w T u ty E i o.desc B hi k gg l.length cap cur hgg ⟨s.toArray⟩ V V;rw[a]at m;cases m;exact p
      · have holds:∀j u,xs[j]? =ah u->w.cell? ((⟨gg,0,aE⟩:nh).add j)=ah u:=ho.cells (g:=gg) Z;have a:=Lib.run_append_grow_string (P:=P) w T u ty E i (.int .u8 0) o.desc B hi c.1 ⟨gg,0,aE⟩ l.length cap xs (by rw[k];simpa using z) holds ⟨s.toArray⟩ V V (by rw[f];exact growslice_fits V V);rw[a]at m;cases m;simp[ob]at p;omega
theorem r_b2s{E e:aw}{B A:BS}{l:Str}(hs:P.underlying T=ah (.slice E))(m:P.underlying E=ah (.int .u8))(i:P.underlying e=ah .string)(y:ρ x=v)(z:fB gN w B A v l):
    (bc ρ ⟨d,.convert T e x,ty,pos,af,g⟩).run P w=.ok (.value (bu l)) w:=by
  obtain⟨a,cap,rfl,L,N,G,q⟩:=z;have k:(convert T e<|.slice a l.length cap).run P w=.ok (bu l) w:=by
    cases l with
    |nil=>
      cases a with
      |none=>
        rw[run_convert_bytes_string w T e E aE _ _ hs m i];simp[Conv.bytesToString,bu];rfl
      |some a=>
        exact wD w T e E a cap [] hs m i fun j n=>Zs n<|ia _
    |cons c r=>
      obtain⟨b,o,cells,K,I,rfl,_,_,_⟩:=q 0 zq3;refine wD w T e E ⟨b,o,aE⟩ cap (c::r) hs m i fun j n=>?_;obtain⟨b',M,f,E2,u,C,_,s,t⟩:=q j n;cases C;have p:ki 1 (pD (o+j*1) f.toList)=[.int .u8 ((c::r)[j].toNat:Int)]:=t;rw[pE]at p;have F:f.toList[o+j]? =ah (.int .u8 ((c::r)[j].toNat:Int)):=by
        have:=ZD (·[0]?) p;simpa[bt,ck]using this
      rw[addr_add];simpa[eR,s]using F
  simp only[bc,cq,cV,y,k,bn]
theorem str_ex(s:Str)(a b:Nat):(sX s.toArray).extract a b=⟨((s.take b).drop a).toArray⟩:=by
 apply vq;simp[ByteArray.data_extract,et]
theorem oD(s:Str):(sX s.toArray).size=s.length:=by simp[oi]
def subs?(s:Str)(a b:Int):Yw Str:=fI (0<=a/\a<=b/\b<=s.length) (ah (cut s a b))
theorem r_sls{s:Str}{lo hi:Yw bj}{a b:Int}(f:P.underlying T=ah .string)(q:ρ x=bu s)(k:SQ (lo.map ρ) a 0)(i:SQ (hi.map ρ) b s.length)(n:0<=a)(l:a<=b)(r:b<=s.length):
    (bc ρ ⟨d,.slice T x lo hi aE,ty,pos,af,g⟩).run P w=.ok (.value (bu (cut s a b))) w:=by
  obtain⟨a,rfl⟩:=cC n;obtain⟨b,rfl⟩:=cC<|Int.le_trans n l;have m:a<=b:=by omega
  have p:b<=s.length:=by omega
  have o:cut s (a:Int) (b:Int)=(s.take b).drop a:=by simp[cut]
  have j:(lA T (bu s) (lo.map ρ) (hi.map ρ) aE).run P w=.ok (bu ((s.take b).drop a)) w:=by
    unfold bu;rcases k with⟨e1,e2⟩|e1<;>rcases i with⟨e3,e4⟩|e3
    · have c:a=0:=by omega
      have e:b=s.length:=by omega
      subst c e;rw[e1,e3,run_slice_string_all w T _ f,str_ex,oD]
    · have c:a=0:=by omega
      subst c;rw[e1,e3,run_slice_string_to_if w T _ _ _ f,Z2 ⟨by omega,by rw[oD];omega⟩,str_ex];simp
    · have e:b=s.length:=by omega
      subst e;rw[e1,e3,run_slice_string_from_if w T _ _ _ f,Z2 ⟨by omega,by rw[oD];omega⟩,str_ex,oD];simp
    · rw[e1,e3,run_slice_string w T _ _ _ _ _ f V V (by rw[oD];omega),str_ex];simp
  rw[o];simp only[bc,cq,cV,q,Option.map_none,run_sliceAt_string w T _ _ _ _ f,j,bn]
theorem r_slsE{s r:Str}{lo hi:Yw bj}{a b:Int}(l:r=cut s a b)(j:P.underlying T=ah .string)(i:ρ x=bu s)(e:SQ (lo.map ρ) a 0)(c:SQ (hi.map ρ) b s.length)(m:0<=a)(f:a<=b)(k:b<=s.length):
  (bc ρ ⟨d,.slice T x lo hi aE,ty,pos,af,g⟩).run P w=.ok (.value (bu r)) w:=by
 subst l;exact r_sls j i e c m f k
theorem o_subs{s r:Str}{a b:Int}(h:subs? s a b=ah r):0<=a/\a<=b/\b<=s.length/\r=cut s a b:=by
 obtain⟨c,d⟩:=bO h;exact⟨c.1,c.2.1,c.2.2,(cG d).symm⟩
theorem TM{α:Type}{R:lV α}{E c:aw}{sz a:Nat}{A:BS}{k:Nat}(j:lH P T E sz a)(hs:R.sz=sz)(p:P.underlying c=ah (.int .i64))(q:ev n env x=.slice aE 0 0)(B:ev n env y=.int .i64 (k:Nat))(t:0<k)(m:0<a)
    (v:k*a<=140737488355328)
    (h:∀w' gg cap,Grow w w'->w.heap.size<=gg->gg<w'.heap.size->k<=cap->cz R E w' A (.slice (ah ⟨gg,0,aE⟩) 0 cap) ([]:Zi α)->WL P ops Q rest n (gz env d (.slice (ah ⟨gg,0,aE⟩) k cap)) w'):
    WL P ops Q (⟨d,.call {callee:=.builtin .append,args:= #[x,y],argTypes:= #[T,c]},ty,pos,af,aE⟩::rest) n env w:=by
  obtain⟨i,z,hi,r,s,e,g⟩:=j.info;have l:=R.pos;have u:k<=k*a:=ot _ m;have o:=Lib.run_append_nil_zeros (P:=P) w T c ty E i z .i64 .i64 j.desc p hi r k t V V (by rw[e];omega);have b:(bc (ev n env) ⟨d,.call {callee:=.builtin .append,args:= #[x,y],argTypes:= #[T,c]},ty,pos,af,aE⟩).run P w=.ok (.value<|.slice (ah ⟨w.heap.size,0,aE⟩) k<|jj w k 0 E) (w.drew.alloc<|.cells (cy z.cells k++cy z.cells (jj w k 0 E-k)) E):=by
    simp only[bc,jt,lP,lz,cq,cV,bn,hF,ct,gC,q,B,o]
  have hge:=grownCap_ge w k 0 E;have f:jj w k 0 E<=maxLen:=Bi w k 0 E (by unfold mX;omega);refine aA b<|h _ _ _ ((Grow.drew w).trans<|Grow.alloc _ _) (cv _) ?_ hge ⟨[],⟨by simp,.inr ⟨w.heap.size,_,_,Z,gd _,heap_alloc_new w.drew _,gd _,f,?_,by simp⟩⟩,fun i h=>Zs h<|ia _⟩
  · show w.heap.size<(w.drew.alloc _).heap.size;rw[alloc_size];exact yz _
  · rw[Array.size_append,nV,nV,g,hs,<-bw];congr 1;omega
end
open Go.RowKit
structure pI(P:br)(g:Nat)(w:al):Prop where
 pow:pe P w "internal/strconv.uint64pow10" .u64 tS
 syn:∃t p,w.var? P "strconv.ErrSyntax" =ah #[.iface t p]
 ran:∃t p,w.var? P "strconv.ErrRange" =ah #[.iface t p]
 max:∃m,w.cell? ⟨g,0,aE⟩=ah (.int .i64 m)
 many:P.globals.size<=w.heap.size
 gmax:g<P.globals.size
 asc:∀q,P.globalNamed "strings.asciiSpace" =ah q->pe P w "strings.asciiSpace" .u8 Lib.asciiSpaceTab
theorem globalNamed_lt{P:br}{s:String}{i:Nat}(h:P.globalNamed s=ah i):i<P.globals.size:=by
  unfold Program.globalNamed at h;split at h
  · rename_i g a;cases h;have:i∈(List.range P.globals.size).filter fun g=>(P.globals[g]?).any (·.name==s):=by rw[a];simp
    exact List.mem_range.1 (List.mem_filter.1 this).1
  · cases h
theorem bz.var{P:br}{K:BS}{w w':al}{s:String}{cs:Array aj}(d:bz K w w')(a:∀b,K b->P.globals.size<=b)(h:w.var? P s=ah cs):w'.var? P s=ah cs:=by
 unfold World.var? at h⊢;cases hg:P.globalNamed s with
 |none=>simp[hg]at h
 |some g=>
  have hl:=globalNamed_lt hg;simp only[hg,fb]at h⊢;cases hb:w.heap[g]? with
  |none=>simp[hb]at h
  |some o=>rw[d.blk hb (fun c=>Zs (a _ c) V)];rw[hb]at h;exact h
theorem pI.VM{P:br}{g:Nat}{K:BS}{w w':al}(h:pI P g w)(a:bz K w w')(c:∀b,K b->P.globals.size<=b):pI P g w':=by
 obtain⟨i,⟨l,r,s⟩,⟨j,t,f⟩,⟨m,d⟩,p,k,n⟩:=h;refine⟨a.var c i,⟨l,r,a.var c s⟩,⟨j,t,a.var c f⟩,⟨m,?_⟩,dk p a.size,k,fun q e=>a.var c<|n q e⟩;unfold eR at d⊢;cases hb:w.heap[g]? with
 |none=>simp[hb]at d
 |some o=>rw[a.blk hb (fun e=>Zs (c _ e) V)];rw[hb]at d;exact d
theorem pI.go{P:br}{g:Nat}{w w':al}(h:pI P g w)(a:Grow w w'):pI P g w':=h.VM a (fun _ h=>h.elim)
theorem SH.DN{P:br}{g:Nat}{w0 w:al}{M K:BS}{hp:Nat->Chunk}{C:Chunk}(h:SH w0 M K w hp)(a:pI P g w0)(d:∀b,K b->P.globals.size<=b)(i:Nat)(hi:hp i=C):∀b,C.own' b->P.globals.size<=b:=by
  subst hi;intro b c;rcases cE b w0.heap.size with hl|hl
  · exact d b<|h.old i b c hl
  · exact dk a.many hl
theorem Grow.drewN(w:al)(k:Nat):Grow w (w.drewN k):=⟨rfl,rfl,rfl,cv _,fun _ _ _=>rfl⟩
theorem Grow.MN{w:al}{os:Array Obj}:Grow w (mu w os):=⟨rfl,rfl,rfl,by simp[mu],fun b _ a=>by simp[mu,sT a]⟩
def MO(n:Int):Yw Str:=fI (iZ n) (ah (fi n))
def LJ(s:Str):Yw (Int×Ys):=fI (s.length<=281474976710656) (ah (match ew s with| .ok v=>(v,ar)| .range=>(uN s,ba)|_=>(0,ba)))
def parseS(s:Str):Yw (Int×Ys):=fI (s.length<=281474976710656) (ah (match ke 64 s with| .ok v=>(v,ar)| .range=>(wE 64 s,ba)|_=>(0,ba)))
def joinS(l:Zi Str)(a:Str):Yw Str:=fI (l.length<=140737488355328/\(tc l a).length<=140737488355328) (ah (tc l a))
def PY(s a:Str):Yw (Zi Str):=fI (s.length<4294967281/\1<=a.length) (ah (y0 s a))
def Ie(s a:Str):Yw (Zi Str):=fI (s.length<4294967281/\1<=a.length) (ah (wT a a.length (tB s a) s))
def cutS(s a:Str):Yw (Str×Str×Ys):=fI (s.length<4294967281) (ah (rv s a))
def Ox(s p:Str):Yw Ys:=fI (s.length<=281474976710656) (ah (Lib.hasSuffix s p))
section
variable{P:br}{g:Nat}{w0:al}{f:hQ}{M:BS}
theorem itoa_w(b:∀n,-9223372036854775808<=n->n<=9223372036854775807->∀w,pe P w "internal/strconv.uint64pow10" .u64 tS->bk P f #[.int .i64 n] w fun e w'=>e=.returned (.string ⟨(fi n).toArray⟩)/\∃k os,w'=mu (w.drewN k) os)
  (c:pI P g w0) {a:Int} {r:Str} (hs:MO a=ah r):bk P f #[.int .i64 a] w0 (Yd w0 (bu r)):=by
 obtain⟨h,hs⟩:=bO hs;cases hs;refine(b a h.1 h.2 w0 c.pow).mono ?_;rintro e w'⟨rfl,k,os,rfl⟩;exact⟨(Grow.drewN w0 k).trans Grow.MN,Z⟩
theorem format_w(b:∀n,-9223372036854775808<=n->n<=9223372036854775807->∀w,pe P w "internal/strconv.uint64pow10" .u64 tS->bk P f #[.int .i64 n,.int .i64 10] w fun e w'=>e=.returned (.string ⟨(fi n).toArray⟩)/\∃k os,w'=mu (w.drewN k) os)
  (c:pI P g w0) {a:Int} {r:Str} (hs:MO a=ah r):bk P f #[.int .i64 a,.int .i64 10] w0 (Yd w0 (bu r)):=by
 obtain⟨h,hs⟩:=bO hs;cases hs;refine(b a h.1 h.2 w0 c.pow).mono ?_;rintro e w'⟨rfl,k,os,rfl⟩;exact⟨(Grow.drewN w0 k).trans Grow.MN,Z⟩
theorem bw_grow(w:al)(t:aw)(s:ByteArray):Grow w (ra w t s):=⟨rfl,rfl,rfl,by rw[Lib.bytesWorld_size];omega,fun b _ a=>Lib.bytesWorld_at_old w t _ b a⟩
theorem atoi_w{q a b:aw}{nm:ByteArray}(l:∀s:ByteArray,s.size<=9223372036854775806->∀v,ew s.data.toList=.ok v->∀w,bk P f #[.string s] w fun e w'=>e=.returned (.tuple #[.int .i64 v,.nilIface])/\(w'=w\/∃t,w'=ra w q t))
    (o:∀s:ByteArray,s.size<=281474976710656->∀e,ew s.data.toList=e->(∀v,e≠ .ok v)->e≠ .range->∀c p w,w.var? P "strconv.ErrSyntax" =ah #[.iface c p]->bk P f #[.string s] w fun e w'=>∃N,e=.returned (.tuple #[.int .i64 0,.iface a (.pointer (ah ⟨N,0,aE⟩))])/\w.heap.size<=N/\w'.heap[N]? =ah (.cells #[.string nm,.string s,.iface c p] b (0,0))/\Below w.heap.size w w')
    (k:∀s:ByteArray,s.size<=281474976710656->ew s.data.toList=.range->∀c p w,w.var? P "strconv.ErrRange" =ah #[.iface c p]->bk P f #[.string s] w fun e w'=>∃N,e=.returned (.tuple #[.int .i64 (uN s.data.toList),.iface a (.pointer (ah ⟨N,0,aE⟩))])/\w.heap.size<=N/\w'.heap[N]? =ah (.cells #[.string nm,.string s,.iface c p] b (0,0))/\Below w.heap.size w w')
    (j:pI P g w0) {s:Str} {r:Int×Ys} (hs:LJ s=ah r):bk P f #[bu s] w0 (fun e w'=>Grow w0 w'/\∃u,e=.returned (.tuple #[.int .i64 r.1,u])/\IsErr u r.2):=by
  obtain⟨h,hs⟩:=bO hs;have n:=oD s;cases hq:ew s with
  |ok v=>
    rw[hq]at hs;cases hs;refine(l ⟨s.toArray⟩ V v (by simpa using hq) w0).mono ?_;rintro e w'⟨rfl,m⟩;refine⟨?_,_,Z,.inl ⟨Z,Z⟩⟩;rcases m with rfl|⟨t,rfl⟩
    · exact bz.refl _ _
    · exact bw_grow _ _ _
  |range=>
    rw[hq]at hs;cases hs;obtain⟨t,p,i⟩:=j.ran;refine(k ⟨s.toArray⟩ V (by simpa using hq) t p w0 i).mono ?_;rintro e w'⟨N,rfl,_,_,d⟩;refine⟨Grow.of_below d,.iface a<|.pointer<|some ⟨N,0,aE⟩,by simp,.inr ⟨Z,_,_,Z⟩⟩
  |_=>
    rw[hq]at hs;cases hs;obtain⟨t,p,i⟩:=j.syn;refine(o ⟨s.toArray⟩ V _ (by simpa using hq) (fun v=>by simp) zq3 t p w0 i).mono ?_;rintro e w'⟨N,rfl,_,_,d⟩;exact⟨Grow.of_below d,_,Z,.inr ⟨Z,_,_,Z⟩⟩
theorem parse_w{q a b:aw}{nm:ByteArray}(l:∀s:ByteArray,s.size<=9223372036854775806->∀v,ke 64 s.data.toList=.ok v->∀w,bk P f #[.string s,.int .i64 10,.int .i64 64] w fun e w'=>e=.returned (.tuple #[.int .i64 v,.nilIface])/\(w'=w\/∃t,w'=ra w q t))
    (o:∀s:ByteArray,s.size<=281474976710656->∀e,ke 64 s.data.toList=e->(∀v,e≠ .ok v)->e≠ .range->∀c p w,w.var? P "strconv.ErrSyntax" =ah #[.iface c p]->bk P f #[.string s,.int .i64 10,.int .i64 64] w fun e w'=>∃N,e=.returned (.tuple #[.int .i64 0,.iface a (.pointer (ah ⟨N,0,aE⟩))])/\w.heap.size<=N/\w'.heap[N]? =ah (.cells #[.string nm,.string s,.iface c p] b (0,0))/\Below w.heap.size w w')
    (k:∀s:ByteArray,s.size<=281474976710656->ke 64 s.data.toList=.range->∀c p w,w.var? P "strconv.ErrRange" =ah #[.iface c p]->bk P f #[.string s,.int .i64 10,.int .i64 64] w fun e w'=>∃N,e=.returned (.tuple #[.int .i64 (wE 64 s.data.toList),.iface a (.pointer (ah ⟨N,0,aE⟩))])/\w.heap.size<=N/\w'.heap[N]? =ah (.cells #[.string nm,.string s,.iface c p] b (0,0))/\Below w.heap.size w w')
    (j:pI P g w0) {s:Str} {r:Int×Ys} (hs:parseS s=ah r):bk P f #[bu s,.int .i64 10,.int .i64 64] w0 (fun e w'=>Grow w0 w'/\∃u,e=.returned (.tuple #[.int .i64 r.1,u])/\IsErr u r.2):=by
  obtain⟨h,hs⟩:=bO hs;have n:=oD s;cases hq:ke 64 s with
  |ok v=>
    rw[hq]at hs;cases hs;refine(l ⟨s.toArray⟩ V v (by simpa using hq) w0).mono ?_;rintro e w'⟨rfl,m⟩;refine⟨?_,_,Z,.inl ⟨Z,Z⟩⟩;rcases m with rfl|⟨t,rfl⟩
    · exact bz.refl _ _
    · exact bw_grow _ _ _
  |range=>
    rw[hq]at hs;cases hs;obtain⟨t,p,i⟩:=j.ran;refine(k ⟨s.toArray⟩ V (by simpa using hq) t p w0 i).mono ?_;rintro e w'⟨N,rfl,_,_,d⟩;refine⟨Grow.of_below d,.iface a<|.pointer<|some ⟨N,0,aE⟩,by simp,.inr ⟨Z,_,_,Z⟩⟩
  |_=>
    rw[hq]at hs;cases hs;obtain⟨t,p,i⟩:=j.syn;refine(o ⟨s.toArray⟩ V _ (by simpa using hq) (fun v=>by simp) zq3 t p w0 i).mono ?_;rintro e w'⟨N,rfl,_,_,d⟩;exact⟨Grow.of_below d,_,Z,.inr ⟨Z,_,_,Z⟩⟩
theorem rdStr_at{A B:BS}{a:Yw nh}{n c:Nat}{l:Zi Str}(u:fB uG w0 B A (.slice a n c) l)(hl:0<l.length):∃g o,a=ah ⟨g,o,aE⟩/\g<w0.heap.size/\∀j x,l[j]? =ah x->w0.cell? ⟨g,o+j,aE⟩=ah (bu x):=by
  obtain⟨a',cap,f,z,F,w,m⟩:=u;cases f;obtain⟨b,o,cells,E,y,rfl,_,r,_⟩:=m 0 hl;refine⟨b,o,Z,iQ r,fun j x v=>?_⟩;obtain⟨i,e⟩:=List.getElem?_eq_some_iff.1 v;obtain⟨b',C,d,E2,t,f,_,p,s⟩:=m j i;cases f;have k:ki 1 (pD (o+j*1) d.toList)=[bu l[j]]:=s;rw[pE]at k;have q:d.toList[o+j]? =ah (bu l[j]):=by
    have:=ZD (·[0]?) k;simpa[bt,ck]using this
  rw[<-e];simpa[eR,p]using q
theorem join_w(t:∀(a:Yw nh) (c:Nat) (b:ByteArray) (w:al),bk P f #[.slice a 0 c,.string b] w fun e w'=>e=.returned (.string ⟨#[]⟩)/\w'=w)
    (n:∀(d o c:Nat) (xs:Zi ByteArray) (b:ByteArray) (w:al),(∀(j:Nat) x,xs[j]? =ah x->w.cell? ⟨d,o+j,aE⟩=ah (.string x))->d<w.heap.size->xs.length<=140737488355328->xs.length<=c->(tc (xs.map (·.data.toList)) b.data.toList).length<=140737488355328->
      bk P f #[.slice (ah ⟨d,o,aE⟩) xs.length c,.string b] w fun e w'=>e=.returned (.string ⟨(tc (xs.map (·.data.toList)) b.data.toList).toArray⟩)/\Below w.heap.size w w')
    {v:aj} {A B:BS} {l:Zi Str} {b r:Str} (m:fB uG w0 B A v l) (hs:joinS l b=ah r):bk P f #[v,bu b] w0 (Yd w0 (bu r)):=by
  obtain⟨h,hs⟩:=bO hs;cases hs;have i:=m;obtain⟨a,cap,rfl,k1,k2,z,C⟩:=m;cases l with
  |nil=>
    refine(t a cap _ w0).mono ?_;rintro e w'⟨rfl,rfl⟩;exact⟨bz.refl _ _,Z⟩
  |cons x l=>
    obtain⟨d,o,rfl,p,u⟩:=rdStr_at i zq3;have k:((x::l).map fun s=>(⟨s.toArray⟩:ByteArray)).map (·.data.toList)=x::l:=by simp[Function.comp_def]
    have:=n d o cap ((x::l).map fun s=>⟨s.toArray⟩) ⟨b.toArray⟩ w0 (fun j y g=>by
      rw[eo]at g;cases hq:(x::l)[j]? with
      |none=>rw[hq]at g;cases g
      |some s=>rw[hq]at g;cases g;exact u j s hq) p (by simpa using h.1) (by simpa using k1) (by rw[k];simpa using h.2)
    rw[k,eF]at this;refine this.mono ?_;rintro e w'⟨rfl,q⟩;exact⟨Grow.of_below q,by simp[bu]⟩
theorem strs_rd{E:aw}{l:Zi ByteArray}{A:BS}{cells:Array aj}{cap:Nat}(w:al)(hA:∀b,A b->b<w.heap.size)(c:l.length<=cap)(g:cap<=mX)(a:∀j (h:j<l.length),cells[j]? =ah (.string l[j])):bS uG (w.alloc (.cells cells E)) A (.slice (ah ⟨w.heap.size,0,aE⟩) l.length cap) (l.map (·.data.toList)):=by
  refine⟨ah ⟨w.heap.size,0,aE⟩,cap,by simp,by simpa using c,g,(fun h=>by cases h),fun j i=>⟨w.heap.size,0,cells,E,(0,0),Z,?_,Ry w _,?_⟩⟩
  · intro k;exact Nat.lt_irrefl _ (hA _ k)
  · have f:j<l.length:=by simpa using i
    show ki 1 (pD (0+j*1) cells.toList)=_;have e:=a j f;have d:j<cells.toList.length:=by
      rw[cm];rcases cE j cells.size with q|q
      · exact q
      · rw[og q]at e;cases e
    rw[hY,pE,cF d];have:cells.toList[j]=.string l[j]:=by
      have:=e;rw[<-ie,bh d]at this;exact cG this
    rw[this];simp[bu]
theorem split_w{E:aw}(k:∀(s a:ByteArray) (m:Int) (w:al),s.size<4294967281->w.cell? ⟨g,0,aE⟩=ah (.int .i64 m)->1<=a.size->
  bk P f #[.string s,.string a] w fun e w'=>e=.returned (.slice (ah ⟨w.heap.size,0,aE⟩) (dZ s a+1) (dZ s a+1))/\w'=w.alloc (.cells ((kp a 0 (dZ s a) s).map oy).toArray E))
  (o:∀b,M b->b<w0.heap.size) (i:pI P g w0) {s a:Str} {r:Zi Str} (hs:PY s a=ah r):bk P f #[bu s,bu a] w0 (fun e w'=>Grow w0 w'/\∃u,e=.returned u/\bS uG w' M u r):=by
 obtain⟨h,hs⟩:=bO hs;cases hs;obtain⟨m,n⟩:=i.max;refine(k ⟨s.toArray⟩ ⟨a.toArray⟩ m w0 (by rw[oD];exact h.1) n (by rw[oD];exact h.2)).mono ?_;rintro e w'⟨rfl,rfl⟩;refine⟨Grow.alloc _ _,_,Z,?_⟩;have c:=Bq ⟨a.toArray⟩ (by rw[oD];exact h.2) 0 _ ⟨s.toArray⟩ Z;have t:=AE ⟨a.toArray⟩ 0 (dZ ⟨s.toArray⟩ ⟨a.toArray⟩) ⟨s.toArray⟩;have d:dZ ⟨s.toArray⟩ ⟨a.toArray⟩=tB s a:=by simp[dZ]
 have q:=Lib.countB_le ⟨a.toArray⟩ (by rw[oD];exact h.2) _ ⟨s.toArray⟩ (cv _);rw[oD]at q;have:=strs_rd (E:=E) (l:=kp ⟨a.toArray⟩ 0 (dZ ⟨s.toArray⟩ ⟨a.toArray⟩) ⟨s.toArray⟩) (cap:=dZ ⟨s.toArray⟩ ⟨a.toArray⟩+1) (cells:=((kp ⟨a.toArray⟩ 0 (dZ ⟨s.toArray⟩ ⟨a.toArray⟩) ⟨s.toArray⟩).map oy).toArray) w0 o (by rw[c];exact cv _) (by unfold mX;omega) (fun j p=>by simp[p]);rw[c,t]at this;simpa[y0,d]using this
theorem genSplit_w{E:aw}(o:∀(s a:ByteArray) (c:Nat) (n:Int) (N:Nat) (m:Int) (w:al),s.size<4294967281->w.cell? ⟨g,0,aE⟩=ah (.int .i64 m)->1<=a.size->c<=a.size->n≠0->n<=9223372036854775807->(N:Int)=min (if n<0 then(dZ s a:Int)+1 else n) ((s.size:Int)+1)->
  bk P f #[.string s,.string a,.int .i64 c,.int .i64 n] w fun e w'=>e=.returned (.slice (ah ⟨w.heap.size,0,aE⟩) (kp a c (N-1) s).length N)/\w'=w.alloc (.cells (vd (kp a c (N-1) s) N) E))
  (t:∀b,M b->b<w0.heap.size) (k:pI P g w0) {s a:Str} {r:Zi Str} (hs:Ie s a=ah r):bk P f #[bu s,bu a,.int .i64 (a.length:Int),.int .i64 (-1)] w0 (fun e w'=>Grow w0 w'/\∃u,e=.returned u/\bS uG w' M u r):=by
 obtain⟨h,hs⟩:=bO hs;cases hs;obtain⟨m,q⟩:=k.max;have i:dZ ⟨s.toArray⟩ ⟨a.toArray⟩=tB s a:=by simp[dZ]
 have v:=Lib.countB_le ⟨a.toArray⟩ (by rw[oD];exact h.2) _ ⟨s.toArray⟩ (cv _);rw[oD]at v;refine(o ⟨s.toArray⟩ ⟨a.toArray⟩ a.length (-1) (dZ ⟨s.toArray⟩ ⟨a.toArray⟩+1) m w0 (by rw[oD];exact h.1) q (by rw[oD];exact h.2) (by rw[oD];exact cv _) zq1 zq1 (by rw[Z2 zq1,oD];omega)).mono ?_;rintro e w'⟨rfl,rfl⟩;refine⟨Grow.alloc _ _,_,Z,?_⟩;rw[Nat.add_sub_cancel];have p:=Bq ⟨a.toArray⟩ (by rw[oD];exact h.2) a.length _ ⟨s.toArray⟩ Z;have x:=AE ⟨a.toArray⟩ a.length (dZ ⟨s.toArray⟩ ⟨a.toArray⟩) ⟨s.toArray⟩;have:=strs_rd (E:=E) (l:=kp ⟨a.toArray⟩ a.length (dZ ⟨s.toArray⟩ ⟨a.toArray⟩) ⟨s.toArray⟩) (cap:=dZ ⟨s.toArray⟩ ⟨a.toArray⟩+1) (cells:=vd (kp ⟨a.toArray⟩ a.length (dZ ⟨s.toArray⟩ ⟨a.toArray⟩) ⟨s.toArray⟩) (dZ ⟨s.toArray⟩ ⟨a.toArray⟩+1)) w0 t (by rw[p];exact cv _) (by unfold mX;omega) (fun j d=>by unfold vd;rw[List.getElem?_toArray,List.getElem?_append_left (by simpa using d)];simp[d]);rw[x]at this;simpa[i]using this
theorem hasSuf_w(a:∀(s p:ByteArray) (w:al),s.size<=9223372036854775807->bk P f #[.string s,.string p] w fun e w'=>e=.returned (.bool (Lib.hasSuffix s.data.toList p.data.toList))/\w'=w)
  {s p:Str} {r:Ys} (hs:Ox s p=ah r):bk P f #[bu s,bu p] w0 (Yd w0 (.bool r)):=by
 obtain⟨h,hs⟩:=bO hs;cases hs;refine(a ⟨s.toArray⟩ ⟨p.toArray⟩ w0 (by rw[oD];omega)).mono ?_;rintro e w'⟨rfl,rfl⟩;exact⟨bz.refl _ _,by simp⟩
theorem cut_w(b:∀(s a:ByteArray) (m:Int) (w:al),s.size<4294967281->w.cell? ⟨g,0,aE⟩=ah (.int .i64 m)->bk P f #[.string s,.string a] w fun e w'=>e=.returned (.tuple #[.string ⟨(rv s.data.toList a.data.toList).1.toArray⟩,.string ⟨(rv s.data.toList a.data.toList).2.1.toArray⟩,.bool (rv s.data.toList a.data.toList).2.2])/\∃n,w'=w.drewN n)
  (d:pI P g w0) {s a:Str} {r:Str×Str×Ys} (hs:cutS s a=ah r):bk P f #[bu s,bu a] w0 (Yd w0 (.tuple #[bu r.1,bu r.2.1,.bool r.2.2])):=by
 obtain⟨h,hs⟩:=bO hs;cases hs;obtain⟨m,c⟩:=d.max;refine(b ⟨s.toArray⟩ ⟨a.toArray⟩ m w0 (by rw[oD];exact h) c).mono ?_;rintro e w'⟨rfl,n,rfl⟩;exact⟨Grow.drewN _ _,by simp[bu]⟩
end
open Go.RowKit
section
variable{P:br}{ops:Array du}{Q:fR->Act->al->Prop}{n:Nat}{env:Nat->aj}{w w' w0:al}{M K:BS}{hp:Nat->Chunk}{rest:Zi du}
 {d:Yw Nat} {op:Op} {ty:aw} {pos:String} {af:Array ix} {v:aj} {g:Yw (Nat×Ys)} {T:aw} {ρ:bj->aj} {x y:bj} {i fuel:Nat} {listed:Array Ys}
theorem SH.mi{c:Chunk}(h:SH w0 M K w hp)(i:Nat)(hi:hp i=c)(d:bz c.own' w w'):SH w0 M K w' (bH hp i .no):=
 h.step i d (fun b a _=>by rw[hi];exact a) (fun b a=>a.elim) U
theorem SH.ES{c e:Chunk}(h:SH w0 M K w hp)(i j:Nat)(a:i≠j)(hi:hp i=c)(f:hp j=e)(d:bz (fun b=>c.own' b\/e.own' b) w w'):SH w0 M K w' (bH (bH (bH hp j .no) i (.two (hp i) (hp j))) i .no):=by
 refine(h.pair i j a).mi i (c:=.two (hp i)<|hp j) (bN _ _ _) ?_;rw[hi,f];exact d
theorem mU{zs:Zi aj}(h:SH w0 M K w hp)(i:Nat)(a:yA P T zs)(k:∀w' b,SH w0 M K w' (bH hp i (.blk b zs))->Grow w w'->w.heap.size<=b->WL P ops Q rest n (gz env d (.pointer (ah ⟨b,0,aE⟩))) w'):WL P ops Q (⟨d,.alloc T,ty,pos,af,aE⟩::rest) n env w:=
 aA (r_allocN a) (k _ _ (h.newB i zs T) (Grow.alloc _ _) (cv _))
theorem gp{z:aj}{b o:Nat}{cs:Zi aj}(h:SH w0 M K w hp)(i:Nat)(a:Zi aj)(hi:hp i=.blk b cs)(c:One P T z)(f:ev n env x=.pointer (ah ⟨b,o,aE⟩))(l:ev n env y=v)(ho:cs.set o v=a)(hl:se o cs.length=ba)(j:v.oneCell'=ba)
  (k:∀w',SH w0 M K w' (bH hp i (.blk b a))->bz (fun x=>x=b) w w'->WL P ops Q rest n (gz env d gj) w'):
  WL P ops Q (⟨d,.store T x y,ty,pos,af,aE⟩::rest) n env w:=by
 obtain⟨E,e⟩:=h.oQ i hi;have:=h.putB i hi a E;subst ho;have m:=VB (d:=d) (ty:=ty) (pos:=pos) (af:=af) (g:=aE) c f e (by rw[oT]at hl;simpa using hl) l j;refine Dn m<|k _ ?_<|bz.zn _ _ _;simpa using this
theorem lW{zs vs:Zi aj}{b o:Nat}{cs:Zi aj}(h:SH w0 M K w hp)(i:Nat)(a:Zi aj)(hi:hp i=.blk b cs)(e:yA P T zs)(g:ev n env x=.pointer (ah ⟨b,o,aE⟩))(l:ev n env y=.agg vs.toArray)(hl:vs.length=zs.length)(ho:Oo cs o vs=a)(f:oj (o+vs.length) cs.length=ba)(j:∀v∈vs,v.oneCell'=ba)
  (k:∀w',SH w0 M K w' (bH hp i (.blk b a))->bz (fun x=>x=b) w w'->WL P ops Q rest n (gz env d gj) w'):
  WL P ops Q (⟨d,.store T x y,ty,pos,af,aE⟩::rest) n env w:=by
 obtain⟨E,c⟩:=h.oQ i hi;subst ho;exact Dn (VC e g c l hl (iz f) j)<|k _ (h.putB i hi _ E)<|bz.zn _ _ _
theorem mG{α:Type}{R:lV α}{E:aw}{sz c:Nat}{u:aj}{l m:Zi α}(h:SH w0 M K w hp)(i:Nat)(hi:hp i=.own R E v l)(q:fB R w BE (SH.A M hp) u m)(r:lH P T E sz c)(hs:R.sz=sz)(s:ev n env x=v)(t:ev n env y=u)
    (a:(l.length+m.length)*c<=140737488355328) (p:l.length+m.length<=9223372036854775807)
    (k:∀w' e,SH w0 M K w' (bH hp i (.own R E e (l++m)))->bz (ob v) w w'->(∀b,ob e b->b<w.heap.size->ob v b)->WL P ops Q rest n (gz env d e) w'):
    WL P ops Q (⟨d,.call {callee:=.builtin .append,args:= #[x,y],argTypes:= #[T,T]},ty,pos,af,aE⟩::rest) n env w:=by
  obtain⟨e,w',o,z,f,j⟩:=run_app (d:=d) (ty:=ty) (pos:=pos) (af:=af) (g:=aE) r hs s (h.aZ i hi) t q (fun b a=>.inr ⟨i,by rw[hi];exact a⟩) a p;refine aA o (k w' e (h.step i f (fun b a _=>by rw[hi];exact a) (fun b a hl=>by rw[hi];exact j b a hl) ?_) f j);refine cz.go z (bz.refl BE w') (fun _ h=>h.elim) (fun _ h=>h.elim) fun b a _=>?_;rcases a with a|a|a
  · exact .inl<|.inl a
  · exact .inl<|.inr<|nz a
  · exact .inr a
theorem w_appSN{E u:aw}{l s:Str}(h:SH w0 M K w hp)(i:Nat)(hi:hp i=.own gN E v l)(f:lH P T E 1 1)(o:One P E (.int .u8 0))(r:P.underlying u=ah .string)(m:ev n env x=v)(t:ev n env y=bu s)
  (j:(l.length+s.length)*1<=140737488355328) (q:l.length+s.length<=9223372036854775807)
  (k:∀w' a,SH w0 M K w' (bH hp i (.own gN E a (l++s)))->bz (ob v) w w'->(∀b,ob a b->b<w.heap.size->ob v b)->WL P ops Q rest n (gz env d a) w'):
  WL P ops Q (⟨d,.call {callee:=.builtin .append,args:= #[x,y],argTypes:= #[T,u]},ty,pos,af,aE⟩::rest) n env w:=by
 obtain⟨a,w',p,z,c,e⟩:=run_appS (d:=d) (ty:=ty) (pos:=pos) (af:=af) (g:=aE) f o r m (h.giveO i hi) t j q;exact aA p<|k w' a (h.given i hi z c e) c e
theorem kX{f:yr}{R:mv->al->Prop}{u a:Tmp}{T:aw}{v2:aj}{zs vs:Zi aj}{b:Nat}(j:f.results= #[.cell a T,.tmp u])(m:ev n env (.tmp a)=.pointer (ah ⟨b,0,aE⟩))(l:ev n env (.tmp u)=v2)
  (k:SH w0 M K w hp) (i:Nat) (hi:hp i=.blk b vs) (g:yA P T zs) (hl:vs.length=zs.length) (h:R (.returned (.tuple #[.agg vs.toArray,v2])) w):km P f R .ret (act n env) w:=by
 refine⟨Z,_,?_,h⟩;have c:=congrFun (iT n env)<|.tmp u;have d:=congrFun (iT n env)<|.tmp a;rw[l]at c;rw[m]at d;simp only[kd]at c d;rw[cM]at c d;have e:=ER (P:=P) k hi g hl Z;unfold results;rw[j];simp[c,d,asAddr,e]
theorem VN{g:yr}{R:mv->al->Prop}{t u a:Tmp}{T:aw}{v2 v3:aj}{zs vs:Zi aj}{b:Nat}(l:g.results= #[.cell a T,.tmp t,.tmp u])(p:ev n env (.tmp a)=.pointer (ah ⟨b,0,aE⟩))(j:ev n env (.tmp t)=v2)(o:ev n env (.tmp u)=v3)
  (m:SH w0 M K w hp) (i:Nat) (hi:hp i=.blk b vs) (k:yA P T zs) (hl:vs.length=zs.length) (h:R (.returned (.tuple #[.agg vs.toArray,v2,v3])) w):km P g R .ret (act n env) w:=by
 refine⟨Z,_,?_,h⟩;have e:=congrFun (iT n env)<|.tmp t;have c:=congrFun (iT n env)<|.tmp u;have d:=congrFun (iT n env)<|.tmp a;rw[j]at e;rw[o]at c;rw[p]at d;simp only[kd]at e c d;rw[cM]at e c d;have f:=ER (P:=P) m hi k hl Z;unfold results;rw[l];simp[e,c,d,asAddr,f]
theorem fin3{e:yr}{R:mv->al->Prop}{t u a:Tmp}{v1 v2 v3:aj}(j:e.results= #[.tmp t,.tmp u,.tmp a])(g:ev n env (.tmp t)=v1)(i:ev n env (.tmp u)=v2)(f:ev n env (.tmp a)=v3)(h:R (.returned (.tuple #[v1,v2,v3])) w):km P e R .ret (act n env) w:=by
 refine⟨Z,_,?_,h⟩;have d:=congrFun (iT n env)<|.tmp t;have b:=congrFun (iT n env)<|.tmp u;have c:=congrFun (iT n env)<|.tmp a;rw[g]at d;rw[i]at b;rw[f]at c;simp only[kd]at d b c;rw[cM]at d b c;unfold results;rw[j];simp[d,b,c]
theorem At.grow{b o:Nat}{cs:Zi aj}(h:At w b o cs)(d:Grow w w'):At w' b o cs:=by
 obtain⟨cells,E,a,c,e⟩:=h;exact⟨cells,E,a,d.blk c,e⟩
theorem Af{ws w:al}{v u:aj}(c:ws.heap.size<=w.heap.size)(d:∀b,ob v b->ws.heap.size<=b)(hn:∀b,ob u b->b<w.heap.size->ob v b):∀b,ob u b->ws.heap.size<=b:=
 fun b a=>yq fun hl=>Nat.not_lt_of_le (d b (hn b a (bE hl c))) hl
def EffOk(P:br)(ops:Array du)(Q1:Nat->fR->Act->al->Prop)(n:Nat)(env:Nat->aj)(w:al)(i:Nat):Prop:=
 ∃d op ty pos af g,ops[i]? =ah ⟨d,op,ty,pos,af,g⟩/\cg ⟨d,op,ty,pos,af,g⟩ (eg ops (act n env).tmps)=ba/\WL P ops (Q1 i) [⟨d,op,ty,pos,af,aE⟩] n env w
theorem XE{Q1:Nat->fR->Act->al->Prop}(i:Nat)(hi:ops[i]? =ah ⟨d,op,ty,pos,af,g⟩)(a:cg ⟨d,op,ty,pos,af,g⟩ (eg ops (act n env).tmps)=ba)(h:WL P ops (Q1 i) [⟨d,op,ty,pos,af,aE⟩] n env w):EffOk P ops Q1 n env w i:=⟨_,_,_,_,_,_,hi,a,h⟩
def EffAll(P:br)(ops:Array du)(Q1:Nat->fR->Act->al->Prop)(n:Nat)(env:Nat->aj)(w:al):Zi Nat->Prop
 |[]=>True
 |i::r=>EffOk P ops Q1 n env w i/\EffAll P ops Q1 n env w r
theorem effAll_mem{Q1:Nat->fR->Act->al->Prop}:∀{l:Zi Nat},EffAll P ops Q1 n env w l->∀k∈l,EffOk P ops Q1 n env w k
  |i::r,⟨h1,h2⟩,k,hk=>by
    rcases bp.1 hk with rfl|hk
    · exact h1
    · exact effAll_mem h2 k hk
theorem whk_effs{L:BS}{ws:al}(l:Zi Nat)(c:cI .any ops listed=l)(hl:l≠[])
  (h:EffAll P ops (fun i=>XD P ops L ws Q fuel (listed.setIfInBounds i ba)) n env w l):WHK P ops L ws Q (fuel+1) listed n env w:=by
 refine⟨sq c hl fun k e=>?_⟩;obtain⟨d,op,ty,pos,af,g,b,f,a⟩:=effAll_mem h k e;exact Kc b f a
end
open Go.RowKit Go.ChangeShapes
theorem opens_byte{P:br}{T:aw}(g:P.underlying T=ah (.int .u8)):AU P T gN:=by
 intro a enc w b d fuel cs x h;obtain⟨n,rfl,_,c⟩:=yy g h;simp only[Lit.wf,Bool.and_eq_true,decide_eq_true_eq]at c;have f:0<=n:=c.1;have i:n<=255:=c.2;refine⟨ph n.toNat,?_⟩;show [da .u8 n]=[.int .u8 ((ph n.toNat).toNat:Int)];have:(ph n.toNat).toNat=n.toNat:=by
  have e:n.toNat%256=n.toNat:=za V;simpa[ve]using e
 rw[this,Int.toNat_of_nonneg f]
theorem returns_laid{c:Type}{enc:aw×aj->c}{a:Assume}{C:Checked}{os:Os}{f:hQ}{p:yr}{s:ChangeSpec}{m:Zi PathCond}{d fresh l again:Ys}{X:al->Array aj->Prop}
  (M:∀(w w':al) (args:Array aj),w.heap=w'.heap->X w args->X w' args)
  (own:ownKnob C.prog.godebug=aE) (q:os.Started) (r:C.prog.inits.idxOf? f=aE) (K:C.prog.funcs[f]? =ah p)
  (o:∃(w:al) (g:Tape) (i:Input),w.os=os/\(w.forCall g i).Shaped C.prog/\i.vars=[]/\Input.okWide C.prog (w.forCall g i) .any w.heap.size f i/\
   ((s.pre enc C.prog p m d (w.forCall g i).memory i.args/\X (w.forCall g i).memory i.args)/\sizedMet enc C.prog p (OpenSpec.ofChange s) d (w.forCall g i).memory i.args)/\a.holds C.prog (lone (Frame.enter C.prog f i.args .normal) [] (w.forCall g i)))
  (n:∀(b:al) (z:Nat) (args:Array aj) (B A:Zi (DataW c)) (k:Zi tN),
   (∀(j:Nat) t v,p.params[j]? =ah t->args[j]? =ah v->Value.okWide C.prog b .any z t v)->
   DataW.Whole enc C.prog p.params.toList s.vars d b args.toList B A k->
   m.all (PathCond.test C.prog ⟨p.params.toList,B,s.plain.varTypes C.prog,A⟩)=ba->X b args->b.ShapedOpen C.prog->
   bk C.prog f args b fun e L=>∃v,e=.returned v/\s.post enc C.prog p d fresh l again b args v L):
  ReturnsInHanded a C os f .any (fun w args=>(s.pre enc C.prog p m d w args/\X w args)/\sizedMet enc C.prog p (OpenSpec.ofChange s) d w args) (s.post enc C.prog p d fresh l again):=by
 refine returnsInHanded_of_calls own q r o ?_;intro w g i _ I _ G y _;obtain⟨_,_,_,E,u,_,_,_,_,x⟩:=G;have e:E=p:=cG<|u.symm.trans K;subst e;obtain⟨⟨⟨B,A,k,Q,P⟩,O⟩,_⟩:=y;have F:=DataW.Whole.of_heap (w':=w.forCall g i) (by rfl) Q;refine(n (w.forCall g i) w.heap.size i.args B A k x F P (M _ _ _ (by rfl) O) I).mono fun e L⟨v,N,hp⟩=>?_;subst N;exact ChangeSpec.post_blind hp
def laidIn(w:al)(g:Nat)(a:Array aj):World:=
 {w with heap:=w.heap.modify g fun| .cells _ t fz=>.cells a t fz|o=>o}
def tabCells:DataW Unit->Array aj
 | .agg l=>(l.map fun| .lit (.int k z)=>da k z|_=>Value.nilIface).toArray
 |_=> #[]
structure jr where
 safe:List UInt8
 wait:List UInt8
deriving DecidableEq
def rDisk:lV jr where
 sz:=2
 rd w A cs x:=∃Ig,∃Ih,cs=[Ig,Ih]/\bS gN w A Ig x.safe/\bS gN w A Ih x.wait
 len:=by rintro w A cs x ⟨Ig,Ih,rfl,h0,h1⟩;rfl
 one:=by rintro w A cs x ⟨Ig,Ih,rfl,h0,h1⟩ u hu;simp only[bp,cO,or_false]at hu;rcases hu with rfl|rfl<;>first|rfl|exact h0.one|exact h1.one
 pos:=by decide
 go:=by rintro w A cs x w2 A2 K ⟨Ig,Ih,rfl,h0,h1⟩ hk hK hA;exact⟨_,_,Z,h0.go hk hK hA,h1.go hk hK hA⟩
theorem rDisk_open{w:al}{A:BS}{cs:Zi aj}{x:jr}(h:rDisk.rd w A cs x):∃a,∃b,cs=[a,b]/\bS gN w A a x.safe/\bS gN w A b x.wait:=h
theorem puint_app(a:Nat)(c:UInt8):∀(l:Str),gk a (l++[c])=match gk a l with| .ok m=>gk m [c]|e=>e:=by
  intro l;induction l generalizing a with
  |nil=>simp[gk]
  |cons b r ih=>
    simp only[eL,gk];split
    · split
      · rfl
      · split
        · rfl
        · rw[ih];rfl
    · rfl
theorem RB{k:Nat}(h:k<10):(ph (48+k)).toNat=48+k:=by
 have:(48+k)%256=48+k:=za V;simpa[ve]using this
theorem puint_dec:∀(u:Nat),u<18446744073709551616->gk 0 (ju u)=.ok u:=by
  intro u;induction u using pd with
  |ind u ih=>
    intro b;rw[ju];split
    · rename_i h;simp only[gk];rw[RB h,Z2 V,Z3 V,Z3 V];congr 1;omega
    · rename_i h;have a:u%10<10:=oY _ zq1;rw[puint_app,ih (u / 10) V V];simp only[gk];rw[RB a,Z2 V,Z3 V,Z3 V];congr 1;omega
theorem dec_head:∀(u:Nat),∃c r,ju u=c::r/\48<=c.toNat/\c.toNat<=57:=by
  intro u;induction u using pd with
  |ind u ih=>
    rw[ju];split
    · rename_i h;exact⟨_,[],Z,by rw[RB h];omega,by rw[RB h];omega⟩
    · rename_i h;obtain⟨c,r,b,d,a⟩:=ih (u / 10) V;exact⟨c,r++[ph (48+u%10)],by rw[b];rfl,d,a⟩
theorem dec_chars:∀(u:Nat),∀c∈ju u,48<=c.toNat/\c.toNat<=57:=by
  intro u;induction u using pd with
  |ind u ih=>
    rw[ju];split
    · rename_i h;intro c a;simp only[dq]at a;subst a;rw[RB h];omega
    · rename_i h;have b:u%10<10:=oY _ zq1;intro c a;rcases db.1 a with a|a
      · exact ih (u / 10) V c a
      · simp only[dq]at a;subst a;rw[RB b];omega
theorem itoa_chars(n:Int):∀c∈fi n,45<=c.toNat/\c.toNat<=57:=by
  intro c a;unfold fi at a;split at a
  · rcases bp.1 a with rfl|a
    · decide
    · have:=dec_chars _ c a;omega
  · have:=dec_chars _ c a;omega
theorem itoa_free{n:Int}{c:UInt8}(h:c.toNat<45):c∉fi n:=fun a=>by have:=itoa_chars n c a;omega
theorem mag_dec{u:Nat}(h:u<18446744073709551616):Lib.parseMag (ju u)=.ok u:=by
 obtain⟨c,r,a,_,_⟩:=dec_head u;unfold Lib.parseMag;rw[Z3 (by rw[a];simp),puint_dec u h]
theorem atoi_itoa{n:Int}(h:iZ n):ew (fi n)=.ok n:=by
  obtain⟨b,f⟩:=h;unfold fi;split
  · rename_i hn;unfold ew;simp only;rw[Z2 (.inr zq1),mag_dec V];simp only;rw[Z3 zq3,Z3 V];simp;omega
  · rename_i hn;obtain⟨c,r,e,a,d⟩:=dec_head n.toNat;rw[e];unfold ew;simp only;rw[Z3 V,<-e,mag_dec V];simp only;rw[Z3 V,Z3 V,Z3 V];congr 1;omega
def numOf(w:Str):Yw Int:=match ew w with| .ok v=>if fi v=w then ah v else aE|_=>aE
theorem numOf_itoa{n:Int}(h:iZ n):numOf (fi n)=ah n:=by simp[numOf,atoi_itoa h]
theorem numOf_some{w:Str}{n:Int}(h:numOf w=ah n):w=fi n/\iZ n:=by
  unfold numOf at h;cases e:ew w with
  |ok v=>
    rw[e]at h;simp only at h;split at h
    · rename_i a;cases h;have:=Lib.atoiAll_bounds e;exact⟨a.symm,this⟩
    · cases h
  |_=>rw[e]at h;cases h
def kg(c:UInt8):Str->Zi Str
 |[]=>[[]]
 |b::r=>if b=c then []::kg c r else match kg c r with|x::xs=>(b::x)::xs|[]=>[[b]]
theorem Ed(c:UInt8):∀(s:Str),kg c s≠[]
  |[]=>by simp[kg]
  |b::r=>by
    unfold kg;split
    · simp
    · split<;>simp
theorem LK{c:UInt8}:∀{x:Str},c∉x->kg c x=[x]
 |[],_=>rfl
 |b::r,h=>by
  have a:¬b=c:=fun e=>h (by rw[e];exact fj);rw[kg,Z3 a,LK (x:=r) (fun e=>h (bm _ e))]
theorem AX{c:UInt8}{r:Str}:∀{x:Str},c∉x->kg c (x++c::r)=x::kg c r
 |[],_=>by simp[kg]
 |b::x,h=>by
  have a:¬b=c:=fun e=>h (by rw[e];exact fj);rw[eL,kg,Z3 a,AX (x:=x) (fun e=>h (bm _ e))]
theorem idx1(c:UInt8):∀(s:Str),(mw s [c]= -1/\c∉s)\/∃x r,s=x++c::r/\c∉x/\mw s [c]=x.length
  |[]=>by left;exact⟨by simp[mw],by simp⟩
  |b::l=>by
    by_cases h:b=c
    · subst h;right;exact⟨[],l,Z,by simp,by simp[mw,sB]⟩
    · have a:¬c=b:=fun e=>h e.symm;have hp:sB [c] (b::l)=false:=by simp[sB,a]
      rcases idx1 c l with⟨h1,h2⟩|⟨x,r,h1,h2,h3⟩
      · left;refine⟨by rw[mw,hp,h1];simp,?_⟩;simp[h2,a]
      · right;refine⟨b::x,r,by rw[h1];rfl,by simp[h2,a],?_⟩;have:¬(mw l [c]== -1)=true:=by rw[h3];simp
        rw[mw,hp,Z3 zq3,Z3 this,h3];simp
theorem splitK_C(c:UInt8):∀(k:Nat) (s:Str),tB s [c]=k->wT [c] 0 k s=kg c s:=by
  intro k;induction k with
  |zero=>
    intro s hs;rcases idx1 c s with⟨h1,h2⟩|⟨x,r,h1,h2,h3⟩
    · rw[LK h2];rfl
    · rw[Lib.count_hit zq3 h3]at hs;omega
  |succ k ih=>
    intro s hs;rcases idx1 c s with⟨h1,h2⟩|⟨x,r,h1,h2,h3⟩
    · rw[Lib.count_miss h1]at hs;omega
    · have b:¬(mw s [c]== -1)=true:=by rw[h3];simp
      rw[Lib.count_hit zq3 h3]at hs;have a:s.drop (x.length+[c].length)=r:=by rw[h1];simp
      rw[wT,Z3 b,h3];simp only[Int.toNat_natCast,Nat.add_zero];rw[a]at hs⊢;rw[ih r V,h1,AX h2,kz]
theorem split_C(c:UInt8)(s:Str):y0 s [c]=kg c s:=splitK_C c _ s Z
def Ee(c:UInt8)(l:Zi Str):Str:=tc l [c]
theorem Gy(c:UInt8)(x:Str):Ee c [x]=x:=Lib.join_one x [c]
theorem DR(c:UInt8)(x y:Str)(l:Zi Str):Ee c (x::y::l)=x++c::Ee c (y::l):=by
 unfold Ee;rw[Lib.join_cons,Lib.join_cons];simp[Lib.joinTail]
theorem AY(c:UInt8):∀(s:Str),Ee c (kg c s)=s
  |[]=>Gy c []
  |b::r=>by
    have a:=AY c r;unfold kg;split
    · rename_i h;subst h;cases e:kg b r with
      |nil=>exact Zs e (Ed b r)
      |cons y l=>rw[DR,<-e,a];rfl
    · split
      · rename_i x xs e;rw[e]at a;cases xs with
        |nil=>rw[Gy]at a⊢;rw[a]
        |cons y l=>rw[DR]at a⊢;rw[eL,a]
      · rename_i e;exact Zs e<|Ed c r
theorem split_joinC(c:UInt8):∀(l:Zi Str),l≠[]->(∀x∈l,c∉x)->kg c (Ee c l)=l
 |[],h,_=>Zs Z h
 |[x],_,h=>by rw[Gy];exact LK (h x zq3)
 |x::y::l,_,h=>by
  rw[DR,AX (h x zq3),split_joinC c (y::l) zq3 (fun z a=>h z (bm _ a))]
theorem DT(c:UInt8):∀(s:Str),(kg c s).length<=s.length+1
  |[]=>by simp[kg]
  |b::r=>by
    have a:=DT c r;unfold kg;split
    · simp;omega
    · split
      · rename_i x xs e;rw[e]at a;simp at a⊢;omega
      · simp
theorem AZ(c:UInt8):∀(s x:Str),x∈kg c s->x.length<=s.length/\c∉x
  |[],x,h=>by simp[kg]at h;subst h;simp
  |b::r,x,h=>by
    unfold kg at h;split at h
    · rcases bp.1 h with rfl|h
      · simp
      · have:=AZ c r x h;exact⟨by simp;omega,this.2⟩
    · rename_i d;split at h
      · rename_i y f e;rcases bp.1 h with rfl|h
        · have:=AZ c r y (by rw[e];exact fj);refine⟨by simp;exact this.1,?_⟩;intro a;rcases bp.1 a with a|a
          · exact d a.symm
          · exact this.2 a
        · have:=AZ c r x (by rw[e];exact bm _ h);exact⟨by simp;omega,this.2⟩
      · rename_i e;exact Zs e<|Ed c r
def PZ(c:UInt8)(s:Str):Yw (Zi Int):=(kg c s).mapM numOf
theorem mapM_num_of{l:Zi Int}(h:∀x∈l,iZ x):(l.map fi).mapM numOf=ah l:=by
 induction l with
 |nil=>rfl
 |cons x l ih=>
  rw[ct,pH,numOf_itoa (h x zq3),ih (fun y a=>h y (bm _ a))];rfl
theorem Hz:∀{w:Zi Str} {l:Zi Int},w.mapM numOf=ah l->w=l.map fi/\∀x∈l,iZ x
  |[],l,h=>by cases h;exact⟨Z,by simp⟩
  |x::w,l,h=>by
    rw[pH]at h;cases e:numOf x with
    |none=>rw[e]at h;cases h
    |some v=>
      rw[e]at h;cases e2:w.mapM numOf with
      |none=>rw[e2]at h;cases h
      |some m=>
        rw[e2]at h;cases h;obtain⟨c,f⟩:=Hz e2;obtain⟨b,d⟩:=numOf_some e;refine⟨by rw[ct,<-c,<-b],?_⟩;intro y a;rcases bp.1 a with rfl|a
        · exact d
        · exact f y a
theorem nums_join{c:UInt8}(a:c.toNat<45){l:Zi Int}(hl:l≠[])(h:∀x∈l,iZ x):PZ c (Ee c (l.map fi))=ah l:=by
 unfold PZ;rw[split_joinC c _ (by simpa using hl) (by intro x b;obtain⟨y,_,rfl⟩:=ov.1 b;exact itoa_free a)];exact mapM_num_of h
theorem join_nums{c:UInt8}{s:Str}{l:Zi Int}(h:PZ c s=ah l):s=Ee c (l.map fi)/\(∀x∈l,iZ x)/\l≠[]:=by
 obtain⟨a,b⟩:=Hz h;refine⟨by rw[<-a,AY],b,?_⟩;rintro rfl;exact Ed c s a
theorem itoaS_eq{n:Int}(h:iZ n):MO n=ah (fi n):=by unfold MO;rw[jV h]
theorem atoiS_eq{w:Str}(h:w.length<=281474976710656):LJ w=ah (match ew w with| .ok v=>(v,ar)| .range=>(uN w,ba)|_=>(0,ba)):=by unfold LJ;rw[jV h];all_goals (cases ew w<;>rfl)
theorem parseS_eq{w:Str}(h:w.length<=281474976710656):parseS w=ah (match ew w with| .ok v=>(v,ar)| .range=>(wE 64 w,ba)|_=>(0,ba)):=by unfold parseS;rw[jV h,Lib.parseIntB_64];all_goals (cases ew w<;>rfl)
theorem splitS_eq{s:Str}(c:UInt8)(h:s.length<4294967281):PY s [c]=ah (kg c s):=by unfold PY;rw[jV ⟨h,cv _⟩,split_C]
end Go.LX