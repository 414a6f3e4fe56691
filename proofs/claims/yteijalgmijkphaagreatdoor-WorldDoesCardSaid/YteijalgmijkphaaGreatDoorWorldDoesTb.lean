/-
  What the law WorldDoes needs of our own library and of the walks, no more.
-/
import Derived.WalkKit
import Derived.Laws.StructEq
import Derived.ChangeKeysEq
import Derived.StillTail
import Derived.LoopN
import Derived.Deep.Quiet
import Derived.OrdersHeld
import Derived.Deep.RegionHeld3
import Derived.Deep.Slices
import Derived.MapKept
import Derived.ChangeArms
import Derived.Lib.AppendZeros
import Derived.Lib.Overlaps
import Derived.Laws.CopyRow
import Derived.Shelf.SlSortCmp.SmallK
import Derived.Laws.Pointers
import Derived.Laws.OwnMore
import Derived.Laws.Concat
import Derived.Laws.Strings2
import Derived.Laws.Strings3
import Derived.Laws.IdiomStrings
import Derived.Lib.AppendStr
import Derived.Lib.ConvBytes
import Derived.Lib.LaidTab
import Derived.Lib.ItoaNum
import Derived.WideLaws
import Derived.Lib.SplitLaws
import Derived.Lib.JoinLaws
import Derived.Lib.AtoiAll
import Derived.Lib.ParseIntB
import Derived.Laws.NewFold
import Derived.Lib.Join
import Derived.Sort.Grow
import Derived.Lib.Space
import Derived.Handed
import Derived.LaidMore
import Derived.LaidHandle
import Derived.Stop.LaidErr
import Derived.Shelf.Vars
import Derived.WideShapes
import Derived.Lib.ParseIntBTie
import Derived.Lib.ItoaLen
import Derived.Lib.AtoiAllCases
import Derived.Test.YteijalgmijkphaaGreatDoorWorldDoesTa
set_option linter.unusedSimpArgs false
set_option linter.unusedVariables false
set_option maxRecDepth 10000
set_option maxHeartbeats 4000000
open Array renaming ext'->mC,ext_getElem?->qH,foldl_toList->vx,getD_eq_getD_getElem?->da,getElem?_append_left->ti,getElem?_eq_getElem->jx,getElem?_eq_none->oY,getElem?_modify->fh,getElem?_setIfInBounds->mb,getElem?_toList->ie,length_toList->cx,ofFn->qF,range->pB,replicate->za,toList_map->sA,toList_push->wi,toList_setIfInBounds->mL,toList_zipIdx->vn
open Bool renaming eq_false_iff->fx,eq_iff_iff->dv,false_eq_true->cL,true_and->gk,false->aw,true->bd
open ByteArray renaming ext->wk,mk->qs,size->me
open Decidable renaming decide->G
open Go renaming Addr->nF,Calls->bp,Edge->hR,Ending->sC,Exit->fY,FuncId->mT,MemPlace->uT,Oper->ec,Operand->br,Program->cc,TypeId->bk,Value->Q,World->ay,asIntOf->kq,binOp->nt,bodyPost->ks,builtin->lQ,eqGuard->fI,execOp->bm,getObj->kx,grownCap->iL,grownCap_ge->Ax,grownCap_le_maxLen->sR,invoke->mw,loadVar->xt,maxLen->mx,newRow->xv,resolve->jK,run_convert_bytes_back->xT,run_eql_pointer_nil->Bk,run_equal_held_nil->Cl,run_loadCells_list->B7,run_neq_pointer_nil->Bm,run_part_plain->se,run_program->ga,run_storeCells_at->tf,run_underlying->uU,sizeOf->hO,size_zeroCells->oE,typeInfo->ee,undef->gx,underlying->cD,wpAnyH_all->Ck,wpList->sL,wpList_plain->xp,wpQuiet->uv,wp_region_still_tail->Ae,yielded->eN,zeroValue->my
open Go.Act renaming eval->kh
open Go.Addr renaming add->jI
open Go.Builtin renaming append_->jz,copy_->zd,firstCells->qq,lenOf->tg,len_->zA,nextslicecap->ll,zeroCells->cI
open Go.Code renaming cond->ub,loop->zb,region->jj,rounds->vq
open Go.DataW renaming trod->th,trod_int->An
open Go.Exit renaming inBlock->kn
open Go.Instr renaming fill->mN,findKey->ij,findNow->tI,indexAt->AT,keyThatStays->jR,loadAt->ud,lookup->B9,mapUpdate->mm,sameBits->As,sameNow->tM,slice->lR,sliceAt->lp,sliceBound->eK,sliceBounds->dt,storeAt->AW,sureAddr->kl
open Go.Lib renaming TabIs->px,atoiAll->fq,atoiSat->vA,bytesWorld->lA,bytesWorld_at_old->vt,bytesWorld_size->wq,cellsOf->vI,count->uF,countB->ei,cut->sf,index->na,intSat->ya,itoa->ey,join->tv,parseIntB->kj,parseUint10->mz,pow10Tab->ve,split->AF,splitB->kC,splitB_all->Cm,splitB_data->Bx,splitK->yb,strCells->vd
open Go.Op renaming equalIn->tG,intCmp->qG
open Go.Oper renaming quietUpon->A4,wp->xr
open Go.Proofs renaming sortWorldK->im
open Go.Region renaming free->fm,lexTailB->xF,noSelect->eg,ready->dy,wanted->cm
open Go.Result renaming andThen_ok->bW,ok->we
open Go.Sem renaming run->ly,run_bind->cC,run_ite->vy,run_pure->cR
open Go.Sort renaming HoldsK->vr,ahead->tk,grow->mS,insertionSort->gd,mapBlock->qT,putCells->ra,putRowK->ux
open Go.Value renaming cells->uI,int->dd,oneCell'->db,ownBlock->te,string->pb
open Go.World renaming alloc->nv,alloc_eq->km,cell?->fc,cells?_some->wg,frozen?->qt,shape?->Cd
open Int renaming eq_ofNat_of_zero_le->cl,natCast_mul->A6,natCast_nonneg->kc
open List renaming append_assoc->cy,cons_append->gf,drop->oS,drop_append->lx,drop_append_of_le_length->hU,drop_drop->pC,drop_eq_getElem_cons->cp,drop_eq_nil_of_le->cq,drop_left'->AD,drop_set->B8,drop_take->eo,drop_zero->fg,eq_nil_of_length_eq_zero->cE,ext_getElem?->cP,flatten_cons->nI,getElem?_append->jn,getElem?_drop->ct,getElem?_eq_getElem->bl,getElem?_eq_none->bG,getElem?_map->en,getElem?_set->fy,getElem?_take->ca,getElem_append_left->fl,getElem_append_right->gA,getElem_drop->sh,getElem_set_ne->rv,getElem_set_self->pD,getElem_take->nL,isPrefixOf->ta,length->O,length_append->bn,length_cons->bw,length_drop->cQ,length_map->dr,length_replicate->mj,length_set->cr,length_take->cd,mapM_cons->tE,map_cons->cF,map_nil->js,map_toArray->hQ,mem_cons->bs,mem_cons_of_mem->bo,mem_cons_self->fo,mem_map->fW,mem_singleton->wj,nil_append->ck,not_mem_nil->dp,replicate->bt,take->jD,take_append_of_le_length->de,take_left->lj,take_of_length_le->kt,take_set->qS,take_take->eh,toArray->ar,zipIdx_cons->zc
open Nat renaming add_assoc->ki,add_mul->cf,beq->hP,ble->lr,blt->mv,blt_eq->pn,div_add_mod->A5,div_lt_of_lt_mul->ql,eq_of_beq_eq_true->ix,le_max_left->Bs,le_max_right->AE,le_mul_of_pos_right->pa,le_of_ble_eq_true->gC,le_of_eq->po,le_of_not_lt->Ab,le_refl->cj,le_trans->cN,lt_of_lt_of_le->er,lt_or_ge->cH,lt_succ_self->Ar,min->lz,min_eq_left->cX,mod_lt->tt,mul_comm->mD,mul_le_mul_right->bj,mul_one->oj,not_lt_zero->ia,one_mul->sX,sub_mul->sY,zero_add->hE,zero_le->gj,zero_mul->uJ
open Option renaming bind_some->cG,getD_some->fj,map_some->dk,none->bh,some->U
open Option.some renaming inj->dq,injEq->eV
open Prod.mk renaming injEq->hX
namespace Go.LX
open Go.RowKit
def C6(n:Nat)(env:Nat->Q):Act:={tmps:=qF (n:=n) λi=>env i.val,defers:=[]}
def upd(env:Nat->Q)(d:Nat)(v:Q):Nat->Value:=λi=>bif hP i d then v else env i
def ev(n:Nat)(env:Nat->Q):br->Q
 | .tmp t=>bif mv t n then env t else gx
 | .const v=>v
 | .global g=>.pointer (U ⟨g,0,bh⟩)
 | .func f=>.func (.func f) #[] #[]
def gy(env:Nat->Q):B Nat->Q->(Nat->Q)
 |some d,v=>upd env d v
 |none,_=>env
theorem jG(n:Nat)(env:Nat->Q):(C6 n env).eval=ev n env:=by
  funext x;cases x with
  |tmp t=>
    by_cases h:t<n
    · have a:mv t n=true:=by rw[pn];exact h
      simp[kh,C6,ev,h,a]
    · have a:mv t n=false:=by rw[fx,ne_eq,pn];exact h
      simp[kh,C6,ev,h,a]
  |_=>rfl
theorem KC(n:Nat)(env:Nat->Q)(d:B Nat)(v:Q):(C6 n env).put d v=C6 n (gy env d v):=by
  cases d with
  |none=>rfl
  |some d=>
    simp only[Act.put,C6,gy,Act.mk.injEq,and_true];apply Array.ext
    · simp
    · intro i b f;simp at b;have e:i<(qF (n:=n) λi=>env i.val).size:=by simp;exact b
      rw[Array.getElem_setIfInBounds e];by_cases a:d=i
      · subst a;simp[upd,Nat.beq_refl]
      · have c:hP i d=false:=by rw[fx];intro h;exact a (ix h).symm
        simp[a,upd,c]
def HD(args:H Q):Nat->Value:=λi=>args.getD i gx
theorem act_init(n:Nat)(args:H Q)(h:O args<=n):({tmps:=ar args++za (n-(ar args).size) gx,defers:=[]}:Act)=C6 n (HD args):=by
  simp only[C6,Act.mk.injEq,and_true];apply Array.ext
  · simp;omega
  · intro i a b;simp[Array.getElem_append,HD,List.getD];by_cases hi:i<O args
    · simp[hi]
    · simp[hi]
structure WL(P:cc)(ops:Array ec)(aq:fY->Act->ay->Prop)(l:List ec)(n:Nat)(env:Nat->Q)(w:ay):Prop where
 out:sL P ops aq l (C6 n env) w
structure WC(P:cc)(c:Code)(aq:fY->Act->ay->Prop)(n:Nat)(env:Nat->Q)(w:ay):Prop where
 out:c.wp P aq (C6 n env) w
section
variable{P:cc}{ops:Array ec}{aq:fY->Act->ay->Prop}{n:Nat}{env:Nat->Q}{w w':ay}{rest:H ec}
 {d:B Nat} {op:Op} {ty:bk} {pos:String} {af:Array hR} {v:Q} {g:B (Nat×Yi)}
theorem aC(b:(bm (ev n env) ⟨d,op,ty,pos,af,bh⟩).run P w=.ok (.value v) w')(h:WL P ops aq rest n (gy env d v) w'):
  WL P ops aq (⟨d,op,ty,pos,af,bh⟩::rest) n env w:=by
 refine⟨xp Z λK a=>?_⟩;unfold xr;rw[jG,b];show K _ _;rw[KC];exact a _ _ h.out
theorem BX(b:(bm (ev n env) ⟨d,op,ty,pos,af,bh⟩).run P w=.ok .skip w')(h:WL P ops aq rest n (gy env d gx) w'):
  WL P ops aq (⟨d,op,ty,pos,af,bh⟩::rest) n env w:=by
 refine⟨xp Z λK a=>?_⟩;unfold xr;rw[jG,b];show K _ _;rw[KC];exact a _ _ h.out
theorem wl_enter{f:mT}{args:Array Q}{R:sC->ay->Prop}(i:(bm (ev n env) ⟨d,op,ty,pos,af,bh⟩).run P w=.ok (.enter f args) w)(c:bp P f args w R)
  (h:∀e w',R e w'->∃v,e=.returned v/\WL P ops aq rest n (gy env d v) w'):
  WL P ops aq (⟨d,op,ty,pos,af,bh⟩::rest) n env w:=by
 refine⟨xp Z λK a=>?_⟩;unfold xr;rw[jG,i];show bp P f args w _;refine c.mono λe w' b=>?_;obtain⟨v,rfl,g⟩:=h e w' b;show K _ _;rw[KC];exact a _ _ g.out
theorem Ib{j dj:Nat}{b:Yi}(c:(ops[j]?).bind (·.dst)=U dj)(d:ev n env (.tmp dj)=.bool b):eN ops (C6 n env).tmps j=U b:=by
  unfold eN;have a:(C6 n env).eval (.tmp dj)=.bool b:=by rw[jG];exact d
  simp only[c,cG];simp only[kh]at a;cases h2:(C6 n env).tmps[dj]? with
  |none=>simp[da,h2,gx]at a
  |some x=>simp[da,h2]at a;subst a;rfl
theorem NY{j dj:Nat}{b:Yi}(g:(ops[j]?).bind (·.dst)=U dj)(c:ev n env (.tmp dj)=.bool b)
    (h:WL P ops aq (⟨d,op,ty,pos,af,bh⟩::rest) n env w):WL P ops aq (⟨d,op,ty,pos,af,U (j,b)⟩::rest) n env w:=by
  have e:=Ib (ops:=ops) g c;have f:cm ⟨d,op,ty,pos,af,U (j,b)⟩ (eN ops (C6 n env).tmps)=true:=by simp[cm,e]
  have a:cm ⟨d,op,ty,pos,af,bh⟩ (eN ops (C6 n env).tmps)=true:=rfl;obtain⟨h⟩:=h;refine⟨?_⟩;unfold sL at h⊢;rw[Z2 a]at h;rw[Z2 f];exact h
theorem ji{j dj:Nat}{b b':Yi}(g:(ops[j]?).bind (·.dst)=U dj)(a:ev n env (.tmp dj)=.bool b')(f:(b'==b)=aw)
    (h:WL P ops aq rest n (gy env d gx) w):WL P ops aq (⟨d,op,ty,pos,af,U (j,b)⟩::rest) n env w:=by
  have c:=Ib (ops:=ops) g a;have e:cm ⟨d,op,ty,pos,af,U (j,b)⟩ (eN ops (C6 n env).tmps)=false:=by simpa[cm,c]using f
  refine⟨?_⟩;unfold sL;rw[Z3 (by rw[e];decide),KC];exact h.out
theorem ax(h:aq .normal (C6 n env) w):WL P ops aq [] n env w:=⟨h⟩
end
section
variable{P:cc}{aq:fY->Act->ay->Prop}{n:Nat}{env:Nat->Q}{w:ay}{x y:Code}
section
variable{id:Nat}
theorem gm{l:H ec}(h:WL P (ar l) aq l n env w):WC P (jj id (ar l) aw) aq n env w:=⟨wp_region_lit h.out⟩
theorem gU(h:WC P x (Exit.then (y.wp P aq) aq) n env w):WC P (Code.seq x y) aq n env w:=⟨wp_seq h.out⟩
theorem iP(h:WC P x (kn id aq) n env w):WC P (Code.block id x) aq n env w:=⟨wp_block h.out⟩
theorem di(h:aq .normal (C6 n env) w):WC P .skip aq n env w:=⟨wp_skip h⟩
theorem wc_ret(h:aq .ret (C6 n env) w):WC P .ret aq n env w:=⟨wp_ret h⟩
theorem Y7(h:aq (.exit id) (C6 n env) w):WC P (.exit id) aq n env w:=⟨wp_exit h⟩
variable{c:br}
theorem wT{t:Yi}(a:ev n env c=.bool t)(b:t=bd->WC P x aq n env w)(d:t=aw->WC P y aq n env w):
 WC P (ub c x y) aq n env w:=⟨wp_cond_split (by rw[jG];exact a) (λh=>(b h).out) (λh=>(d h).out)⟩
theorem Gk(a:ev n env c=.bool bd)(b:WC P x aq n env w):WC P (ub c x y) aq n env w:=⟨wp_cond_true (by rw[jG];exact a) b.out⟩
theorem wc_iff(a:ev n env c=.bool aw)(b:WC P y aq n env w):WC P (ub c x y) aq n env w:=⟨wp_cond_false (by rw[jG];exact a) b.out⟩
theorem bz{Q':fY->Act->ay->Prop}(h:WC P y aq n env w):Exit.then (y.wp P aq) Q' .normal (C6 n env) w:=h.out
def Y1(mod:Nat->Yi)(a entry:Nat->Q):Nat->Value:=λi=>bif mod i then a i else entry i
def J6(e:Nat->Q):H (Nat×Q)->Nat->Q
 |[]=>e
 |(i,v)::r=>upd (J6 e r) i v
def Dd(e:Nat->Q):H (Nat×Q)->Prop
 |[]=>True
 |(i,v)::r=>e i=v/\Dd e r
def Bg(mod:Nat->Yi)(e entry:Nat->Q):Prop:=∀i,mod i=aw->e i=entry i
theorem Bg.refl(mod:Nat->Yi)(e:Nat->Q):Bg mod e e:=λ_ _=>rfl
theorem Bg.Y1(mod:Nat->Yi)(j e:Nat->Q):Bg mod (Y1 mod j e) e:=λi h=>by simp[LX.Y1,h]
variable{mod:Nat->Yi}{e entry:Nat->Q}{v:Q}
theorem Bg.upd{d:Nat}(b:mod d=bd)(h:Bg mod e entry):Bg mod (upd e d v) entry:=λi hi=>by
 have:i≠d:=λe=>by rw[e,b]at hi;exact Bool.noConfusion hi
 have a:hP i d=false:=by rw[fx];intro h;exact this (ix h)
 simp[LX.upd,a,h i hi]
theorem upd_self(e:Nat->Q){i:Nat}(h:e i=v):upd e i v=e:=by
  funext k;by_cases a:hP k i=bd
  · have:=ix a;subst this;simp[upd,h]
  · simp[upd,a]
theorem hav_self(h:Bg mod e entry):Y1 mod e entry=e:=by
 funext i;cases hm:mod i with
 |true=>simp[Y1,hm]
 |false=>simp[Y1,hm,h i hm]
end
theorem GP{e:Nat->Q}:∀(l:H (Nat×Q)),Dd e l->J6 e l=e
 |[],_=>rfl
 |(i,v)::r,h=>by
  show upd (J6 e r) i v=e;rw[GP r h.2];exact upd_self e h.1
theorem wc_loop{σ:Type}{c:Code}(mod:Nat->Yi)(live:σ->H (Nat×Q))(hp:σ->ay->Prop)(μ:σ->Nat)(s0:σ)
  (hl:Dd env (live s0)) (K:hp s0 w)
  (j:∀s F M,hp s F->WC P c (Exit.then (λa' w'=>∃q v,a'=C6 n v/\Bg mod v env/\Dd v (live q)/\hp q w'/\μ q<μ s) aq) n (J6 (Y1 mod M env) (live s)) F):
  WC P (zb c) aq n env w:=by
 refine⟨?_⟩;intro b k cs;have E:∀m s e w,μ s=m->Bg mod e env->Dd e (live s)->hp s w->
   ∃p a' w',aq p a' w'/\Arrives P (lone (b.at (C6 n e) (.code c:: .inLoop c::k)) cs w) b k cs p a' w':=by
  intro m;induction m using Nat.strongRecOn with
  |_ m ih=>
   intro s e w N ry ab w0;have al:=(j s w e w0).out;have y:J6 (Y1 mod e env) (live s)=e:=by rw[hav_self ry];exact GP _ ab
   rw[y]at al;obtain⟨p,f,d,i,a⟩:=al b (.inLoop c::k) cs;cases p with
   |normal=>
    obtain⟨q,v,rfl,z,A,Ys,C⟩:=i;obtain⟨t,u,r,o,g⟩:=ih (μ q) (N▸C) q v d Z z A Ys;exact⟨t,u,r,o,.of_steps (Steps.trans a<|.one step_inLoop) g⟩
   |exit id=>exact⟨_,f,d,i,.pass (x:=.inLoop c) Z (λ_ _=>.inl C3) a⟩
   |goto l=>exact⟨_,f,d,i,.pass (x:=.inLoop c) Z (λ_ _=>.inl C3) a⟩
   |ret=>exact⟨_,f,d,i,.pass (x:=.inLoop c) Z (λ_ _=>.inl C3) a⟩
   |panic ch=>exact⟨_,f,d,i,.pass (x:=.inLoop c) Z (λ_ _=>.inl C3) a⟩
   |outgrown=>exact⟨_,f,d,i,.pass (x:=.inLoop c) Z (λ_ _=>.inl C3) a⟩
 obtain⟨p,a',w',i,a⟩:=E _ s0 env w Z (Bg.refl _ _) hl K;exact⟨p,a',w',i,.of_steps (.one step_loop) a⟩
end
open Go.RowKit
class One (P:cc) (T:bk) (z:outParam Q):Prop where
 desc:∃d,P.underlying T=U d/\(match d with| .struct _| .array _ _=>False|_=>True)
 info:(P.info? T).map (λi=>(i.zero,i.size))=U (U z,1)
 cell:z.cells= #[z]
class zg (P:cc) (T:bk) (zs:outParam (H Q)):Prop where
 desc:∃d,P.underlying T=U d/\(match d with| .struct _| .array _ _=>True|_=>False)
 info:(P.info? T).map (λi=>(i.zero,i.size))=U (U (.agg (ar zs)),O zs)
class SliceOf (P:cc) (T:bk) (E:outParam bk) (sz:outParam Nat):Prop where
  desc:P.underlying T=U (.slice E)
  info:(P.info? E).map (·.size)=U sz
class fF (P:cc) (T:bk) (k:Nat) (off:outParam Nat):Prop where
  desc:∃fs f s,P.underlying T=U (.struct fs)/\fs[k]? =U f/\f.offset=off/\(P.info? f.type).map (·.size)=U (s+1)
section
variable{P:cc}{w:ay}{ρ:br->Q}{d:B Nat}{ty:bk}{pos:String}{af:Array hR}{g:B (Nat×Yi)}
section
variable{v:Q}
theorem fG{x:br}(a:ρ x=v):(bm ρ ⟨d,.move x,ty,pos,af,g⟩).run P w=.ok (.value v) w:=by subst a;rfl
theorem lL{x:br}(a:ρ x=v):(bm ρ ⟨d,.assign x,ty,pos,af,g⟩).run P w=.ok (.value v) w:=by subst a;rfl
variable{b:Yi}
theorem gP{c x y:br}(a:ρ c=.bool b)(e:(if b then ρ x else ρ y)=v):(bm ρ ⟨d,.pick c x y,ty,pos,af,g⟩).run P w=.ok (.value v) w:=by
 subst e;simp[bm,a,asBool]
theorem r_not{x:br}{T:bk}(a:ρ x=.bool b):(bm ρ ⟨d,.unOp .not T x,ty,pos,af,g⟩).run P w=.ok (.value (.bool !b)) w:=by
 simp[bm,a,Op.unary]
theorem W3{x:Int}(b: -9223372036854775808<=x)(a:x<=9223372036854775807):IntKind.i64.wrap x=x:=IntWalk.i64_in x ⟨b,a⟩
variable{x y:br}{T T2:bk}{p q:Int}
theorem Ls(a:ρ x=.int .i64 p)(b:ρ y=.int .i64 q):(bm ρ ⟨d,.binOp .lss T x y T2,ty,pos,af,g⟩).run P w=.ok (.value (.bool (G (p<q)))) w:=by
 simp[bm,a,b,fI,nt,qG]
theorem Hb(a:ρ x=.int .i64 p)(b:ρ y=.int .i64 q):(bm ρ ⟨d,.binOp .leq T x y T2,ty,pos,af,g⟩).run P w=.ok (.value (.bool (G (p<=q)))) w:=by
 simp[bm,a,b,fI,nt,qG]
theorem BZ(a:ρ x=.int .i64 p)(b:ρ y=.int .i64 q):(bm ρ ⟨d,.binOp .gtr T x y T2,ty,pos,af,g⟩).run P w=.ok (.value (.bool (G (q<p)))) w:=by
 simp[bm,a,b,fI,nt,qG]
theorem HY(a:ρ x=.int .i64 p)(b:ρ y=.int .i64 q):(bm ρ ⟨d,.binOp .geq T x y T2,ty,pos,af,g⟩).run P w=.ok (.value (.bool (G (q<=p)))) w:=by
 simp[bm,a,b,fI,nt,qG]
variable{k:IntKind}
theorem qD(a:ρ x=.int k p)(b:ρ y=.int k q):(bm ρ ⟨d,.binOp .eql T x y T2,ty,pos,af,g⟩).run P w=.ok (.value (.bool (G (p=q)))) w:=by
 simp[bm,a,b,fI,nt,qG];rfl
theorem NZ(a:ρ x=.int k p)(b:ρ y=.int k q):(bm ρ ⟨d,.binOp .neq T x y T2,ty,pos,af,g⟩).run P w=.ok (.value (.bool (G (p≠q)))) w:=by
 simp[bm,a,b,fI,nt,qG];rfl
theorem Lt(a:ρ x=.int .i64 p)(b:ρ y=.int .i64 q)(h: -9223372036854775808<=p+q/\p+q<=9223372036854775807):
  (bm ρ ⟨d,.binOp .add T x y T2,ty,pos,af,g⟩).run P w=.ok (.value (.int .i64 (p+q))) w:=by
 simp[bm,a,b,fI,nt,Op.intArith,W3 h.1 h.2]
theorem Lu(a:ρ x=.int .i64 p)(b:ρ y=.int .i64 q)(h: -9223372036854775808<=p-q/\p-q<=9223372036854775807):
  (bm ρ ⟨d,.binOp .sub T x y T2,ty,pos,af,g⟩).run P w=.ok (.value (.int .i64 (p-q))) w:=by
 simp[bm,a,b,fI,nt,Op.intArith,W3 h.1 h.2]
end
theorem ng{x:br}{T E:bk}{sz:Nat}{a:B nF}{l c:Nat}(b:SliceOf P T E sz)(e:ρ x=.slice a l c):
  (bm ρ ⟨d,.call {callee:=.builtin .len,args:= #[x],argTypes:= #[T]},ty,pos,af,g⟩).run P w=.ok (.value (.int .i64 l)) w:=by
 simp[bm,jK,mw,lQ,zA,e,cD,b.desc,goInt]
theorem r_load1{x:br}{T:bk}{z v:Q}{b o:Nat}{cs:Array Q}{E:bk}{f:Nat×Nat}(e:One P T z)(l:ρ x=.pointer (U ⟨b,o,bh⟩))(i:w.heap[b]? =U (.cells cs E f))(c:cs[o]? =U v):
  (bm ρ ⟨d,.load T x,ty,pos,af,g⟩).run P w=.ok (.value v) w:=by
 obtain⟨a,m,j⟩:=e.desc;have k:w.cell? ⟨b,o,bh⟩=U v:=by simp[fc,i,c]
 cases a<;>simp_all[bm,ud,kl,xt,isAgg,cD]
end
open Go.RowKit
abbrev BS:=Nat->Prop
abbrev BE:BS:=λ_=>False
structure bF(K:BS)(w w':ay):Prop where
 os:w'.os=w.os
 tape:w'.tape=w.tape
 output:w'.output=w.output
 size:w.heap.size<=w'.heap.size
 block:∀b,¬K b->b<w.heap.size->w'.heap[b]? =w.heap[b]?
abbrev Grow(w w':ay):Prop:=bF BE w w'
abbrev Yf(w:ay)(v:Q)(e:sC)(w':ay):Prop:=Grow w w'/\e=.returned v
theorem bF.refl(K:BS)(w:ay):bF K w w:=⟨rfl,rfl,rfl,cj _,λ_ _ _=>rfl⟩
section
variable{a b c:ay}
theorem bF.step{K N:BS}(h:bF K a b)(k:bF N b c)(hN:∀x,N x->x<a.heap.size->K x):bF K a c:=
 ⟨k.os.trans h.os,k.tape.trans h.tape,k.output.trans h.output,cN h.size k.size,λi d hi=>(k.block i (λhn=>d (hN i hn hi)) (er hi h.size)).trans (h.block i d hi)⟩
variable{K:BS}
theorem bF.grow(h:bF K a b)(k:Grow b c):bF K a c:=h.step k (λ_ h=>h.elim)
theorem bF.weaken{K N:BS}{a b:ay}(h:bF K a b)(W:∀x,K x->x<a.heap.size->N x):bF N a b:=⟨h.os,h.tape,h.output,h.size,λi c hi=>h.block i (λhn=>c (W i hn hi)) hi⟩
theorem Grow.keep{a b:ay}(h:Grow a b):bF K a b:=h.weaken (λ_ h=>h.elim)
variable{w:ay}{o:Obj}
theorem jh{b:Nat}(a:w.heap[b]? =U o):b<w.heap.size:=by
  rcases cH b w.heap.size with h1|h1
  · exact h1
  · rw[oY h1]at a;cases a
theorem bF.blk{w w':ay}(h:bF K w w'){b:Nat}(a:w.heap[b]? =U o)(c:¬K b):w'.heap[b]? =U o:=by
 rw[h.block b c (jh a),a]
theorem Grow.blk{w w':ay}(h:Grow w w'){b:Nat}(a:w.heap[b]? =U o):w'.heap[b]? =U o:=bF.blk h a (λh=>h)
theorem Grow.below{w w':ay}(h:Grow w w'):Below w.heap.size w w':=⟨h.os,h.tape,h.output,h.size,λk a=>h.block k (λh=>h) a⟩
theorem Grow.of_below{w w':ay}(h:Below w.heap.size w w'):Grow w w':=⟨h.os,h.tape,h.output,h.size,λk _ a=>h.block k a⟩
theorem Grow.alloc(w:ay)(o:Obj):Grow w (w.alloc o):=Grow.of_below ((Below.refl _ _).alloc (cj _) o)
theorem Pm(w:ay)(o:Obj):(w.alloc o).heap[w.heap.size]? =U o:=by show(w.heap.push o)[w.heap.size]? =U o;simp
theorem alloc_size(w:ay)(o:Obj):(w.alloc o).heap.size=w.heap.size+1:=by show(w.heap.push o).size=_;simp
theorem Grow.drew(w:ay):Grow w w.drew:=⟨rfl,rfl,rfl,cj _,λ_ _ _=>rfl⟩
theorem Grow.trans(h:Grow a b)(k:Grow b c):Grow a c:=h.grow k
structure uQ(α:Type)where
 sz:Nat
 rd:ay->BS->List Q->α->Prop
 len:∀{w A cs x},rd w A cs x->cs.length=sz
 one:∀{w A cs x},rd w A cs x->∀u∈cs,u.oneCell'=bd
 pos:0<sz
 go:∀{w A cs x w' A' K},rd w A cs x->bF K w w'->(∀b,K b->b<w.heap.size->A b)->(∀b,A' b->b<w.heap.size->A b)->rd w' A' cs x
def dN{α:Type}(R:uQ α)(w:ay)(Ys A:BS)(v:Q)(l:H α):Prop:=
 ∃a cap,v=.slice a (O l) cap/\O l<=cap/\cap<=mx/\(a=bh->cap=0)/\
  ∀i (h:i<O l),∃b o cells E c,a=U ⟨b,o,bh⟩/\¬Ys b/\w.heap[b]? =U (.cells cells E c)/\R.rd w A ((cells.toList.drop (o+i*R.sz)).take R.sz) l[i]
abbrev bY{α:Type}(R:uQ α)(w:ay)(A:BS)(v:Q)(l:H α):Prop:=dN R w A A v l
variable{α:Type}{R:uQ α}{v:Q}{l:H α}
theorem dN.go{w w':ay}{Ys f A A' K:BS}(h:dN R w Ys A v l)(e:bF K w w')(c:∀b,K b->b<w.heap.size->Ys b)(q:∀b,K b->b<w.heap.size->A b)(r:∀b,f b->b<w.heap.size->Ys b)(p:∀b,A' b->b<w.heap.size->A b):dN R w' f A' v l:=by
 obtain⟨a,cap,rfl,t,n,u,s⟩:=h;refine⟨a,cap,Z,t,n,u,λi hi=>?_⟩;obtain⟨b,o,cells,E,j,k,g,d,m⟩:=s i hi;exact⟨b,o,cells,E,j,k,λh=>g<|r b h<|jh d,e.blk d λh=>g<|c b h<|jh d,R.go m e q p⟩
theorem dN.sub{Ys a A A':BS}(h:dN R w Ys A v l)(c:∀b,a b->b<w.heap.size->Ys b)(d:∀b,A' b->b<w.heap.size->A b):dN R w a A' v l:=
 h.go (bF.refl BE w) (λ_ h=>h.elim) (λ_ h=>h.elim) c d
variable{Ys A:BS}
theorem dN.src(h:dN R w Ys A v l):dN R w BE A v l:=h.sub (λ_ h=>h.elim) (λ_ h _=>h)
theorem bY.go{w w':ay}{A A' K:BS}(h:bY R w A v l)(d:bF K w w')(a:∀b,K b->b<w.heap.size->A b)(c:∀b,A' b->b<w.heap.size->A b):bY R w' A' v l:=
 dN.go h d a a c c
theorem dN.one(h:dN R w Ys A v l):v.oneCell'=true:=by
 obtain⟨a,cap,rfl,_⟩:=h;rfl
theorem dN.nil:dN R w Ys A (.slice bh 0 0) ([]:H α):=⟨bh,0,rfl,cj _,by unfold mx;omega,λ_=>rfl,λi hi=>ZD hi (ia _)⟩
theorem dN.aZ(h:dN R w Ys A v l):O l<=9223372036854775807:=by
 obtain⟨a,cap,_,c,b,_⟩:=h;unfold mx at b;omega
def uu{α:Type}(R:uQ α):uQ (H α) where
 sz:=1
 rd w A cs l:=∃v,cs=[v]/\bY R w A v l
 len:=by rintro w A cs x ⟨v,rfl,_⟩;rfl
 one:=by
  rintro w A cs x⟨v,rfl,h⟩u hu;simp at hu;subst hu;exact h.one
 pos:=by decide
 go:=by
  rintro w A cs x w' A' K⟨v,rfl,h⟩hk hK hA;exact⟨v,Z,h.go hk hK hA⟩
def dR:uQ Int where
 sz:=1
 rd _ _ cs x:=cs=[.int .i64 x]
 len:=by rintro w A cs x rfl;rfl
 one:=by rintro w A cs x rfl u hu;simp at hu;subst hu;rfl
 pos:=by decide
 go:=λh _ _ _=>h
def rBool:uQ Yi where
 sz:=1
 rd _ _ cs x:=cs=[.bool x]
 len:=by rintro w A cs x rfl;rfl
 one:=by rintro w A cs x rfl u hu;simp at hu;subst hu;rfl
 pos:=by decide
 go:=λh _ _ _=>h
abbrev uH:=H UInt8
def bJ(s:uH):Value:=.string ⟨ar s⟩
def KD:uQ uH where
 sz:=1
 rd _ _ cs x:=cs=[bJ x]
 len:=by rintro w A cs x rfl;rfl
 one:=by rintro w A cs x rfl u hu;simp at hu;subst hu;rfl
 pos:=by decide
 go:=λh _ _ _=>h
def ob:Q->Nat->Prop| .slice (U a) _ _=>λb=>b=a.block|_=>λ_=>False
theorem ob_row{k:Nat}:ob v k↔v.ownBlock=U k:=by
 cases v with
 |slice a l c=>cases a with
  |none=>simp[ob,te]
  |some a=>simp[ob,te];exact eq_comm
 |_=>simp[ob,te]
def dC{α:Type}(R:uQ α)(E:bk)(w:ay)(A:BS)(v:Q)(l:H α):Prop:=
 ∃xs,w.ownsRow 0 E R.sz v (O l) xs/\∀i (h:i<O l),R.rd w (λb=>A b\/ob v b) ((xs.drop (i*R.sz)).take R.sz) l[i]
variable{E:bk}
theorem dC.nil{A:BS}:dC R E w A (.slice bh 0 0) ([]:H α):=
 ⟨[],World.ownsRow_nil _ _ _ _,λi h=>ZD h (ia _)⟩
theorem dC.lt{A:BS}(h:dC R E w A v l):∀k,ob v k->k<w.heap.size:=by
 obtain⟨xs,b,_⟩:=h;intro k a;exact(b.lt k<|ob_row.1 a).2
theorem dC.go{w w':ay}{A A' K:BS}(h:dC R E w A v l)(e:bF K w w')(f:∀b,K b->b<w.heap.size->A b)(d:∀b,K b->¬ob v b)(m:∀b,A' b->b<w.heap.size->A b\/ob v b):dC R E w' A' v l:=by
  obtain⟨xs,c,j⟩:=h;refine⟨xs,?_,λi hi=>R.go (j i hi) e (λb c k=>.inl<|f b c k) λb a hl=>?_⟩
  · refine⟨c.1,?_⟩;rcases c.2 with h|⟨g,cap,cur,rfl,e1,e2,e3⟩
    · exact .inl h
    · exact .inr ⟨g,cap,cur,Z,e1,e.blk e2 (λh=>d g h (by simp[ob])),e3⟩
  · rcases a with a|a
    · exact m b a hl
    · exact .inr a
theorem dC.one{A:BS}(h:dC R E w A v l):v.oneCell'=true:=by
 obtain⟨xs,a,_⟩:=h;rcases a.2 with⟨rfl,_⟩|⟨g,cap,cur,rfl,_⟩<;>rfl
theorem dC.rd{A A':BS}(h:dC R E w A v l)(d:∀b,ob v b->¬A' b)(e:∀b,A' b->b<w.heap.size->A b\/ob v b):bY R w A' v l:=by
  obtain⟨xs,c,a⟩:=h;rcases c.2 with⟨rfl,hn⟩|⟨g,cap,cur,rfl,e1,e2,e3,e4,e5,e6⟩
  · have:l=[]:=cE hn;subst this;exact dN.nil
  · refine⟨U ⟨g,0,bh⟩,cap,Z,e3,e4,(λh=>by cases h),λi hi=>⟨g,0,cur,E,(0,0),Z,d g (by simp[ob]),e2,?_⟩⟩;have:=R.go (A':=A') (a i hi) (bF.refl BE w) (λ_ h=>h.elim) e;rw[<-e6,eo,eh,cX ?_]at this
    · rw[hE];exact this
    · have:(i+1)*R.sz<=O l*R.sz:=bj _ hi;rw[cf]at this;omega
def Lv(es:Array MapEntry)(a:Nat):Prop:=(∀e∈es.toList,e.born<a)/\(es.toList.map (·.born)).Nodup
def N7(w:ay)(b:Nat)(je:H (Int×Q)):Prop:=
 ∃es a,w.heap[b]? =U (.map es a)/\es.toList.map (λe=>(e.key,e.val))=je.map (λp=>(dd .i64 p.1,p.2))/\Lv es a
structure Pce where
 own:BS
 P:ay->BS->Prop
 lt:∀{w A b},P w A->own b->b<w.heap.size
 go:∀{w w' A A' K},P w A->bF K w w'->(∀b,K b->b<w.heap.size->A b)->(∀b,K b->¬own b)->(∀b,A' b->b<w.heap.size->A b\/own b)->P w' A'
inductive Chunk:Type 1 where
 |no
 |rd {α:Type} (R:uQ α) (v:Q) (l:List α)
 |sr {α:Type} (R:uQ α) (v:Q) (l:List α)
 |pt (b o:Nat) (cs:List Q)
 |blk (b:Nat) (cs:List Q)
 |own {α:Type} (R:uQ α) (E:bk) (v:Q) (l:List α)
 |mp (b:Nat) (je:List (Int×Q))
 |rp {α:Type} (R:uQ α) (v:Q) (x:α)
 |two (a b:Chunk)
 |gT (S:Pce)
def Chunk.own':Chunk->BS
 | .blk b _=>λx=>x=b
 | .own _ _ v _=>ob v
 | .mp b _=>λx=>x=b
 | .two a b=>λx=>a.own' x\/b.own' x
 | .gT S=>S.own
 |_=>BE
def Chunk.holds(w:ay)(M ab:BS):Chunk->Prop
 | .no=>True
 | .rd R v l=>bY R w (λb=>M b\/ab b) v l
 | .sr R v l=>dN R w ab (λb=>M b\/ab b) v l
 | .pt b o cs=>¬ab b/\∃cells E c,w.heap[b]? =U (.cells cells E c)/\(cells.toList.drop o).take (O cs)=cs
 | .blk b cs=>∃E,w.heap[b]? =U (.cells (ar cs) E (0,0))
 | .own R E v l=>dC R E w (λb=>M b\/ab b) v l
 | .mp b je=>N7 w b je
 | .rp R v x=>R.rd w (λb=>M b\/ab b) [v] x
 | .two a b=>a.holds w M ab/\b.holds w M ab/\∀x,a.own' x->¬b.own' x
 | .gT S=>S.P w (λb=>M b\/ab b)
theorem Chunk.go{c:Chunk}{w w':ay}{M ab m N:BS}(h:c.holds w M ab)(f:bF N w w')(hN:∀b,N b->b<w.heap.size->ab b)(e:∀b,N b->¬c.own' b)(i:∀b,m b->b<w.heap.size->M b\/ab b)(g:∀b,m b->b<w.heap.size->ab b):c.holds w' M m:=by
 induction c with
 |no=>trivial
 |rd R v l=>exact bY.go h f (λb d hl=>.inr (hN b d hl)) (λb d hl=>d.elim .inl (λd=>i b d hl))
 |sr R v l=>exact dN.go h f hN (λb d hl=>.inr (hN b d hl)) g (λb d hl=>d.elim .inl (λd=>i b d hl))
 |pt b o cs=>
  obtain⟨n,cells,E,p,k,s⟩:=h;exact⟨λh=>n<|g b h<|jh k,cells,E,p,f.blk k λh=>n<|hN b h<|jh k,s⟩
 |blk b cs=>
  obtain⟨E,h⟩:=h;exact⟨E,f.blk h λd=>e b d Z⟩
 |own R E v l=>exact dC.go h f (λb d hl=>.inr (hN b d hl)) e (λb d hl=>.inl (d.elim .inl (λd=>i b d hl)))
 |rp R v x=>exact R.go h f (λb d hl=>.inr (hN b d hl)) (λb d hl=>d.elim .inl (λd=>i b d hl))
 |two a b iha ihb=>exact⟨iha h.1 (λx j q=>e x j (.inl q)),ihb h.2.1 (λx j d=>e x j (.inr d)),h.2.2⟩
 |gT S=>exact S.go h f (λb d hl=>.inr (hN b d hl)) e (λb d hl=>.inl (d.elim .inl (λd=>i b d hl)))
 |mp b je=>
  obtain⟨es,c,h,r⟩:=h;exact⟨es,c,f.blk h λd=>e b d Z,r⟩
theorem Chunk.sub{c:Chunk}{M ab a:BS}(h:c.holds w M ab)(d:∀b,a b->b<w.heap.size->ab b):c.holds w M a:=
 Chunk.go h (bF.refl BE w) (λ_ h=>h.elim) (λ_ h=>h.elim) (λb e hl=>.inr (d b e hl)) d
theorem Chunk.lt{c:Chunk}{M ab:BS}(h:c.holds w M ab):∀b,c.own' b->b<w.heap.size:=by
 intro b d;induction c with
 |no=>exact d.elim
 |rd=>exact d.elim
 |sr=>exact d.elim
 |pt=>exact d.elim
 |blk b' cs=>
  cases d;exact jh h.choose_spec
 |own R E v l=>exact dC.lt h b d
 |rp=>exact d.elim
 |two a c iha ihc=>exact d.elim (λd=>iha h.1 d) (λd=>ihc h.2.1 d)
 |gT S=>exact S.lt h d
 |mp b' je=>
  cases d;obtain⟨_,_,h,_⟩:=h;exact jh h
end
def df(J:Nat->Chunk)(i:Nat)(c:Chunk):Nat->Chunk:=λj=>bif hP j i then c else J j
theorem dJ(J:Nat->Chunk)(i:Nat)(c:Chunk):df J i c i=c:=by simp[df,Nat.beq_refl]
theorem iI{J:Nat->Chunk}{i j:Nat}{c:Chunk}(h:j≠i):df J i c j=J j:=by
 have:hP j i=false:=by rw[fx];intro e;exact h (ix e)
 simp[df,this]
def hno:Nat->Chunk:=λ_=>.no
def kr(J:Nat->Chunk):BS:=λb=>∃j,(J j).own' b
structure SH(I:ay)(M K:BS)(w:ay)(J:Nat->Chunk):Prop where
 keep:bF K I w
 ltM:∀b,M b->b<I.heap.size
 apM:∀i b,(J i).own' b->¬M b
 ok:∀i,(J i).holds w M (kr J)
 apart:∀i j,i≠j->∀b,(J i).own' b->¬(J j).own' b
 old:∀i b,(J i).own' b->b<I.heap.size->K b
section
variable{I w w':ay}{M K:BS}{J:Nat->Chunk}{i:Nat}{c:Chunk}
def rest(J:Nat->Chunk)(i:Nat):BS:=λb=>∃j,j≠i/\(J j).own' b
theorem nV{J:Nat->Chunk}{i b:Nat}(h:rest J i b):kr J b:=let ⟨j,_,h⟩:=h;⟨j,h⟩
abbrev SH.av(J:Nat->Chunk)(i:Nat)(c:Chunk):BS:=λb=>rest J i b\/c.own' b
theorem SH.step{N:BS}(h:SH I M K w J)(i:Nat)(r:bF N w w')(hN:∀b,N b->b<w.heap.size->(J i).own' b)
    (ho:∀b,c.own' b->b<w.heap.size->(J i).own' b) (s:c.holds w' M (SH.av J i c)):SH I M K w' (df J i c):=by
  have t:∀b,M b->b<w.heap.size:=λb a=>er (h.ltM b a) h.keep.size;have l:∀b,kr (df J i c) b->rest J i b\/c.own' b:=by
    rintro b⟨j,n⟩;by_cases e:j=i
    · subst e;rw[dJ]at n;exact .inr n
    · rw[iI e]at n;exact .inl ⟨j,e,n⟩
  have f:∀b,kr (df J i c) b->b<w.heap.size->kr J b:=λb a hl=>(l b a).elim nV λh=>⟨i,ho b h hl⟩;refine⟨?_,h.ltM,?_,?_,?_,?_⟩
  · exact h.keep.step r (λx p hl=>by
      have m:=er hl h.keep.size;exact h.old i x (hN x p m) hl)
  · intro j b a;by_cases e:j=i
    · subst e;rw[dJ]at a;intro q;exact h.apM j b (ho b a<|t b q) q
    · rw[iI e]at a;exact h.apM j b a
  · intro j;by_cases e:j=i
    · subst e;rw[dJ];exact Chunk.sub s λb a _=>l b a
    · rw[iI e];have hl:=h.ok j;refine Chunk.go hl (r.weaken (N:=λb=>N b/\b<w.heap.size) λb a hl=>⟨a,hl⟩) ?_ ?_ ?_ ?_
      · intro b a m;exact⟨i,hN b a.1 m⟩
      · intro b a n;exact h.apart j i e b n<|hN b a.1 a.2
      · exact λb a hl=>.inr<|f b a hl
      · exact f
  · intro j k g b a d;have lt:∀x,x≠i->(J x).own' b->b<w.heap.size:=λx _ p=>Chunk.lt (h.ok x) b p;by_cases e:j=i
    · subst e;have o:k≠j:=λe=>g e.symm;rw[dJ]at a;rw[iI o]at d;exact h.apart j k g b (ho b a<|lt k o d) d
    · rw[iI e]at a;by_cases o:k=i
      · subst o;rw[dJ]at d;exact h.apart j k g b a<|ho b d<|lt j e a
      · rw[iI o]at d;exact h.apart j k g b a d
  · intro j b a hl;by_cases e:j=i
    · subst e;rw[dJ]at a;exact h.old j b (ho b a<|er hl h.keep.size) hl
    · rw[iI e]at a;exact h.old j b a hl
abbrev SH.A(M:BS)(J:Nat->Chunk):BS:=λb=>M b\/kr J b
theorem SH.lt(h:SH I M K w J):∀b,SH.A M J b->b<w.heap.size:=by
  rintro b(a|⟨j,a⟩)
  · exact er (h.ltM b a) h.keep.size
  · exact Chunk.lt (h.ok j) b a
theorem SH.learn(h:SH I M K w J)(i:Nat)(d:Grow w w')(ho:∀b,c.own' b->w.heap.size<=b)(e:c.holds w' M (λb=>kr J b\/c.own' b)):SH I M K w' (df J i c):=
 h.step i d (λ_ h=>h.elim) (λb a hl=>ZD (ho b a) V) (Chunk.sub e (λb a _=>a.imp nV id))
theorem SH.grow(h:SH I M K w J)(c:Grow w w'):SH I M K w' J:=
 ⟨h.keep.grow c,h.ltM,h.apM,λi=>Chunk.go (h.ok i) c (λ_ h=>h.elim) (λ_ h=>h.elim) (λb a _=>.inr a) (λb a _=>a),h.apart,h.old⟩
theorem SH.know(h:SH I M K w J)(i:Nat)(ho:∀b,¬c.own' b)(d:c.holds w M (kr J)):SH I M K w (df J i c):=
 h.learn i (bF.refl BE w) (λb a=>ZD a (ho b)) (Chunk.sub d (λb a _=>a.elim id (λa=>ZD a (ho b))))
section
variable{α:Type}{R:uQ α}{E:bk}{v:Q}{l:H α}
theorem SH.freeze(h:SH I M K w J)(i:Nat)(hi:J i=.own R E v l):SH I M K w (df J i (.rd R v l)):=by
  refine h.step i (bF.refl BE w) (λ_ h=>h.elim) (λb a=>a.elim) ?_;have hl:=h.ok i;rw[hi]at hl;refine dC.rd hl (λb a c=>?_) λb a hl=>?_
  · have d:(J i).own' b:=by rw[hi];exact a
    rcases c with c|⟨j,hj,c⟩|c
    · exact h.apM i b d c
    · exact h.apart j i hj b c d
    · exact c
  · rcases a with a|a|a
    · exact .inl<|.inl a
    · exact .inl<|.inr<|nV a
    · exact a.elim
def C0:H (Nat×Chunk)->Nat->Chunk
 |[]=>hno
 |(i,c)::r=>df (C0 r) i c
def QZ(J:Nat->Chunk):H (Nat×Chunk)->Prop
 |[]=>True
 |(i,c)::r=>J i=c/\QZ J r
theorem hset_is{J:Nat->Chunk}:∀{l:H (Nat×Chunk)},QZ J l->∀j,C0 l j=J j\/C0 l j=.no
  |[],_,_=>.inr Z
  |(i,c)::r,h,j=>by
    by_cases e:j=i
    · subst e;left;show df _ _ _ _=_;rw[dJ];exact h.1.symm
    · show df _ _ _ _=_\/df _ _ _ _=_;rw[iI e];exact hset_is h.2 j
theorem SH.canon(h:SH I M K w J)(l:H (Nat×Chunk))(hl:QZ J l):SH I M K w (C0 l):=by
  have c:=hset_is hl;have own:∀j b,(C0 l j).own' b->(J j).own' b:=by
    intro j b a;rcases c j with e|e
    · rw[e]at a;exact a
    · rw[e]at a;exact a.elim
  refine⟨h.keep,h.ltM,λi b a=>h.apM i b<|own i b a,λi=>?_,λi j f b a d=>h.apart i j f b (own i b a)<|own j b d,λi b a=>h.old i b<|own i b a⟩;rcases c i with e|e
  · rw[e];exact Chunk.sub (h.ok i) λb⟨j,g⟩_=>⟨j,own j b g⟩
  · rw[e];trivial
theorem SH.init{w:ay}{M:BS}(a:∀b,M b->b<w.heap.size):SH w M BE w hno:=
 ⟨bF.refl _ _,a,λ_ _ h=>h.elim,λ_=>trivial,λ_ _ _ _ h=>h.elim,λ_ _ h=>h.elim⟩
theorem SH.wU(h:SH I M K w J)(i:Nat)(d:Grow w w')(ho:dC R E w' (SH.A M J) v l)(a:∀b,ob v b->w.heap.size<=b):SH I M K w' (df J i (.own R E v l)):=
 h.learn i d a (dC.go ho (bF.refl BE w') (λ_ h=>h.elim) (λ_ h=>h.elim) (λb c _=>c.elim (λh=>.inl (.inl h)) (λh=>h.elim (λh=>.inl (.inr h)) .inr)))
theorem SH.wL(h:SH I M K w J)(i:Nat)(a:Grow w w')(ho:bY R w' (SH.A M J) v l):SH I M K w' (df J i (.rd R v l)):=
 h.learn i a (λ_ h=>h.elim) (bY.go ho (bF.refl BE w') (λ_ h=>h.elim) (λb c _=>c.elim .inl (λh=>h.elim .inr (λh=>h.elim))))
theorem SH.az(h:SH I M K w J)(i:Nat)(ho:bY R w (SH.A M J) v l):SH I M K w (df J i (.rd R v l)):=h.wL i (bF.refl BE w) ho
theorem SH.xZ(h:SH I M K w J)(i:Nat)(ho:bY R w M v l)(hn:∀b,¬kr J b):SH I M K w (df J i (.rd R v l)):=
 h.az i (ho.go (bF.refl BE w) (λ_ h=>h.elim) (λb a _=>a.elim id (λh=>ZD h (hn b))))
theorem SH.bR(h:SH I M K w J)(i:Nat)(ho:dN R w BE M v l)(hn:∀b,¬kr J b):SH I M K w (df J i (.sr R v l)):=
 h.know i (λ_ h=>h) (ho.sub (λb a _=>ZD a (hn b)) (λb a _=>a.elim id (λh=>ZD h (hn b))))
theorem SH.dU(h:SH I M K w J)(i:Nat)(hi:J i=.rd R v l):bY R w (SH.A M J) v l:=by
 have:=h.ok i;rw[hi]at this;exact this
theorem SH.srAt(h:SH I M K w J)(i:Nat)(hi:J i=.sr R v l):dN R w (kr J) (SH.A M J) v l:=by
 have:=h.ok i;rw[hi]at this;exact this
theorem SH.bZ(h:SH I M K w J)(i:Nat)(hi:J i=.own R E v l):dC R E w (SH.A M J) v l:=by
 have:=h.ok i;rw[hi]at this;exact this
variable{b:Nat}{cs:H Q}
theorem SH.pU(h:SH I M K w J)(i:Nat)(hi:J i=.blk b cs):∃E,w.heap[b]? =U (.cells (ar cs) E (0,0)):=by
 have:=h.ok i;rw[hi]at this;exact this
theorem SH.ptAt{b o:Nat}(h:SH I M K w J)(i:Nat)(hi:J i=.pt b o cs):∃cells E a,w.heap[b]? =U (.cells cells E a)/\(cells.toList.drop o).take (O cs)=cs:=by
 have:=h.ok i;rw[hi]at this;exact this.2
theorem SH.mpAt{es:H (Int×Q)}(h:SH I M K w J)(i:Nat)(hi:J i=.mp b es):N7 w b es:=by
 have:=h.ok i;rw[hi]at this;exact this
theorem SH.grown(h:SH I M BE w J):Grow I w:=h.keep
theorem Ye{α:Type}{e:α}(h:SH I M BE w J):Grow I w/\e=e:=⟨h.grown,rfl⟩
theorem SH.fresh(h:SH I M BE w J)(i:Nat):∀b,(J i).own' b->I.heap.size<=b:=λb a=>Ab (λhl=>h.old i b a hl)
theorem SH.jL(h:SH I M K w J)(i:Nat)(hi:J i=.rd R v l):dN R w BE (SH.A M J) v l:=(h.dU i hi).src
theorem SH.gz(h:SH I M K w J)(i:Nat)(hi:J i=.sr R v l):dN R w BE (SH.A M J) v l:=(h.srAt i hi).src
theorem dC.src{w:ay}{A:BS}(h:dC R E w A v l):dN R w BE A v l:=by
  obtain⟨xs,a,d⟩:=h;rcases a.2 with⟨rfl,hn⟩|⟨g,cap,cur,rfl,e1,e2,e3,e4,e5,e6⟩
  · have:l=[]:=cE hn;subst this;exact dN.nil
  · refine⟨U ⟨g,0,bh⟩,cap,Z,e3,e4,(λh=>by cases h),λi hi=>⟨g,0,cur,E,(0,0),Z,λh=>h,e2,?_⟩⟩;have:=R.go (A':=A) (d i hi) (bF.refl BE w) (λ_ h=>h.elim) λb c _=>.inl c;rw[<-e6,eo,eh,cX ?_]at this
    · rw[hE];exact this
    · have:(i+1)*R.sz<=O l*R.sz:=bj _ hi;rw[cf]at this;omega
theorem SH.dm(h:SH I M K w J)(i:Nat)(hi:J i=.own R E v l):dN R w BE (SH.A M J) v l:=(h.bZ i hi).src
theorem aF:∀b,¬kr hno b:=λ_⟨_,h⟩=>h
theorem iU{i:Nat}(h:∀b,¬kr J b):∀b,¬kr (df J i (.rd R v l)) b:=by
  rintro b⟨j,a⟩;by_cases e:j=i
  · subst e;rw[dJ]at a;exact a
  · rw[iI e]at a;exact h b ⟨j,a⟩
theorem aD{i:Nat}(h:∀b,¬kr J b):∀b,¬kr (df J i (.sr R v l)) b:=by
  rintro b⟨j,a⟩;by_cases e:j=i
  · subst e;rw[dJ]at a;exact a
  · rw[iI e]at a;exact h b ⟨j,a⟩
end
end
open Go.RowKit
def gv(c:Yi)(v:Q):Value:=(bif c then [v]else []).headD gx
theorem iR{c:Yi}{v:Q}(h:c=bd):gv c v=v:=by rw[h];rfl
theorem gl{a b:Yi}(h:(a&&b)=bd):a=true:=by cases a<;>simp_all
theorem gr{a b:Yi}(h:(a&&b)=bd):b=true:=by cases a<;>simp_all
structure lT(P:cc)(T E:bk)(sz bytes:Nat):Prop where
 desc:P.underlying T=U (.slice E)
 info:∃i z,P.info? E=U i/\i.zero=U z/\i.size=sz/\i.bytes=bytes/\z.cells.size=sz
theorem Y8{P:cc}{T:bk}{z:B Q}{s:Nat}(h:(P.info? T).map (λi=>(i.zero,i.size))=U (z,s)):∃i,P.info? T=U i/\i.zero=z/\i.size=s:=by
 cases hi:P.info? T with
 |none=>simp[hi]at h
 |some i=>simp[hi]at h;exact⟨i,Z,h.1,h.2⟩
def yG(w:ay)(b:Nat)(o:Obj):World:={w with heap:=w.heap.setIfInBounds b o}
theorem wV{w:ay}{b:Nat}{o:Obj}(h:b<w.heap.size):(yG w b o).heap[b]? =U o:=by simp[yG,h]
theorem bF.yG(w:ay)(b:Nat)(o:Obj):bF (λx=>x=b) w (yG w b o):=
 ⟨rfl,rfl,rfl,by simp[LX.yG],λk a _=>by
  have:b≠k:=λe=>a (by simp[e]);show(w.heap.setIfInBounds b o)[k]? =_;rw[Array.getElem?_setIfInBounds_ne this]⟩
theorem setCell_putb{w:ay}{b o:Nat}{cs:Array Q}{E:bk}{c:Nat×Nat}{v:Q}(d:w.heap[b]? =U (.cells cs E c)):w.setCell ⟨b,o,bh⟩ v=yG w b (.cells (cs.setIfInBounds o v) E c):=by
  simp only[World.setCell,yG];congr 1;have a:=jh d;apply qH;intro i;simp only[fh,mb];by_cases hi:b=i
  · subst hi;rw[Z2 rfl,Z2 rfl,Z2 a,d];rfl
  · simp[hi]
theorem N8{w:ay}{b:Nat}{cs a:Array Q}{E:bk}{d:Nat×Nat}(e:w.heap[b]? =U (.cells cs E d)):w.setRow b a=yG w b (.cells a E d):=by
  simp only[World.setRow,yG];congr 1;have c:=jh e;apply qH;intro i;simp only[fh,mb];by_cases hi:b=i
  · subst hi;rw[Z2 rfl,Z2 rfl,Z2 c,e];rfl
  · simp[hi]
def QW(cs:H Q)(o:Nat)(vs:H Q):H Value:=cs.take o++vs++cs.drop (o+O vs)
def At(w:ay)(b o:Nat)(cs:H Q):Prop:=∃cells E a,w.heap[b]? =U (.cells cells E a)/\(cells.toList.drop o).take (O cs)=cs
section
variable{P:cc}{ops:Array ec}{aq:fY->Act->ay->Prop}{n:Nat}{env:Nat->Q}{w w' I:ay}{M K:BS}{J:Nat->Chunk}{rest:H ec}
 {d:B Nat} {op:Op} {ty:bk} {pos:String} {af:Array hR} {v:Q} {g:B (Nat×Yi)} {T:bk} {ρ:br->Q} {x y:br}
section
variable{j dj:Nat}
theorem jY{b want:Yi}(a:Yi)(i:(ops[j]?).bind (·.dst)=U dj)(g:ev n env (.tmp dj)=gv a (.bool b))(p:(a&&(b==want))=bd->(bm (ev n env) ⟨d,op,ty,pos,af,bh⟩).run P w=.ok (.value v) w)(h:WL P ops aq rest n (gy env d (gv (a&&(b==want)) v)) w):
    WL P ops aq (⟨d,op,ty,pos,af,U (j,want)⟩::rest) n env w:=by
  by_cases c:(a&&(b==want))=bd
  · have q:=gl c;have f:=gr c;rw[iR q]at g;rw[iR c]at h;have o:b=want:=by simpa using f
    subst o;exact NY i g<|aC (p c) h
  · have e:(a&&(b==want))=false:=by simpa using c
    rw[e]at h;cases a with
    |true=>
      refine ji i g ?_ h;simpa using e
    |false=>
      have k:ev n env (.tmp dj)=undef:=g;have l:eN ops (C6 n env).tmps j=none:=by
        unfold eN;have f:(C6 n env).eval (.tmp dj)=undef:=by rw[jG];exact k
        simp only[i,cG];simp only[kh]at f;cases h2:(C6 n env).tmps[dj]? with
        |none=>rfl
        |some x=>simp[da,h2]at f;subst f;rfl
      have m:cm ⟨d,op,ty,pos,af,U (j,want)⟩ (eN ops (C6 n env).tmps)=false:=by simp[cm,l]
      refine⟨?_⟩;unfold sL;rw[Z3 (by rw[m];decide),KC];exact h.out
theorem cK{b want:Yi}(c:(ops[j]?).bind (·.dst)=U dj)(e:ev n env (.tmp dj)=.bool b)(a:(b==want)=bd->(bm (ev n env) ⟨d,op,ty,pos,af,bh⟩).run P w=.ok (.value v) w)(h:WL P ops aq rest n (gy env d (gv (b==want) v)) w):
    WL P ops aq (⟨d,op,ty,pos,af,U (j,want)⟩::rest) n env w:=
  jY bd c e (λh=>a (by simpa using h)) (by simpa using h)
variable{c a:br}
theorem Lx{b p:Yi}(i:ρ c=.bool b)(e:ρ a=gv (b==aw) (.bool p))(f:∀v,ρ (.const v)=v):(bm ρ ⟨d,.pick c (.const (.bool bd)) a,ty,pos,af,g⟩).run P w=.ok (.value (.bool (b||p))) w:=by
 cases b<;>simp_all[bm,asBool,gv]
theorem nW{b p:Yi}(f:ρ c=.bool b)(e:ρ a=gv (b==bd) (.bool p))(i:∀v,ρ (.const v)=v):(bm ρ ⟨d,.pick c a (.const (.bool aw)),ty,pos,af,g⟩).run P w=.ok (.value (.bool (b&&p))) w:=by
 cases b<;>simp_all[bm,asBool,gv]
theorem Kt{n:Nat}{env:Nat->Q}:∀v,ev n env (.const v)=v:=λ_=>rfl
theorem rD{T:bk}{b:Yi}(a:ρ x=.bool b):(bm ρ ⟨d,.unOp .not T x,ty,pos,af,g⟩).run P w=.ok (.value (.bool !b)) w:=r_not a
variable{T2:bk}{p q:Yi}
theorem HT(c:P.underlying T=U .bool)(a:ρ x=.bool p)(b:ρ y=.bool q):(bm ρ ⟨d,.binOp .eql T x y T2,ty,pos,af,g⟩).run P w=.ok (.value (.bool (p==q))) w:=by
 simp[bm,a,b,fI,nt,run_equal_bool w T p q c]
theorem LA(c:P.underlying T=U .bool)(a:ρ x=.bool p)(b:ρ y=.bool q):(bm ρ ⟨d,.binOp .neq T x y T2,ty,pos,af,g⟩).run P w=.ok (.value (.bool (p !=q))) w:=by
 simp[bm,a,b,fI,nt,run_equal_bool w T p q c,bne]
variable{z:Q}{b o:Nat}{cs:H Q}
theorem jA(h:SH I M K w J)(i:Nat)(hi:J i=.blk b cs)(f:One P T z)(c:ρ x=.pointer (U ⟨b,o,bh⟩))(e:cs[o]? =U v):
 (bm ρ ⟨d,.load T x,ty,pos,af,g⟩).run P w=.ok (.value v) w:=let ⟨_,a⟩:=h.pU i hi;r_load1 f c a (by simpa using e)
variable{zs vs:H Q}{E:bk}
theorem r_loadN{cells:Array Q}{q:Nat×Nat}(k:zg P T zs)(r:ρ x=.pointer (U ⟨b,o,bh⟩))(f:w.heap[b]? =U (.cells cells E q))(p:(cells.toList.drop o).take (O zs)=vs)(hl:O vs=O zs):
    (bm ρ ⟨d,.load T x,ty,pos,af,g⟩).run P w=.ok (.value (.agg (ar vs))) w:=by
  obtain⟨i,hi,u,W⟩:=Y8 k.info;obtain⟨s,t,m⟩:=k.desc;have n:∀j v,vs[j]? =U v->w.cell? ((⟨b,o,bh⟩:nF).add j)=U v:=by
    intro j v a;have c:j<O zs:=by
      rcases cH j (O vs) with h|h
      · omega
      · rw[bG h]at a;cases a
    rw[<-p,ca,Z2 c,ct]at a;by_cases e:j=0
    · subst e;simpa[jI,fc,f]using a
    · simpa[jI,fc,f,e]using a
  have l:=B7 (P:=P) (w:=w) ⟨b,o,bh⟩ vs n;rw[hl]at l;cases s<;>simp at m<;>simp[bm,ud,r,kl,xt,isAgg,cD,t,hO,ee,hi,W,l]
theorem vE(h:SH I M K w J)(i:Nat)(hi:J i=.blk b cs)(f:zg P T zs)(c:ρ x=.pointer (U ⟨b,o,bh⟩))(e:(cs.drop o).take (O zs)=vs)(hl:O vs=O zs):
 (bm ρ ⟨d,.load T x,ty,pos,af,g⟩).run P w=.ok (.value (.agg (ar vs))) w:=let ⟨_,a⟩:=h.pU i hi;r_loadN f c a (by simpa using e) hl
theorem jm{b o k:Nat}(h:At w b o cs)(l:One P T z)(i:ρ x=.pointer (U ⟨b,o+k,bh⟩))(a:cs[k]? =U v):
    (bm ρ ⟨d,.load T x,ty,pos,af,g⟩).run P w=.ok (.value v) w:=by
  obtain⟨cells,E,m,j,f⟩:=h;refine r_load1 l i j ?_;have e:k<O cs:=by
    rcases cH k (O cs) with h1|h1
    · exact h1
    · rw[bG h1]at a;cases a
  have c:((cells.toList.drop o).take (O cs))[k]? =U v:=by rw[f];exact a
  rw[ca,Z2 e,ct]at c;simpa using c
variable{α:Type}{l:H α}
theorem N5{o k m s:Nat}{cs:H α}(h:(l.drop o).take s=cs)(a:k+m<=s):(l.drop (o+k)).take m=(cs.drop k).take m:=by
 rw[<-h,eo,eh,pC,cX V]
theorem ja{b o k:Nat}(h:At w b o cs)(e:zg P T zs)(j:ρ x=.pointer (U ⟨b,o+k,bh⟩))(c:(cs.drop k).take (O zs)=vs)(hl:O vs=O zs)(a:k+O zs<=O cs):
  (bm ρ ⟨d,.load T x,ty,pos,af,g⟩).run P w=.ok (.value (.agg (ar vs))) w:=by
 obtain⟨cells,E,l,i,f⟩:=h;exact r_loadN e j i (by rw[N5 f a];exact c) hl
theorem ug{b o k:Nat}(h:SH I M K w J)(i:Nat)(hi:J i=.pt b o cs)(c:One P T z)(e:ρ x=.pointer (U ⟨b,o+k,bh⟩))(a:cs[k]? =U v):
 (bm ρ ⟨d,.load T x,ty,pos,af,g⟩).run P w=.ok (.value v) w:=jm (h.ptAt i hi) c e a
theorem Ti{b o k:Nat}(h:SH I M K w J)(i:Nat)(hi:J i=.pt b o cs)(e:zg P T zs)(f:ρ x=.pointer (U ⟨b,o+k,bh⟩))(c:(cs.drop k).take (O zs)=vs)(hl:O vs=O zs)(a:k+O zs<=O cs):
 (bm ρ ⟨d,.load T x,ty,pos,af,g⟩).run P w=.ok (.value (.agg (ar vs))) w:=ja (h.ptAt i hi) e f c hl a
theorem dI{b o k off:Nat}(j:fF P T k off)(e:ρ x=.pointer (U ⟨b,o,bh⟩)):
  (bm ρ ⟨d,.fieldAddr T x k,ty,pos,af,g⟩).run P w=.ok (.value (.pointer (U ⟨b,o+off,bh⟩))) w:=by
 obtain⟨fs,f,s,l,m,n,a⟩:=j.desc;obtain⟨i,hi,W⟩:∃i,P.info? f.type=U i/\i.size=s+1:=by
  cases hi:P.info? f.type with
  |none=>simp[hi]at a
  |some i=>simp[hi]at a;exact⟨i,Z,a⟩
 by_cases c:off=0<;>simp[bm,Instr.fieldAt,cD,l,m,e,kl,fieldPlace,hO,ee,hi,W,n,jI,c]
theorem qz{a:nF}(b:ρ x=.pointer (U a)):(bm ρ ⟨d,.nilCheck x,ty,pos,af,g⟩).run P w=.ok (.value (.pointer (U a))) w:=by
 simp[bm,b]
variable{sz:Nat}{Ys A:BS}{w1:ay}
theorem sV{R:uQ α}(c:SliceOf P T E sz)(e:ρ x=v)(b:dN R w1 Ys A v l):
  (bm ρ ⟨d,.call {callee:=.builtin .len,args:= #[x],argTypes:= #[T]},ty,pos,af,g⟩).run P w=.ok (.value (.int .i64 (O l))) w:=by
 obtain⟨a,cap,rfl,_⟩:=b;exact ng c e
theorem F3{s:uH}(c:P.underlying T=U .string)(a:ρ x=bJ s):
  (bm ρ ⟨d,.call {callee:=.builtin .len,args:= #[x],argTypes:= #[T]},ty,pos,af,g⟩).run P w=.ok (.value (.int .i64 (O s))) w:=by
 have b:(⟨ar s⟩:ByteArray).size=O s:=by simp[me]
 simp[bm,jK,mw,lQ,zA,a,bJ,cD,c,goInt,b]
variable{k:Int}
theorem r_ix{R:uQ α}{a:α}(p:SliceOf P T E R.sz)(s:dN R w1 Ys A v l)(m:0<=k)(e:l[k.toNat]? =U a):
    ∃b o cs,(∀(ρ:br->Q) x y w d ty pos af g,ρ x=v->ρ y=.int .i64 k->(bm ρ ⟨d,.indexAddr T x y,ty,pos,af,g⟩).run P w=.ok (.value (.pointer (U ⟨b,o,bh⟩))) w)/\¬Ys b/\At w1 b o cs/\R.rd w1 A cs a:=by
  have c:k.toNat<O l:=by
    rcases cH k.toNat (O l) with h|h
    · exact h
    · rw[bG h]at e;cases e
  obtain⟨a',cap,rfl,ry,w0,K,al⟩:=s;obtain⟨b,o,cells,F,t,rfl,C,r,n⟩:=al k.toNat c;obtain⟨i,hi,W⟩:∃i,P.info? E=U i/\i.size=R.sz:=by
    have:=p.info;cases hi:P.info? E with
    |none=>simp[hi]at this
    |some i=>simp[hi]at this;exact⟨i,Z,this⟩
  have f:l[k.toNat]=a:=by rw[bl c]at e;exact dq e
  rw[f]at n;refine⟨b,o+k.toNat*R.sz,_,?_,C,⟨cells,F,t,r,by rw[R.len n]⟩,n⟩;intro ρ x y w d ty pos af g z u;simp only[bm,AT,z,u,kq,cD,hO,ee];have q:(⟨b,o,bh⟩:nF).add (k.toNat*R.sz)=⟨b,o+k.toNat*R.sz,bh⟩:=by
    unfold jI;split
    · next hz=>rw[hz];rfl
    · rfl
  have j:k<(O l:Int):=by omega
  simp[p.desc,hi,W,m,j,q]
theorem SH.pt(h:SH I M K w J)(i:Nat)(c:¬kr J b)(a:At w b o cs):SH I M K w (df J i (.pt b o cs)):=
 h.know i (λ_ h=>h) ⟨c,a⟩
variable{i:Nat}
theorem SU{c:Chunk}(d:∀b,¬c.own' b):∀b,kr (df J i c) b->kr J b:=by
  rintro b⟨j,a⟩;by_cases e:j=i
  · subst e;rw[dJ]at a;exact ZD a (d b)
  · rw[iI e]at a;exact⟨j,a⟩
theorem dN.up{R:uQ α}{c:Chunk}(h:bY R w (SH.A M J) v l)(d:∀b,¬c.own' b:=by exact λ_ h=>h):bY R w (SH.A M (df J i c)) v l:=
 h.sub (λb a _=>a.imp id (SU d b)) (λb a _=>a.imp id (SU d b))
abbrev T1(P:cc)(T:bk)(v:Q)(k:Int)(p:Q):Prop:=∀(ρ:br->Q) x y w d ty pos af g,ρ x=v->ρ y=.int .i64 k->(bm ρ ⟨d,.indexAddr T x y,ty,pos,af,g⟩).run P w=.ok (.value p) w
theorem SH.ixR{R:uQ α}{a:α}(h:SH I M K w J)(i j:Nat)(hi:J i=.rd R v l)(f:SliceOf P T E sz)(W:R.sz=sz)(c:0<=k)(d:l[k.toNat]? =U a):
  ∃b o cs,SH I M K w (df J j (.pt b o cs))/\R.rd w (SH.A M J) cs a/\T1 P T v k (.pointer (U ⟨b,o,bh⟩)):=by
 subst W;obtain⟨b,o,cs,g,m,p,e⟩:=r_ix f (h.dU i hi) c d;exact⟨b,o,cs,h.pt j (λn=>m<|.inr n) p,e,g⟩
theorem SH.ixS{R:uQ α}{a:α}(h:SH I M K w J)(i j:Nat)(hi:J i=.sr R v l)(f:SliceOf P T E sz)(W:R.sz=sz)(c:0<=k)(d:l[k.toNat]? =U a):
  ∃b o cs,SH I M K w (df J j (.pt b o cs))/\R.rd w (SH.A M J) cs a/\T1 P T v k (.pointer (U ⟨b,o,bh⟩)):=by
 subst W;obtain⟨b,o,cs,g,m,n,e⟩:=r_ix f (h.srAt i hi) c d;exact⟨b,o,cs,h.pt j m n,e,g⟩
def Wq(o:B Q)(a:Int)(b:Nat):Prop:=(o=bh/\a=b)\/o=U (.int .i64 a)
def cut{α:Type}(l:H α)(a b:Int):H α:=(l.take b.toNat).drop a.toNat
theorem r_slv{R:uQ α}{a b:Int}(N:SliceOf P T E R.sz)(hv:dN R w1 Ys A v l)(ha:0<=a)(k:a<=b)(ab:b<=O l):
    ∃u,(∀(ρ:br->Q) x (lo hi:B br) w d ty pos af g,ρ x=v->Wq (lo.map ρ) a 0->Wq (hi.map ρ) b (O l)->(bm ρ ⟨d,.slice T x lo hi bh,ty,pos,af,g⟩).run P w=.ok (.value u) w)/\dN R w1 Ys A u (cut l a b)/\(∀(n:ay) (p m:BS) (f:H α),dN R n p m v f->O f=O l->dN R n p m u (cut f a b)):=by
  obtain⟨a,rfl⟩:=cl ha;obtain⟨b,rfl⟩:=cl (by omega:0<=b);have k:a<=b:=by omega
  have ab:b<=O l:=by omega
  obtain⟨ad,cap,rfl,S,M,z,K⟩:=hv;obtain⟨i,w0,s⟩:∃i,P.info? E=U i/\i.size=R.sz:=by
    have:=N.info;cases hi:P.info? E with
    |none=>simp[hi]at this
    |some i=>simp[hi]at this;exact⟨i,Z,this⟩
  have q:b<=cap:=by omega
  refine⟨.slice (if cap=a then ad else ad.map (·.add (a*R.sz))) (b-a)<|cap-a,fun ρ x lo hi w d ty pos af g hx y t=>?_,?_⟩
  · have r:(dt bd (O l) cap (lo.map ρ) (hi.map ρ) bh).run P w=.ok (a,b,cap) w:=by
      have h0:(0:Int)<=(a:Int):=kc a;have a3:(0:Int)<=(b:Int):=kc b;have a4:(a:Int)<=(b:Int):=by omega
      have a1:(b:Int)<=(cap:Int):=by omega
      rcases y with⟨e,aq⟩|e<;>rcases t with⟨f1,f2⟩|f1
      · obtain rfl:a=0:=by omega
        obtain rfl:b=O l:=by omega
        simp[dt,e,f1]
      · obtain rfl:a=0:=by omega
        simp[dt,e,f1,eK,kq,q]
      · obtain rfl:b=O l:=by omega
        simp[dt,e,f1,eK,kq,k]
      · simp[dt,e,f1,eK,kq,k,q]
    simp only[bm,lp,lR,cD,hx];simp[N.desc,r,hO,ee,w0,s]
  suffices Zs:∀(n:ay) (p m:BS) (f:H α),dN R n p m (.slice ad (O l) cap) f->O f=O l->dN R n p m (.slice (if cap=a then ad else ad.map (·.add (a*R.sz))) (b-a) (cap-a)) (cut f a b)from⟨Zs _ _ _ l ⟨ad,cap,Z,S,M,z,K⟩ Z,Zs⟩
  · intro w1 Ys A l⟨a2,X,e0,S,M,z,K⟩a5;obtain⟨C,a0,al⟩:=Value.slice.inj e0;subst C;subst al;have ab:b<=O l:=by omega
    have c:O (cut l a b)=b-a:=by simp[cut];omega
    refine⟨_,cap-a,by rw[c],by rw[c];omega,by omega,?_,?_⟩
    · intro hn;split at hn
      · omega
      · cases ad with
        |none=>have:=z Z;omega
        |some x=>simp at hn
    · intro j ry;rw[c]at ry;obtain⟨bb,o,cells,F,fz,e,aq,e3,e4⟩:=K (a+j) V;subst e;refine⟨bb,o+a*R.sz,cells,F,fz,?_,aq,e3,?_⟩
      · rw[Z3 V];simp only[dk,eV];unfold jI;split
        · next hz=>rw[hz];rfl
        · rfl
      · have:(cut l a b)[j]'(by rw[c];exact ry)=l[a+j]'V:=by simp[cut]
        rw[this];rw[show o+a*R.sz+j*R.sz=o+(a+j)*R.sz by rw[cf,ki]];exact e4
theorem r_sl{R:uQ α}{a b:Int}(j:SliceOf P T E R.sz)(e:dN R w1 Ys A v l)(i:0<=a)(c:a<=b)(f:b<=O l):
  ∃u,(∀(ρ:br->Q) x (lo hi:B br) w d ty pos af g,ρ x=v->Wq (lo.map ρ) a 0->Wq (hi.map ρ) b (O l)->(bm ρ ⟨d,.slice T x lo hi bh,ty,pos,af,g⟩).run P w=.ok (.value u) w)/\dN R w1 Ys A u (cut l a b):=
 let ⟨u,k,m,_⟩:=r_slv j e i c f;⟨u,k,m⟩
abbrev SlOk(P:cc)(T:bk)(v:Q)(a b:Int)(n:Nat)(u:Q):Prop:=∀(ρ:br->Q) x (lo hi:B br) w d ty pos af g,ρ x=v->Wq (lo.map ρ) a 0->Wq (hi.map ρ) b n->(bm ρ ⟨d,.slice T x lo hi bh,ty,pos,af,g⟩).run P w=.ok (.value u) w
theorem SH.slR{R:uQ α}{a b:Int}(h:SH I M K w J)(i j:Nat)(hi:J i=.rd R v l)(e:SliceOf P T E sz)(W:R.sz=sz)(d:0<=a)(c:a<=b)(g:b<=O l):
  ∃u,SH I M K w (df J j (.rd R u (cut l a b)))/\SlOk P T v a b (O l) u:=by
 subst W;obtain⟨u,f,k⟩:=r_sl e (h.dU i hi) d c g;exact⟨u,h.az j k,f⟩
theorem SH.slS{R:uQ α}{a b:Int}(h:SH I M K w J)(i j:Nat)(hi:J i=.sr R v l)(e:SliceOf P T E sz)(W:R.sz=sz)(d:0<=a)(c:a<=b)(g:b<=O l):
  ∃u,SH I M K w (df J j (.sr R u (cut l a b)))/\SlOk P T v a b (O l) u:=by
 subst W;obtain⟨u,f,k⟩:=r_sl e (h.srAt i hi) d c g;exact⟨u,h.know j (λ_ h=>h) k,f⟩
theorem r_allocN{zs:H Q}(a:zg P T zs):(bm ρ ⟨d,.alloc T,ty,pos,af,g⟩).run P w=.ok (.value (.pointer (U ⟨w.heap.size,0,bh⟩))) (w.alloc (.cells (ar zs) T)):=by
 obtain⟨i,hi,b,W⟩:=Y8 a.info;simp[bm,Instr.alloc,my,ee,hi,b,newVar,xv,uI,nv,-km]
theorem r_alloc1(a:One P T z):(bm ρ ⟨d,.alloc T,ty,pos,af,g⟩).run P w=.ok (.value (.pointer (U ⟨w.heap.size,0,bh⟩))) (w.alloc (.cells #[z] T)):=by
 obtain⟨i,hi,b,W⟩:=Y8 a.info;simp[bm,Instr.alloc,my,ee,hi,b,newVar,xv,a.cell,nv,-km]
theorem r_box(a:ρ x=v):(bm ρ ⟨d,.box T x,ty,pos,af,g⟩).run P w=.ok (.value (.pointer (U ⟨w.heap.size,0,bh⟩))) (w.alloc (.cells v.cells T)):=by
 simp[bm,Instr.box,newVar,xv,a,nv,-km]
theorem SH.newB(h:SH I M K w J)(i:Nat)(cs:H Q)(T:bk):SH I M K (w.alloc (.cells (ar cs) T)) (df J i (.blk w.heap.size cs)):=
 h.learn i (Grow.alloc _ _) (λb a=>po a.symm) ⟨T,Pm _ _⟩
theorem aK{zs:H Q}(h:SH I M K w J)(i:Nat)(a:zg P T zs)(k:∀w' b,SH I M K w' (df J i (.blk b zs))->WL P ops aq rest n (gy env d (.pointer (U ⟨b,0,bh⟩))) w'):WL P ops aq (⟨d,.alloc T,ty,pos,af,bh⟩::rest) n env w:=
 aC (r_allocN a) (k _ _ (h.newB i zs T))
theorem uw(h:SH I M K w J)(i:Nat)(a:One P T z)(k:∀w' b,SH I M K w' (df J i (.blk b [z]))->WL P ops aq rest n (gy env d (.pointer (U ⟨b,0,bh⟩))) w'):WL P ops aq (⟨d,.alloc T,ty,pos,af,bh⟩::rest) n env w:=
 aC (r_alloc1 a) (k _ _ (h.newB i [z] T))
theorem eF(h:SH I M K w J)(i:Nat)(a:ev n env x=v)(c:v.cells=ar cs)(k:∀w' b,SH I M K w' (df J i (.blk b cs))->WL P ops aq rest n (gy env d (.pointer (U ⟨b,0,bh⟩))) w'):WL P ops aq (⟨d,.box T x,ty,pos,af,bh⟩::rest) n env w:=
 aC (by rw[r_box a,c]) (k _ _ (h.newB i cs T))
theorem Y9{cs:Array Q}(m:One P T z)(k:ρ x=.pointer (U ⟨b,o,bh⟩))(a:w.heap[b]? =U (.cells cs E (0,0)))(ho:o<cs.size)(j:ρ y=v)(e:v.oneCell'=bd):
  (bm ρ ⟨d,.store T x y,ty,pos,af,g⟩).run P w=.ok .skip (yG w b (.cells (cs.setIfInBounds o v) E (0,0))):=by
 obtain⟨i,hi,n,W⟩:=Y8 m.info;have f:w.cell? ⟨b,o,bh⟩=U cs[o]:=by simp[fc,a,ho]
 have l:w.frozen? ⟨b,o,bh⟩=false:=by simp[qt,a]
 have c:v.cells= #[v]:=by cases v<;>first|rfl|simp[db]at e
 rw[<-setCell_putb a];simp only[bm,AW,k,j,kl,storeVar,c,hO,ee];simp[hi,W,storeCells,run_store _ _ _ _ _ e,f,l,jI]
theorem Za(j:zg P T zs)(f:ρ x=.pointer (U ⟨b,o,bh⟩))(a:w.heap[b]? =U (.cells (ar cs) E (0,0)))(e:ρ y=.agg (ar vs))(hl:O vs=O zs)(ho:o+O vs<=O cs)(c:∀v∈vs,v.oneCell'=bd):
  (bm ρ ⟨d,.store T x y,ty,pos,af,g⟩).run P w=.ok .skip (yG w b (.cells (ar (QW cs o vs)) E (0,0))):=by
 obtain⟨i,hi,k,W⟩:=Y8 j.info;have:=tf (P:=P) b o E vs 0 (ar cs) w a (by simpa using ho) c;simp only[bm,AW,f,e,kl,storeVar,uI,hO,ee];simp[hi,W,hl,this,N8 a,QW]
theorem SH.putB{b:Nat}(h:SH I M K w J)(i:Nat)(hi:J i=.blk b cs)(a:H Q)(E:bk):SH I M K (yG w b (.cells (ar a) E (0,0))) (df J i (.blk b a)):=by
 have d:=h.pU i hi;obtain⟨e,d⟩:=d;exact h.step i (bF.yG _ _ _) (λx c _=>by rw[hi];exact c) (λx c _=>by rw[hi];exact c) ⟨E,wV (jh d)⟩
theorem fK(h:SH I M K w J)(i:Nat)(a:H Q)(hi:J i=.blk b cs)(e:One P T z)(j:ev n env x=.pointer (U ⟨b,o,bh⟩))(f:ev n env y=v)(ho:cs.set o v=a)(hl:mv o (O cs)=bd)(c:v.oneCell'=bd)(k:∀w',SH I M K w' (df J i (.blk b a))->WL P ops aq rest n (gy env d gx) w'):
  WL P ops aq (⟨d,.store T x y,ty,pos,af,bh⟩::rest) n env w:=by
 obtain⟨E,g⟩:=h.pU i hi;refine BX (Y9 e j g (by rw[pn]at hl;simpa using hl) f c) (k _ ?_);have:=h.putB i hi a E;subst ho;simpa using this
theorem w_stN(h:SH I M K w J)(i:Nat)(a:H Q)(hi:J i=.blk b cs)(f:zg P T zs)(l:ev n env x=.pointer (U ⟨b,o,bh⟩))(g:ev n env y=.agg (ar vs))(hl:O vs=O zs)(ho:QW cs o vs=a)(j:lr (o+O vs) (O cs)=bd)(e:∀v∈vs,v.oneCell'=bd)(k:∀w',SH I M K w' (df J i (.blk b a))->WL P ops aq rest n (gy env d gx) w'):
  WL P ops aq (⟨d,.store T x y,ty,pos,af,bh⟩::rest) n env w:=by
 obtain⟨E,c⟩:=h.pU i hi;subst ho;exact BX (Za f l c g hl (gC j) e)<|k _<|h.putB i hi _ E
def V3(P:cc)(f:mT):Prop:=∃fn,P.funcs[f]? =U fn/\(fn.name== "runtime.NumGoroutine")=aw/\fn.body.isNone=aw
variable{f:mT}{first captured:Array Q}
theorem r_call{xs:Array br}{ts:Array bk}(c:V3 P f)(j:ρ x=.func (.func f) first captured):
  (bm ρ ⟨d,.call {callee:=.value x,args:=xs,argTypes:=ts},ty,pos,af,g⟩).run P w=.ok (.enter f (first++xs.map ρ++captured)) w:=by
 obtain⟨fn,i,k,l⟩:=c;have a:¬fn.name= "runtime.NumGoroutine" :=by simpa using k
 have b:¬fn.body=none:=λe=>by simp[e]at l
 simp[bm,jK,j,Deferred.ofValue,mw,callFunc,i,a,b]
variable{args:H Q}{R:sC->ay->Prop}
theorem OC{xs:Array br}{ts:Array bk}(g:V3 P f)(b:ev n env x=.func (.func f) first captured)(c:first.toList++xs.toList.map (ev n env)++captured.toList=args)(a:bp P f (ar args) w R)(h:∀e w',R e w'->∃v,e=.returned v/\WL P ops aq rest n (gy env d v) w'):
  WL P ops aq (⟨d,.call {callee:=.value x,args:=xs,argTypes:=ts},ty,pos,af,bh⟩::rest) n env w:=by
 refine wl_enter (r_call g b) ?_ h;have:first++xs.map (ev n env)++captured=ar args:=by
  rw[<-c];apply mC;simp
 rw[this];exact a
theorem ON{vs:H Q}(a:ρ x=.tuple (ar vs))(b:vs[i]? =U v):(bm ρ ⟨d,.extract x i,ty,pos,af,g⟩).run P w=.ok (.value v) w:=by
 simp[bm,Instr.extract,a,b]
theorem ni{first captured:Array br}{c1 c2:H Q}(b:first.toList.map ρ=c1)(e:captured.toList.map ρ=c2):
  (bm ρ ⟨d,.makeFunc (.func f) first captured,ty,pos,af,g⟩).run P w=.ok (.value (.func (.func f) (ar c1) (ar c2))) w:=by
 have c:first.map ρ=ar c1:=by rw[<-b];apply mC;simp
 have a:captured.map ρ=ar c2:=by rw[<-e];apply mC;simp
 simp[bm,Instr.makeFunc,c,a]
variable{fn:Func}
theorem calls_start{c:Code}{n:Nat}(a:P.funcs[f]? =U fn)(b:fn.body=U c)(hn:fn.ntmps=n)(hl:O args<=n)(h:WC P c (ks P fn R) n (HD args) w):bp P f (ar args) w R:=by
 refine calls_of_wp a b ?_;rw[hn,act_init n args hl];exact h.out
theorem gp{t:Tmp}(b:fn.results= #[.tmp t])(a:ev n env (.tmp t)=v)(h:R (.returned v) w):ks P fn R .ret (C6 n env) w:=by
 refine⟨Z,v,?_,h⟩;rw[results_tmp b];have:=congrFun (jG n env)<|.tmp t;rw[a]at this;exact ZS (λv=>we v w) this
theorem fin0(a:fn.results= #[])(h:R (.returned (.tuple #[])) w):ks P fn R .ret (C6 n env) w:=⟨rfl,_,results_none a _ _ _,h⟩
theorem Pn(a:fn.results= #[])(h:R (.returned (.tuple #[])) w):ks P fn R .normal (C6 n env) w:=⟨rfl,_,results_none a _ _ _,h⟩
theorem fin2{t u:Tmp}{v1 v2:Q}(d:fn.results= #[.tmp t,.tmp u])(c:ev n env (.tmp t)=v1)(e:ev n env (.tmp u)=v2)(h:R (.returned (.tuple #[v1,v2])) w):ks P fn R .ret (C6 n env) w:=by
 refine⟨Z,_,?_,h⟩;rw[results_tmp2 d];have a:=congrFun (jG n env)<|.tmp t;have b:=congrFun (jG n env)<|.tmp u;rw[c]at a;rw[e]at b;simp only[kh]at a b;rw[a,b]
end
end
section
variable{α β σ ρ:Type}{r:ρ}{al:Prop}
theorem eP{b:Yi}{X a:ρ}(W:cond b X a=r)(d:b=bd->X=r->al)(c:b=aw->a=r->al):al:=by
  cases b
  · exact c Z W
  · exact d Z W
theorem aO{o:B α}{f:α->B β}{r:β}(h:o.bind f=U r):∃x,o=U x/\f x=U r:=by
 cases o with
 |none=>cases h
 |some x=>exact⟨x,rfl,h⟩
def iE(p:Prop) [Decidable p](x:B β):B β:=if p then x else bh
theorem dh{p:Prop} [Decidable p]{x:B β}{r:β}(h:iE p x=some r):p/\x=some r:=by
  unfold iE at h;by_cases J:p
  · rw[Z2 J]at h;exact⟨J,h⟩
  · rw[Z3 J]at h;cases h
def vj(l:H α)(k:Int):B α:=if 0<=k then l[k.toNat]? else bh
theorem aN{l:H α}{k:Int}{x:α}(h:vj l k=U x):0<=k/\l[k.toNat]? =U x:=by
  unfold vj at h;by_cases J:0<=k
  · rw[Z2 J]at h;exact⟨J,h⟩
  · rw[Z3 J]at h;cases h
def sub?(l:H α)(a b:Int):B (H α):=if 0<=a/\a<=b/\b<=O l then U (cut l a b)else bh
theorem HZ{l:H α}{a b:Int}{x:H α}(h:sub? l a b=U x):x=cut l a b/\0<=a/\a<=b/\b<=O l:=by
  unfold sub? at h;by_cases J:0<=a/\a<=b/\b<=O l
  · rw[Z2 J]at h;cases h;exact⟨Z,J⟩
  · rw[Z3 J]at h;cases h
def ky(x:Int):Prop:= -9223372036854775808<=x/\x<=9223372036854775807
def i64b:Int->Yi
 | .ofNat n=>lr n 9223372036854775807
 | .negSucc n=>lr n 9223372036854775807
theorem i64b_iff{x:Int}:i64b x=bd↔ky x:=by
 unfold ky;cases x with
 |ofNat n=>simp[i64b,Nat.ble_eq];omega
 |negSucc n=>simp[i64b,Nat.ble_eq];omega
instance (x:Int):Decidable (ky x):=decidable_of_iff (i64b x=bd) i64b_iff
theorem ky.mk{x:Int}(b: -9223372036854775808<=x)(a:x<=9223372036854775807):ky x:=⟨b,a⟩
def vh(body:α->σ->(σ->ρ)->ρ)(k:σ->ρ):H α->σ->ρ
 |[],s=>k s
 |x::r,s=>body x s (vh body k r)
def ib(body:Int->α->σ->(σ->ρ)->ρ)(k:σ->ρ):Int->H α->σ->ρ
 |_,[],s=>k s
 |i,x::r,s=>body i x s (ib body k (i+1) r)
def zE(body:Int->σ->(σ->ρ)->ρ)(k:σ->ρ):Int->Nat->σ->ρ
 |_,0,s=>k s
 |i,m+1,s=>body i s (zE body k (i+1) m)
def zy(body:σ->(σ->B β)->B β):Nat->σ->B β
 |0,_=>bh
 |n+1,s=>body s (zy body n)
end
section
variable{P:cc}{aq:fY->Act->ay->Prop}{n:Nat}{env:Nat->Q}{w:ay}{x y:Code}
theorem ek{ρ:Type}{r X a:ρ}{c:br}{b:Yi}(W:cond b X a=r)(d:ev n env c=.bool b)(e:b=bd->X=r->WC P x aq n env w)(f:b=aw->a=r->WC P y aq n env w):
 WC P (ub c x y) aq n env w:=wT d (λh=>e h (by rw[h]at W;exact W)) (λh=>f h (by rw[h]at W;exact W))
def JL{σ:Type}(n:Nat)(mod:Nat->Yi)(HD:Nat->Q)(live:σ->H (Nat×Q))(hp:σ->ay->Prop)(μ:σ->Nat)(s0:σ):Act->ay->Prop:=
 λa' w'=>∃s e,a'=C6 n e/\Bg mod e HD/\Dd e (live s)/\hp s w'/\μ s<μ s0
theorem Iw{σ:Type}{c:Code}(mod:Nat->Yi)(live:σ->H (Nat×Q))(hp:σ->ay->Prop)(μ:σ->Nat)(s0:σ)
 (hl:Dd env (live s0)) (e:hp s0 w)
 (a:∀s b d,hp s b->WC P c (Exit.then (JL n mod env live hp μ s) aq) n (J6 (Y1 mod d env) (live s)) b):
 WC P (zb c) aq n env w:=wc_loop mod live hp μ s0 hl e a
end
section
variable{K:Act->ay->Prop}{aq:fY->Act->ay->Prop}{a:Act}{w:ay}{i j:Nat}
theorem aM(h:K a w):Exit.then K aq .normal a w:=h
theorem fQ(h:aq .ret a w):Exit.then K aq .ret a w:=h
theorem Vh(h:aq (.exit i) a w):Exit.then K aq (.exit i) a w:=h
theorem fV(h:aq .normal a w):kn i aq .normal a w:=h
theorem jo(h:aq .ret a w):kn i aq .ret a w:=h
theorem jM(h:aq .normal a w):kn i aq (.exit i) a w:=by simp only[kn,if_true];exact h
theorem Ic(hn:¬j=i)(h:aq (.exit j) a w):kn i aq (.exit j) a w:=by simp only[kn,Z3 hn];exact h
end
section
variable{mod:Nat->Yi}{e entry:Nat->Q}{d:Nat}{v:Q}
theorem Bg.os(a:mod d=bd)(h:Bg mod e entry):Bg mod (gy e (U d) v) entry:=Bg.upd a h
theorem Bg.on(h:Bg mod e entry):Bg mod (gy e bh v) entry:=h
theorem Bg.uc{l:H (Nat×Q)}(a:mod d=bd)(h:Bg mod (J6 e l) entry):Bg mod (J6 e ((d,v)::l)) entry:=Bg.upd a h
theorem Bg.un(h:Bg mod e entry):Bg mod (J6 e []) entry:=h
end
def inl(l:H Nat)(i:Nat):Yi:=match l with|[]=>aw|a::r=>bif hP i a then bd else inl r i
def subl(l m:H Nat):Yi:=match l with|[]=>bd|a::r=>bif inl m a then subl r m else aw
theorem subl_inl{m:H Nat}:∀{l:H Nat},subl l m=bd->∀i,inl l i=bd->inl m i=bd
 |[],_,i,h=>by simp[inl]at h
 |a::r,W,i,h=>by
  unfold subl at W;unfold inl at h;cases ha:inl m a with
  |false=>simp[ha]at W
  |true=>
   simp only[ha,ZW]at W;cases hb:hP i a with
   |true=>have:=ix hb;subst this;exact ha
   |false=>simp only[hb,Z1]at h;exact subl_inl W i h
theorem Bg.hin{l m:H Nat}{j e entry:Nat->Q}(W:subl l m=bd)(h:Bg (inl m) e entry):Bg (inl m) (LX.Y1 (inl l) j e) entry:=λi hi=>by
 have:inl l i=false:=by
  cases hc:inl l i with
  |false=>rfl
  |true=>rw[subl_inl W i hc]at hi;cases hi
 simp only[LX.Y1,this,Z1];exact h i hi
open Go.RowKit
section
variable{α:Type}{R:uQ α}{w:ay}
theorem dN.row{Ys A:BS}{v:Q}{l:H α}(h:dN R w Ys A v l):
    (v=.slice bh 0 0/\l=[])\/∃(a:nF) (cap:Nat) (news:H Q),v=.slice (U a) (O l) cap/\O news=O l*R.sz/\(∀j u,news[j]? =U u->w.cell? (a.add j)=U u)/\(∀u∈news,u.oneCell'=bd)/\
      ∀i (h:i<O l),R.rd w A ((news.drop (i*R.sz)).take R.sz) l[i]:=by
  obtain⟨a,cap,rfl,M,F,x,s⟩:=h;cases a with
  |none=>
    have z:=x Z;subst z;have hl:l=[]:=cE V;subst hl;exact .inl ⟨Z,Z⟩
  |some a=>
    right;by_cases hl:O l=0
    · have:l=[]:=cE hl;subst this;exact⟨a,cap,[],Z,by simp,λj u h=>by simp at h,λu h=>by simp at h,λi h=>ZD h<|ia _⟩
    · obtain⟨b,o,cells,E,w0,n,ry,q,N⟩:=s 0 V;cases n;have c:∀i (hi:i<O l),R.rd w A ((cells.toList.drop<|o+i*R.sz).take R.sz) l[i]:=by
        intro i hi;obtain⟨b',al,m,K,y,n,_,g,p⟩:=s i hi;cases n;rw[q]at g;cases g;exact p
      have d:=R.len<|c (O l-1) V;simp only[cd,cQ,cx]at d;have k:=R.pos;have r:o+O l*R.sz<=cells.size:=by
        have C:O l*R.sz=(O l-1)*R.sz+R.sz:=by
          conv=>lhs;rw[show O l=(O l-1)+1 by omega]
          rw[cf,sX]
        omega
      refine⟨⟨b,o,bh⟩,cap,(cells.toList.drop o).take<|O l*R.sz,Z,?_,?_,?_,?_⟩
      · simp only[cd,cQ,cx];omega
      · intro j u e;rw[ca]at e;split at e
        · rw[ct]at e;have t:(⟨b,o,bh⟩:nF).add j=⟨b,o+j,bh⟩:=by unfold jI;split<;>simp_all
          rw[t];simpa[fc,q]using e
        · cases e
      · intro u e;obtain⟨j,f⟩:=List.getElem?_of_mem e;rw[ca]at f;split at f
        · next hlt=>
          rw[ct]at f;have hi:j / R.sz<O l:=ql (by rw[mD];exact hlt);refine R.one (c (j / R.sz) hi) u<|List.mem_of_getElem? (i:=j%R.sz) ?_;rw[ca,Z2 (tt _ k),ct];rw[show o+j / R.sz*R.sz+j%R.sz=o+j by rw[ki,Nat.div_add_mod' j R.sz]];exact f
        · cases f
      · intro i hi;rw[eo,eh,pC,cX]
        · exact c i hi
        · have:(i+1)*R.sz<=O l*R.sz:=bj _ hi;rw[cf]at this;omega
theorem SZ(c:H Q):∀(cells:Array Q) (o:Nat),o+O c<=cells.size->
  (c.zipIdx.foldl (λcs(p:Q×Nat)=>cs.setIfInBounds (o+p.2) p.1) cells).toList=QW cells.toList o c:=by
 suffices Zs:∀(k:Nat) (cells:Array Q) (o:Nat),o+k+O c<=cells.size->
   ((c.zipIdx k).foldl (λcs(p:Q×Nat)=>cs.setIfInBounds (o+p.2) p.1) cells).toList=QW cells.toList (o+k) c by
  intro cells o h;have:=Zs 0 cells o (by simpa using h);simpa using this
 induction c with
 |nil=>intro k cells o h;simp[QW]
 |cons x r ih=>
  intro k cells o h;simp only[bw]at h;rw[zc,List.foldl_cons,ih (k+1) _ o (by simp;omega)];simp only[mL,QW];rw[show o+(k+1)=o+k+1 by omega];apply cP;intro i;simp only[cy,jn,cd,cr,cx,ca,fy,ct,bw,List.getElem?_cons]
  grind
variable{sz:Nat}
theorem Jw(n:0<sz):∀(vs:H Q) (k:Nat) (cells:Array Q),(∀v∈vs,v.cells.size=sz)->(k+O vs)*sz<=cells.size->
    ∃out,mN (λi=>U (i*sz,sz)) cells ((vs.zipIdx k).map λp=>(p.2,p.1))=U out/\out.toList=QW cells.toList (k*sz) (vs.map λv=>v.cells.toList).flatten
  |[],k,cells,_,_=>⟨cells,rfl,by simp[QW]⟩
  |v::r,k,cells,hv,W=>by
    have f:v.cells.size=sz:=hv v C3;simp only[bw]at W;have e:(k+1+O r)*sz<=cells.size:=by rw[show k+1+O r=k+(O r+1) by omega];exact W
    have j:k*sz+sz<=cells.size:=by
      have:(k+1)*sz<=(k+1+O r)*sz:=bj _ V;rw[cf,sX]at this;omega
    have m:=SZ v.cells.toList cells (k*sz) (by rw[cx,f];exact j);let c2:=v.cells.zipIdx.foldl (λcs(p:Q×Nat)=>cs.setIfInBounds (k*sz+p.2) p.1) cells;have a:c2.toList=QW cells.toList (k*sz) v.cells.toList:=by
      rw[<-m];show(v.cells.zipIdx.foldl _ cells).toList=_;rw[<-vx,vn]
    have d:c2.size=cells.size:=by
      have:=ZS O a;simp only[QW,bn,cd,cQ,cx]at this;omega
    obtain⟨out,b,g⟩:=Jw n r (k+1) c2 (λx l=>hv x (by simp[l])) (by rw[d];exact e);refine⟨out,?_,?_⟩
    · rw[zc,cF];unfold mN;simp only[f,ne_eq,not_true_eq_false,decide_false,Bool.false_or];rw[Z3 (by simp;omega)];exact b
    · rw[g,a];simp only[cF,nI,QW];rw[show(k+1)*sz=k*sz+sz by rw[cf,sX]];have o:O v.cells.toList=sz:=by rw[cx,f]
      generalize v.cells.toList=c at*;generalize (r.map λv=>v.cells.toList).flatten=q;apply cP;intro i;simp only[cy,jn,cd,cx,bn,ca,ct,cQ]
      grind
def N9{α:Type}(R:uQ α)(w:ay)(A:BS):H Q->H α->Prop
 |[],[]=>True
 |v::vs,x::xs=>R.rd w A v.cells.toList x/\N9 R w A vs xs
 |_,_=>False
variable{A:BS}
theorem N9.len:∀{vs:H Q} {xs:H α},N9 R w A vs xs->O vs=O xs
 |[],[],_=>rfl
 |v::vs,x::xs,h=>by simp[N9.len h.2]
 |[],_::_,h=>h.elim
 |_::_,[],h=>h.elim
theorem N9.sizes:∀{vs:H Q} {xs:H α},N9 R w A vs xs->∀v∈vs,v.cells.size=R.sz
  |[],[],_=>by simp
  |v::vs,x::xs,h=>by
    intro u a;rcases bs.1 a with rfl|a
    · have:=R.len h.1;simpa using this
    · exact N9.sizes h.2 u a
  |[],_::_,h=>h.elim
  |_::_,[],h=>h.elim
theorem flat_len:∀{vs:H Q},(∀v∈vs,v.cells.size=sz)->O (vs.map λv=>v.cells.toList).flatten=O vs*sz
 |[],_=>by simp
 |v::r,h=>by
  have a:=h v C3;have c:=flat_len λu b=>h u<|bo _ b;simp only[cF,nI,bn,c,cx,a,bw,cf];omega
theorem N9.at:∀{vs:H Q} {xs:H α},N9 R w A vs xs->∀i (h:i<O xs),R.rd w A (((vs.map λv=>v.cells.toList).flatten.drop (i*R.sz)).take R.sz) xs[i]
 |[],[],_,i,h=>ZD h (ia _)
 |v::vs,x::xs,h,i,hi=>by
  have a:O v.cells.toList=R.sz:=R.len h.1;cases i with
  |zero=>
   simp only[cF,nI,uJ,fg,List.getElem_cons_zero];rw[de V,kt V];exact h.1
  |succ i=>
   have:=N9.at h.2 i (by simpa using hi);simp only[cF,nI,List.getElem_cons_succ];rw[lx,cq (by rw[a,cf];omega),ck,a,show(i+1)*R.sz-R.sz=i*R.sz by rw[cf];omega];exact this
 |[],_::_,h,_,_=>h.elim
 |_::_,[],h,_,_=>h.elim
end
class Struct (P:cc) (T:bk) (zs:outParam (H Q)) (pl:outParam (H (Nat×Nat))):Prop where
  zero:(P.info? T).map (·.zero)=U (U (.agg (ar zs)))
  desc:∃fs,P.underlying T=U (.struct fs)/\fs.toList.map (λf=>(f.offset,(P.info? f.type).map (·.size)))=pl.map (λp=>(p.1,U p.2))
def V2(b:H (Nat×Nat))(cs:H Q):H (Nat×Q)->H Q->Prop
 |[],out=>cs=out
 |(i,v)::r,out=>∃off a vs,b[i]? =U (off,a)/\v.cells.toList=vs/\O vs=a/\off+a<=O cs/\V2 b (QW cs off vs) r out
theorem fill_ok{d:H (Nat×Nat)}:∀{parts:H (Nat×Q)} {cs out:H Q},V2 d cs parts out->mN (λi=>d[i]?) (ar cs) parts=U (ar out)
 |[],cs,out,h=>by cases h;rfl
 |(i,v)::r,cs,out,h=>by
  obtain⟨off,a,vs,j,e,f,k,l⟩:=h;unfold mN;simp only[j];have b:v.cells.size=a:=by rw[<-f,<-e,cx]
  rw[Z3 (by simp[b];omega)];have g:=SZ vs (ar cs) off (by rw[f];simpa using k);have:(v.cells.zipIdx.foldl (λcs(p:Q×Nat)=>cs.setIfInBounds (off+p.2) p.1) (ar cs))=ar (QW cs off vs):=by
   apply mC;rw[<-vx,vn,e];exact g
  have c:=fill_ok l;rw[<-this]at c;exact c
section
variable{P:cc}{ops:Array ec}{aq:fY->Act->ay->Prop}{n:Nat}{env:Nat->Q}{w w' I:ay}{M K:BS}{J:Nat->Chunk}{rest:H ec}
 {d:B Nat} {op:Op} {ty:bk} {pos:String} {af:Array hR} {v:Q} {g:B (Nat×Yi)} {T:bk} {ρ:br->Q} {x y:br}
theorem EG(h:w.grownBy w' v.ownBlock):bF (ob v) w w':=
 ⟨h.os,h.tape,h.output,h.size,λb a hl=>h.block b hl (λe=>a (ob_row.2 e.symm))⟩
section
variable{E:bk}{sz bytes:Nat}
theorem Ws{a:B nF}{l c:Nat}(b:lT P T E sz bytes)(f:ρ x=.slice a l c)(hl:l<=c)(e:ρ y=.slice bh 0 0):
  (bm ρ ⟨d,.call {callee:=.builtin .append,args:= #[x,y],argTypes:= #[T,T]},ty,pos,af,g⟩).run P w=.ok (.value (.slice a l c)) w:=by
 obtain⟨i,z,hi,j,W,_,_⟩:=b.info;cases a<;>simp[bm,jK,mw,lQ,f,e,jz,cD,b.desc,hO,ee,hi,tg,hl,qq,storeCells]
variable{α:Type}{R:uQ α}{u:Q}
theorem US{A:BS}{l m:H α}(p:lT P T E sz bytes)(W:R.sz=sz)(aq:ρ x=v)(hv:dC R E w A v l)(ab:ρ y=u)(hu:dN R w BE A u m)(hA:∀b,ob v b->A b)(a:(O l+O m)*bytes<=140737488355328)(hm:O l+O m<=9223372036854775807):
    ∃o w',(bm ρ ⟨d,.call {callee:=.builtin .append,args:= #[x,y],argTypes:= #[T,T]},ty,pos,af,g⟩).run P w=.ok (.value o) w'/\dC R E w' A o (l++m)/\bF (ob v) w w'/\(∀b,ob o b->b<w.heap.size->ob v b):=by
  subst W;have a0:=hv;obtain⟨xs,t,h3⟩:=hv;rcases hu.row with⟨rfl,rfl⟩|⟨ad,c,news,rfl,n1,n2,n3,n4⟩
  · have hw:(bm ρ ⟨d,.call {callee:=.builtin .append,args:= #[x,y],argTypes:= #[T,T]},ty,pos,af,g⟩).run P w=.ok (.value v) w:=by
      rcases t.2 with⟨rfl,hn⟩|⟨gg,cap,cur,rfl,_,_,hc,_⟩
      · exact Ws p aq (cj _) ab
      · exact Ws p aq hc ab
    exact⟨v,w,hw,by simpa using a0,bF.refl _ _,λ_ a _=>a⟩
  · obtain⟨i,z,hi,hz,W,s,S⟩:=p.info;obtain⟨o,w',k,Ys,hg,_⟩:=run_append_own (P:=P) w 0 T ty E i z R.sz bytes p.desc hi hz W s S R.pos v (O l) xs t ad (O m) c news n1 n2 n3 (by unfold mx;omega) a (gj _);have ry:=EG hg;have n:∀b,ob o b->b<w.heap.size->ob v b:=by
      rcases t.2 with⟨rfl,hn⟩|⟨gg,cap,cur,rfl,_,hgg,hc,hcm,hcs,htake⟩
      · by_cases w0:O m=0
        · have q:news=[]:=cE (by rw[n1,w0];simp);subst q;have e:(jz #[T,T] ty #[.slice bh 0 0,.slice (U ad) (O m) c]).run P w=.ok (.slice bh 0 0) w:=by
            simp[jz,cD,p.desc,hO,ee,hi,tg,w0,qq,loadCells,loadCellsFrom]
          rw[e]at k;cases k;exact λb a _=>a
        · have e:=run_append_nil (P:=P) w T ty E i z p.desc hi hz ad (O m) c news (by rw[W];exact n1) n2 V V (by rw[s];have:=a;rw[cf]at this;omega);rw[e]at k;cases k;intro b a hl;simp[ob]at a;omega
      · by_cases f:O l+O m<=cap
        · have K:O l*i.size+O news<=cur.size:=by rw[n1,W,hcs,<-cf];exact bj _ f
          have e:=run_append_room (P:=P) w T ty E i p.desc hi gg (O l) cap cur hgg ad (O m) c news (by rw[W];exact n1) n2 n3 f K;rw[e]at k;cases k;exact λb a _=>a
        · have holds:∀j u,xs[j]? =U u->w.cell? ((⟨gg,0,bh⟩:nF).add j)=U u:=t.cells (g:=gg) Z;have e:=run_append_grow (P:=P) w T ty E i z p.desc hi hz ⟨gg,0,bh⟩ (O l) cap xs (by rw[W];exact t.1) holds ad (O m) c news (by rw[W];exact n1) n2 V V (growslice_fits V (by rw[s];exact a));rw[e]at k;cases k;intro b a hl;simp[ob]at a;omega
    have al:(bm ρ ⟨d,.call {callee:=.builtin .append,args:= #[x,y],argTypes:= #[T,T]},ty,pos,af,g⟩).run P w=.ok (.value o) w':=by
      simp only[bm,jK,mw,lQ,cC,cR,bW,hQ,cF,js,aq,ab,k]
    refine⟨o,w',al,⟨xs++news,by rw[bn];exact Ys,?_⟩,ry,n⟩;intro i X;have C:=t.1;have F:∀b,A b\/ob o b->b<w.heap.size->A b\/ob v b:=λb a hl=>a.imp id λa=>n b a hl;by_cases r:i<O l
    · have M:=R.go (h3 i r) ry (λb a _=>.inr a) F;have N:(i+1)*R.sz<=O l*R.sz:=bj _ r;rw[cf]at N;rw[fl r,hU V,de (by rw[cQ];omega)];exact M
    · rw[bn]at X;have M:=R.go (n4 (i-O l) V) ry (λb a _=>hA b a) λb a hl=>(F b a hl).elim id<|hA b;rw[gA V,lx,cq (by rw[C];exact bj _ V),ck,C,<-sY];exact M
theorem SH.yj(h:SH I M K w J)(i:Nat):SH I M K w (df J i (.own R E (.slice bh 0 0) ([]:H α))):=
 h.learn i (bF.refl BE w) (λ_ h=>h.elim) dC.nil
theorem jv{l m:H α}(h:SH I M K w J)(i:Nat)(hi:J i=.own R E v l)(o:dN R w BE (SH.A M J) u m)(r:lT P T E sz bytes)(W:R.sz=sz)(f:ev n env x=v)(e:ev n env y=u)(a:(O l+O m)*bytes<=140737488355328)(q:O l+O m<=9223372036854775807)(k:∀w' c,SH I M K w' (df J i (.own R E c (l++m)))->WL P ops aq rest n (gy env d c) w'):
    WL P ops aq (⟨d,.call {callee:=.builtin .append,args:= #[x,y],argTypes:= #[T,T]},ty,pos,af,bh⟩::rest) n env w:=by
  obtain⟨c,w',s,p,j,t⟩:=US (d:=d) (ty:=ty) (pos:=pos) (af:=af) (g:=bh) r W f (h.bZ i hi) e o (λb a=>.inr ⟨i,by rw[hi];exact a⟩) a q;refine aC s (k w' c (h.step i j (λb a _=>by rw[hi];exact a) (λb a hl=>by rw[hi];exact t b a hl) ?_));refine dC.go p (bF.refl BE w') (λ_ h=>h.elim) (λ_ h=>h.elim) λb a _=>?_;rcases a with a|a|a
  · exact .inl<|.inl a
  · exact .inl<|.inr<|nV a
  · exact .inr a
variable{parts:Array (Nat×br)}{len:Nat}{vs:H Q}{xs:H α}
theorem run_bs{A:BS}(al:lT P T E sz bytes)(W:R.sz=sz)(M:(parts.toList.map λp=>(p.1,ev n env p.2))=vs.zipIdx.map λp=>(p.2,p.1))(m:O vs=len)(K:N9 R w A vs xs)(X:∀b,A b->b<w.heap.size)(ab:len*sz<=16777216):
    ∃u w',(bm (ev n env) ⟨d,.buildSlice T len parts,ty,pos,af,g⟩).run P w=.ok (.value u) w'/\Grow w w'/\dC R E w' A u xs/\∀b,ob u b->w.heap.size=b:=by
  subst W;subst m;obtain⟨i,z,hi,S,o,aq,N⟩:=al.info;have c:=K.sizes;have l:=K.len;let zero:Array Value:=if O vs*R.sz=0 then #[]else z.cells
  let a:Array Value:=(pB (O vs*R.sz)).map (zero[· %zero.size]!);have e:a.size=O vs*R.sz:=by simp[a]
  obtain⟨out,r,w0⟩:=Jw R.pos vs 0 a c (by rw[e];simp);have f:=flat_len c;have q:out.toList=(vs.map λv=>v.cells.toList).flatten:=by
    rw[w0,uJ];simp only[QW,List.take_zero,ck,hE];rw[cq (by rw[cx,e,f];omega),List.append_nil]
  have j:out.size=O vs*R.sz:=by rw[<-cx,q,f]
  have s:(parts.map λp=>(p.1,ev n env p.2)).toList=vs.zipIdx.map λp=>(p.2,p.1):=by simpa using M
  have t:(bm (ev n env) ⟨d,.buildSlice T (O vs) parts,ty,pos,af,g⟩).run P w=.ok (.value<|.slice (U ⟨w.heap.size,0,bh⟩) (O vs) (O vs)) (w.alloc<|.cells out E):=by
    simp only[bm,Instr.buildSlice,cD,hO,ee];have F:¬(O vs*R.sz>2 ^ 24):=by omega
    by_cases y:O vs*R.sz=0
    · simp only[cC,ga,bW,al.desc,cR,hi,o,vy,y,if_true];have:out= #[]:=Array.eq_empty_of_size_eq_zero (by rw[j,y]);have Ys:mN (λi=>U (i*R.sz,R.sz)) ((pB 0).map λx=>(#[]:Array Q)[x%(#[]:Array Q).size]!) (parts.map λp=>(p.1,ev n env p.2)).toList=U out:=by
        rw[s];have:a=(pB 0).map (λx=>(#[]:Array Q)[x%(#[]:Array Q).size]!):=by simp[a,y]
        rw[<-this];exact r
      rw[Ys];simp[xv,nv,-km]
    · simp only[cC,ga,bW,al.desc,cR,hi,o,vy,Z3 F,y,if_false,my,ee,S];have Ys:mN (λi=>U (i*R.sz,R.sz)) ((pB<|O vs*R.sz).map λx=>z.cells[x%z.cells.size]!) (parts.map λp=>(p.1,ev n env p.2)).toList=U out:=by
        rw[s];have:a=(pB<|O vs*R.sz).map (λx=>z.cells[x%z.cells.size]!):=by simp[a,zero,y]
        rw[<-this];exact r
      rw[Ys];simp[xv,nv,-km]
  refine⟨_,_,t,Grow.alloc _ _,⟨out.toList,⟨by rw[cx,j,l],.inr ⟨w.heap.size,O vs,out,by rw[l],gj _,Pm _ _,by omega,?_,j,?_⟩⟩,?_⟩,?_⟩
  · unfold mx;have:O vs<=O vs*R.sz:=pa _ R.pos;omega
  · rw[kt];rw[cx,j,l];exact cj _
  · intro i C;have ry:=R.go (A':=λb=>A b\/ob (.slice (U ⟨w.heap.size,0,bh⟩) (O vs) (O vs)) b) (K.at i C) (Grow.alloc w (.cells out E)) (λ_ h=>h.elim) (λb k hl=>by
      rcases k with k|k
      · exact k
      · simp[ob]at k;omega)
    rw[q];exact ry
  · intro b k;simp[ob]at k;exact k.symm
theorem uy(h:SH I M K w J)(i:Nat)(f:lT P T E sz bytes)(W:R.sz=sz)(o:(parts.toList.map λp=>(p.1,ev n env p.2))=vs.zipIdx.map λp=>(p.2,p.1))(a:O vs=len)(e:N9 R w (SH.A M J) vs xs)(c:lr (len*sz) 16777216=bd)(k:∀w' u,SH I M K w' (df J i (.own R E u xs))->WL P ops aq rest n (gy env d u) w'):
  WL P ops aq (⟨d,.buildSlice T len parts,ty,pos,af,bh⟩::rest) n env w:=by
 obtain⟨u,w',j,q,r,l⟩:=run_bs (d:=d) (ty:=ty) (pos:=pos) (af:=af) (g:=bh) f W o a e h.lt<|gC c;exact aC j<|k w' u<|h.wU i q r λb m=>po<|l b m
theorem run_places{P:cc}{w:ay}:∀(fs:H Field) (a:H (Nat×Nat)),fs.map (λf=>(f.offset,(P.info? f.type).map (·.size)))=a.map (λp=>(p.1,U p.2))->
    (fs.mapM (m:=Sem) λf=>do pure (f.offset,<-hO f.type)).run P w=.ok a w
  |[],[],_=>rfl
  |[],_::_,h=>by simp at h
  |_::_,[],h=>by simp at h
  |f::fs,p::a,h=>by
    simp only[cF,List.cons.injEq,hX]at h;obtain⟨⟨d,b⟩,e⟩:=h;have c:=run_places (w:=w) fs a e;obtain⟨i,hi,W⟩:∃i,P.info? f.type=U i/\i.size=p.2:=by
      cases hi:P.info? f.type with
      |none=>simp[hi]at b
      |some i=>simp[hi]at b;exact⟨i,Z,b⟩
    rw[tE];simp only[cC,hO,ee,ga,bW,hi,cR,W,d];simp only[hO,ee]at c;rw[c];simp
theorem lH{zs out:H Q}{b:H (Nat×Nat)}{pv:H (Nat×Q)}(n:Struct P T zs b)(J:(parts.toList.map λp=>(p.1,ρ p.2))=pv)(q:V2 b zs pv out):
  (bm ρ ⟨d,.build T parts,ty,pos,af,g⟩).run P w=.ok (.value (.agg (ar out))) w:=by
 obtain⟨fs,j,l⟩:=n.desc;obtain⟨i,hi,r⟩:∃i,P.info? T=U i/\i.zero=U (.agg (ar zs)):=by
  have:=n.zero;cases hi:P.info? T with
  |none=>simp[hi]at this
  |some i=>simp[hi]at this;exact⟨i,Z,this⟩
 have o:=run_places (w:=w) fs.toList b l;have c:(fs.mapM (m:=Sem) λf=>do pure (f.offset,<-hO f.type)).run P w=.ok (ar b) w:=by
  rw[Array.mapM_eq_mapM_toList];simp only[Sem.run_map,o,bW]
 have k:(parts.map λp=>(p.1,ρ p.2)).toList=pv:=by rw[<-J];simp
 have a:=fill_ok q;simp only[bm,Instr.build,my,ee,cD];simp only[cC,ga,bW,hi,cR,r,j,c,k,uI];have e:(fun(x:Nat)=>(ar b)[x]?)=fun(i:Nat)=>b[i]? :=by funext x;simp
 rw[e,a];simp
def isNil:Q->Yi| .slice bh _ _=>bd|_=>aw
variable{Ys A:BS}{l:H α}
theorem Dr{T2 E:bk}{sz:Nat}{w1:ay}(j:SliceOf P T E sz)(i:ρ x=v)(e:dN R w1 Ys A v l)(f:ρ y=.slice bh 0 0):(bm ρ ⟨d,.binOp .eql T x y T2,ty,pos,af,g⟩).run P w=.ok (.value (.bool (isNil v))) w:=by
 obtain⟨a,cap,rfl,m,n,o,k⟩:=e;have b:∀a l c,(tG Op.maxDepth T (.slice a l c)<|.slice bh 0 0).run P w=.ok a.isNone w:=by
  intro a l c;show(tG (9999+1) T (.slice a l c)<|.slice bh 0 0).run P w=_;unfold tG;simp only[cC,cD,ga,bW,j.desc,cR];cases a<;>simp
 cases a<;>simp[bm,i,f,fI,nt,isNil,Op.equal,b]
theorem qw(b:dN R w Ys A v l)(h:isNil v=bd):v=.slice bh 0 0/\l=[]:=by
 obtain⟨a,cap,rfl,e,f,c,d⟩:=b;cases a with
 |none=>
  have:=c Z;subst this;have hl:O l=0:=by omega
  exact⟨by rw[hl],cE hl⟩
 |some a=>simp[isNil]at h
variable{k:Int}{a:α}
theorem SH.qd{b:Nat}(h:SH I M K w J)(i:Nat)(hi:J i=.own R E v l)(n:ob v b)(d:l[k.toNat]? =U a):
    ∃cs,At w b (k.toNat*R.sz) cs/\R.rd w (SH.A M J) cs a:=by
  have c:k.toNat<O l:=by
    rcases cH k.toNat (O l) with h|h
    · exact h
    · rw[bG h]at d;cases d
  have g:l[k.toNat]=a:=by rw[bl c]at d;exact dq d
  obtain⟨a',cap,rfl,r,s,t,q⟩:=h.dm i hi;obtain⟨b',o,cells,F,j,rfl,_,m,f⟩:=q k.toNat c;have:b=b':=n;subst this;have ho:o=0:=by
    obtain⟨xs,p,_⟩:=h.bZ i hi;rcases p.2 with⟨e,_⟩|⟨_,_,_,e,_⟩
    · cases e
    · cases e;rfl
  subst ho;rw[g]at f;rw[hE]at f;exact⟨_,⟨cells,F,j,m,by rw[R.len f]⟩,f⟩
theorem SH.Td{sz:Nat}(h:SH I M K w J)(i:Nat)(hi:J i=.own R E v l)(j:SliceOf P T E sz)(W:R.sz=sz)(e:0<=k)(f:l[k.toNat]? =U a):
    ∃b,ob v b/\T1 P T v k (.pointer (U ⟨b,k.toNat*sz,bh⟩)):=by
  subst W;have m:k.toNat<O l:=by
    rcases cH k.toNat (O l) with h|h
    · exact h
    · rw[bG h]at f;cases f
  obtain⟨xs,q,_⟩:=h.bZ i hi;rcases q.2 with⟨rfl,hn⟩|⟨g',cap,cur,rfl,_⟩
  · omega
  refine⟨g',Z,fun ρ x y w d ty pos af g o n=>?_⟩;obtain⟨i,hi,W⟩:∃i,P.info? E=U i/\i.size=R.sz:=by
    have:=j.info;cases hi:P.info? E with
    |none=>simp[hi]at this
    |some i=>simp[hi]at this;exact⟨i,Z,this⟩
  simp only[bm,AT,o,n,kq,cD,hO,ee];have p:(⟨g',0,bh⟩:nF).add (k.toNat*R.sz)=⟨g',k.toNat*R.sz,bh⟩:=by
    unfold jI;split
    · next hz=>rw[hz]
    · simp
  have c:k<(O l:Int):=by omega
  simp[j.desc,hi,W,e,c,p]
theorem SH.cutO{sz:Nat}{b:Int}(h:SH I M K w J)(i:Nat)(hi:J i=.own R E v l)(q:SliceOf P T E sz)(W:R.sz=sz)(k:0<=b)(ab:b<=O l):
    ∃u,SH I M K w (df J i (.own R E u (l.take b.toNat)))/\SlOk P T v 0 b (O l) u:=by
  subst W;have n:b.toNat<=O l:=by omega
  have d:O (l.take b.toNat)=b.toNat:=by rw[cd];omega
  obtain⟨xs,F,S⟩:=h.bZ i hi;obtain⟨u,w0,hr⟩:=r_sl (P:=P) (T:=T) q (h.dm i hi) (Int.le_refl 0) k ab;have hv:∃cap,v=.slice bh 0 0\/∃g,v=.slice (U ⟨g,0,bh⟩) (O l) cap:=by
    rcases F.2 with⟨rfl,_⟩|⟨g',cap,cur,rfl,_⟩
    · exact⟨0,.inl Z⟩
    · exact⟨cap,.inr ⟨g',Z⟩⟩
  have e:=w0 (λo=>match o with| .tmp 0=>v| .const v=>v|_=>gx) (.tmp 0) bh (U<|.const<|.int .i64 b) w bh 0 "" #[] bh Z (.inl ⟨Z,Z⟩) (.inr Z);rcases F.2 with⟨rfl,hn⟩|⟨g',cap,cur,rfl,e1,e2,e3,e4,e5,e6⟩
  · have Ys:l=[]:=cE hn;subst Ys;obtain⟨a,cap,rfl,h1,h2,h3,h4⟩:=hr;have A:b=0:=by simp at ab;omega
    subst A;have:a=bh/\cap=0:=by
      obtain⟨r,m⟩:∃r,P.info? E=U r:=by
        have:=q.info;cases p:P.info? E with
        |none=>simp[p]at this
        |some i=>exact⟨i,rfl⟩
      simp[bm,lp,lR,cD,q.desc,dt,eK,kq,hO,ee,m,cut]at e;exact⟨e.1.symm,e.2.symm⟩
    obtain⟨rfl,rfl⟩:=this;refine⟨_,?_,w0⟩;have:=h.step (c:=.own R E (.slice bh 0 0) ([]:H α)) i (bF.refl BE w) (λ_ h=>h.elim) (λ_ h=>h.elim) dC.nil;simpa[cut]using this
  · have C:u=.slice (U ⟨g',0,bh⟩) b.toNat cap:=by
      obtain⟨r,m,z⟩:∃r,P.info? E=U r/\r.size=R.sz:=by
        have:=q.info;cases p:P.info? E with
        |none=>simp[p]at this
        |some i=>simp[p]at this;exact⟨i,Z,this⟩
      obtain⟨t,rfl⟩:=cl k;have ry:t<=cap:=by simp at n;omega
      have s:(⟨g',0,bh⟩:nF).add 0=⟨g',0,bh⟩:=rfl;have X:(0:Int)<=(t:Int):=kc t;have aq:(t:Int)<=(cap:Int):=by omega
      by_cases y:cap=0
      · subst y;have k:t=0:=by omega
        subst k;simp[bm,lp,lR,cD,q.desc,dt,eK,kq,hO,ee,m,z]at e;simpa using e.symm
      · simp[bm,lp,lR,cD,q.desc,dt,eK,kq,hO,ee,m,z,ry,y,s]at e;simpa using e.symm
    subst C;refine⟨_,h.step (c:=.own R E (.slice (U ⟨g',0,bh⟩) b.toNat cap) (l.take b.toNat)) i (bF.refl BE w) (λ_ h=>h.elim) (λx f _=>by rw[hi];exact f) ⟨xs.take (b.toNat*R.sz),⟨?_,.inr ⟨g',cap,cur,by rw[d],e1,e2,?_,e4,e5,?_⟩⟩,?_⟩,w0⟩
    · rw[d,cd,F.1,cX (bj _ n)]
    · rw[d];omega
    · rw[d,<-e6,eh,cX (bj _ n)]
    · intro j N;rw[d]at N;have al:j<O l:=by omega
      have p:=R.go (A':=λx=>(M x\/SH.av J i (.own R E (.slice (U ⟨g',0,bh⟩) b.toNat cap) (l.take b.toNat)) x)\/ob (.slice (U ⟨g',0,bh⟩) b.toNat cap) x) (S j al) (bF.refl BE w) (λ_ h=>h.elim) (λx f _=>by
        rcases f with(f|f|f)|f
        · exact .inl<|.inl f
        · exact .inl<|.inr<|nV f
        · exact .inr f
        · exact .inr f)
      rw[nL];rw[eo,eh,cX]
      · exact p
      · have:(j+1)*R.sz<=b.toNat*R.sz:=bj _ N;rw[cf]at this;omega
theorem Wt{i o s off:Nat}{x:α}(ho:o=i+off):((l.set o x).drop i).take s=((l.drop i).take s).set off x:=by
 subst ho;rw[B8,Z3 V,Nat.add_sub_cancel_left,qS]
theorem Tj{i o s:Nat}{x:α}(h:o<i\/i+s<=o):((l.set o x).drop i).take s=(l.drop i).take s:=by
  rw[B8];split
  · rfl
  · rw[qS,List.set_eq_of_length_le];rw[cd];omega
theorem Ku{sz:Nat}{a a':α}{b off:Nat}{z u:Q}(h:SH I M K w J)(i:Nat)(hi:J i=.own R E u l)(F:ob u b)(W:R.sz=sz)(q:l[k.toNat]? =U a)(ab:One P T z)(c:ev n env x=.pointer (U ⟨b,k.toNat*sz+off,bh⟩))(X:ev n env y=v)(h1:v.oneCell'=bd)(p:mv off sz=bd)(C0:∀cs,R.rd w (SH.A M J) cs a->R.rd w (SH.A M J) (cs.set off v) a')(kk:∀w',SH I M K w' (df J i (.own R E u (l.set k.toNat a')))->WL P ops aq rest n (gy env d gx) w'):
    WL P ops aq (⟨d,.store T x y,ty,pos,af,bh⟩::rest) n env w:=by
  subst W;rw[pn]at p;have f:k.toNat<O l:=by
    rcases cH k.toNat (O l) with h|h
    · exact h
    · rw[bG h]at q;cases q
  have s:l[k.toNat]=a:=by rw[bl f]at q;exact dq q
  generalize k.toNat=k at*;have e:∀b,ob u b->SH.A M J b:=λb F=>.inr ⟨i,by rw[hi];exact F⟩;obtain⟨xs,w0,S⟩:=h.bZ i hi;rcases w0.2 with⟨rfl,hn⟩|⟨g',cap,cur,rfl,e1,e2,e3,e4,e5,e6⟩
  · omega
  have C:b=g':=F;subst C;have t:(k+1)*R.sz<=O l*R.sz:=bj _ f;have a0:O l*R.sz<=cap*R.sz:=bj _ e3;rw[cf]at t;have r:k*R.sz+off<cur.size:=by omega
  have m:=bF.yG w b<|.cells (cur.setIfInBounds (k*R.sz+off) v) E (0,0);refine BX (Y9 ab c e2 r X h1) (kk _ (h.step i m (λx c _=>by rw[hi];exact c) (λx c _=>by rw[hi];exact c) ⟨xs.set (k*R.sz+off) v,⟨?_,.inr ⟨b,cap,cur.setIfInBounds (k*R.sz+off) v,?_,e1,?_,?_,e4,?_,?_⟩⟩,?_⟩))
  · rw[cr,cr];exact w0.1
  · rw[cr]
  · rw[wV (jh e2)]
  · rw[cr];exact e3
  · simpa using e5
  · rw[cr,mL,qS,e6]
  · intro g Ys;have al:g<O l:=by rwa[cr]at Ys
    have o:=λcs a(h:R.rd w (SH.A M J) cs a)=>R.go (A':=λx=>(M x\/(SH.av J i (.own R E (.slice (U ⟨b,0,bh⟩) (O l) cap) (l.set k a'))) x)\/ob (.slice (U ⟨b,0,bh⟩) (O l) cap) x) h m (λx c _=>e x c) (λx c _=>by
      rcases c with(c|c|c)|c
      · exact .inl c
      · exact .inr<|nV c
      · exact e x c
      · exact e x c)
    have ry:=λj(N:j<O l)=>R.go (A':=SH.A M J) (S j N) (bF.refl BE w) (λ_ h=>h.elim) λx c _=>.inl c;by_cases hik:g=k
    · subst hik;rw[pD,Wt rfl];exact o _ _<|C0 _<|s▸ry g f
    · rw[rv (Ne.symm hik),Tj]
      · exact o _ _<|ry g al
      · rcases cH k g with h5|h5
        · left;have:(k+1)*R.sz<=g*R.sz:=bj _ h5;rw[cf]at this;omega
        · right;have:(g+1)*R.sz<=k*R.sz:=bj _ V;rw[cf]at this;omega
end
structure WK(P:cc)(ops:Array ec)(w:ay)(aq:Act->Prop)(l:List ec)(n:Nat)(env:Nat->Q):Prop where
 out:uv P ops (λx=>x=w) aq l (C6 n env)
end
section
variable{P:cc}{ops:Array ec}
theorem zN{w:ay}{aq:Act->Prop}:∀{l:H ec} {a:Act},uv P ops (λx=>x=w) aq l a->wpStill P ops w aq l a
  |[],_,h=>h
  |o::rest,a,h=>by
    unfold uv at h;unfold wpStill;split
    · rename_i c;rw[Z2 c]at h;obtain⟨v,i,d⟩:=h;have b:=i w Z;unfold Oper.quietAt at b;unfold Oper.still;generalize (bm a.eval o).run P w=r at b⊢;cases r with
      |ok n w'=>
        cases n<;>simp only[A4]at b<;>simp only[Oper.stillUpon];case value u=>exact⟨b.1,by rw[b.2];exact zN d⟩
        case skip=>exact⟨b.1,by rw[<-b.2];exact zN d⟩
        case enter f args=>exact⟨b.1,v,b.2.mono (λe g h=>h),zN d⟩
      |halt x w'=>simp only[A4]at b
    · rename_i c;rw[Z3 c]at h;exact zN h
end
section
variable{P:cc}{ops:Array ec}{aq:fY->Act->ay->Prop}{n:Nat}{env:Nat->Q}{w w' I:ay}{M K:BS}{J:Nat->Chunk}{rest:H ec}
 {d:B Nat} {op:Op} {ty:bk} {pos:String} {af:Array hR} {v:Q} {g:B (Nat×Yi)} {T:bk} {ρ:br->Q} {x y:br}
variable{Q1:Act->Prop}
theorem eQ(c:(bm (ev n env) ⟨d,op,ty,pos,af,bh⟩).run P w=.ok (.value v) w)(h:WK P ops w Q1 rest n (gy env d v)):WK P ops w Q1 (⟨d,op,ty,pos,af,bh⟩::rest) n env:=by
  refine⟨?_⟩;unfold uv;have a:cm ⟨d,op,ty,pos,af,bh⟩ (eN ops (C6 n env).tmps)=true:=rfl;rw[Z2 a];refine⟨v,λw' b=>?_,?_⟩
  · subst b;unfold Oper.quietAt;rw[jG,c];exact⟨Z,Z⟩
  · rw[KC];exact h.out
section
variable{j dj:Nat}{b:Yi}
theorem wk_on(g:(ops[j]?).bind (·.dst)=U dj)(c:ev n env (.tmp dj)=.bool b)(h:WK P ops w Q1 (⟨d,op,ty,pos,af,bh⟩::rest) n env):WK P ops w Q1 (⟨d,op,ty,pos,af,U (j,b)⟩::rest) n env:=by
  have e:=Ib (ops:=ops) g c;have f:cm ⟨d,op,ty,pos,af,U (j,b)⟩ (eN ops (C6 n env).tmps)=true:=by simp[cm,e]
  have a:cm ⟨d,op,ty,pos,af,bh⟩ (eN ops (C6 n env).tmps)=true:=rfl;obtain⟨h⟩:=h;refine⟨?_⟩;unfold uv at h⊢;rw[Z2 a]at h;rw[Z2 f];exact h
theorem wk_skip(a:cm ⟨d,op,ty,pos,af,g⟩ (eN ops (C6 n env).tmps)=aw)(h:WK P ops w Q1 rest n (gy env d gx)):WK P ops w Q1 (⟨d,op,ty,pos,af,g⟩::rest) n env:=by
 refine⟨?_⟩;unfold uv;rw[Z3 (by rw[a];decide),KC];exact h.out
theorem J7{b b':Yi}(e:(ops[j]?).bind (·.dst)=U dj)(f:ev n env (.tmp dj)=.bool b')(c:(b'==b)=aw)(h:WK P ops w Q1 rest n (gy env d gx)):WK P ops w Q1 (⟨d,op,ty,pos,af,U (j,b)⟩::rest) n env:=
  wk_skip (by have a:=Ib (ops:=ops) e f;simpa[cm,a]using c) h
theorem OD(c:(ops[j]?).bind (·.dst)=U dj)(b:ev n env (.tmp dj)=gx):eN ops (C6 n env).tmps j=none:=by
  unfold eN;have a:(C6 n env).eval (.tmp dj)=undef:=by rw[jG];exact b
  simp only[c,cG];simp only[kh]at a;cases h2:(C6 n env).tmps[dj]? with
  |none=>rfl
  |some x=>simp[da,h2]at a;subst a;rfl
theorem EH(a:(ops[j]?).bind (·.dst)=U dj)(c:ev n env (.tmp dj)=gx)(h:WK P ops w Q1 rest n (gy env d gx)):WK P ops w Q1 (⟨d,op,ty,pos,af,U (j,b)⟩::rest) n env:=
  wk_skip (by simp[cm,OD a c]) h
theorem wl_offU(c:(ops[j]?).bind (·.dst)=U dj)(e:ev n env (.tmp dj)=gx)(h:WL P ops aq rest n (gy env d gx) w):WL P ops aq (⟨d,op,ty,pos,af,U (j,b)⟩::rest) n env w:=by
  have a:cm ⟨d,op,ty,pos,af,U (j,b)⟩ (eN ops (C6 n env).tmps)=false:=by simp[cm,OD c e]
  refine⟨?_⟩;unfold sL;rw[Z3 (by rw[a];decide),KC];exact h.out
theorem wk_gd{b want:Yi}(a:Yi)(g:(ops[j]?).bind (·.dst)=U dj)(f:ev n env (.tmp dj)=gv a (.bool b))(l:(a&&(b==want))=bd->(bm (ev n env) ⟨d,op,ty,pos,af,bh⟩).run P w=.ok (.value v) w)(h:WK P ops w Q1 rest n (gy env d (gv (a&&(b==want)) v))):
    WK P ops w Q1 (⟨d,op,ty,pos,af,U (j,want)⟩::rest) n env:=by
  by_cases c:(a&&(b==want))=bd
  · have m:=gl c;have k:=gr c;rw[iR m]at f;rw[iR c]at h;have i:b=want:=by simpa using k
    subst i;exact wk_on g f<|eQ (l c) h
  · have e:(a&&(b==want))=false:=by simpa using c
    rw[e]at h;cases a with
    |true=>exact J7 g f (by simpa using e) h
    |false=>exact EH g f h
theorem qZ{b want:Yi}(c:(ops[j]?).bind (·.dst)=U dj)(e:ev n env (.tmp dj)=.bool b)(a:(b==want)=bd->(bm (ev n env) ⟨d,op,ty,pos,af,bh⟩).run P w=.ok (.value v) w)(h:WK P ops w Q1 rest n (gy env d (gv (b==want) v))):
    WK P ops w Q1 (⟨d,op,ty,pos,af,U (j,want)⟩::rest) n env:=
  wk_gd bd c e (λh=>a (by simpa using h)) (by simpa using h)
variable{l:H ec}
theorem wW(h:WL P ops aq l n env w):WK P ops w (λa=>sL P ops aq l a w) [] n env:=⟨h.out⟩
variable{id:Nat}
theorem oP(k:Nat)(b:P.follows .mixedOrders=bd)(c:xF .any (ar l) k=bd)(h:SH I M K w J)(kk:∀w,SH I M K w J->WK P (ar l) w (λa=>sL P (ar l) aq (l.drop k) a w) (l.take k) n env):WC P (jj id (ar l) bd) aq n env w:=
 ⟨Ae k b c (zN (kk _ (h.grow (Grow.drew w))).out)⟩
theorem nX(b:P.follows .mixedOrders=bd)(c:Region.lexB .any (ar l)=bd)(h:SH I M K w J)(kk:∀w,SH I M K w J->WK P (ar l) w (λa=>∀w',w'=w->aq .normal a w') l n env):WC P (jj id (ar l) bd) aq n env w:=
 ⟨wp_region_quiet (C:=λx=>x=w.drew) b c Z (kk _ (h.grow (Grow.drew w))).out⟩
end
theorem wk_end(h:aq .normal (C6 n env) w):WK P ops w (λa=>∀w',w'=w->aq .normal a w') [] n env:=⟨λ_ e=>by rw[e];exact h⟩
end
open Go.RowKit
section
variable{P:cc}{ops:Array ec}{aq:fY->Act->ay->Prop}{n:Nat}{env:Nat->Q}{w w' I:ay}{M K:BS}{J:Nat->Chunk}{rest:H ec}
 {d:B Nat} {op:Op} {ty:bk} {pos:String} {af:Array hR} {v:Q} {g:B (Nat×Yi)} {T:bk} {ρ:br->Q} {x y:br}
theorem F4{v:Q}(h:v.oneCell'=bd):v.cells= #[v]:=by
 cases v<;>first|rfl|simp[db]at h
theorem cz{v:Q}(h:v.oneCell'=bd):v.cells.toList=[v]:=by rw[F4 h]
section
variable{α:Type}{R:uQ α}{A:BS}{l:H α}
theorem dN.Sk(h:bY R w A v l):(uu R).rd w A v.cells.toList l:=by
 rw[F4 h.one];exact⟨v,Z,h⟩
theorem gvn{c d:Yi}{v:Q}(h:c=bd):gv (c&&d) v=gv d v:=by rw[h,gk]
theorem dV:∀v∈([]:H Q),v.oneCell'=true:=λ_ h=>by cases h
theorem ones_cons{a:Q}{l:H Q}(b:a.oneCell'=bd)(c:∀v∈l,v.oneCell'=bd):∀v∈a::l,v.oneCell'=true:=λv h=>by
  rcases bs.1 h with rfl|h
  · exact b
  · exact c v h
def Room{α:Type}(bytes:Nat)(l m:H α):Prop:=(O l+O m)*bytes<=140737488355328/\O l+O m<=9223372036854775807
instance {α:Type} (bytes:Nat) (l m:List α):Decidable (Room bytes l m):=inferInstanceAs (Decidable (_/\_))
theorem Room.mk{bytes:Nat}{l m:H α}(b:(O l+O m)*bytes<=140737488355328)(a:O l+O m<=9223372036854775807):Room bytes l m:=⟨b,a⟩
theorem set1{cs:H Q}{a a':α}{v:Q}(h:R.rd w A v.cells.toList a')(d:R.rd w A cs a)(W:R.sz=1:=by rfl)(b:v.oneCell'=true:=by assumption):R.rd w A (cs.set 0 v) a':=by
 have:=R.len d;rw[W]at this
 match cs,this with
 |[c],_=>rw[cz b]at h;exact h
variable{f:mT}{first captured:Array Q}{xs:Array br}{args:H Q}
theorem cu{ts:Array bk}(g:V3 P f)(b:ev n env x=.func (.func f) first captured)(c:first.toList++xs.toList.map (ev n env)++captured.toList=args)(a:bp P f (ar args) w (λe w'=>∃v,e=.returned v/\WL P ops aq rest n (gy env d v) w')):
  WL P ops aq (⟨d,.call {callee:=.value x,args:=xs,argTypes:=ts},ty,pos,af,bh⟩::rest) n env w:=
 OC g b c a (λ_ _ h=>h)
theorem fJ{a b:α}{l m:H α}(h:a=b)(c:l=m):a::l=b::m:=by rw[h,c]
variable{j dj:Nat}{b want:Yi}
theorem V0{ts:Array bk}(c:Yi)(l:(ops[j]?).bind (·.dst)=U dj)(i:ev n env (.tmp dj)=gv c (.bool b))(s:V3 P f)(p:ev n env x=.func (.func f) first captured)(q:(c&&(b==want))=bd->first.toList++xs.toList.map (ev n env)++captured.toList=args)(o:bp P f (ar args) w (λe w'=>Grow w w'/\e=.returned v))(k:∀w',Grow w w'->WL P ops aq rest n (gy env d (gv (c&&(b==want)) v)) w'):
    WL P ops aq (⟨d,.call {callee:=.value x,args:=xs,argTypes:=ts},ty,pos,af,U (j,want)⟩::rest) n env w:=by
  by_cases a:(c&&(b==want))=bd
  · have u:=gl a;have t:=gr a;rw[iR u]at i;have r:b=want:=by simpa using t
    subst r;refine NY l i<|OC s p (q a) o ?_;rintro e w'⟨m,rfl⟩;refine⟨_,Z,?_⟩;have:=k w' m;rw[iR a]at this;exact this
  · have g:(c&&(b==want))=false:=by simpa using a
    have h:=k w<|bF.refl _ _;rw[g]at h;cases c with
    |true=>exact ji l i (by simpa using g) h
    |false=>exact wl_offU l i h
theorem uz{ts:Array bk}(m:(ops[j]?).bind (·.dst)=U dj)(c:ev n env (.tmp dj)=.bool b)(l:V3 P f)(g:ev n env x=.func (.func f) first captured)(i:(b==want)=bd->first.toList++xs.toList.map (ev n env)++captured.toList=args)(a:bp P f (ar args) w (λe w'=>Grow w w'/\e=.returned v))(k:∀w',Grow w w'->WL P ops aq rest n (gy env d (gv (b==want) v)) w'):
    WL P ops aq (⟨d,.call {callee:=.value x,args:=xs,argTypes:=ts},ty,pos,af,U (j,want)⟩::rest) n env w:=
  V0 bd m c l g (λh=>i (by simpa using h)) a (by simpa using k)
variable{E:bk}
theorem SH.kM(h:SH I M BE w J)(i:Nat)(hi:J i=.own R E v l):dC R E w M v l/\∀b,ob v b->I.heap.size<=b:=
 ⟨dC.go (h.bZ i hi) (bF.refl BE w) (λ_ h=>h.elim) (λ_ h=>h.elim) (λb a _=>.inl (.inl a)),λb a=>h.fresh i b (by rw[hi];exact a)⟩
theorem lZ{s:Nat}:∀b,ob (.slice bh 0 0) b->s<=b:=λ_ h=>h.elim
theorem sN{P:cc}{z:Q}{s b:Nat}(h:(P.info? E).map (λi=>(i.zero,i.size,i.bytes))=U (U z,s,b))(a:z.cells.size=s):∃i z,P.info? E=U i/\i.zero=U z/\i.size=s/\i.bytes=b/\z.cells.size=s:=by
 cases hi:P.info? E with
 |none=>simp[hi]at h
 |some i=>simp[hi]at h;exact⟨i,z,Z,h.1,h.2.1,h.2.2,a⟩
variable{p q:Int}
theorem r_max{T2:bk}(a:ρ x=.int .i64 p)(b:ρ y=.int .i64 q):(bm ρ ⟨d,.call {callee:=.builtin .max,args:= #[x,y],argTypes:= #[T,T2]},ty,pos,af,g⟩).run P w=.ok (.value (.int .i64 (max p q))) w:=by
 have h:(if q>p then q else p)=max p q:=by split<;>omega
 simp[bm,jK,mw,lQ,Builtin.max_,Builtin.max2,a,b,h]
theorem r_min{T2:bk}(a:ρ x=.int .i64 p)(b:ρ y=.int .i64 q):(bm ρ ⟨d,.call {callee:=.builtin .min,args:= #[x,y],argTypes:= #[T,T2]},ty,pos,af,g⟩).run P w=.ok (.value (.int .i64 (min p q))) w:=by
 have h:(if q<p then q else p)=min p q:=by split<;>omega
 simp[bm,jK,mw,lQ,Builtin.min_,Builtin.min2,a,b,h]
theorem F5{zs vs cs:H Q}{b i:Nat}(j:SH I M K w J)(hi:J i=.blk b cs)(f:zg P T zs)(hl:O vs=O zs)(e:cs=vs):(xt T ⟨b,0,bh⟩).run P w=.ok (.agg (ar vs)) w:=by
 subst e;have h:=vE (P:=P) (ρ:=λ_=>.pointer (U ⟨b,0,bh⟩)) (d:=bh) (ty:=0) (pos:= "") (af:= #[]) (g:=bh) (x:=.tmp 0) (o:=0) (vs:=cs) j i hi f Z (by rw[<-hl];simp) hl;simp only[bm,ud,kl]at h;have c:((xt T ⟨b,0,bh⟩).run P w).andThen (λa w'=>we (Next.value a) w')=we (Next.value (Value.agg (ar cs))) w:=by simpa using h
 cases hres:(xt T ⟨b,0,bh⟩).run P w with
 |ok v w'=>rw[hres]at c;simp at c;rw[c.1,c.2]
 |halt x w'=>rw[hres]at c;simp[Result.andThen]at c
theorem fin_tct{fn:Func}{R:sC->ay->Prop}{t u a:Tmp}{T:bk}{v1 v3:Q}{zs vs:H Q}{b:Nat}(l:fn.results= #[.tmp t,.cell a T,.tmp u])(j:ev n env (.tmp t)=v1)(g:ev n env (.tmp a)=.pointer (U ⟨b,0,bh⟩))(o:ev n env (.tmp u)=v3)
  (m:SH I M K w J) (i:Nat) (hi:J i=.blk b vs) (k:zg P T zs) (hl:O vs=O zs) (h:R (.returned (.tuple #[v1,.agg (ar vs),v3])) w):ks P fn R .ret (C6 n env) w:=by
 refine⟨Z,_,?_,h⟩;have d:=congrFun (jG n env)<|.tmp t;have e:=congrFun (jG n env)<|.tmp u;have c:=congrFun (jG n env)<|.tmp a;rw[j]at d;rw[o]at e;rw[g]at c;simp only[kh]at d e c;rw[da]at d e c;have f:=F5 (P:=P) m hi k hl Z;unfold results;rw[l];simp[d,e,c,asAddr,f]
theorem SH.jT(h:SH I M K w J)(j i:Nat)(n:J j=.own R E v l)(hi:J i=.no)(t:j≠i):SH I M K w (df (df J j .no) i (.own R E v l)):=by
  have ho:=h.bZ j n;have d:∀x b,(df (df J j .no) i (.own R E v l) x).own' b->∃y,(J y).own' b/\(x=i->y=j)/\(x≠i->y=x/\x≠j):=by
    intro x b a;by_cases e:x=i
    · subst e;rw[dJ]at a;exact⟨j,by rw[n];exact a,λ_=>rfl,λh=>ZD Z h⟩
    · rw[iI e]at a;by_cases c:x=j
      · subst c;rw[dJ]at a;exact a.elim
      · rw[iI c]at a;exact⟨x,a,λh=>ZD h e,λ_=>⟨Z,c⟩⟩
  have f:∀b,kr (df (df J j .no) i<|.own R E v l) b->kr J b:=λb⟨x,m⟩=>let ⟨y,g,_⟩:=d x b m;⟨y,g⟩;refine⟨h.keep,h.ltM,λx b a=>let ⟨y,g,_⟩:=d x b a;h.apM y b g,λx=>?_,λx y k b m g=>?_,λx b a=>let ⟨y,g,_⟩:=d x b a;h.old y b g⟩
  · by_cases e:x=i
    · subst e;rw[dJ];have:=h.ok j;rw[n]at this;exact Chunk.sub this λb a _=>f b a
    · rw[iI e];by_cases c:x=j
      · subst c;rw[dJ];trivial
      · rw[iI c];exact Chunk.sub (h.ok x) (λb a _=>f b a)
  · obtain⟨q,s,u,p⟩:=d x b m;obtain⟨r,k1,k2,o⟩:=d y b g;have:q≠r:=by
      by_cases e:x=i
      · have c:y≠i:=λh=>k<|e.trans h.symm;rw[u e,(o c).1];exact λh=>(o c).2 h.symm
      · by_cases c:y=i
        · rw[k2 c,(p e).1];exact(p e).2
        · rw[(p e).1,(o c).1];exact k
    exact h.apart q r this b s k1
theorem SH.iX(h:SH I M K w J)(j i:Nat)(a:J j=.rd R v l):SH I M K w (df J i (.rd R v l)):=h.az i (h.dU j a)
theorem SH.kQ(h:SH I M K w J)(i:Nat)(hi:J i=.rd R v l):bY R w M v l:=
 (h.dU i hi).sub (λb a _=>.inl a) (λb a _=>.inl a)
def C4{α:Type}(bytes:Nat)(a:H α):B (H α):=iE (Room bytes ([]:H α) a) (U a)
structure Arr2(P:cc)(T E:bk):Prop where
  desc:P.underlying T=U (.array 2 E)
  zero:∃z0 z1,(P.info? T).map (·.zero)=U (U (.agg #[z0,z1]))
  size:(P.info? E).map (·.size)=U 1
  plain:∃F,P.underlying E=U (.slice F)
theorem r_build2{x y:br}{p q:Q}(e:Arr2 P T E)(m:ρ x=p)(l:ρ y=q)(s:p.oneCell'=bd)(r:q.oneCell'=bd):(bm ρ ⟨d,.build T #[(0,x),(1,y)],ty,pos,af,g⟩).run P w=.ok (.value (.agg #[p,q])) w:=by
 obtain⟨a,c,f⟩:=e.zero;obtain⟨i,hi,k⟩:∃i,P.info? T=U i/\i.zero=U (.agg #[a,c]):=by
  cases hi:P.info? T with
  |none=>simp[hi]at f
  |some i=>simp[hi]at f;exact⟨i,Z,f⟩
 obtain⟨j,n,b⟩:∃j,P.info? E=U j/\j.size=1:=by
  have:=e.size;cases hi:P.info? E with
  |none=>simp[hi]at this
  |some i=>simp[hi]at this;exact⟨i,Z,this⟩
 have c1:=F4 s;have c2:=F4 r;simp only[bm,Instr.build,m,l,cD,my,ee,hO];have o:(Value.agg #[a,c]).cells= #[a,c]:=rfl;simp[hi,k,e.desc,n,b,mN,c1,c2,o,m,l]
theorem r_index2{x y:br}{p q v:Q}{k:Nat}(c:Arr2 P T E)(n:ρ x=.agg #[p,q])(m:ρ y=.int .i64 k)(a:[p,q][k]? =U v):(bm ρ ⟨d,.index T x y,ty,pos,af,g⟩).run P w=.ok (.value v) w:=by
  obtain⟨F,r⟩:=c.plain;obtain⟨j,o,e⟩:∃j,P.info? E=U j/\j.size=1:=by
    have:=c.size;cases hi:P.info? E with
    |none=>simp[hi]at this
    |some i=>simp[hi]at this;exact⟨i,Z,this⟩
  have f:k<2:=by
    rcases cH k 2 with h|h
    · exact h
    · rw[bG (by simpa using h)]at a;cases a
  have l:(#[p,q]:Array Q)[k]? =U v:=by simpa using a
  have b:((k:Int)<2):=by omega
  simp only[bm,Instr.index,n,m,cD,kq,part,isAgg,hO,ee];simp[c.desc,o,e,r,b,f];rw[bl (by simpa using f)]at a;exact dq a
structure PairI(P:cc)(T:bk):Prop where
 desc:∃f0 f1,P.underlying T=U (.struct #[f0,f1])/\f0.name≠ "_" /\f1.name≠ "_" /\f0.offset=0/\f1.offset=1/\P.underlying f0.type=U (.int .i64)/\P.underlying f1.type=U (.int .i64)/\P.plainKey f0.type=bd/\P.plainKey f1.type=bd
 stood:P.stoodInHeld T=aw
 guard:P.eqGuardType P.depth T=aw
theorem eq_pairI(i:PairI P T)(a b c e:Int):(tG 10000 T (.agg #[.int .i64 a,.int .i64 b]) (.agg #[.int .i64 c,.int .i64 e])).run P w=.ok (G (a=c)&&G (b=e)) w:=by
  obtain⟨k,f,g,n,q,m,o1,l,o,d,k1⟩:=i.desc;have j:P.fieldsOf T= #[k,f]:=by simp[Program.fieldsOf,g]
  rw[show(10000:Nat)=9999+1 from rfl,run_equalIn_agg w 9999 T _ _ (by rw[j];exact g) i.stood,j];simp only[Op.eqFields,n,q,ne_eq,not_false_eq_true,if_true,m,o1,cC];rw[se w d (xs:= #[.int .i64 a,.int .i64 b]) (off:=0) (v:=.int .i64 a) rfl];simp only[bW];rw[se w d (xs:= #[.int .i64 c,.int .i64 e]) (off:=0) (v:=.int .i64 c) rfl];simp only[bW];rw[show(9999:Nat)=9998+1 from rfl,run_equalIn_int w 9998 k.type .i64 .i64 a c l];simp only[bW,vy,cC];by_cases h:a=c
  · subst h;simp only[beq_self_eq_true,Bool.not_true,cL,if_false];rw[se w k1 (xs:= #[.int .i64 a,.int .i64 b]) (off:=1) (v:=.int .i64 b) rfl];simp only[bW];rw[se w k1 (xs:= #[.int .i64 a,.int .i64 e]) (off:=1) (v:=.int .i64 e) rfl];simp only[bW];rw[run_equalIn_int w 9998 f.type .i64 .i64 b e o];by_cases p:b=e<;>simp[p]
  · simp[h]
variable{T2:bk}
theorem r_eqlP{a b c e:Int}(f:PairI P T)(j:ρ x=.agg #[.int .i64 a,.int .i64 b])(i:ρ y=.agg #[.int .i64 c,.int .i64 e]):(bm ρ ⟨d,.binOp .eql T x y T2,ty,pos,af,g⟩).run P w=.ok (.value (.bool (G (a=c)&&G (b=e)))) w:=by
 simp only[bm,j,i,cC,run_eqGuard_agg w .eql T x y _ _ f.guard,bW,run_eql_struct,eq_pairI f];simp
theorem r_neqP{a b c e:Int}(f:PairI P T)(j:ρ x=.agg #[.int .i64 a,.int .i64 b])(i:ρ y=.agg #[.int .i64 c,.int .i64 e]):(bm ρ ⟨d,.binOp .neq T x y T2,ty,pos,af,g⟩).run P w=.ok (.value (.bool (!(G (a=c)&&G (b=e))))) w:=by
 simp only[bm,j,i,cC,run_eqGuard_agg w .neq T x y _ _ f.guard,bW,run_neq_struct,eq_pairI f];simp
end
end
section
variable{σ:Type}{n:Nat}{e HD:Nat->Q}{mod:Nat->Yi}{live:σ->H (Nat×Q)}{hp:σ->ay->Prop}{w:ay}
theorem lend{μ:σ->Nat}{s0:σ}(s:σ)(d:hp s w)(a:μ s<μ s0:=by dsimp only;omega)(c:Dd e (live s):=by repeat (first|exact an|refine⟨rfl,?_⟩))
 (b:Bg mod e HD:=by repeat (first|(with_reducible exact Bg.refl _ _)|(with_reducible exact Bg.Y1 _ _ _)|(with_reducible refine Bg.on ?_)|((with_reducible refine Bg.hin ?_ ?_);rfl)|(with_reducible refine Bg.un ?_)|((with_reducible refine Bg.os ?_ ?_);rfl)|((with_reducible refine Bg.uc ?_ ?_);rfl))):
 JL n mod HD live hp μ s0 (C6 n e) w:=⟨s,e,rfl,b,c,d,a⟩
end
section
variable{P:cc}{aq:fY->Act->ay->Prop}{n:Nat}{env:Nat->Q}{w:ay}
theorem wc_rounds{c:Code}(m:Nat)(h:WC P c (Exit.then (vq P c aq m) aq) n env w):WC P (zb c) aq n env w:=⟨wp_loop_rounds (m+1) h.out⟩
theorem LS{c:Code}{m:Nat}(h:WC P c (Exit.then (vq P c aq m) aq) n env w):Exit.then (vq P c aq (m+1)) aq .normal (C6 n env) w:=h.out
end
theorem SH.cn{I w:ay}{M K:BS}{J:Nat->Chunk}(h:SH I M K w J)(l:H (Nat×Chunk))(hl:QZ J l:=by repeat (first|exact an|refine⟨rfl,?_⟩)):SH I M K w (C0 l):=h.canon l hl
section
variable{α β σ ρ:Type}
section
variable{l:H α}
theorem To{k:Nat}(h:G ((k:Int)<(O l:Int))=bd):∃x,l[k]? =U x/\l.drop k=x::l.drop (k+1):=by
 have a:k<O l:=by have:=of_decide_eq_true h;omega
 exact⟨l[k],bl a,cp a⟩
theorem T8{k:Nat}(h:G ((k:Int)<(O l:Int))=aw):l.drop k=[]:=by
 have:=of_decide_eq_false h;exact cq V
variable{k:σ->ρ}{x:α}{s:σ}
theorem gq{body:α->σ->(σ->ρ)->ρ}:vh body k (x::l) s=body x s (vh body k l):=rfl
theorem lM{body:α->σ->(σ->ρ)->ρ}:vh body k [] s=k s:=rfl
variable{body:Int->α->σ->(σ->ρ)->ρ}{i:Int}
theorem AP:ib body k i (x::l) s=body i x s (ib body k (i+1) l):=rfl
theorem Vi:ib body k i [] s=k s:=rfl
variable{j m:Nat}
theorem upto_lt{body:Int->σ->(σ->ρ)->ρ}(h:j<m):zE body k i (m-j) s=body i s (zE body k (i+1) (m-(j+1))):=by
 rw[show m-j=(m-(j+1))+1 by omega];rfl
theorem upto_ge{body:Int->σ->(σ->ρ)->ρ}(h:m<=j):zE body k i (m-j) s=k s:=by
 rw[show m-j=0 by omega];rfl
theorem again_pos{body:σ->(σ->B β)->B β}{m:Nat}{r:β}(h:zy body m s=U r):∃a,m=a+1/\body s (zy body a)=U r:=by
 cases m with
 |zero=>cases h
 |succ m=>exact⟨m,rfl,h⟩
theorem Zb{k:Nat}(hi:i=(k:Int))(h:l[k]? =U x):l[i.toNat]? =U x:=by subst hi;simpa using h
theorem nat_nn{k:Nat}(hi:i=(k:Int)):0<=i:=by omega
theorem nat_rng{k:Nat}(hl:O l<=9223372036854775807)(hi:i=(k:Int))(a:G (i<(O l:Int))=bd):ky (i+1):=by
 have:=of_decide_eq_true a;exact⟨by omega,by omega⟩
end
end
open Go.RowKit
section
variable{P:cc}{ops:Array ec}{C:ay->Prop}{aq:fY->Act->ay->Prop}{n:Nat}{env:Nat->Q}{w w':ay}{rest:H ec}
 {d:B Nat} {op:Op} {ty:bk} {pos:String} {af:Array hR} {v:Q} {g:B (Nat×Yi)} {T:bk} {ρ:br->Q}
def BndN(o:B Q)(a b:Nat):Prop:=(o=bh/\a=b)\/o=U (.int .i64 a)
theorem addr_zero(g:Nat):(⟨g,0,bh⟩:nF).add 0=⟨g,0,bh⟩:=rfl
theorem yC{x:br}{lo:B br}{hi:br}{E:bk}{sz b len cap:Nat}{ad:B nF}(l:SliceOf P T E sz)(n:ρ x=.slice ad len cap)(o:ad=bh\/∃g,ad=U ⟨g,0,bh⟩)(j:BndN (lo.map ρ) 0 0)(a:ρ hi=.int .i64 b)(k:b<=cap):
    (bm ρ ⟨d,.slice T x lo (U hi) bh,ty,pos,af,g⟩).run P w=.ok (.value (.slice ad b cap)) w:=by
  obtain⟨i,e,f⟩:∃i,P.info? E=U i/\i.size=sz:=by
    have:=l.info;cases hi:P.info? E with
    |none=>simp[hi]at this
    |some i=>simp[hi]at this;exact⟨i,Z,this⟩
  have c:(dt bd len cap (lo.map ρ) ((U hi).map ρ) bh).run P w=.ok (0,b,cap) w:=by
    have m:(b:Int)<=(cap:Int):=by omega
    rcases j with⟨e1,_⟩|e1
    · simp[dt,e1,a,eK,kq,k]
    · simp[dt,e1,a,eK,kq,k]
  simp only[bm,lp,lR,cD,n];simp only[dk,a]at c;rcases o with rfl|⟨g,rfl⟩<;>simp[l.desc,c,hO,ee,e,f,a,addr_zero]
theorem tN{x:br}{lo hi l:B br}{E:bk}{sz gg a b m len cap:Nat}(t:SliceOf P T E sz)(u:ρ x=.slice (U ⟨gg,0,bh⟩) len cap)(k:BndN (lo.map ρ) a 0)(p:BndN (hi.map ρ) b len)(s:(l.map ρ=bh/\m=cap)\/(l.map ρ=U (.int .i64 m)/\hi.map ρ=U (.int .i64 b)))
    (e:a<=b) (f:b<=m) (o:m<=cap):
    (bm ρ ⟨d,.slice T x lo hi l,ty,pos,af,g⟩).run P w=.ok (.value (.slice (U (if m=a then⟨gg,0,bh⟩else⟨gg,a*sz,bh⟩)) (b-a) (m-a))) w:=by
  obtain⟨i,q,r⟩:∃i,P.info? E=U i/\i.size=sz:=by
    have:=t.info;cases hi:P.info? E with
    |none=>simp[hi]at this
    |some i=>simp[hi]at this;exact⟨i,Z,this⟩
  have c:(dt bd len cap (lo.map ρ) (hi.map ρ)<|l.map ρ).run P w=.ok (a,b,m) w:=by
    have z:(0:Int)<=(a:Int):=kc a;have y:(0:Int)<=(b:Int):=kc b;have j:b<=cap:=by omega
    have n:a<=m:=by omega
    rcases s with⟨g1,g2⟩|⟨g1,f1⟩
    · subst g2;rcases k with⟨e1,e2⟩|e1<;>rcases p with⟨f1,f2⟩|f1<;>(try subst e2)<;>(try subst f2)<;>
        simp[dt,e1,f1,g1,eK,kq,e,f,j]
    · rcases k with⟨e1,e2⟩|e1<;>(try subst e2)<;>
        simp[dt,e1,f1,g1,eK,kq,e,f,o,n]
  have v:(⟨gg,0,bh⟩:nF).add (a*sz)=⟨gg,a*sz,bh⟩:=by
    unfold jI;split
    · next hz=>rw[hz]
    · simp
  simp only[bm,lp,lR,cD,u];simp[t.desc,c,hO,ee,q,r,v];split<;>rfl
structure Raw(w:ay)(gg cap sz:Nat)(E:bk)(cur:List Q):Prop where
 blk:w.heap[gg]? =U (.cells cur.toArray E (0,0))
 len:cur.length=cap*sz
 le:cap<=mx
theorem E5(gg o k:Nat):(⟨gg,o,bh⟩:nF).add k=⟨gg,o+k,bh⟩:=by
  unfold jI;split
  · next hz=>rw[hz];rfl
  · rfl
theorem Zc{x y:br}{E:bk}{sz bytes gg cap a m c j:Nat}{cur:H Q}{ad:nF}(v:lT P T E sz bytes)(o:Raw w gg cap sz E cur)(F:ev n env x=.slice (U ⟨gg,0,bh⟩) a cap)(C:ev n env y=.slice (U ad) m c)
    (t:m=0\/ad=⟨gg,j*sz,bh⟩) (Ys:j+m<=cap) (p:a+m<=cap) (K:∀u∈(cur.drop (j*sz)).take (m*sz),u.oneCell'=bd)
    (h:∀w',bF (λx=>x=gg) w w'->Raw w' gg cap sz E (cur.take (a*sz)++(cur.drop (j*sz)).take (m*sz)++cur.drop (a*sz+m*sz))->WL P ops aq rest n (gy env d (.slice (U ⟨gg,0,bh⟩) (a+m) cap)) w'):
    WL P ops aq (⟨d,.call {callee:=.builtin .append,args:= #[x,y],argTypes:= #[T,T]},ty,pos,af,bh⟩::rest) n env w:=by
  obtain⟨i,z,hi,ry,W,w0,al⟩:=v.info;have A:j*sz+m*sz<=cap*sz:=by rw[<-cf];exact bj _ Ys
  have r:a*sz+m*sz<=cap*sz:=by rw[<-cf];exact bj _ p
  have f:=o.len;have b:O ((cur.drop<|j*sz).take<|m*sz)=m*sz:=by rw[cd,cQ];omega
  have g:∀k u,((cur.drop<|j*sz).take<|m*sz)[k]? =U u->w.cell? (ad.add k)=U u:=by
    intro k u q;rcases t with rfl|rfl
    · simp at q
    · rw[E5];have s:k<m*sz:=by
        rcases cH k (m*sz)with h|h
        · exact h
        · rw[bG V]at q;cases q
      rw[ca,Z2 s,ct]at q;simp[fc,o.blk,q]
  have e:=run_append_room (P:=P) w T ty E i v.desc hi gg a cap (ar cur) o.blk ad m c _ (by rw[W];exact b) g K p (by rw[W,b];simpa[f]using r);have l:(bm (ev n env) ⟨d,.call {callee:=.builtin .append,args:= #[x,y],argTypes:= #[T,T]},ty,pos,af,bh⟩).run P w=.ok (.value<|.slice (U ⟨gg,0,bh⟩) (a+m) cap) (yG w gg<|.cells (ar (cur.take (a*sz)++(cur.drop<|j*sz).take (m*sz)++cur.drop (a*sz+m*sz))) E (0,0)):=by
    rw[W,b,N8 o.blk]at e;simp only[bm,jK,mw,lQ,cC,cR,bW,hQ,cF,js,F,C,e]
  refine aC l<|h _ (bF.yG _ _ _) ⟨wV<|jh o.blk,?_,o.le⟩;rw[bn,bn,b,cd,cQ,f];omega
def T7(P:cc)(E:bk):Prop:=∃z,(P.info? E).map (·.zero)=U (U z)/\z.cells.all (·.oneCell')=bd
theorem Ok{z:Array Q}{k:Nat}(h:z.all (·.oneCell')=bd):∀u∈(cI z k).toList,u.oneCell'=true:=by
  intro u c;simp only[cI,sA,fW]at c;obtain⟨i,hi,rfl⟩:=c;have b:i<k*z.size:=by simpa using hi
  have d:0<z.size:=by
    rcases Nat.eq_zero_or_pos z.size with h0|h0
    · rw[h0,Nat.mul_zero]at b;omega
    · exact h0
  have a:i%z.size<z.size:=tt _ d;rw[getElem!_pos z (i%z.size) a];exact(Array.all_eq_true.1 h) _ a
theorem Hp{x:br}{E:bk}{sz bytes gg cap m k c:Nat}{cur:H Q}(y:lT P T E sz bytes)(v:T7 P E)(l:Raw w gg cap sz E cur)(Ys:ev n env x=.slice (U ⟨gg,m*sz,bh⟩) k c)(F:0<k)(r:m+k<=cap)
    (h:∀w' e,bF (λx=>x=gg) w w'->Raw w' gg cap sz E e->e.take (m*sz)=cur.take (m*sz)->WL P ops aq rest n (gy env d (.tuple #[])) w'):
    WL P ops aq (⟨d,.call {callee:=.builtin .clear,args:= #[x],argTypes:= #[T]},ty,pos,af,bh⟩::rest) n env w:=by
  obtain⟨i,z,hi,A,W,C,s⟩:=y.info;obtain⟨q,g,o⟩:=v;have u:q=z:=by simp[hi,A]at g;exact g.symm
  subst u;have t:m*sz+k*sz<=cap*sz:=by rw[<-cf];exact bj _ r
  have b:=l.len;have f:O (cI q.cells k).toList=k*sz:=by rw[cx,oE,s]
  have a:=tf (P:=P) gg (m*sz) E (cI q.cells k).toList 0 (ar cur) w l.blk (by rw[f];simpa[b]using t) (Ok o);rw[N8 l.blk]at a;obtain⟨p,rfl⟩:∃p,k=p+1:=⟨k-1,by omega⟩;have j:(bm (ev n env) ⟨d,.call {callee:=.builtin .clear,args:= #[x],argTypes:= #[T]},ty,pos,af,bh⟩).run P w=.ok (.value<|.tuple #[]) (yG w gg<|.cells (ar (cur.take (m*sz)++(cI q.cells<|p+1).toList++cur.drop (m*sz+(p+1)*sz))) E (0,0)):=by
    rw[f]at a;simp only[Nat.add_zero]at a;simp only[bm,jK,mw,lQ,Builtin.clear_,cD,my,ee,cC,cR,bW,hQ,cF,js,Ys];simp[y.desc,hi,A,a]
  refine aC j<|h _ _ (bF.yG _ _ _) ⟨wV<|jh l.blk,?_,l.le⟩ ?_
  · rw[bn,bn,f,cd,cQ,b];omega
  · rw[cy,de (by rw[cd];omega),eh,Nat.min_self]
end
section
variable{α:Type}{R:uQ α}{E:bk}{A:BS}{l:H α}
theorem Zd{w:ay}{v:Q}(h:dC R E w A v l)(hl:0<O l):
    ∃gg cap cur,v=.slice (U ⟨gg,0,bh⟩) (O l) cap/\Raw w gg cap R.sz E cur/\O l<=cap/\∀i (h:i<O l),R.rd w (λb=>A b\/b=gg) ((cur.drop (i*R.sz)).take R.sz) l[i]:=by
  obtain⟨xs,d,e⟩:=h;rcases d.2 with⟨rfl,hn⟩|⟨gg,cap,cur,rfl,e1,e2,e3,e4,e5,e6⟩
  · omega
  refine⟨gg,cap,cur.toList,Z,⟨by simpa using e2,by simpa using e5,e4⟩,e3,λi hi=>?_⟩;have a:(i+1)*R.sz<=O l*R.sz:=bj _ hi;rw[cf]at a;have c:=e i hi;rw[<-e6,eo,eh,cX V]at c;exact c
variable{cur:H Q}
theorem WO{w:ay}(h:∀i (h:i<O l),R.rd w A ((cur.drop (i*R.sz)).take R.sz) l[i]){j m:Nat}(f:j+m<=O l):∀u∈(cur.drop (j*R.sz)).take (m*R.sz),u.oneCell'=true:=by
 intro u d;obtain⟨k,c,rfl⟩:=List.getElem_of_mem d;have a:k<m*R.sz:=by rw[cd]at c;omega
 have J:=R.pos;have g:k / R.sz<m:=ql (by rw[mD];exact a);refine R.one (h (j+k / R.sz) V) _ ?_;rw[List.mem_iff_getElem?];refine⟨k%R.sz,?_⟩;have b:k%R.sz<R.sz:=tt _ J;rw[ca,Z2 b,ct,nL,sh];have e:(j+k / R.sz)*R.sz+k%R.sz=j*R.sz+k:=by
  rw[cf,ki,mD (k / R.sz),A5]
 rw[e,bl]
variable{w w':ay}
theorem raw_del{gg cap i j:Nat}{cur c:H Q}(s:Raw w' gg cap R.sz E c)(K:Raw w gg cap R.sz E cur)(u:bF (λx=>x=gg) w w')(p:i<=j)(z:j<=O l)(w0:O l<=cap)(f:∀k (h:k<O l),R.rd w (λb=>A b\/b=gg) ((cur.drop (k*R.sz)).take R.sz) l[k])(Ys:c.take ((i+(O l-j))*R.sz)=cur.take (i*R.sz)++(cur.drop (j*R.sz)).take ((O l-j)*R.sz)):
    dC R E w' A (.slice (U ⟨gg,0,bh⟩) (i+(O l-j)) cap) (l.take i++l.drop j):=by
  have d:O (l.take i++l.drop j)=i+(O l-j):=by rw[bn,cd,cQ];omega
  have al:=K.len;have ry:O l*R.sz<=cap*R.sz:=bj _ w0;have C:j*R.sz<=O l*R.sz:=bj _ z;have F:i*R.sz<=j*R.sz:=bj _ p;have t:(O l-j)*R.sz=O l*R.sz-j*R.sz:=sY _ _ _;have m:O (cur.take<|i*R.sz)=i*R.sz:=by rw[cd];omega
  refine⟨cur.take (i*R.sz)++(cur.drop<|j*R.sz).take ((O l-j)*R.sz),⟨?_,.inr ⟨gg,cap,ar c,?_,gj _,s.blk,?_,s.le,?_,?_⟩⟩,?_⟩
  · rw[d,bn,m,cd,cQ,cf];omega
  · rw[d]
  · rw[d];omega
  · simpa using s.len
  · rw[d];exact Ys
  · intro k o;rw[d]at o;have g:=λcs a(h:R.rd w (λb=>A b\/b=gg) cs a)=>R.go (A':=λb=>A b\/b=gg) h u (λx y _=>.inr y) λ_ h _=>h;by_cases r:k<i
    · have e:(k+1)*R.sz<=i*R.sz:=bj _ r;rw[cf]at e;have n:=g _ _<|f k V;rw[fl (by rw[cd];omega),nL,hU V,de (by rw[cQ];omega),eo,eh,cX V];exact n
    · have n:=g _ _<|f (j+(k-i)) V;have e:(k-i+1)*R.sz<=(O l-j)*R.sz:=bj _ V;rw[cf]at e;have hik:i*R.sz<=k*R.sz:=bj _ V;have q:(k-i)*R.sz=k*R.sz-i*R.sz:=sY _ _ _;rw[gA (by rw[cd];omega)];have v:(l.drop j)[k-O (l.take i)]'(by rw[cd,cQ];omega)=l[j+(k-i)]'V:=by
        rw[sh];congr 1;rw[cd];omega
      rw[v,lx,cq V,ck,m,<-q,eo,eh,cX V,pC,<-cf];exact n
theorem Raw.keep{gg cap sz:Nat}{N:BS}(h:Raw w gg cap sz E cur)(a:bF N w w')(hn:¬N gg):Raw w' gg cap sz E cur:=⟨a.blk h.blk hn,h.len,h.le⟩
end
section
variable{P:cc}{aq:fY->Act->ay->Prop}{n:Nat}{env:Nat->Q}{w w' I:ay}{M K:BS}{J:Nat->Chunk}
theorem Ze{id:Nat}(k:Nat){l:H ec}(d:P.follows .mixedOrders=bd)(c:xF .any (ar l) k=bd)
  (kk:∀b,Grow w b->WK P (ar l) b (λa=>sL P (ar l) aq (l.drop k) a b) (l.take k) n env):WC P (jj id (ar l) bd) aq n env w:=
 ⟨Ae k d c (zN (kk _ (Grow.drew w)).out)⟩
section
variable{α:Type}{R:uQ α}{E:bk}{v u:Q}
theorem SH.given{l c:H α}(h:SH I M K w J)(i:Nat)(hi:J i=.own R E v l)(ho:dC R E w' (λb=>M b\/rest J i b) u c)(d:bF (ob v) w w')(hn:∀b,ob u b->b<w.heap.size->ob v b):SH I M K w' (df J i (.own R E u c)):=by
  refine h.step i d (λb a _=>by rw[hi];exact a) (λb a hl=>by rw[hi];exact hn b a hl) ?_;refine dC.go ho (bF.refl BE w') (λ_ h=>h.elim) (λ_ h=>h.elim) λb a _=>?_;rcases a with a|a|a
  · exact .inl<|.inl a
  · exact .inl<|.inr a
  · exact .inr a
variable{l:H α}
theorem SH.giveO{v:Q}(h:SH I M K w J)(i:Nat)(hi:J i=.own R E v l):dC R E w (λb=>M b\/rest J i b) v l:=
 dC.go (h.bZ i hi) (bF.refl BE w) (λ_ h=>h.elim) (λ_ h=>h.elim) (λb a _=>.inl (a.imp id nV))
theorem SH.zQ{α β:Type}{R:uQ α}{R':uQ β}{l:H α}{d:H β}(h:SH I M K w J)(i j:Nat)(hi:J i=.rd R v l)(c:J j=.own R' E u d):bY R w (λb=>M b\/ob u b) v l:=
 (h.dU i hi).sub (λb a _=>a.elim .inl (λa=>.inr ⟨j,by rw[c];exact a⟩)) (λb a _=>a.elim .inl (λa=>.inr ⟨j,by rw[c];exact a⟩))
theorem bY.Wu{α β:Type}{R:uQ α}{R':uQ β}{l:H α}{d:H β}{i:Nat}(h:bY R w (λb=>SH.A M J b\/ob u b) v l):bY R w (SH.A M (df J i (.own R' E u d))) v l:=by
  have c:∀b,SH.A M (df J i<|.own R' E u d) b->SH.A M J b\/ob u b:=by
    rintro b(a|⟨j,a⟩)
    · exact .inl<|.inl a
    · by_cases e:j=i
      · subst e;rw[dJ]at a;exact .inr a
      · rw[iI e]at a;exact .inl (.inr ⟨j,a⟩)
  exact h.sub (λb a _=>c b a) λb a _=>c b a
theorem SH.toSr{v:Q}(h:SH I M K w J)(j i:Nat)(c:J j=.rd R v l):SH I M K w (df J i (.sr R v l)):=
 h.know i (λ_ h=>h) (dN.sub (h.dU j c) (λb a _=>.inr a) (λb a _=>a))
theorem SH.copyS{v:Q}(h:SH I M K w J)(j i:Nat)(a:J j=.sr R v l):SH I M K w (df J i (.sr R v l)):=
 h.know i (λ_ h=>h) (h.srAt j a)
theorem del_len{i j l cap sz:Nat}{cur:H Q}(hl:O cur=cap*sz)(b:i<=j)(e:j<=l)(d:l<=cap):
  ((cur.take (i*sz)++(cur.drop (j*sz)).take ((l-j)*sz)++cur.drop (i*sz+(l-j)*sz)).take ((i+(l-j))*sz))=cur.take (i*sz)++(cur.drop (j*sz)).take ((l-j)*sz):=by
 have f:i*sz<=j*sz:=bj _ b;have g:j*sz+(l-j)*sz=l*sz:=by rw[<-cf];congr 1;omega
 have k:l*sz<=cap*sz:=bj _ d;have c:O (cur.take<|i*sz)=i*sz:=by rw[cd];omega
 have a:O ((cur.drop<|j*sz).take ((l-j)*sz))=(l-j)*sz:=by rw[cd,cQ];omega
 rw[cf,de (by rw[bn,c,a];omega),kt (by rw[bn,c,a];omega)]
def del1{α:Type}(l:H α)(i j:Int):B (H α):=if 0<=i/\i<j/\j<=O l then U (l.take i.toNat++l.drop j.toNat)else bh
theorem o_del{l r:H α}{i j:Int}(h:del1 l i j=U r):∃a b:Nat,i=a/\j=b/\a<b/\b<=O l/\r=l.take a++l.drop b:=by
  unfold del1 at h;by_cases J:0<=i/\i<j/\j<=O l
  · rw[Z2 J]at h;cases h;exact⟨i.toNat,j.toNat,by omega,by omega,by omega,by omega,Z⟩
  · rw[Z3 J]at h;cases h
end
end
open Go.RowKit
def selK(K:Act->ay->Prop)(aq:fY->Act->ay->Prop):fY->Act->ay->Prop
 | .normal,a,w=>K a w
 |e,a,w=>aq e a w
section
variable{P:cc}{ops:Array ec}
variable{aq:fY->Act->ay->Prop}{n:Nat}{env:Nat->Q}{w I:ay}{M K:BS}{J:Nat->Chunk}
theorem RM{S S':ay->Prop}(b:∀w,S' w->S w):∀(fuel:Nat) (listed:Array Yi) (a:Act) (w:ay),wpAnyH P .any ops aq S' fuel listed a w->wpAnyH P .any ops aq S fuel listed a w
 |0,_,_,_,h=>h
 |fuel+1,_,_,_,h=>⟨h.1,λi hi=>wpOp_mono (λa' w' c=>⟨b _ c.1,RM b fuel _ a' w' c.2⟩) (h.2 i hi)⟩
variable{d:B Nat}{op:Op}{ty:bk}{pos:String}{af:Array hR}{v:Q}{g:B (Nat×Yi)}{i fuel:Nat}{listed:Array Yi}
theorem bA:cm ⟨d,op,ty,pos,af,bh⟩ (eN ops (C6 n env).tmps)=true:=rfl
theorem dD{j dj:Nat}{b:Yi}(c:(ops[j]?).bind (·.dst)=U dj)(e:ev n env (.tmp dj)=.bool b):cm ⟨d,op,ty,pos,af,U (j,b)⟩ (eN ops (C6 n env).tmps)=true:=by
  have a:=Ib (ops:=ops) c e;simp[cm,a]
theorem bK{j dj:Nat}{b b':Yi}(e:(ops[j]?).bind (·.dst)=U dj)(f:ev n env (.tmp dj)=.bool b')(c:(b'==b)=aw):cm ⟨d,op,ty,pos,af,U (j,b)⟩ (eN ops (C6 n env).tmps)=false:=by
  have a:=Ib (ops:=ops) e f;simpa[cm,a]using c
theorem WV{j dj:Nat}{b:Yi}(c:(ops[j]?).bind (·.dst)=U dj)(e:ev n env (.tmp dj)=gx):cm ⟨d,op,ty,pos,af,U (j,b)⟩ (eN ops (C6 n env).tmps)=false:=by
  have a:=OD (ops:=ops) c e;simp[cm,a]
theorem Zf{K:Act->ay->Prop}{Q1:fY->Act->ay->Prop}(hi:ops[i]? =U ⟨d,op,ty,pos,af,g⟩)(k:cm ⟨d,op,ty,pos,af,g⟩ (eN ops (C6 n env).tmps)=bd)
    (h:WL P ops (selK K Q1) [⟨d,op,ty,pos,af,bh⟩] n env w):wpOp P ops Q1 i K (C6 n env) w:=by
  unfold wpOp;simp only[hi,k,if_true];have b:=h.out;unfold sL at b;rw[Z2 (show cm _ _=bd from rfl)]at b;rcases b with b|⟨ha,hl⟩
  rotate_left
  · exact .inr ⟨ha,let ⟨a,w,h⟩:=hl;⟨a,w,h⟩⟩
  refine .inl ?_;unfold xr at b⊢;have e:(bm (C6 n env).eval ⟨d,op,ty,pos,af,g⟩)=bm (C6 n env).eval ⟨d,op,ty,pos,af,bh⟩:=by unfold bm;rfl
  rw[e];generalize (bm (C6 n env).eval ⟨d,op,ty,pos,af,bh⟩).run P w=r at b⊢;cases r with
  |ok nx w'=>
    cases nx with
    |value v=>exact b
    |skip=>exact b
    |defer d=>exact b
    |enter f args=>
      refine Calls.mono b λe l j=>?_;cases e with
      |returned v=>exact j
      |panicked c=>exact j
      |outgrown=>exact j
    |row r args=>exact b
    |_=>exact b
  |halt x w'=>
    cases x<;>exact b
variable{w':ay}{rest:H ec}{T:bk}{x y:br}
theorem oM{α:Type}{R:uQ α}{E:bk}{sz bytes:Nat}{parts:Array (Nat×br)}{len:Nat}{vs:H Q}{xs:H α}(h:SH I M K w J)(i:Nat)(m:lT P T E sz bytes)(W:R.sz=sz)
  (l:(parts.toList.map λp=>(p.1,ev n env p.2))=vs.zipIdx.map λp=>(p.2,p.1)) (a:O vs=len) (q:N9 R w (SH.A M J) vs xs) (e:lr (len*sz) 16777216=bd)
  (k:∀w' u,SH I M K w' (df J i (.own R E u xs))->Grow w w'->(∀b,ob u b->w.heap.size<=b)->WL P ops aq rest n (gy env d u) w'):
  WL P ops aq (⟨d,.buildSlice T len parts,ty,pos,af,bh⟩::rest) n env w:=by
 obtain⟨u,w',o,j,r,f⟩:=run_bs (d:=d) (ty:=ty) (pos:=pos) (af:=af) (g:=bh) m W l a q h.lt<|gC e;exact aC o<|k w' u (h.wU i j r λb c=>po<|f b c) j λb c=>po<|f b c
theorem bF.fresh{a b c:ay}{N:BS}(h:Grow a b)(k:bF N b c)(hN:∀x,N x->a.heap.size<=x):Grow a c:=h.step k (λx d hl=>by have:=hN x d;omega)
end
open Go.RowKit Go.Deep
def Ca{α:Type}(P:cc)(T:bk)(R:uQ α):Prop:=
 ∀(Zs:Type) (enc:bk×Q->Zs) (w:ay) (spare:Nat->Yi) (held:Yi) (fuel:Nat) (cs:H Q) (x:DataW Zs×H uT),th enc P w 0 spare held fuel T cs=U x->∃d,R.rd w BE cs d
section
variable{P:cc}{T:bk}
theorem opens_int(a:P.underlying T=U (.int .i64)):Ca P T dR:=by
 intro Zs enc w spare held fuel cs x h;obtain⟨n,rfl,_,b⟩:=An a h;exact⟨n,Z⟩
theorem opens_bool(a:P.underlying T=U .bool):Ca P T rBool:=by
 intro Zs enc w spare held fuel cs x h;obtain⟨b,rfl,_⟩:=DataW.trod_bool a h;exact⟨b,Z⟩
variable{α:Type}{R:uQ α}
theorem Cn{T E:bk}(N:P.underlying T=U (.slice E))(ry:P.cellsOf E=R.sz)(h:Ca P E R):Ca P T (uu R):=by
  intro Zs enc w spare held fuel cs x X;rcases open_slice N X with⟨rfl,rfl⟩|⟨a,len,cap,m,n,D,Pl,rfl,_,hl,hm,hmm,rfl,hel⟩
  · exact⟨[],_,Z,dN.nil⟩
  · have S:len<=m:=by rw[hmm];split<;>omega
    have y:∀i,i<len->∃d:α,∃b o cells F g,a=⟨b,o,bh⟩/\w.heap[b]? =U (.cells cells F g)/\R.rd w BE ((cells.toList.drop<|o+i*R.sz).take R.sz) d:=by
      intro i hi;obtain⟨c,M,ab⟩:=hel i V;obtain⟨d,hd⟩:=h Zs enc w spare held n c _ ab;refine⟨d,?_⟩;rw[ry]at M;obtain⟨_,K,p⟩:=wg M;have J:=R.pos;have u:a.spot=none:=by
        obtain⟨z,g1,_⟩:=hel 0 V;rw[ry]at g1;obtain⟨_,w0,l⟩:=wg g1;have Ys:=l 0 J;rw[uJ,add_add,hE]at Ys;have:∃v,z[0]? =U v:=⟨z[0]'V,bl V⟩;obtain⟨v,C⟩:=this;rw[C]at Ys;have:=World.cell?_spot Ys;simpa[jI]using this
      obtain⟨b,o,sp⟩:=a;simp only at u;subst u;have t:∀k,(⟨b,o,bh⟩:nF).add k=⟨b,o+k,bh⟩:=by
        intro k;unfold jI;split<;>simp_all
      have s:∀j,j<R.sz->w.cell? ⟨b,o+i*R.sz+j,bh⟩=c[j]? :=by
        intro j r;have:=p j r;rw[add_add,t]at this;rw[<-this,ki]
      have A:=s 0 J;have C:c[0]? =U (c[0]'V):=bl V;rw[C]at A;unfold fc at A;cases q:w.heap[b]? with
      |none=>simp[q]at A
      |some ob=>
        cases ob with
        |cells cells F g=>
          refine⟨b,o,cells,F,g,Z,q,?_⟩;have e:(cells.toList.drop<|o+i*R.sz).take R.sz=c:=by
            apply cP;intro j;rw[ca,ct];by_cases r:j<R.sz
            · rw[Z2 r,<-s j r];simp[fc,q]
            · rw[Z3 r,bG V]
          rw[e];exact hd
        |_=>simp[q]at A
    obtain⟨f,hf⟩:∃f:(i:Nat)->i<len->α,∀i hi,∃b o cells F g,a=⟨b,o,bh⟩/\w.heap[b]? =U (.cells cells F g)/\R.rd w BE ((cells.toList.drop<|o+i*R.sz).take R.sz) (f i hi):=
      ⟨λi hi=>Classical.choose (y i hi),λi hi=>Classical.choose_spec (y i hi)⟩
    refine⟨List.ofFn λi:Fin len=>f i.val i.isLt,_,Z,U a,cap,by simp,by simpa using hl,hm,(λh=>by cases h),?_⟩;intro i hi;have al:i<len:=by simpa using hi
    obtain⟨b,o,cells,F,g,rfl,q,aq⟩:=hf i al;refine⟨b,o,cells,F,g,Z,λh=>h,q,?_⟩;simpa using aq
variable{Zs:Type}{enc:bk×Q->Zs}{w:ay}{spare:Nat->Yi}{held:Yi}{fs:Array Field}{cs:H Q}
theorem Cq{fuel:Nat}{x:DataW Zs×H uT}(d:P.underlying T=U (.struct fs))(h:th enc P w 0 spare held fuel T cs=U x):
    O cs=P.cellsOf T/\∃n:Nat,∀(i:Nat) (f:Field),fs[i]? =U f->∃y:DataW Zs×H uT,th enc P w 0 spare held n f.type ((cs.drop f.offset).take (P.cellsOf f.type))=U y:=by
  obtain⟨xs,n,_,_,hl,a,c⟩:=DataW.trod_struct d h;refine⟨hl,n,λi f hi=>?_⟩;have:=c i f hi;have b:i<O xs:=by
    rw[a];rcases cH i fs.size with h1|h1
    · exact h1
    · rw[oY h1]at hi;cases hi
  rw[bl b]at this;exact⟨_,this⟩
variable{n:Nat}
theorem iD{i:Nat}{f:Field}(h:∀(i:Nat) (f:Field),fs[i]? =U f->∃y:DataW Zs×H uT,th enc P w 0 spare held n (Field.type f) ((cs.drop f.offset).take (P.cellsOf f.type))=U y)(hi:fs[i]? =U f)(b:P.cellsOf f.type=R.sz)(c:Ca P f.type R):
  ∃d,R.rd w BE ((cs.drop f.offset).take R.sz) d:=by
 obtain⟨y,a⟩:=h i f hi;rw[b]at a;exact c Zs enc w spare held n _ _ a
theorem xm{l:H Q}{o:Nat}{v:Q}(h:(l.drop o).take 1=[v]):l[o]? =U v:=by
 have:=ZS (λl=>l[0]?) h;simpa[ca,ct]using this
theorem wX{l:H α}(h:O l=n+1):∃a t,l=a::t/\O t=n:=by
 cases l with
 |nil=>simp at h
 |cons a t=>exact⟨a,t,rfl,by simpa using h⟩
theorem nobody:∀b,BE b->b<w.heap.size:=λ_ h=>h.elim
end
open Go.RowKit Go.MapKept
def aget(z:Q)(je:H (Int×Q))(k:Int):Value:=match je with|[]=>z|p::r=>if k=p.1 then p.2 else aget z r k
def I2(je:H (Int×Q))(k:Int)(v:Q):H (Int×Q):=match je with|[]=>[(k,v)]|p::r=>if k=p.1 then(p.1,v)::r else p::I2 r k v
def ahas(je:H (Int×Q))(k:Int):Yi:=match je with|[]=>aw|p::r=>if k=p.1 then bd else ahas r k
def WW(je:H (Int×Q))(k:Int)(i:Nat):B (Nat×Q):=match je with|[]=>bh|p::r=>if k=p.1 then U (i,p.2)else WW r k (i+1)
theorem KE{je:H (Int×Q)}{k:Int}:∀{es:H MapEntry} {i:Nat},es.map (λe=>(e.key,e.val))=je.map (λp=>(dd .i64 p.1,p.2))->
    tI (.int .i64) (.int .i64 k) es i=U (WW je k i):=by
  induction je with
  |nil=>intro es i h;cases es with|nil=>rfl|cons e r=>simp at h
  |cons p r ih=>
    intro es i h;cases es with
    |nil=>simp at h
    |cons e s=>
      simp only[cF,List.cons.injEq,hX]at h;obtain⟨⟨b,c⟩,d⟩:=h;unfold tI WW;by_cases a:k=p.1
      · simp[tM,b,c,a]
      · have:(k==p.1)=false:=by simpa using a
        simp[tM,b,this,a,ih d]
theorem J0{z:Q}{k:Int}:∀{je:H (Int×Q)} {i:Nat},aget z je k=match WW je k i with|some (_,v)=>v|none=>z
  |[],i=>rfl
  |p::r,i=>by
    unfold aget WW;by_cases a:k=p.1
    · simp[a]
    · simp only[a,if_false];exact J0
theorem Gt{k:Int}{v:Q}:∀{je:H (Int×Q)} {i:Nat},WW je k i=bh->I2 je k v=je++[(k,v)]
  |[],i,_=>rfl
  |p::r,i,h=>by
    unfold WW at h;unfold I2;by_cases a:k=p.1
    · simp[a]at h
    · simp only[a,if_false]at h⊢;rw[Gt h];rfl
theorem F2{k:Int}{v u:Q}:∀{je:H (Int×Q)} {i j:Nat},WW je k i=U (j,u)->i<=j/\∃p,je[j-i]? =U p/\p.1=k/\I2 je k v=je.set (j-i) (k,v)
  |[],i,j,h=>by cases h
  |p::r,i,j,h=>by
    unfold WW at h;unfold I2;by_cases a:k=p.1
    · simp only[a,if_true,eV,hX]at h;obtain⟨rfl,_⟩:=h;refine⟨cj _,p,by simp,a.symm,?_⟩;simp[a]
    · simp only[a,if_false]at h⊢;obtain⟨e,q,c,d,b⟩:=F2 (v:=v) h;refine⟨by omega,q,?_,d,?_⟩
      · rw[show j-i=(j-(i+1))+1 by omega];simpa using c
      · rw[show j-i=(j-(i+1))+1 by omega,b];simp
section
variable{P:cc}{ops:Array ec}{aq:fY->Act->ay->Prop}{n:Nat}{env:Nat->Q}{w w' I:ay}{M K:BS}{J:Nat->Chunk}{rest:H ec}
 {d:B Nat} {op:Op} {ty:bk} {pos:String} {af:Array hR} {v:Q} {g:B (Nat×Yi)} {T:bk} {ρ:br->Q}
structure DM(P:cc)(T:bk)(z:Q):Prop where
  desc:∃K E,P.underlying T=U (.map K E)/\P.underlying K=U (.int .i64)/\(P.info? E).map (·.zero)=U (U z)
theorem Sx:(bm ρ ⟨d,.makeMap T bh,ty,pos,af,g⟩).run P w=.ok (.value (.map (U w.heap.size))) (w.alloc (.map #[] 0)):=by
 simp[bm,Instr.makeMap,nv,-km]
section
variable{k:Int}
theorem ckInt{e:Yi}{K:bk}(a:P.underlying K=U (.int .i64)):(Instr.checkKey e 10000 K (.int .i64 k)).run P w=.ok () w:=
 run_checkKey a (by trivial) e 9999
variable{es:Array MapEntry}{c:Nat}
theorem Lv.push(h:Lv es c)(k v:Q):Lv (es.push {key:=k,val:=v,born:=c}) (c+1):=by
  refine⟨λe a=>?_,?_⟩
  · simp only[wi,List.mem_append,wj]at a;rcases a with a|rfl
    · exact Nat.lt_succ_of_lt<|h.1 e a
    · exact Ar c
  · rw[wi,List.map_append,List.nodup_append];refine⟨h.2,by simp,λx d y b=>?_⟩;simp only[cF,js,wj]at b;obtain⟨e,a,rfl⟩:=fW.1 d;have:=h.1 e a;omega
theorem Lv.modify(h:Lv es c)(j:Nat)(k v:Q):Lv (es.modify j λe=>{e with key:=k,val:=v}) c:=by
  have e:(es.modify j λe=>{e with key:=k,val:=v}).toList.map (·.born)=es.toList.map (·.born):=by
    apply cP;intro i;simp only[en,ie,fh];by_cases hi:j=i
    · subst hi;cases es[j]? <;>simp
    · simp[hi]
  refine⟨λx d=>?_,by rw[e];exact h.2⟩;have:x.born∈(es.modify j λe=>{e with key:=k,val:=v}).toList.map (·.born):=fW.2 ⟨x,d,Z⟩;rw[e]at this;obtain⟨y,b,a⟩:=fW.1 this;rw[<-a];exact h.1 y b
variable{z:Q}{b:Nat}{je:H (Int×Q)}
theorem r_lookup{x y:br}(u:DM P T z)(q:ρ x=.map (U b))(o:ρ y=.int .i64 k)(c:N7 w b je):
  (bm ρ ⟨d,.lookup T x y aw,ty,pos,af,g⟩).run P w=.ok (.value (aget z je k)) w:=by
 obtain⟨K,E,t,j,f⟩:=u.desc;obtain⟨es,a,c,l,n⟩:=c;obtain⟨i,hi,v⟩:∃i,P.info? E=U i/\i.zero=U z:=by
  cases hi:P.info? E with
  |none=>simp[hi]at f
  |some i=>simp[hi]at f;exact⟨i,Z,f⟩
 have s:=KE (k:=k) (i:=0) l;have r:(kx b).run P w=.ok (.map es a) w:=by simp[kx,ly,c]
 rw[J0 (z:=z) (k:=k) (je:=je) (i:=0)];simp only[bm,B9,cD,q,o];have m:=λe=>ckInt (P:=P) (w:=w) (e:=e) (K:=K) (k:=k) j;simp only[cC,ga,bW,t,cR,r,m,ij,cD,j,s];cases ha:WW je k 0 with
 |none=>simp[my,ee,hi,v]
 |some p=>simp
variable{x y u:br}
theorem wl_mapUpdate(X:DM P T z)(N:ev n env x=.map (U b))(M:ev n env y=.int .i64 k)(S:ev n env u=v)(c:N7 w b je)(h:∀w',bF (λx=>x=b) w w'->N7 w' b (I2 je k v)->WL P ops aq rest n (gy env d gx) w'):
    WL P ops aq (⟨d,.mapUpdate T x y u,ty,pos,af,bh⟩::rest) n env w:=by
  obtain⟨K,E,R,al,h3⟩:=X.desc;obtain⟨es,a,c,g,m⟩:=c;have t:=KE (k:=k) (i:=0) g;have ab:(kx b).run P w=.ok (.map es a) w:=by simp[kx,ly,c]
  have s:=jh c;have w0:=λe=>ckInt (P:=P) (w:=w) (e:=e) (K:=K) (k:=k) al;have f:O es.toList=O je:=by have:=ZS O g;simpa using this
  cases ha:WW je k 0 with
  |none=>
    refine BX (w':=yG w b<|.map (es.push {key:=.int .i64 k,val:=v,born:=a})<|a+1) ?_<|h _ (bF.yG _ _ _) ⟨_,_,wV s,?_,m.push _ _⟩
    · rw[ha]at t;simp only[bm,mm,cD,N,M,S];simp only[cC,ga,bW,R,cR,ab,w0,ij,cD,al,t,run_setObj_map _ c];rfl
    · rw[Gt ha];simp[g]
  |some p=>
    obtain⟨j,u0⟩:=p;obtain⟨_,q,A,Ys,C0⟩:=F2 (v:=v) ha;simp only[Nat.sub_zero]at A C0;have C:j<es.size:=by
      have o:j<O je:=by
        rcases cH j (O je) with o|o
        · exact o
        · rw[bG o]at A;cases A
      simpa[<-f]using o
    have r:es[j].key=.int .i64 k:=by
      have ry:=ZS (λl=>l[j]?) g;simp[A,C]at ry;rw[ry.1,Ys]
    refine BX (w':=yG w b<|.map (es.modify j λe=>{e with key:=.int .i64 k,val:=v}) a) ?_<|h _ (bF.yG _ _ _) ⟨_,_,wV s,?_,m.modify _ _ _⟩
    · rw[ha]at t;have F:(jR (.int .i64 k)<|.int .i64 k).run P w=.ok (.int .i64 k) w:=by simp[jR,As]
      simp only[bm,mm,cD,N,M,S];simp only[cC,ga,bW,R,cR,ab,w0,ij,cD,al,t,jx C,dk,fj,r,F,run_setObj_map _ c];rfl
    · rw[C0,List.map_set,<-g];apply cP;intro i;simp only[en,ie,fh,fy,dr,cx];by_cases hi:j=i
      · subst hi;simp[C]
      · simp[hi]
theorem wl_insert(X:DM P T z)(N:ev n env x=.map (U b))(M:ev n env y=.int .i64 k)(S:ev n env u=v)(c:N7 w b je)(h:∀w',bF (λx=>x=b) w w'->N7 w' b (I2 je k v)->WL P ops aq rest n (gy env d gx) w'):
    WL P ops aq (⟨d,.insert T x y u,ty,pos,af,bh⟩::rest) n env w:=by
  obtain⟨K,E,R,al,h3⟩:=X.desc;obtain⟨es,a,c,g,m⟩:=c;have t:=KE (k:=k) (i:=0) g;have ab:(kx b).run P w=.ok (.map es a) w:=by simp[kx,ly,c]
  have s:=jh c;have w0:=λe=>ckInt (P:=P) (w:=w) (e:=e) (K:=K) (k:=k) al;have f:O es.toList=O je:=by have:=ZS O g;simpa using this
  cases ha:WW je k 0 with
  |none=>
    refine BX (w':=yG w b<|.map (es.push {key:=.int .i64 k,val:=v,born:=a})<|a+1) ?_<|h _ (bF.yG _ _ _) ⟨_,_,wV s,?_,m.push _ _⟩
    · rw[ha]at t;simp only[bm,mm,cD,N,M,S];simp only[cC,ga,bW,R,cR,ab,w0,ij,cD,al,t,run_setObj_map _ c];rfl
    · rw[Gt ha];simp[g]
  |some p=>
    obtain⟨j,u0⟩:=p;obtain⟨_,q,A,Ys,C0⟩:=F2 (v:=v) ha;simp only[Nat.sub_zero]at A C0;have C:j<es.size:=by
      have o:j<O je:=by
        rcases cH j (O je) with o|o
        · exact o
        · rw[bG o]at A;cases A
      simpa[<-f]using o
    have r:es[j].key=.int .i64 k:=by
      have ry:=ZS (λl=>l[j]?) g;simp[A,C]at ry;rw[ry.1,Ys]
    refine BX (w':=yG w b<|.map (es.modify j λe=>{e with key:=.int .i64 k,val:=v}) a) ?_<|h _ (bF.yG _ _ _) ⟨_,_,wV s,?_,m.modify _ _ _⟩
    · rw[ha]at t;have F:(jR (.int .i64 k)<|.int .i64 k).run P w=.ok (.int .i64 k) w:=by simp[jR,As]
      simp only[bm,mm,cD,N,M,S];simp only[cC,ga,bW,R,cR,ab,w0,ij,cD,al,t,jx C,dk,fj,r,F,run_setObj_map _ c];rfl
    · rw[C0,List.map_set,<-g];apply cP;intro i;simp only[en,ie,fh,fy,dr,cx];by_cases hi:j=i
      · subst hi;simp[C]
      · simp[hi]
theorem aidx_has:∀{je:H (Int×Q)} {i:Nat},ahas je k=(WW je k i).isSome
  |[],i=>rfl
  |p::r,i=>by
    unfold ahas WW;by_cases a:k=p.1
    · simp[a]
    · simp only[a,if_false];exact aidx_has
theorem r_lookup2{x y:br}(u:DM P T z)(q:ρ x=.map (U b))(o:ρ y=.int .i64 k)(c:N7 w b je):
  (bm ρ ⟨d,.lookup T x y bd,ty,pos,af,g⟩).run P w=.ok (.value (.tuple #[aget z je k,.bool (ahas je k)])) w:=by
 obtain⟨K,E,t,j,f⟩:=u.desc;obtain⟨es,a,c,l,n⟩:=c;obtain⟨i,hi,v⟩:∃i,P.info? E=U i/\i.zero=U z:=by
  cases hi:P.info? E with
  |none=>simp[hi]at f
  |some i=>simp[hi]at f;exact⟨i,Z,f⟩
 have s:=KE (k:=k) (i:=0) l;have r:(kx b).run P w=.ok (.map es a) w:=by simp[kx,ly,c]
 rw[J0 (z:=z) (k:=k) (je:=je) (i:=0),aidx_has (i:=0)];simp only[bm,B9,cD,q,o];have m:=λe=>ckInt (P:=P) (w:=w) (e:=e) (K:=K) (k:=k) j;simp only[cC,ga,bW,t,cR,r,m,ij,cD,j,s];cases ha:WW je k 0 with
 |none=>simp[my,ee,hi,v]
 |some p=>simp
def lk{α:Type}(k:Int):H (Int×α)->B α
 |[]=>bh
 |p::r=>if k=p.1 then U p.2 else lk k r
variable{α:Type}{f:α->Q}
theorem HL{z:α}:∀(l:H (Int×α)),aget (f z) (l.map λp=>(p.1,f p.2)) k=f ((lk k l).getD z)
  |[]=>rfl
  |p::r=>by
    show(if k=p.1 then f p.2 else aget _ _ k)=f ((if k=p.1 then U p.2 else lk k r).getD z);by_cases h:k=p.1
    · simp[h]
    · simp only[h,if_false];exact HL r
theorem ahas_lk:∀(l:H (Int×α)),ahas (l.map λp=>(p.1,f p.2)) k=(lk k l).isSome
  |[]=>rfl
  |p::r=>by
    show(if k=p.1 then bd else ahas _ k)=(if k=p.1 then U p.2 else lk k r).isSome;by_cases h:k=p.1
    · simp[h]
    · simp only[h,if_false];exact ahas_lk r
variable{zz:α}
theorem r_lk2{x y:br}(l:H (Int×α))(h:SH I M K w J)(i:Nat)(hi:J i=.mp b je)(c:DM P T z)(m:ρ x=.map (U b))(j:ρ y=.int .i64 k)(e:z=f zz)(a:je=l.map λp=>(p.1,f p.2)):
  (bm ρ ⟨d,.lookup T x y bd,ty,pos,af,g⟩).run P w=.ok (.value (.tuple #[f ((lk k l).getD zz),.bool (lk k l).isSome])) w:=by
 have:=r_lookup2 (d:=d) (ty:=ty) (pos:=pos) (af:=af) (g:=g) c m j<|h.mpAt i hi;rw[e,a,HL,ahas_lk]at this;exact this
theorem r_lk1{x y:br}(l:H (Int×α))(h:SH I M K w J)(i:Nat)(hi:J i=.mp b je)(c:DM P T z)(m:ρ x=.map (U b))(j:ρ y=.int .i64 k)(e:z=f zz)(a:je=l.map λp=>(p.1,f p.2)):
  (bm ρ ⟨d,.lookup T x y aw,ty,pos,af,g⟩).run P w=.ok (.value (f ((lk k l).getD zz))) w:=by
 have:=r_lookup (d:=d) (ty:=ty) (pos:=pos) (af:=af) (g:=g) c m j<|h.mpAt i hi;rw[e,a,HL]at this;exact this
theorem K5(h:SH I M K w J)(i:Nat)(k:∀w' b,SH I M K w' (df J i (.mp b []))->WL P ops aq rest n (gy env d (.map (U b))) w'):WL P ops aq (⟨d,.makeMap T bh,ty,pos,af,bh⟩::rest) n env w:=
 aC Sx (k _ _ (h.learn i (Grow.alloc _ _) (λb a=>po a.symm) ⟨#[],0,Pm _ _,rfl,by simp[Lv]⟩))
theorem SH.mpSet{je nD:H (Int×Q)}(h:SH I M K w J)(i:Nat)(hi:J i=.mp b je)(d:bF (λx=>x=b) w w')(c:N7 w' b nD):SH I M K w' (df J i (.mp b nD)):=
 h.step i d (λx a _=>by rw[hi];exact a) (λx a _=>by rw[hi];exact a) c
theorem kz{je nD:H (Int×Q)}(h:SH I M K w J)(i:Nat)(hi:J i=.mp b je)(f:DM P T z)(l:ev n env x=.map (U b))(g:ev n env y=.int .i64 k)(j:ev n env u=v)(e:I2 je k v=nD)(kk:∀w',SH I M K w' (df J i (.mp b nD))->WL P ops aq rest n (gy env d gx) w'):WL P ops aq (⟨d,.insert T x y u,ty,pos,af,bh⟩::rest) n env w:=
 wl_insert f l g j (h.mpAt i hi) λw' c a=>kk w' (h.mpSet i hi c (e▸a))
theorem Tk{je nD:H (Int×Q)}(h:SH I M K w J)(i:Nat)(hi:J i=.mp b je)(f:DM P T z)(l:ev n env x=.map (U b))(g:ev n env y=.int .i64 k)(j:ev n env u=v)(e:I2 je k v=nD)(kk:∀w',SH I M K w' (df J i (.mp b nD))->WL P ops aq rest n (gy env d gx) w'):WL P ops aq (⟨d,.mapUpdate T x y u,ty,pos,af,bh⟩::rest) n env w:=
 wl_mapUpdate f l g j (h.mpAt i hi) λw' c a=>kk w' (h.mpSet i hi c (e▸a))
end
end
theorem SH.Wv{w:ay}{M K:BS}{J:Nat->Chunk}{I:ay}{b:Nat}{cs:H Q}(h:SH I M K w J)(i:Nat)(ho:∃E,w.heap[b]? =U (.cells (ar cs) E (0,0)))(hn:∀b,¬kr J b):SH I M K w (df J i (.pt b 0 cs)):=by
 obtain⟨E,ho⟩:=ho;exact h.know i (λ_ h=>h) ⟨hn b,_,_,_,ho,by simp⟩
open Go.RowKit
def Ds(s:uH)(c:UInt8):Yi:=G (0<=Go.Lib.indexByte s c)
section
variable{P:cc}{ops:Array ec}{aq:fY->Act->ay->Prop}{n:Nat}{env:Nat->Q}{w:ay}{rest:H ec}
 {d:B Nat} {ty:bk} {pos:String} {af:Array hR} {v:Q} {x:br}
theorem Vj{f:mT}(captured:H Q){xs:Array br}{ts:Array bk}{args:H Q}{j dj:Nat}{b want:Yi}(c:Yi)(l:(ops[j]?).bind (·.dst)=U dj)(i:ev n env (.tmp dj)=gv c (.bool b))(t:V3 P f)(q:(c&&(b==want))=bd->ev n env x=.func (.func f) #[] (ar captured))
    (r:(c&&(b==want))=bd->xs.toList.map (ev n env)++captured=args) (p:bp P f (ar args) w (λe w'=>Grow w w'/\e=.returned v))
    (k:∀w',Grow w w'->WL P ops aq rest n (gy env d (gv (c&&(b==want)) v)) w'):
    WL P ops aq (⟨d,.call {callee:=.value x,args:=xs,argTypes:=ts},ty,pos,af,U (j,want)⟩::rest) n env w:=by
  by_cases a:(c&&(b==want))=bd
  · have o:=gl a;have u:=gr a;rw[iR o]at i;have s:b=want:=by simpa using u
    subst s;refine NY l i<|OC t (q a) (by simpa using r a) p ?_;rintro e w'⟨m,rfl⟩;refine⟨_,Z,?_⟩;have:=k w' m;rw[iR a]at this;exact this
  · have g:(c&&(b==want))=false:=by simpa using a
    have h:=k w<|bF.refl _ _;rw[g]at h;cases c with
    |true=>exact ji l i (by simpa using g) h
    |false=>exact wl_offU l i h
theorem Jt{f:mT}(captured:H Q){xs:Array br}{ts:Array bk}{args:H Q}{j dj:Nat}{b want:Yi}(m:(ops[j]?).bind (·.dst)=U dj)(a:ev n env (.tmp dj)=.bool b)(l:V3 P f)(c:(b==want)=bd->ev n env x=.func (.func f) #[] (ar captured))
    (g:(b==want)=bd->xs.toList.map (ev n env)++captured=args) (i:bp P f (ar args) w (λe w'=>Grow w w'/\e=.returned v))
    (k:∀w',Grow w w'->WL P ops aq rest n (gy env d (gv (b==want) v)) w'):
    WL P ops aq (⟨d,.call {callee:=.value x,args:=xs,argTypes:=ts},ty,pos,af,U (j,want)⟩::rest) n env w:=
  Vj captured bd m a l (λh=>c (by simpa using h)) (λh=>g (by simpa using h)) i (by simpa using k)
end
open Go.RowKit
section
variable{P:cc}{ops:Array ec}{aq:fY->Act->ay->Prop}{n:Nat}{env:Nat->Q}{w w' I:ay}{M K:BS}{J:Nat->Chunk}{rest:H ec}
 {d:B Nat} {op:Op} {ty:bk} {pos:String} {af:Array hR} {v:Q} {g:B (Nat×Yi)} {T:bk} {ρ:br->Q}
theorem Zg{x:br}{T E:bk}{sz:Nat}{a:B nF}{l c:Nat}(b:SliceOf P T E sz)(e:ρ x=.slice a l c):
  (bm ρ ⟨d,.call {callee:=.builtin .cap,args:= #[x],argTypes:= #[T]},ty,pos,af,g⟩).run P w=.ok (.value (.int .i64 c)) w:=by
 simp[bm,jK,mw,lQ,Builtin.cap_,e,cD,b.desc,goInt]
theorem Sl(w:ay)(t s ty e:bk)(i:TypeInfo)(z:Q)(x:P.underlying t=U (.slice e))(q:P.underlying s=U (.int .i64))(hi:P.info? e=U i)(A:i.zero=U z)(W:0<i.size)
  (b:nF) (a c:Nat) (d:H Q) (r:O d=a*i.size) (holds:∀j v,d[j]? =U v->w.cell? (b.add j)=U v)
  (n:Nat) (F:0<n) (E:c<a+n) (C:((a+n:Nat):Int)<=9223372036854775807) (u:ll (a+n) c*i.bytes<=281474976710656) (Ys:n*i.bytes<=281474976710656):
  (jz #[t,s] ty #[.slice (U b) a c,.int .i64 n]).run P w=
   .ok (.slice (U ⟨w.heap.size,0,bh⟩) (a+n) (iL w (a+n) c e))
    (w.drew.alloc (.cells (ar d++cI z.cells n++cI z.cells (iL w (a+n) c e-(a+n))) e)):=by
 have hn:¬(a+n<=c):=by omega
 have m:n≠0:=by omega
 have k:¬(9223372036854775807<((a:Int)+(n:Int))):=by omega
 have g:¬(281474976710656<ll (a+n) c*i.bytes):=by omega
 have y:IntKind.i64.wrap (n:Int)=n:=by rw[IntKind.wrap_i64];omega
 have f:¬(281474976710656<(n:Int)*(i.bytes:Int)):=by
  rw[<-A6];omega
 have l:¬((n:Int)<0):=by omega
 have p:¬(n*i.size=0):=Nat.mul_ne_zero m V;have o:=run_firstCells_some (P:=P) w.drew i.size a b a c d r (by simpa using holds);simp[jz,uU x,uU q,hO,ee,my,hi,A,asInt,kq,y,hn,m,l,p,k,g,f,Question.forced,o,xv,iL]
theorem wl_growRaw{x y:br}{E p:bk}{sz bytes gg cap a k:Nat}{cur:H Q}(F:lT P T E sz bytes)(M:P.underlying p=U (.int .i64))(al:Raw w gg cap sz E cur)(R:ev n env x=.slice (U ⟨gg,0,bh⟩) a cap)(ab:ev n env y=.int .i64 (k:Nat))(W:0<sz)(v:a<=cap)(N:0<k)(ry:cap<a+k)
    (X:(a+k)*bytes<=140737488355328) (K:a+k<=mx)
    (h:∀w' g2 b c,Grow w w'->w.heap.size<=g2->a+k<=b->Raw w' g2 b sz E c->c.take (a*sz)=cur.take (a*sz)->WL P ops aq rest n (gy env d (.slice (U ⟨g2,0,bh⟩) (a+k) b)) w'):
    WL P ops aq (⟨d,.call {callee:=.builtin .append,args:= #[x,y],argTypes:= #[T,p]},ty,pos,af,bh⟩::rest) n env w:=by
  obtain⟨i,z,hi,S,q,e,t⟩:=F.info;have C:a*sz<=cap*sz:=bj _ v;have w0:=al.len;have g:O (cur.take<|a*sz)=a*sz:=by rw[cd];omega
  have holds:∀j u,(cur.take<|a*sz)[j]? =U u->w.cell? ((⟨gg,0,bh⟩:nF).add j)=U u:=by
    intro j u o;rw[E5,hE];rw[ca]at o;split at o
    · simp[fc,al.blk,o]
    · cases o
  have A:((a+k:Nat):Int)<=9223372036854775807:=by simp only[mx]at K;omega
  have r:ll (a+k) cap<=2*(a+k):=by
    exact nextslicecap_le V
  have m:ll (a+k) cap*i.bytes<=281474976710656:=by
    have:=bj i.bytes r;rw[Nat.mul_assoc,e]at this;rw[e];omega
  have Ys:k*i.bytes<=281474976710656:=by
    rw[e];have:k*bytes<=(a+k)*bytes:=bj _ V;omega
  have f:=Sl (P:=P) w T p ty E i z F.desc M hi S V ⟨gg,0,bh⟩ a cap (cur.take (a*sz)) (by rw[q];exact g) holds k N ry A m Ys;have l:(bm (ev n env) ⟨d,.call {callee:=.builtin .append,args:= #[x,y],argTypes:= #[T,p]},ty,pos,af,bh⟩).run P w=.ok (.value<|.slice (U ⟨w.heap.size,0,bh⟩) (a+k)<|iL w (a+k) cap E) (w.drew.alloc<|.cells (ar (cur.take<|a*sz)++cI z.cells k++cI z.cells (iL w (a+k) cap E-(a+k))) E):=by
    simp only[bm,jK,mw,lQ,cC,cR,bW,hQ,cF,js,R,ab,f]
  have D1:=Ax w (a+k) cap E;have s:iL w (a+k) cap E<=maxLen:=sR w (a+k) cap E K;refine aC l<|h _ _ _ ((cur.take<|a*sz)++(cI z.cells k).toList++(cI z.cells<|iL w (a+k) cap E-(a+k)).toList) ?_ (cj _) D1 ⟨?_,?_,s⟩ ?_
  · exact(Grow.drew w).trans<|Grow.alloc _ _
  · have:=heap_alloc_new w.drew<|.cells (ar (cur.take<|a*sz)++cI z.cells k++cI z.cells (iL w (a+k) cap E-(a+k))) E;rw[show ar ((cur.take (a*sz))++(cI z.cells k).toList++(cI z.cells (iL w (a+k) cap E-(a+k))).toList)=(ar (cur.take (a*sz))++cI z.cells k++cI z.cells (iL w (a+k) cap E-(a+k))) by apply mC;simp];exact this
  · rw[bn,bn,g,cx,cx,oE,oE,t,<-cf,<-cf];congr 1;omega
  · rw[cy,de V,kt V]
theorem run_copyN(w:ay)(dT n ty d:bk)(i:TypeInfo)(g o b f:Nat)(a:nF)(c l:Nat)(cur:Array Q)(t:bk)(cs:H Q)
  (r:P.underlying dT=U (.slice d)) (hi:P.info? d=U i)
  (p:w.heap[g]? =U (.cells cur t (0,0))) (hn:O cs=lz c b*i.size)
  (k:∀j v,cs[j]? =U v->w.cell? (a.add j)=U v) (e:o+O cs<=cur.size) (q:∀v∈cs,v.oneCell'=bd):
  (zd #[dT,n] ty #[.slice (U ⟨g,o,bh⟩) b f,.slice (U a) c l]).run P w=
   .ok (goInt (lz c b)) (w.setRow g (ar (cur.toList.take o++cs++cur.toList.drop (o+O cs)))):=by
 have hl:=B7 (P:=P) w a cs k;have m:=tf P g o t cs 0 cur w p (by simpa using e) q;simp[zd,uU r,tg,qq,hO,ee,hi,<-hn,hl,m]
theorem Q0{x y:br}{E q:bk}{sz bytes gg cap o dl dc m c:Nat}{cur news:H Q}{ad:nF}(r:lT P T E sz bytes)(g:Raw w gg cap sz E cur)(t:ev n env x=.slice (U ⟨gg,o*sz,bh⟩) dl dc)(s:ev n env y=.slice (U ad) m c)
  (hl:O news=lz m dl*sz) (e:∀j u,news[j]? =U u->w.cell? (ad.add j)=U u) (Ys:∀u∈news,u.oneCell'=bd) (k:o+lz m dl<=cap)
  (h:∀w',bF (λx=>x=gg) w w'->Raw w' gg cap sz E (cur.take (o*sz)++news++cur.drop (o*sz+O news))->WL P ops aq rest n (gy env d (.int .i64 (lz m dl:Nat))) w'):
  WL P ops aq (⟨d,.call {callee:=.builtin .copy,args:= #[x,y],argTypes:= #[T,q]},ty,pos,af,bh⟩::rest) n env w:=by
 obtain⟨i,z,hi,C,l,A,v⟩:=r.info;have b:=g.len;have p:o*sz+O news<=cap*sz:=by rw[hl,<-cf];exact bj _ k
 have a:=run_copyN (P:=P) w T q ty E i gg (o*sz) dl dc ad m c (ar cur) E news r.desc hi g.blk (by rw[l];exact hl) e (by simpa[b]using p) Ys;rw[N8 g.blk]at a;have f:(bm (ev n env) ⟨d,.call {callee:=.builtin .copy,args:= #[x,y],argTypes:= #[T,q]},ty,pos,af,bh⟩).run P w=.ok (.value<|.int .i64 (lz m dl:Nat)) (yG w gg<|.cells (ar (cur.take (o*sz)++news++cur.drop (o*sz+O news))) E (0,0)):=by
  simp only[bm,jK,mw,lQ,cC,cR,bW,hQ,cF,js,t,s,a];rfl
 refine aC f<|h _ (bF.yG _ _ _) ⟨wV<|jh g.blk,?_,g.le⟩;rw[bn,bn,cd,cQ,b];omega
structure OverFn(P:cc)(f:mT)(T Ys:bk):Prop where
 out:∀(args:Array Q) (w:ay),(callFunc f args).run P w=((Extern.SlicesOverlaps.overlaps #[T,T] #[Ys] args).run P w).andThen λv w'=>.ok (.value v) w'
theorem wl_overlaps{x:br}{xs:Array br}{ts:Array bk}{f:mT}{E Ys:bk}{sz bytes g1 g2 c2 o1 o2 m1 m2 k1 k2:Nat}{b c:H Q}{m:bk}(t:OverFn P f T Ys)(p:lT P T E sz bytes)(l:w.heap[g1]? =U (.cells (ar b) m (0,0)))(o:Raw w g2 c2 sz E c)(j:g1≠g2)(q:0<c2*sz)
  (r:ev n env x=.func (.func f) #[] #[]) (k:xs.toList.map (ev n env)=[.slice (U ⟨g1,o1,bh⟩) m1 k1,.slice (U ⟨g2,o2,bh⟩) m2 k2])
  (h:WL P ops aq rest n (gy env d (.bool aw)) w):
  WL P ops aq (⟨d,.call {callee:=.value x,args:=xs,argTypes:=ts},ty,pos,af,bh⟩::rest) n env w:=by
 obtain⟨i,z,hi,v,g,u,s⟩:=p.info;have ho:=Lib.run_overlaps_apart (P:=P) w T Ys E p.desc sz (λw=>by simp[hO,ee,hi,g]) ⟨g1,o1,bh⟩ ⟨g2,o2,bh⟩ m1 k1 m2 k2 j m E (O b) (O c) (by simp[Cd,l]) (by simp[Cd,o.blk]) (by rw[o.len];omega) (by simp[qt,l]) (by simp[qt,l]);have e:xs.map (ev n env)= #[.slice (U ⟨g1,o1,bh⟩) m1 k1,.slice (U ⟨g2,o2,bh⟩) m2 k2]:=by
  apply mC;simpa using k
 have a:=t.out #[.slice (U ⟨g1,o1,bh⟩) m1 k1,.slice (U ⟨g2,o2,bh⟩) m2 k2] w;rw[ho]at a;refine aC ?_ h;simp only[bm,jK,r,Deferred.ofValue,mw];simp[e,a]
end
open Go.RowKit
section
variable{β:Type}
theorem ins_l1{C X:H β}{p s:Nat}(a:O X=s)(J:p<=O C):(C.take p++X++C.drop (p+s)).take (p+s)=C.take p++X:=by
 have h:O (C.take p++X)=p+s:=by simp[a];omega
 rw[<-h,lj]
theorem ins_l2{Ys D R:H β}{p q:Nat}(b:p<=O Ys)(a:O D=q):(Ys.take p++D++R).take (p+q)=Ys.take p++D:=by
 have h:O (Ys.take p++D)=p+q:=by simp[a];omega
 rw[<-h,lj]
theorem ins_l3{C X D R:H β}{p s q:Nat}(b:O X=s)(J:p+s<=O C)(a:O D=q):
  ((C.take (p+s)++D++R).take p++X++(C.take (p+s)++D++R).drop (p+s)).take (p+s+q)=C.take p++X++D:=by
 have d:O (C.take<|p+s)=p+s:=by simp;omega
 have e:(C.take (p+s)++D++R).take p=C.take p:=by
  rw[cy,de V,eh,cX V]
 have c:(C.take (p+s)++D++R).drop (p+s)=D++R:=by
  rw[cy];exact AD d
 rw[e,c,<-cy];have f:O (C.take p++X++D)=p+s+q:=by simp[b,a];omega
 rw[<-f,lj]
end
theorem raw_ins{α:Type}{R:uQ α}{E:bk}{w w':ay}{A N:BS}{l:H α}{x:α}{gg g2 c i:Nat}{cur e f:H Q}(al:Raw w' g2 c R.sz E e)(w0:bF (λy=>y=gg) w w')(s:g2<w.heap.size->g2=gg)(hi:i<=O l)(T:O l+1<=c)(P:O l*R.sz<=O cur)
    (r:∀k (h:k<O l),R.rd w (λb=>A b\/b=gg) ((cur.drop (k*R.sz)).take R.sz) l[k]) (K:R.rd w N f x) (hN:∀b,(A b\/b=gg)->b<w.heap.size->N b) (S:gg<w.heap.size)
    (M:e.take (i*R.sz+R.sz+(O l-i)*R.sz)=cur.take (i*R.sz)++f++(cur.drop (i*R.sz)).take ((O l-i)*R.sz)):
    dC R E w' A (.slice (U ⟨g2,0,bh⟩) (O l+1) c) (l.take i++[x]++l.drop i):=by
  have d:O (l.take i++[x]++l.drop i)=O l+1:=by simp;omega
  have o:=R.len K;have ab:i*R.sz<=O l*R.sz:=bj _ hi;have m:(O l-i)*R.sz=O l*R.sz-i*R.sz:=sY _ _ _;have p:O (cur.take<|i*R.sz)=i*R.sz:=by rw[cd];omega
  have ry:(O l+1)*R.sz=i*R.sz+R.sz+(O l-i)*R.sz:=by rw[cf,m];omega
  have t:∀cs a,R.rd w (λb=>A b\/b=gg) cs a->R.rd w' (λb=>A b\/ob (.slice (U ⟨g2,0,bh⟩) (O l+1) c) b) cs a:=λcs a h=>
    R.go h w0 (λb g _=>.inr g) (λb g hl=>g.elim .inl (λg=>.inr (by have:b=g2:=g;subst this;exact s hl)))
  have z:R.rd w' (λb=>A b\/ob (.slice (U ⟨g2,0,bh⟩) (O l+1) c) b) f x:=
    R.go K w0 (λb g hl=>hN b (.inr g) hl) (λb g hl=>hN b (g.elim .inl (λg=>.inr (by have:b=g2:=g;subst this;exact s hl))) hl)
  refine⟨cur.take (i*R.sz)++f++(cur.drop<|i*R.sz).take ((O l-i)*R.sz),⟨?_,.inr ⟨g2,c,ar e,?_,gj _,al.blk,?_,al.le,?_,?_⟩⟩,?_⟩
  · rw[d,ry,bn,bn,p,o,cd,cQ,m];omega
  · rw[d]
  · rw[d];omega
  · simpa using al.len
  · rw[d,ry];exact M
  · intro k v;rw[d]at v;by_cases C:k<i
    · have n:(k+1)*R.sz<=i*R.sz:=bj _ C;rw[cf]at n;have u:=t _ _<|r k V;have q:(l.take i++[x]++l.drop i)[k]'(by rw[d];omega)=l[k]'V:=by
        rw[fl (by simp;omega),fl (by simp;omega),nL]
      rw[q,cy,hU V,de (by rw[cQ];omega),eo,eh,cX V];exact u
    · by_cases Ys:k=i
      · subst Ys;have q:(l.take k++[x]++l.drop k)[k]'(by rw[d];omega)=x:=by
          rw[fl (by simp;omega),gA (by simp;omega)];simp
        rw[q,cy];have F:(cur.take (k*R.sz)++(f++(cur.drop<|k*R.sz).take ((O l-k)*R.sz))).drop (k*R.sz)=f++(cur.drop<|k*R.sz).take ((O l-k)*R.sz):=by
          exact AD p
        rw[F,<-o,lj];exact z
      · obtain⟨j,rfl⟩:∃j,k=i+1+j:=⟨k-i-1,by omega⟩;have u:=t _ _<|r (i+j) V;have q:(l.take i++[x]++l.drop i)[i+1+j]'(by rw[d];omega)=l[i+j]'V:=by
          rw[gA (by simp;omega),sh];congr 1;simp;omega
        have aq:O (cur.take (i*R.sz)++f)=i*R.sz+R.sz:=by rw[bn,p,o]
        have F:(cur.take (i*R.sz)++f++(cur.drop<|i*R.sz).take ((O l-i)*R.sz)).drop ((i+1+j)*R.sz)=((cur.drop<|i*R.sz).take ((O l-i)*R.sz)).drop (j*R.sz):=by
          rw[show(i+1+j)*R.sz=O (cur.take (i*R.sz)++f)+j*R.sz by rw[aq,cf,cf,sX]];rw[lx];have:(cur.take (i*R.sz)++f).drop (O (cur.take (i*R.sz)++f)+j*R.sz)=[]:=cq V;rw[this,ck];congr 1;omega
        have n:(j+1)*R.sz<=(O l-i)*R.sz:=bj _ V;rw[cf]at n;rw[q,F,eo,eh,cX V,pC,<-cf];exact u
def ins1{α:Type}(l:H α)(i:Int)(m:H α):B (H α):=if 0<=i/\i<=O l then U (l.take i.toNat++m++l.drop i.toNat)else bh
theorem o_ins{α:Type}{l r m:H α}{i:Int}(h:ins1 l i m=U r):∃a:Nat,i=a/\a<=O l/\r=l.take a++m++l.drop a:=by
  unfold ins1 at h;by_cases J:0<=i/\i<=O l
  · rw[Z2 J]at h;cases h;exact⟨i.toNat,by omega,by omega,Z⟩
  · rw[Z3 J]at h;cases h
theorem Vk{w:ay}{gg cap sz:Nat}{E:bk}{cur:H Q}(b:Raw w gg cap sz E cur)(o k:Nat):∀j u,((cur.drop o).take k)[j]? =U u->w.cell? ((⟨gg,o,bh⟩:nF).add j)=U u:=by
  intro j u a;rw[E5];rw[ca]at a;split at a
  · rw[ct]at a;simp[fc,b.blk,a]
  · cases a
theorem dC.srcO{α:Type}{R:uQ α}{E:bk}{w:ay}{A:BS}{v:Q}{l:H α}(h:dC R E w A v l):dN R w BE (λb=>A b\/ob v b) v l:=by
  obtain⟨xs,a,c⟩:=h;rcases a.2 with⟨rfl,hn⟩|⟨g,cap,cur,rfl,e1,e2,e3,e4,e5,e6⟩
  · have:l=[]:=cE hn;subst this;exact dN.nil
  · refine⟨U ⟨g,0,bh⟩,cap,Z,e3,e4,(λh=>by cases h),λi hi=>⟨g,0,cur,E,(0,0),Z,λh=>h,e2,?_⟩⟩;have:=c i hi;rw[<-e6,eo,eh,cX ?_]at this
    · rw[hE];exact this
    · have:(i+1)*R.sz<=O l*R.sz:=bj _ hi;rw[cf]at this;omega
section
variable{P:cc}{ops:Array ec}{aq:fY->Act->ay->Prop}{n:Nat}{env:Nat->Q}{w:ay}{rest:H ec}
 {d:B Nat} {ty:bk} {pos:String} {af:Array hR} {v:Q} {T:bk} {x y:br}
theorem wl_appO{α:Type}{R:uQ α}{E:bk}{sz bytes:Nat}{A:BS}{u:Q}{l m:H α}(q:lT P T E sz bytes)(W:R.sz=sz)(e:dC R E w A v l)(f:dN R w BE A u m)(j:ev n env x=v)(i:ev n env y=u)
  (z:∀b,ob v b->A b) (o:(O l+O m)*bytes<=140737488355328) (c:O l+O m<=9223372036854775807)
  (k:∀w' a,dC R E w' A a (l++m)->bF (ob v) w w'->(∀b,ob a b->b<w.heap.size->ob v b)->WL P ops aq rest n (gy env d a) w'):
  WL P ops aq (⟨d,.call {callee:=.builtin .append,args:= #[x,y],argTypes:= #[T,T]},ty,pos,af,bh⟩::rest) n env w:=by
 obtain⟨a,w',r,t,p,s⟩:=US (d:=d) (ty:=ty) (pos:=pos) (af:=af) (g:=bh) q W j e i f z o c;exact aC r<|k w' a t p s
end
theorem ins_av{α β:Type}{R:uQ α}{R':uQ β}{E d:bk}{I w:ay}{M K:BS}{J:Nat->Chunk}{i j:Nat}{v u:Q}{l:H α}{m:H β}(h:SH I M K w J)(c:i≠j)(hi:J i=.own R E v l)(f:J j=.own R' d u m):∀b,((M b\/rest J i b)\/ob v b)->b<w.heap.size->(M b\/rest J j b)\/ob u b:=by
  rintro b((a|⟨k,g,a⟩)|a)_
  · exact .inl<|.inl a
  · by_cases e:k=j
    · subst e;rw[f]at a;exact .inr a
    · exact .inl<|.inr ⟨k,e,a⟩
  · exact .inl (.inr ⟨i,c,by rw[hi];exact a⟩)
open Go.RowKit
section
variable{P:cc}{ops:Array ec}
variable{aq:fY->Act->ay->Prop}{n:Nat}{env:Nat->Q}{w I:ay}{M K:BS}{J:Nat->Chunk}
structure Po(P:cc)(ops:Array ec)(ry:BS)(ws:ay)(aq:fY->Act->ay->Prop)(fuel:Nat)(listed:Array Bool)(n:Nat)(env:Nat->Q)(w:ay):Prop where
 out:wpAnyH P .any ops (NoPanic aq) (bF ry ws) fuel listed (C6 n env) w
theorem dP{ry:BS}{id:Nat}{l:H ec}(a:P.follows .mixedOrders=bd)(b:SH I M K w J)
  (h:∀w,SH I M K w J->Po P (ar l) ry w aq (O l) (za (O l) aw) n env w):WC P (jj id (ar l) bd) aq n env w:=
 ⟨wp_region_noPanic (wp_region_held (S:=bF ry w.drew) a (h _ (b.grow (Grow.drew w))).out)⟩
variable{d:B Nat}{op:Op}{ty:bk}{pos:String}{af:Array hR}{v:Q}{g:B (Nat×Yi)}{i fuel:Nat}{listed:Array Yi}
section
variable{ry:BS}{ws:ay}
theorem PN{o:ec}(c:bF ry ws w)(hi:ops[i]? =U o)(W:eg ops=bd)(b:fm .any ops listed i=bd)(d:(dy .any ops listed).contains i=bd)(a:YieldsIf P ops (bF ry ws) o v (C6 n env))(h:Po P ops ry ws aq fuel (listed.setIfInBounds i bd) n (gy env o.dst v) w):Po P ops ry ws aq (fuel+1) listed n env w:=by
 refine⟨wpAnyH_take hi W b d (λ_ _ _ h=>h) a c ?_⟩;rw[KC];exact h.out
theorem gK(i:Nat)(c:bF ry ws w)(hi:ops[i]? =U ⟨d,op,ty,pos,af,g⟩)(f:cm ⟨d,op,ty,pos,af,g⟩ (eN ops (C6 n env).tmps)=bd)(W:eg ops=bd)(j:fm .any ops listed i=bd)(k:(dy .any ops listed).contains i=bd)(e:∀a,bF ry ws a->(bm (ev n env) ⟨d,op,ty,pos,af,g⟩).run P a=.ok (.value v) a)(h:Po P ops ry ws aq fuel (listed.setIfInBounds i bd) n (gy env d v) w):Po P ops ry ws aq (fuel+1) listed n env w:=
 PN (o:=⟨d,op,ty,pos,af,g⟩) c hi W j k (.inl ⟨f,λa b=>by rw[jG];exact e a b⟩) h
theorem bI(i:Nat)(c:bF ry ws w)(hi:ops[i]? =U ⟨d,op,ty,pos,af,g⟩)(b:cm ⟨d,op,ty,pos,af,g⟩ (eN ops (C6 n env).tmps)=aw)(W:eg ops=bd)(a:fm .any ops listed i=bd)(e:(dy .any ops listed).contains i=bd)(h:Po P ops ry ws aq fuel (listed.setIfInBounds i bd) n (gy env d gx) w):Po P ops ry ws aq (fuel+1) listed n env w:=
 PN (o:=⟨d,op,ty,pos,af,g⟩) c hi W a e (.inr ⟨b,rfl⟩) h
theorem whk_done(a:dy .any ops listed=[])(h:aq .normal (C6 n env) w):Po P ops ry ws aq fuel listed n env w:=⟨wpAnyH_done a (NoPanic.normal h) fuel⟩
def WX(P:cc)(ops:Array ec)(ry:BS)(ws:ay)(aq:fY->Act->ay->Prop)(fuel:Nat)(listed:Array Yi):fY->Act->ay->Prop:=
 selK (λa' w'=>bF ry ws w'/\wpAnyH P .any ops (NoPanic aq) (bF ry ws) fuel listed a' w') (NoPanic aq)
theorem ah(a:bF ry ws w)(h:Po P ops ry ws aq fuel listed n env w):WX P ops ry ws aq fuel listed .normal (C6 n env) w:=⟨a,h.out⟩
theorem Dt(i:Nat)(b:dy .any ops listed=[i])(hi:ops[i]? =U ⟨d,op,ty,pos,af,g⟩)(a:cm ⟨d,op,ty,pos,af,g⟩ (eN ops (C6 n env).tmps)=bd)(h:WL P ops (WX P ops ry ws aq fuel (listed.setIfInBounds i bd)) [⟨d,op,ty,pos,af,bh⟩] n env w):Po P ops ry ws aq (fuel+1) listed n env w:=by
 refine⟨Ck b C3 λk c=>?_⟩;obtain rfl:k=i:=by simpa using c
 exact Zf hi a h
theorem gF{d':B Nat}{c:Op}{b:bk}{a:String}{e:Array hR}{m:B (Nat×Yi)}(i j:Nat)(r:dy .any ops listed=[i,j])(hi:ops[i]? =U ⟨d,op,ty,pos,af,g⟩)(o:cm ⟨d,op,ty,pos,af,g⟩ (eN ops (C6 n env).tmps)=bd)(p:ops[j]? =U ⟨d',c,b,a,e,m⟩)(f:cm ⟨d',c,b,a,e,m⟩ (eN ops (C6 n env).tmps)=bd)(h:WL P ops (WX P ops ry ws aq fuel (listed.setIfInBounds i bd)) [⟨d,op,ty,pos,af,bh⟩] n env w)(q:WL P ops (WX P ops ry ws aq fuel (listed.setIfInBounds j bd)) [⟨d',c,b,a,e,bh⟩] n env w):Po P ops ry ws aq (fuel+1) listed n env w:=by
  refine⟨Ck r C3 λk l=>?_⟩;rcases bs.1 l with rfl|l
  · exact Zf hi o h
  · obtain rfl:k=j:=by simpa using l
    exact Zf p f q
end
end
theorem bF.zT{a b c:ay}{ry N:BS}(h:bF ry a b)(k:bF N b c)(hN:∀x,N x->a.heap.size<=x):bF ry a c:=h.step k (λx d hl=>by have:=hN x d;omega)
theorem bF.same{a b c:ay}{ry:BS}(h:bF ry a b)(k:bF ry b c):bF ry a c:=h.step k (λ_ d _=>d)
section
variable{P:cc}{ops:Array ec}{aq:fY->Act->ay->Prop}{n:Nat}{env:Nat->Q}{w w' I:ay}{M K:BS}{J:Nat->Chunk}{rest:H ec}
 {d:B Nat} {op:Op} {ty:bk} {pos:String} {af:Array hR} {v:Q} {g:B (Nat×Yi)} {T:bk} {ρ:br->Q} {x y:br}
theorem w_stOG{α:Type}{R:uQ α}{E:bk}{sz:Nat}{l:H α}{k:Int}{a a':α}{b off:Nat}{z u:Q}(h:SH I M K w J)(i:Nat)(hi:J i=.own R E u l)(F:ob u b)(W:R.sz=sz)(q:l[k.toNat]? =U a)(ab:One P T z)(c:ev n env x=.pointer (U ⟨b,k.toNat*sz+off,bh⟩))
    (X:ev n env y=v) (h1:v.oneCell'=bd) (p:mv off sz=bd) (C0:∀cs,R.rd w (SH.A M J) cs a->R.rd w (SH.A M J) (cs.set off v) a')
    (kk:∀w',SH I M K w' (df J i (.own R E u (l.set k.toNat a')))->bF (ob u) w w'->WL P ops aq rest n (gy env d gx) w'):
    WL P ops aq (⟨d,.store T x y,ty,pos,af,bh⟩::rest) n env w:=by
  subst W;rw[pn]at p;have g:k.toNat<O l:=by
    rcases cH k.toNat (O l) with h|h
    · exact h
    · rw[bG h]at q;cases q
  have s:l[k.toNat]=a:=by rw[bl g]at q;exact dq q
  generalize k.toNat=k at*;have e:∀b,ob u b->SH.A M J b:=λb F=>.inr ⟨i,by rw[hi];exact F⟩;obtain⟨xs,w0,S⟩:=h.bZ i hi;rcases w0.2 with⟨rfl,hn⟩|⟨g',cap,cur,rfl,e1,e2,e3,e4,e5,e6⟩
  · omega
  have C:b=g':=F;subst C;have t:(k+1)*R.sz<=O l*R.sz:=bj _ g;have a0:O l*R.sz<=cap*R.sz:=bj _ e3;rw[cf]at t;have r:k*R.sz+off<cur.size:=by omega
  have f:=bF.yG w b<|.cells (cur.setIfInBounds (k*R.sz+off) v) E (0,0);refine BX (Y9 ab c e2 r X h1) (kk _ (h.step i f (λx c _=>by rw[hi];exact c) (λx c _=>by rw[hi];exact c) ⟨xs.set (k*R.sz+off) v,⟨?_,.inr ⟨b,cap,cur.setIfInBounds (k*R.sz+off) v,?_,e1,?_,?_,e4,?_,?_⟩⟩,?_⟩) (f.weaken (λx c _=>c)))
  · rw[cr,cr];exact w0.1
  · rw[cr]
  · rw[wV (jh e2)]
  · rw[cr];exact e3
  · simpa using e5
  · rw[cr,mL,qS,e6]
  · intro m Ys;have al:m<O l:=by rwa[cr]at Ys
    have o:=λcs a(h:R.rd w (SH.A M J) cs a)=>R.go (A':=λx=>(M x\/(SH.av J i (.own R E (.slice (U ⟨b,0,bh⟩) (O l) cap) (l.set k a'))) x)\/ob (.slice (U ⟨b,0,bh⟩) (O l) cap) x) h f (λx c _=>e x c) (λx c _=>by
      rcases c with(c|c|c)|c
      · exact .inl c
      · exact .inr<|nV c
      · exact e x c
      · exact e x c)
    have ry:=λj(N:j<O l)=>R.go (A':=SH.A M J) (S j N) (bF.refl BE w) (λ_ h=>h.elim) λx c _=>.inl c;by_cases hik:m=k
    · subst hik;rw[pD,Wt rfl];exact o _ _<|C0 _<|s▸ry m g
    · rw[rv (Ne.symm hik),Tj]
      · exact o _ _<|ry m al
      · rcases cH k m with h5|h5
        · left;have:(k+1)*R.sz<=m*R.sz:=bj _ h5;rw[cf]at this;omega
        · right;have:(m+1)*R.sz<=k*R.sz:=bj _ V;rw[cf]at this;omega
end
open Go.RowKit Go.Sort
section
variable{α β:Type} [Inhabited α] [Inhabited β]
section
variable{f:α->β}
theorem Vc(a:f default=default)(d:Array α)(i:Nat):(d.map f)[i]! =f d[i]! :=by
  rcases cH i d.size with h|h
  · rw[getElem!_pos (d.map f) i (by simpa using h),getElem!_pos d i h];simp
  · rw[getElem!_neg (d.map f) i (by simpa using h),getElem!_neg d i V];exact a.symm
theorem swp_map(a:f default=default)(d:Array α)(i j:Nat):(swp d i j).map f=swp (d.map f) i j:=by
  unfold swp;rw[Vc a,Vc a];apply qH;intro k;simp only[Array.getElem?_map,mb,Array.size_setIfInBounds,Array.size_map];split
  · split<;>simp
  · split
    · split<;>simp
    · rfl
theorem Zh(b:f default=default)(lt:β->β->Yi)(a:Nat):∀(j:Nat) (d:Array α),(insInner (λx y=>lt (f x) (f y)) a j d).map f=insInner lt a j (d.map f)
  |0,d=>rfl
  |j+1,d=>by
    unfold insInner;simp only[Vc b];split
    · rw[Zh b lt a j,swp_map b]
    · rfl
theorem T6(c:f default=default)(lt:β->β->Yi)(a b:Nat):∀(m i:Nat) (d:Array α),b-i=m->(insOuter (λx y=>lt (f x) (f y)) a b i d).map f=insOuter lt a b i (d.map f):=by
 intro m;induction m with
 |zero=>
  intro i d h
  conv=>lhs;rw[insOuter.eq_def]
  conv=>rhs;rw[insOuter.eq_def]
  rw[Z3 V,Z3 V]
 |succ m ih=>
  intro i d h;rw[insOuter.eq_def]
  conv=>rhs;rw[insOuter.eq_def]
  rw[Z2 V,Z2 V,ih (i+1) _ V,Zh c]
theorem Zi(c:f default=default)(lt:β->β->Yi)(d:Array α)(a b:Nat):(gd (λx y=>lt (f x) (f y)) d a b).map f=gd lt (d.map f) a b:=T6 c lt a b _ _ d Z
variable{p:α->Prop}
theorem swp_all{d:Array α}{i j:Nat}(hi:i<d.size)(a:j<d.size)(h:∀k,k<d.size->p d[k]!):∀k,k<(swp d i j).size->p (swp d i j)[k]! :=by
  intro k b;rw[size_swp]at b;rw[swp_get d hi a];split
  · exact h i hi
  · split
    · exact h j a
    · exact h k b
theorem Zj(lt:α->α->Yi)(a:Nat):∀(j:Nat) (d:Array α),j<d.size->(∀k,k<d.size->p d[k]!)->(insInner lt a j d).size=d.size/\∀k,k<(insInner lt a j d).size->p (insInner lt a j d)[k]!
  |0,d,_,h=>⟨rfl,h⟩
  |j+1,d,hj,h=>by
    unfold insInner;split
    · have:=Zj lt a j (swp d (j+1) j) (by rw[size_swp];omega) (swp_all hj V h);rw[size_swp]at this;exact this
    · exact⟨Z,h⟩
theorem Wa(lt:α->α->Yi)(a b:Nat):∀(m i:Nat) (d:Array α),b-i=m->b<=d.size->(∀k,k<d.size->p d[k]!)->(insOuter lt a b i d).size=d.size/\∀k,k<(insOuter lt a b i d).size->p (insOuter lt a b i d)[k]! :=by
 intro m;induction m with
 |zero=>
  intro i d h c J;rw[insOuter.eq_def,Z3 V];exact⟨Z,J⟩
 |succ m ih=>
  intro i d h c J;rw[insOuter.eq_def,Z2 V];obtain⟨f,g⟩:=Zj (p:=p) lt a i d V J;obtain⟨j,e⟩:=ih (i+1) (insInner lt a i d) V V g;exact⟨j.trans f,e⟩
end
end
theorem bF.mapBlock(w:ay)(b:Nat)(f:Array Q->Array Q):bF (λx=>x=b) w (qT w b f):=
 ⟨rfl,rfl,rfl,by simp[qT],λk a _=>by
  have:b≠k:=λe=>a e.symm;simp[qT,fh,this]⟩
theorem Grow.ahead(w:ay)(n:Nat):Grow w (tk w n):=⟨rfl,rfl,rfl,cj _,λ_ _ _=>rfl⟩
theorem Grow.grow(w:ay)(os:Array Obj):Grow w (mS w os):=
 ⟨rfl,rfl,rfl,by simp[mS],λk _ a=>by simp[mS,ti a]⟩
section
variable{α β:Type} [Inhabited α]{R:uQ β}{E:bk}{w:ay}{A:BS}{v:Q}{l:H β}{enc:α->H Q}{f:α->β}
theorem own_holds(Zs:∀w A cs x,R.rd w A cs x->∃p,enc p=cs/\f p=x)(C:dC R E w A v l)(hl:0<O l):
    ∃gg cap cur,∃d:Array α,v=.slice (U ⟨gg,0,bh⟩) (O l) cap/\d.size=O l/\d.toList.map f=l/\vr enc R.sz w gg 0 d/\Raw w gg cap R.sz E cur/\O l<=cap/\(∀k,k<d.size->R.rd w (λb=>A b\/b=gg) (enc d[k]!) (f d[k]!)):=by
  obtain⟨gg,cap,cur,rfl,c,o,n⟩:=Zd C hl;have a:∀i:Fin (O l),∃p,enc p=(cur.drop<|i.1*R.sz).take R.sz/\f p=l[i.1]:=λi=>Zs _ _ _ _<|n i.1 i.2;have g:(qF λi:Fin (O l)=>(a i).choose).size=O l:=by simp
  have m:∀k (j:k<O l),(qF λi:Fin (O l)=>(a i).choose)[k]! =(a ⟨k,j⟩).choose:=by
    intro k j;rw[getElem!_pos _ k (by simpa using j)];simp
  refine⟨gg,cap,cur,qF λi:Fin (O l)=>(a i).choose,Z,g,?_,?_,c,o,?_⟩
  · apply List.ext_getElem
    · simp
    · intro k Ys q;simp only[List.getElem_map,Array.getElem_toList,Array.getElem_ofFn];exact(a ⟨k,q⟩).choose_spec.2
  · intro t s;rw[size_flatK,g]at s;have J:=R.pos;have z:t / R.sz<O l:=ql (by rw[mD];exact s);have u:t%R.sz<R.sz:=tt _ J;have e:t / R.sz*R.sz+t%R.sz=t:=by rw[mD];exact A5 _ _
    have y:=c.len;have r:(t / R.sz+1)*R.sz<=cap*R.sz:=bj _ V;rw[cf]at r;constructor
    · rw[get_flatK _ _ _ _ (by rw[g];exact s),m _ z,(a ⟨t / R.sz,z⟩).choose_spec.1];have Ys:((cur.drop<|t / R.sz*R.sz).take R.sz)[t%R.sz]? =cur[t]? :=by rw[ca,Z2 u,ct,e]
      have q:t<O cur:=by omega
      rw[getElem!_def,Ys,bl q];simp[fc,c.blk,q]
    · simp[qt,c.blk]
  · intro k j;rw[g]at j;rw[m k j,(a ⟨k,j⟩).choose_spec.1,(a ⟨k,j⟩).choose_spec.2];exact n k j
theorem holds_own{gg cap n:Nat}{cur:H Q}{d d':Array α}{os:Array Obj}(a:Raw w gg cap R.sz E cur)(l:∀x,O (enc x)=R.sz)(W:d'.size=d.size)(g:d.size<=cap)(w0:vr enc R.sz w gg 0 d)
    (o:∀k,k<d'.size->R.rd w (λb=>A b\/b=gg) (enc d'[k]!) (f d'[k]!)):
    dC R E (im enc R.sz w gg 0 n d' os) A (.slice (U ⟨gg,0,bh⟩) d.size cap) (d'.toList.map f)/\bF (λx=>x=gg) w (im enc R.sz w gg 0 n d' os):=by
  have e:=a.len;have K:d.size*R.sz<=cap*R.sz:=bj _ g;have r:bF (λx=>x=gg) w (ux enc R.sz (tk w n) gg 0 d'):=(Grow.ahead w n).keep.step (bF.mapBlock _ _ _) λ_ h _=>h;have y:bF (λx=>x=gg) w (im enc R.sz w gg 0 n d' os):=r.grow<|Grow.grow _ _;refine⟨⟨(flatK enc R.sz d').toList,⟨by simp,.inr ⟨gg,cap,ra id 0 (flatK enc R.sz d') (ar cur),by simp[W],gj _,?_,by simp[W,g],a.le,by simp[ra,e],?_⟩⟩,?_⟩,y⟩
  · have s:(ux enc R.sz (tk w n) gg 0 d').heap[gg]? =U (.cells (ra id 0 (flatK enc R.sz d') (ar cur)) E (0,0)):=by
      unfold ux Sort.putRow qT;simp only[fh,if_true];rw[show(tk w n).heap[gg]? =U (.cells (ar cur) E (0,0))from a.blk];rfl
    exact(Grow.grow _ os).blk s
  · apply cP;intro t;rw[ca];have p:O (d'.toList.map f)=d'.size:=by simp
    rw[p];split
    · next ht=>
      have s:t<O cur:=by rw[e];rw[W]at ht;omega
      have al:t<(flatK enc R.sz d').size:=by rw[size_flatK];exact ht
      simp[ra,s,ht]
    · next ht=>
      rw[bG];simp only[cx,size_flatK];omega
  · intro i hi;have j:i<d'.size:=by simpa using hi
    have J:=R.pos;have c:((flatK enc R.sz d').toList.drop<|i*R.sz).take R.sz=enc d'[i]! :=by
      apply cP;intro t;rw[ca];split
      · next ht=>
        have m:(i+1)*R.sz<=d'.size*R.sz:=bj _ j;rw[cf]at m;have v:(i*R.sz+t) / R.sz=i:=(Sort.blk_iff R.sz i _ J).1 ⟨by omega,by omega⟩;have F:(i*R.sz+t)%R.sz=t:=by rw[Nat.mod_eq_sub_div_mul,v];omega
        have u:=get_flatK enc R.sz d' (i*R.sz+t) V;rw[v,F]at u;rw[ct,ie,jx (by rw[size_flatK];omega),bl (by rw[l];exact ht)];rw[getElem!_pos (flatK enc R.sz d') _ (by rw[size_flatK];omega),getElem!_pos (enc d'[i]!) t (by rw[l];exact ht)]at u;rw[u]
      · next ht=>rw[bG (by rw[l];omega)]
    have z:=o i j;rw[c];have C:(d'.toList.map f)[i]=f d'[i]! :=by
      simp[getElem!_pos d' i j]
    rw[C];exact R.go z y (λx Ys _=>.inr Ys) (λb q _=>q.imp id (λq=>by simpa[ob]using q))
end
def H0{α:Type} [Inhabited α](lt:α->α->Yi)(l:H α):H α:=(gd lt (ar l) 0 (O l)).toList
structure One1 where
 v:Q
 one:v.oneCell'=bd
instance:Inhabited One1:=⟨⟨.bool aw,rfl⟩⟩
theorem sort_own{α β:Type} [Inhabited α] [Inhabited β]{R:uQ β}{E:bk}{w:ay}{A:BS}{l:H β}{enc:α->H Q}{f:α->β}{gg cap n:Nat}{cur:H Q}{d:Array α}{os:Array Obj}{lt:β->β->Yi}{lt':α->α->Yi}(q:f default=default)(c:lt'=λx y=>lt (f x) (f y))(a:Raw w gg cap R.sz E cur)(o:∀x,O (enc x)=R.sz)(W:d.size=O l)(i:O l<=cap)(m:vr enc R.sz w gg 0 d)(hl:d.toList.map f=l)
  (g:∀k,k<d.size->R.rd w (λb=>A b\/b=gg) (enc d[k]!) (f d[k]!)):
  dC R E (im enc R.sz w gg 0 n (gd lt' d 0 d.size) os) A (.slice (U ⟨gg,0,bh⟩) (O l) cap) (H0 lt l)/\bF (λx=>x=gg) w (im enc R.sz w gg 0 n (gd lt' d 0 d.size) os):=by
 subst c;obtain⟨r,s⟩:=Wa (p:=λx=>R.rd w (λb=>A b\/b=gg) (enc x)<|f x) (λx y=>lt (f x)<|f y) 0 d.size _ 1 d Z (cj _) g;have j:=holds_own (f:=f) (n:=n) (os:=os) (E:=E) (d':=gd (λx y=>lt (f x)<|f y) d 0 d.size) a o r V m s;have e:(gd (λx y=>lt (f x)<|f y) d 0 d.size).toList.map f=H0 lt l:=by
  rw[<-sA,Zi q];unfold H0;have:d.map f=ar l:=by apply mC;rw[sA];simpa using hl
  rw[this,W]
 rw[e,W]at j;rw[W];exact j
open Go.RowKit
def rPtr{α:Type}(R:uQ α):uQ (B α) where
  sz:=1
  rd w A cs x:=∃v,cs=[v]/\((v=.pointer bh/\x=bh)\/∃b cells E fz a,v=.pointer (U ⟨b,0,bh⟩)/\¬A b/\w.heap[b]? =U (.cells cells E fz)/\R.rd w A (cells.toList.take R.sz) a/\x=U a)
  len:=by rintro w A cs x ⟨v,rfl,_⟩;rfl
  one:=by
    rintro w A cs x⟨v,rfl,h⟩u hu;simp at hu;subst hu;rcases h with⟨rfl,_⟩|⟨b,cells,E,fz,a,rfl,_⟩<;>rfl
  pos:=by decide
  go:=by
    rintro w A cs x w' A' K⟨v,rfl,h⟩hk hK hA;refine⟨v,Z,?_⟩;rcases h with h|⟨b,cells,E,fz,a,h1,h2,h3,h4,h5⟩
    · exact .inl h
    · exact .inr ⟨b,cells,E,fz,a,h1,λhb=>h2<|hA b hb<|jh h3,hk.blk h3 λhb=>h2<|hK b hb<|jh h3,R.go h4 hk hK hA,h5⟩
section
variable{I w:ay}{M K:BS}{J:Nat->Chunk}{α:Type}{R:uQ α}
theorem SH.rpAt{v:Q}{x:α}(h:SH I M K w J)(i:Nat)(hi:J i=.rp R v x):R.rd w (SH.A M J) [v] x:=by
 have:=h.ok i;rw[hi]at this;exact this
theorem SH.il(h:SH I M K w J)(i:Nat):SH I M K w (df J i .no):=h.step i (bF.refl BE w) (λ_ h=>h.elim) (λ_ h=>h.elim) an
theorem SH.nilRp(h:SH I M K w J)(i:Nat):SH I M K w (df J i (.rp (rPtr R) (.pointer bh) bh)):=h.know i (λ_ h=>h) ⟨_,rfl,.inl ⟨rfl,rfl⟩⟩
theorem SH.boxRp{b:Nat}{cs:H Q}{x:α}(h:SH I M K w J)(j i:Nat)(f:J j=.blk b cs)(hl:R.sz=O cs)(l:R.rd w (SH.A M J) cs x):SH I M K w (df (df J j .no) i (.rp (rPtr R) (.pointer (U ⟨b,0,bh⟩)) (U x))):=by
  obtain⟨E,d⟩:=h.pU j f;have m:SH I M K w (df J j .no):=h.step j (bF.refl BE w) (λ_ h=>h.elim) (λb d=>d.elim) an;have c:(J j).own' b:=by rw[f];rfl
  refine m.know i (λ_ h=>h) ⟨_,Z,.inr ⟨b,_,_,_,x,Z,?_,d,?_,Z⟩⟩
  · rintro(g|⟨k,a⟩)
    · exact h.apM j b c g
    · by_cases e:k=j
      · subst e;rw[dJ]at a;exact a
      · rw[iI e]at a;exact h.apart k j e b a c
  · rw[hl];have:((ar cs).toList.take (O cs))=cs:=by simp
    rw[this];refine R.go l (bF.refl BE w) (λ_ h=>h.elim) λb d _=>d.imp id λ⟨k,a⟩=>?_;by_cases e:k=j
    · subst e;rw[dJ]at a;exact a.elim
    · rw[iI e]at a;exact⟨k,a⟩
theorem SH.openRp{v:Q}{o:B α}{x:α}(h:SH I M K w J)(i j:Nat)(hi:J i=.rp (rPtr R) v o)(f:o=U x):
    ∃b cs,v=.pointer (U ⟨b,0,bh⟩)/\SH I M K w (df J j (.pt b 0 cs))/\R.rd w (SH.A M J) cs x:=by
  obtain⟨u,e,c|⟨b,cells,E,k,a,c,m,n,g,d⟩⟩:=h.rpAt i hi
  · rw[f]at c;cases c.2
  · cases e;rw[f]at d;cases d;refine⟨b,_,c,h.pt j (λl=>m<|.inr l) ⟨cells,E,k,n,?_⟩,g⟩;rw[fg,R.len g]
theorem rp_nil{A:BS}{v:Q}{o:B α}(h:(rPtr R).rd w A [v] o):v=.pointer bh/\o=bh\/∃a x,v=.pointer (U a)/\o=U x:=by
  obtain⟨u,e,c|⟨b,cells,E,g,a,c,i,j,f,d⟩⟩:=h
  · cases e;exact .inl c
  · cases e;exact .inr ⟨_,_,c,d⟩
variable{P:cc}{T T2 ty:bk}{ρ:br->Q}{d:B Nat}{pos:String}{af:Array hR}{g:B (Nat×Yi)}{x y:br}{v:Q}{A:BS}{o:B α}
def PtrTo(P:cc)(T:bk):Prop:=∃E,P.underlying T=U (.pointer E)
theorem PtrTo.p(a:PtrTo P T):P.underlying T=U (.pointer (P.pointee T)):=by
 obtain⟨E,a⟩:=a;simp[Program.pointee,a]
theorem r_eqptr(e:PtrTo P T)(b:ρ x=v)(f:(rPtr R).rd w A [v] o)(c:ρ y=.pointer bh):(bm ρ ⟨d,.binOp .eql T x y T2,ty,pos,af,g⟩).run P w=.ok (.value (.bool o.isNone)) w:=by
  rcases rp_nil f with⟨rfl,rfl⟩|⟨a,z,rfl,rfl⟩
  · simp[bm,b,c,fI,Bk w T _ e.p]
  · simp[bm,b,c,fI,Bk w T _ e.p]
theorem r_neptr(e:PtrTo P T)(b:ρ x=v)(f:(rPtr R).rd w A [v] o)(c:ρ y=.pointer bh):(bm ρ ⟨d,.binOp .neq T x y T2,ty,pos,af,g⟩).run P w=.ok (.value (.bool o.isSome)) w:=by
  rcases rp_nil f with⟨rfl,rfl⟩|⟨a,z,rfl,rfl⟩
  · simp[bm,b,c,fI,Bm w T _ e.p]
  · simp[bm,b,c,fI,Bm w T _ e.p]
theorem r_nilCheckP{a:nF}(b:ρ x=v)(c:v=.pointer (U a)):(bm ρ ⟨d,.nilCheck x,ty,pos,af,g⟩).run P w=.ok (.value (.pointer (U a))) w:=qz (b.trans c)
end
open Go.RowKit
def Chunk.Zk:Chunk->Prop
 | .sr .. =>False
 | .pt .. =>False
 | .two a b=>a.Zk/\b.Zk
 |_=>True
theorem Chunk.re{c:Chunk}{w:ay}{M ab i g:BS}(e:c.Zk)(h:c.holds w M ab)(d:∀b,i b\/g b->b<w.heap.size->M b\/ab b):c.holds w i g:=by
 induction c with
 |no=>trivial
 |rd R v l=>exact dN.sub h d d
 |sr R v l=>exact e.elim
 |pt b o cs=>exact e.elim
 |blk b cs=>exact h
 |own R E v l=>exact dC.go h (bF.refl BE w) (λ_ h=>h.elim) (λ_ h=>h.elim) (λb f hl=>.inl (d b f hl))
 |rp R v x=>exact R.go h (bF.refl BE w) (λ_ h=>h.elim) d
 |two a b iha ihb=>exact⟨iha e.1 h.1,ihb e.2 h.2.1,h.2.2⟩
 |gT S=>exact S.go h (bF.refl BE w) (λ_ h=>h.elim) (λ_ h=>h.elim) (λb f hl=>.inl (d b f hl))
 |mp b je=>exact h
section
variable{I w w':ay}{M K:BS}{J:Nat->Chunk}
theorem SH.pair(h:SH I M K w J)(i j:Nat)(k:i≠j):SH I M K w (df (df J j .no) i (.two (J i) (J j))):=by
  have d:∀x b,(df (df J j .no) i (.two (J i)<|J j) x).own' b->(x=i/\((J i).own' b\/(J j).own' b))\/(x≠i/\x≠j/\(J x).own' b):=by
    intro x b a;by_cases e:x=i
    · subst e;rw[dJ]at a;exact .inl ⟨Z,a⟩
    · rw[iI e]at a;by_cases f:x=j
      · subst f;rw[dJ]at a;exact a.elim
      · rw[iI f]at a;exact .inr ⟨e,f,a⟩
  have c:∀b,kr (df (df J j .no) i<|.two (J i)<|J j) b->kr J b:=by
    rintro b⟨x,l⟩;rcases d x b l with⟨_,h1|h1⟩|⟨_,_,h1⟩
    · exact⟨i,h1⟩
    · exact⟨j,h1⟩
    · exact⟨x,h1⟩
  refine⟨h.keep,h.ltM,λx b a=>?_,λx=>?_,λx y g b l m=>?_,λx b a=>?_⟩
  · rcases d x b a with⟨_,h1|h1⟩|⟨_,_,h1⟩
    · exact h.apM i b h1
    · exact h.apM j b h1
    · exact h.apM x b h1
  · by_cases e:x=i
    · subst e;rw[dJ];exact⟨Chunk.sub (h.ok x) λb a _=>c b a,Chunk.sub (h.ok j) λb a _=>c b a,λb a=>h.apart x j k b a⟩
    · rw[iI e];by_cases f:x=j
      · subst f;rw[dJ];trivial
      · rw[iI f];exact Chunk.sub (h.ok x) (λb a _=>c b a)
  · rcases d x b l with⟨e1,h1⟩|⟨e1,e1',h1⟩<;>rcases d y b m with⟨f,h2⟩|⟨f,e2',h2⟩
    · exact g<|e1.trans f.symm
    · rcases h1 with h1|h1
      · exact h.apart i y (λe=>f e.symm) b h1 h2
      · exact h.apart j y (λe=>e2' e.symm) b h1 h2
    · rcases h2 with h2|h2
      · exact h.apart x i e1 b h1 h2
      · exact h.apart x j e1' b h1 h2
    · exact h.apart x y g b h1 h2
  · rcases d x b a with⟨_,h1|h1⟩|⟨_,_,h1⟩
    · exact h.old i b h1
    · exact h.old j b h1
    · exact h.old x b h1
theorem SH.unpair{a c:Chunk}(h:SH I M K w J)(i j:Nat)(r:i≠j)(hi:J i=.two a c)(s:J j=.no):SH I M K w (df (df J i a) j c):=by
  have l:∀x b,(df (df J i a) j c x).own' b->(x=i/\a.own' b)\/(x=j/\c.own' b)\/(x≠i/\x≠j/\(J x).own' b):=by
    intro x b d;by_cases e:x=j
    · subst e;rw[dJ]at d;exact .inr (.inl ⟨Z,d⟩)
    · rw[iI e]at d;by_cases f:x=i
      · subst f;rw[dJ]at d;exact .inl ⟨Z,d⟩
      · rw[iI f]at d;exact .inr (.inr ⟨f,e,d⟩)
  have o:∀b,a.own' b->(J i).own' b:=λb d=>by rw[hi];exact .inl d
  have n:∀b,c.own' b->(J i).own' b:=λb d=>by rw[hi];exact .inr d
  have g:∀b,kr (df (df J i a) j c) b->kr J b:=by
    rintro b⟨x,p⟩;rcases l x b p with⟨_,h1⟩|⟨_,h1⟩|⟨_,_,h1⟩
    · exact⟨i,o b h1⟩
    · exact⟨i,n b h1⟩
    · exact⟨x,h1⟩
  have k:=h.ok i;rw[hi]at k;refine⟨h.keep,h.ltM,λx b d=>?_,λx=>?_,λx y m b p q=>?_,λx b d=>?_⟩
  · rcases l x b d with⟨_,h1⟩|⟨_,h1⟩|⟨_,_,h1⟩
    · exact h.apM i b<|o b h1
    · exact h.apM i b<|n b h1
    · exact h.apM x b h1
  · by_cases e:x=j
    · subst e;rw[dJ];exact Chunk.sub k.2.1 (λb d _=>g b d)
    · rw[iI e];by_cases f:x=i
      · subst f;rw[dJ];exact Chunk.sub k.1 (λb d _=>g b d)
      · rw[iI f];exact Chunk.sub (h.ok x) (λb d _=>g b d)
  · rcases l x b p with⟨e1,h1⟩|⟨e1,h1⟩|⟨e1,e1',h1⟩<;>rcases l y b q with⟨f,h2⟩|⟨f,h2⟩|⟨f,e2',h2⟩
    · exact m<|e1.trans f.symm
    · exact k.2.2 b h1 h2
    · exact h.apart i y (λe=>f e.symm) b (o b h1) h2
    · exact k.2.2 b h2 h1
    · exact m<|e1.trans f.symm
    · exact h.apart i y (λe=>f e.symm) b (n b h1) h2
    · exact h.apart x i e1 b h1<|o b h2
    · exact h.apart x i e1 b h1<|n b h2
    · exact h.apart x y m b h1 h2
  · rcases l x b d with⟨_,h1⟩|⟨_,h1⟩|⟨_,_,h1⟩
    · exact h.old i b<|o b h1
    · exact h.old i b<|n b h1
    · exact h.old x b h1
theorem SH.lendC(h:SH I M K w J)(i:Nat)(d:(J i).Zk):(J i).holds w (λb=>M b\/rest J i b) (J i).own'/\(∀b,(J i).own' b->¬(M b\/rest J i b))/\(∀b,(M b\/rest J i b)->b<w.heap.size):=by
  refine⟨Chunk.re d (h.ok i) λb a _=>?_,λb a c=>?_,λb a=>?_⟩
  · rcases a with(a|a)|a
    · exact .inl a
    · exact .inr<|nV a
    · exact .inr ⟨i,a⟩
  · rcases c with c|⟨j,hj,c⟩
    · exact h.apM i b a c
    · exact h.apart j i hj b c a
  · rcases a with a|⟨j,_,a⟩
    · exact er (h.ltM b a) h.keep.size
    · exact Chunk.lt (h.ok j) b a
theorem SH.givenC{C:Chunk}(h:SH I M K w J)(i:Nat)(d:C.Zk)(e:C.holds w' (λb=>M b\/rest J i b) C.own')(c:bF (J i).own' w w')(hn:∀b,C.own' b->b<w.heap.size->(J i).own' b):SH I M K w' (df J i C):=
  h.step i c (λ_ a _=>a) hn (Chunk.re d e (λb a _=>by
    rcases a with a|a|a
    · exact .inl<|.inl a
    · exact .inl<|.inr a
    · exact .inr a))
theorem SH.zU{C:Chunk}(n:∀b,M b->b<w.heap.size)(m:C.holds w M C.own')(g:∀b,C.own' b->¬M b):SH w M C.own' w (df hno 1 C):=by
  have a:∀b,kr (df hno 1 C) b->C.own' b:=by
    rintro b⟨j,f⟩;by_cases e:j=1
    · subst e;rw[dJ]at f;exact f
    · rw[iI e]at f;exact f.elim
  refine⟨bF.refl _ _,n,λi b c=>g b<|a b ⟨i,c⟩,λi=>?_,λi j k b c d=>?_,λi b c _=>a b ⟨i,c⟩⟩
  · by_cases e:i=1
    · subst e;rw[dJ];exact Chunk.sub m (λb c _=>a b c)
    · rw[iI e];trivial
  · by_cases e:i=1
    · have l:j≠1:=λh=>k<|e.trans h.symm;rw[iI l]at d;exact d.elim
    · rw[iI e]at c;exact c.elim
theorem SH.outC{C:Chunk}(h:SH I M K w J)(i:Nat)(hi:J i=C)(c:C.Zk):C.holds w M C.own'/\bF K I w/\(∀b,C.own' b->b<I.heap.size->K b):=by
 subst hi;exact⟨Chunk.re c (h.ok i) λb a _=>a.imp id λa=>⟨i,a⟩,h.keep,h.old i⟩
end
structure td where
 h:Int
 n:Int
deriving DecidableEq
def bH:uQ td where
 sz:=2
 rd w A cs x:=cs=[.int .i64 x.h,.int .i64 x.n]
 len:=by rintro w A cs x rfl;rfl
 one:=by rintro w A cs x rfl u hu;simp only[bs,dp,or_false]at hu;rcases hu with rfl|rfl<;>first|rfl
 pos:=by decide
 go:=λh _ _ _=>h
structure Tok where
 h:Int
 n:Int
deriving DecidableEq
def Q3:uQ Tok where
 sz:=2
 rd w A cs x:=cs=[.int .i64 x.h,.int .i64 x.n]
 len:=by rintro w A cs x rfl;rfl
 one:=by rintro w A cs x rfl u hu;simp only[bs,dp,or_false]at hu;rcases hu with rfl|rfl<;>first|rfl
 pos:=by decide
 go:=λh _ _ _=>h
structure dW where
 from_:Int
 y:Int
 s:Int
 k:Int
 G:Bool
 t:List Int
deriving DecidableEq
def fw:uQ dW where
 sz:=6
 rd w A cs x:=∃uA,cs=[.int .i64 x.from_,.int .i64 x.y,.int .i64 x.s,.int .i64 x.k,.bool x.G,uA]/\bY dR w A uA x.t
 len:=by rintro w A cs x ⟨uA,rfl,h0⟩;rfl
 one:=by rintro w A cs x ⟨uA,rfl,h0⟩ u hu;simp only[bs,dp,or_false]at hu;rcases hu with rfl|rfl|rfl|rfl|rfl|rfl<;>first|rfl|exact h0.one
 pos:=by decide
 go:=by rintro w A cs x w2 A2 K ⟨uA,rfl,h0⟩ hk hK hA;exact⟨_,Z,h0.go hk hK hA⟩
theorem vG{w:ay}{A:BS}{cs:H Q}{x:dW}(h:fw.rd w A cs x):∃a,cs=[.int .i64 x.from_,.int .i64 x.y,.int .i64 x.s,.int .i64 x.k,.bool x.G,a]/\bY dR w A a x.t:=h
structure Co where
 x:Int
 k:Int
 t:List Int
 E:Int
deriving DecidableEq
def Jg:uQ Co where
 sz:=4
 rd w A cs x:=∃uA,cs=[.int .i64 x.x,.int .i64 x.k,uA,.int .i64 x.E]/\bY dR w A uA x.t
 len:=by rintro w A cs x ⟨uA,rfl,h0⟩;rfl
 one:=by rintro w A cs x ⟨uA,rfl,h0⟩ u hu;simp only[bs,dp,or_false]at hu;rcases hu with rfl|rfl|rfl|rfl<;>first|rfl|exact h0.one
 pos:=by decide
 go:=by rintro w A cs x w2 A2 K ⟨uA,rfl,h0⟩ hk hK hA;exact⟨_,Z,h0.go hk hK hA⟩
theorem jU{w:ay}{A:BS}{cs:H Q}{x:Co}(h:Jg.rd w A cs x):∃a,cs=[.int .i64 x.x,.int .i64 x.k,a,.int .i64 x.E]/\bY dR w A a x.t:=h
structure vp where
 h:Int
 s:Int
 k:Int
 q:Int
 H:List Int
 t:List Int
deriving DecidableEq
def Jh:uQ vp where
 sz:=6
 rd w A cs x:=∃vsays,∃uA,cs=[.int .i64 x.h,.int .i64 x.s,.int .i64 x.k,.int .i64 x.q,vsays,uA]/\bY dR w A vsays x.H/\bY dR w A uA x.t
 len:=by rintro w A cs x ⟨vsays,uA,rfl,h0,h1⟩;rfl
 one:=by rintro w A cs x ⟨vsays,uA,rfl,h0,h1⟩ u hu;simp only[bs,dp,or_false]at hu;rcases hu with rfl|rfl|rfl|rfl|rfl|rfl<;>first|rfl|exact h0.one|exact h1.one
 pos:=by decide
 go:=by rintro w A cs x w2 A2 K ⟨vsays,uA,rfl,h0,h1⟩ hk hK hA;exact⟨_,_,Z,h0.go hk hK hA,h1.go hk hK hA⟩
theorem K6{w:ay}{A:BS}{cs:H Q}{x:vp}(h:Jh.rd w A cs x):∃a,∃b,cs=[.int .i64 x.h,.int .i64 x.s,.int .i64 x.k,.int .i64 x.q,a,b]/\bY dR w A a x.H/\bY dR w A b x.t:=h
section
variable{w:ay}{v:Q}
theorem dN.mapR{α:Type}{R R':uQ α}{Ys A:BS}{l:H α}(W:R.sz=R'.sz)(h:∀cs x,x∈l->R.rd w A cs x->R'.rd w A cs x)(c:dN R w Ys A v l):dN R' w Ys A v l:=by
 obtain⟨a,cap,rfl,m,n,p,k⟩:=c;refine⟨a,cap,Z,m,n,p,λi hi=>?_⟩;obtain⟨b,o,cells,E,d,f,j,e,g⟩:=k i hi;refine⟨b,o,cells,E,d,f,j,e,?_⟩;rw[<-W];exact h _ _ (List.getElem_mem hi) g
structure dO where
 h:Int
 n:Int
 e:List Tok
 f:List Tok
 a:List dO
 b:List dO
def zV:Nat->{R:uQ dO // R.sz=6}
 |0=>⟨{sz:=6,rd:=λ_ _ _ _=>False,len:=λh=>h.elim,one:=λh=>h.elim,pos:=by decide,go:=λh=>h.elim},rfl⟩
 |d+1=>⟨{
  sz:=6
  rd:=λw A cs x=>∃g j i c,cs=[.int .i64 x.h,.int .i64 x.n,g,j,i,c]/\bY Q3 w A g x.e/\bY Q3 w A j x.f/\bY (zV d).1 w A i x.a/\bY (zV d).1 w A c x.b
  len:=by rintro w A cs x ⟨g,j,i,c,rfl,_⟩;rfl
  one:=by rintro w A cs x ⟨g,j,i,c,rfl,q,p,o,r⟩ u s;simp only[bs,dp,or_false]at s;rcases s with rfl|rfl|rfl|rfl|rfl|rfl<;>first|rfl|exact q.one|exact p.one|exact o.one|exact r.one
  pos:=by decide
  go:=by rintro w A cs x v t K ⟨g,j,i,c,rfl,q,p,o,r⟩ k m l;exact⟨_,_,_,_,Z,q.go k m l,p.go k m l,o.go k m l,r.go k m l⟩},Z⟩
theorem Tm:∀(d:Nat) {w:ay} {A:BS} {cs:H Q} {x:dO},(zV d).1.rd w A cs x->(zV (d+1)).1.rd w A cs x
 |0,_,_,_,_,h=>h.elim
 |d+1,_,_,_,_,h=>by
  obtain⟨a,g,b,c,rfl,f,i,j,e⟩:=h;exact⟨a,g,b,c,Z,f,i,j.mapR ((zV d).2.trans (zV<|d+1).2.symm) λ_ _ _ h=>Tm d h,e.mapR ((zV d).2.trans (zV<|d+1).2.symm) λ_ _ _ h=>Tm d h⟩
variable{A:BS}{cs:H Q}{x:dO}
theorem SD{d d':Nat}(a:d<=d')(h:(zV d).1.rd w A cs x):(zV d').1.rd w A cs x:=by
 induction a with
 |refl=>exact h
 |step _ ih=>exact Tm _ ih
def Cr:uQ dO where
 sz:=6
 rd w A cs x:=∃d,(zV d).1.rd w A cs x
 len:=by rintro w A cs x ⟨d,h⟩;exact((zV d).1.len h).trans (zV d).2
 one:=by rintro w A cs x ⟨d,h⟩;exact(zV d).1.one h
 pos:=by decide
 go:=by rintro w A cs x w2 A2 K ⟨d,h⟩ hk hK hA;exact⟨d,(zV d).1.go h hk hK hA⟩
theorem max_of{P:Nat->Nat->Prop}(a:∀d d' i,d<=d'->P d i->P d' i):∀n,(∀i,i<n->∃d,P d i)->∃d,∀i,i<n->P d i
  |0,_=>⟨0,λi hi=>ZD hi (ia _)⟩
  |n+1,h=>by
    obtain⟨d,c⟩:=max_of a n λi hi=>h i V;obtain⟨d',b⟩:=h n V;refine⟨max d d',λi hi=>?_⟩;by_cases e:i=n
    · subst e;exact a _ _ _ (AE _ _) b
    · exact a _ _ _ (Bs _ _)<|c i V
theorem Iu{l:H dO}(h:bY Cr w A v l):∃d,∀d',d<=d'->bY (zV d').1 w A v l:=by
 obtain⟨a,cap,rfl,r,q,p,s⟩:=h;have n:=max_of (P:=λd i=>∀h:i<O l,∃b o cells E c,a=U ⟨b,o,bh⟩/\¬A b/\w.heap[b]? =U (.cells cells E c)/\(zV d).1.rd w A ((cells.toList.drop<|o+i*6).take 6) l[i])
  (λd d' i m J h=>let ⟨b,o,cells,E,c,e,j,g,f⟩:=J h;⟨b,o,cells,E,c,e,j,g,SD m f⟩) (O l)
  (λi hi=>by obtain⟨b,o,cells,E,c,e,j,g,d,f⟩:=s i hi;exact⟨d,λ_=>⟨b,o,cells,E,c,e,j,g,f⟩⟩)
 obtain⟨d,m⟩:=n;refine⟨d,λd' k=>⟨a,cap,Z,r,q,p,λi hi=>?_⟩⟩;obtain⟨b,o,cells,E,c,e,j,g,f⟩:=m i hi hi;exact⟨b,o,cells,E,c,e,j,g,by rw[(zV d').2];exact SD k f⟩
theorem Q4(h:Cr.rd w A cs x):∃i j c g,cs=[.int .i64 x.h,.int .i64 x.n,i,j,c,g]/\bY Q3 w A i x.e/\bY Q3 w A j x.f/\bY Cr w A c x.a/\bY Cr w A g x.b:=by
 obtain⟨d,h⟩:=h;cases d with
 |zero=>exact h.elim
 |succ d=>
  obtain⟨i,j,c,g,rfl,l,m,o,k⟩:=h;exact⟨i,j,c,g,Z,l,m,o.mapR (zV d).2 λ_ _ _ h=>⟨d,h⟩,k.mapR (zV d).2 λ_ _ _ h=>⟨d,h⟩⟩
theorem rStmt_mk(h:∃i j c g,cs=[.int .i64 x.h,.int .i64 x.n,i,j,c,g]/\bY Q3 w A i x.e/\bY Q3 w A j x.f/\bY Cr w A c x.a/\bY Cr w A g x.b):Cr.rd w A cs x:=by
 obtain⟨i,j,c,g,rfl,m,p,q,l⟩:=h;obtain⟨d,o⟩:=Iu q;obtain⟨d',k⟩:=Iu l;exact⟨max d d'+1,i,j,c,g,Z,m,p,o _<|Bs _ _,k _<|AE _ _⟩
structure lu where
 params:Int
 locals:Int
 body:List dO
def Pp:uQ lu where
 sz:=3
 rd w A cs x:=∃vbody,cs=[.int .i64 x.params,.int .i64 x.locals,vbody]/\bY Cr w A vbody x.body
 len:=by rintro w A cs x ⟨vbody,rfl,h0⟩;rfl
 one:=by rintro w A cs x ⟨vbody,rfl,h0⟩ u hu;simp only[bs,dp,or_false]at hu;rcases hu with rfl|rfl|rfl<;>first|rfl|exact h0.one
 pos:=by decide
 go:=by rintro w A cs x w2 A2 K ⟨vbody,rfl,h0⟩ hk hK hA;exact⟨_,Z,h0.go hk hK hA⟩
theorem E9{x:lu}(h:Pp.rd w A cs x):∃a,cs=[.int .i64 x.params,.int .i64 x.locals,a]/\bY Cr w A a x.body:=h
end
section
variable{α β σ ρ:Type}
section
variable{l:H α}{i:Nat}
theorem kF:vj l (i:Int)=l[i]? :=by simp[vj]
theorem rE(h:i<O l):vj l (i:Int)=U l[i]:=by rw[kF,bl h]
theorem gJ{p:Prop} [Decidable p]{x:B β}(h:p):iE p x=x:=Z2 h
theorem vZ{b:Nat}{a:H α}(h:O a*b<=140737488355328)(c:O a<=9223372036854775807):C4 b a=U a:=by
 unfold C4;exact gJ<|Room.mk (by simpa using h) (by simpa using c)
variable{a b:Nat}
theorem R7(h:a<=b)(c:b<=O l):sub? l (a:Int) (b:Int)=U ((l.take b).drop a):=by
 unfold sub? cut;rw[Z2 ⟨by omega,by omega,by omega⟩];simp
theorem del_s(h:a<b)(c:b<=O l):del1 l (a:Int) (b:Int)=U (l.take a++l.drop b):=by
 unfold del1;rw[Z2 ⟨by omega,by omega,by omega⟩];simp
theorem one_at{n:Nat}(h:n<O l):(l.take (n+1)).drop n=[l[n]]:=by
 rw[eo,cp h,show n+1-n=1 by omega];rfl
def DO(p:α->β->Yi):H α->H β->Yi
 |[],[]=>bd
 |x::xs,y::ys=>p x y&&DO p xs ys
 |_,_=>aw
theorem Cb [DecidableEq α]{p:α->α->Yi}(J:∀x y,p x y=G (x=y)):∀(a b:H α),DO p a b=G (a=b)
 |[],[]=>by simp[DO]
 |[],_::_=>by simp[DO]
 |_::_,[]=>by simp[DO]
 |x::xs,y::ys=>by simp[DO,J,Cb J xs ys]
variable{kk:Unit->B Yi}
theorem Pq{body:Int->Unit->(Unit->B Yi)->B Yi}(p:α->β->Yi)(a:H α)(b:H β)(hl:O a=O b)(f:kk ()=U bd)(g:∀(i:Nat) x y nx,a[i]? =U x->b[i]? =U y->body (i:Int) () nx=bif p x y then nx ()else U aw):zE body kk 0 (O a) ()=U (DO p a b):=by
 have c:∀(m i:Nat),i+m=O a->zE body kk (i:Int) m ()=U (DO p (a.drop i)<|b.drop i):=by
  intro m;induction m with
  |zero=>
   intro i h;rw[cq V,cq V];exact f
  |succ m ih=>
   intro i h;have d:i<O a:=by omega
   have e:i<O b:=by omega
   rw[cp d,cp e];show body (i:Int) () (zE body kk ((i:Int)+1) m)=_;rw[g i a[i] b[i] _ (bl d) (bl e)];cases J:p a[i] b[i]with
   |true=>simp only[ZW,DO,J,gk];exact ih (i+1) V
   |false=>simp[DO,J]
 simpa using c (O a) 0 V
theorem Q5{body:Int->α->Unit->(Unit->B Yi)->B Yi}(p:α->β->Yi)(a:H α)(b:H β)(hl:O a=O b)(e:kk ()=U bd)(f:∀(i:Nat) x y nx,b[i]? =U y->body (i:Int) x () nx=bif p x y then nx ()else U aw):ib body kk 0 a ()=U (DO p a b):=by
 have c:∀(l:H α) (i:Nat),i+O l=O b->ib body kk (i:Int) l ()=U (DO p l<|b.drop i):=by
  intro l;induction l with
  |nil=>
   intro i h;rw[cq (by simp at h;omega)];exact e
  |cons x l ih=>
   intro i h;simp only[bw]at h;have d:i<O b:=by omega
   rw[cp d];show body (i:Int) x () (ib body kk ((i:Int)+1) l)=_;rw[f i x b[i] _ (bl d)];cases J:p x b[i]with
   |true=>simp only[ZW,DO,J,gk];exact ih (i+1) V
   |false=>simp[DO,J]
 simpa using c a 0 V
theorem LR{body:Int->σ->(σ->ρ)->ρ}{g:Int->α->σ->(σ->ρ)->ρ}{k:σ->ρ}(l:H α)(b:∀(i:Nat) x s nx,l[i]? =U x->body (i:Int) s nx=g (i:Int) x s nx)(s:σ):zE body k 0 (O l) s=ib g k 0 l s:=by
 have a:∀(m i:Nat),i+m=O l->∀s,zE body k (i:Int) m s=ib g k (i:Int) (l.drop i) s:=by
  intro m;induction m with
  |zero=>intro i h s;rw[cq V];rfl
  |succ m ih=>
   intro i h s;have hi:i<O l:=by omega
   rw[cp hi];show body (i:Int) s (zE body k ((i:Int)+1) m)=g (i:Int) l[i] s (ib g k ((i:Int)+1)<|l.drop<|i+1);rw[b i l[i] s _ (bl hi)];congr 1;funext s';exact ih (i+1) V s'
 simpa using a (O l) 0 V s
theorem Ps{body:Int->Unit->(Unit->ρ)->ρ}{kk:Unit->ρ}(p:α->Yi)(F:Int->ρ)(l:H α)(b:∀(i:Nat) x nx,l[i]? =U x->body (i:Int) () nx=bif p x then F i else nx ()):
  zE body kk 0 (O l) ()=match l.findIdx? p with|some n=>F (n:Int)|none=>kk ():=by
 have a:∀(m i:Nat),i+m=O l->zE body kk (i:Int) m ()=match (l.drop i).findIdx? p with|some n=>F ((i+n:Nat):Int)|none=>kk ():=by
  intro m;induction m with
  |zero=>intro i h;rw[cq V];rfl
  |succ m ih=>
   intro i h;have hi:i<O l:=by omega
   rw[cp hi,List.findIdx?_cons];show body (i:Int) () (zE body kk ((i:Int)+1) m)=_;rw[b i l[i] _ (bl hi)];cases J:p l[i]with
   |true=>rfl
   |false=>
    simp only[Z1,cL,if_false];have:=ih (i+1) V;rw[show((i+1:Nat):Int)=(i:Int)+1 from rfl]at this;rw[this];cases (l.drop (i+1)).findIdx? p with
    |none=>rfl
    |some n=>simp only[dk];congr 1;omega
 have:=a (O l) 0 V;simp only[fg,hE]at this;exact this
theorem del_s1{a:Nat}(h:a<O l):del1 l (a:Int) ((a:Int)+1)=U (l.take a++l.drop (a+1)):=by
 have:=del_s (l:=l) (a:=a) (b:=a+1) V V;exact this
end
theorem dT{p:Prop} [Decidable p](h:p):decide p=true:=decide_eq_true h
theorem dF{p:Prop} [Decidable p](h:¬p):decide p=false:=decide_eq_false h
theorem gI{x:Int}{y:B β}(b: -9223372036854775808<=x:=by omega)(a:x<=9223372036854775807:=by omega):iE (ky x) y=y:=gJ (ky.mk b a)
end
open Go.RowKit
def gL:uQ UInt8 where
 sz:=1
 rd _ _ cs x:=cs=[.int .u8 (x.toNat:Int)]
 len:=by rintro w A cs x rfl;rfl
 one:=by rintro w A cs x rfl u hu;simp at hu;subst hu;rfl
 pos:=by decide
 go:=λh _ _ _=>h
def Pc(v:Q)(b:Yi):Prop:=(b=aw/\v=.nilIface)\/(b=bd/\∃t p,v=.iface t p)
structure IfaceT(P:cc)(T:bk):Prop where
 desc:P.underlying T=U (.interface (P.methodsAt T))
def H5{α:Type}(bytes:Nat)(k:Int):B (H α):=iE (0<=k/\k*bytes<=140737488355328) (U [])
section
variable{P:cc}{ops:Array ec}{aq:fY->Act->ay->Prop}{n:Nat}{env:Nat->Q}{w w' I:ay}{M K:BS}{J:Nat->Chunk}{rest:H ec}
 {d:B Nat} {op:Op} {ty:bk} {pos:String} {af:Array hR} {v:Q} {g:B (Nat×Yi)} {T:bk} {ρ:br->Q} {x y:br}
section
variable{a b:uH}{T2:bk}
theorem WY(c:ρ x=bJ a)(e:ρ y=bJ b):(bm ρ ⟨d,.binOp .eql T x y T2,ty,pos,af,g⟩).run P w=.ok (.value (.bool (G (a=b)))) w:=by
 simp[bm,nt,c,e,bJ,Op.stringOp,fI];rw[dv];simp
theorem Tn(c:ρ x=bJ a)(e:ρ y=bJ b):(bm ρ ⟨d,.binOp .neq T x y T2,ty,pos,af,g⟩).run P w=.ok (.value (.bool (G (a≠b)))) w:=by
 simp[bm,nt,c,e,bJ,Op.stringOp,fI];rw[dv];simp
theorem J8(f:ρ x=bJ a)(e:ρ y=bJ b)(h:O a+O b<=9223372036854775807):(bm ρ ⟨d,.binOp .add T x y T2,ty,pos,af,g⟩).run P w=.ok (.value (bJ (a++b))) w:=by
 have c:=run_string_add_sum (P:=P) (w:=w) ⟨ar a⟩ ⟨ar b⟩ (by simpa[me]using h);have i:(⟨ar a⟩++⟨ar b⟩:ByteArray)=⟨ar (a++b)⟩:=by
  apply wk;simp
 rw[i]at c;simp[bm,nt,f,e,bJ,fI,c]
theorem QA{b:Yi}(e:IfaceT P T)(c:ρ x=v)(f:Pc v b)(a:ρ (.const .nilIface)=.nilIface):(bm ρ ⟨d,.binOp .neq T x (.const .nilIface) T2,ty,pos,af,g⟩).run P w=.ok (.value (.bool b)) w:=by
  rcases f with⟨rfl,rfl⟩|⟨rfl,t,p,rfl⟩
  · simp[bm,nt,c,a,fI,run_equal_nil_nil w T e.desc]
  · simp[bm,nt,c,a,fI,Cl w T t p e.desc]
theorem r_eqlnilI{b:Yi}(e:IfaceT P T)(c:ρ x=v)(f:Pc v b)(a:ρ (.const .nilIface)=.nilIface):(bm ρ ⟨d,.binOp .eql T x (.const .nilIface) T2,ty,pos,af,g⟩).run P w=.ok (.value (.bool !b)) w:=by
  rcases f with⟨rfl,rfl⟩|⟨rfl,t,p,rfl⟩
  · simp[bm,nt,c,a,fI,run_equal_nil_nil w T e.desc]
  · simp[bm,nt,c,a,fI,Cl w T t p e.desc]
variable{α:Type}{R:uQ α}
theorem w_makeSl{E:bk}{bytes:Nat}{k:Int}{z:Q}{a:α}(h:SH I M K w J)(i:Nat)(r:lT P T E 1 bytes)(s:One P E z)(W:R.sz=1)(l:0<bytes)(F:ev n env x=.int .i64 k)(C:ev n env y=.int .i64 k)(t:0<=k/\k*bytes<=140737488355328)(al:∀w A,R.rd w A [z] a)(kk:∀w' u,SH I M K w' (df J i (.own R E u (bt k.toNat a)))->WL P ops aq rest n (gy env d u) w'):
    WL P ops aq (⟨d,.makeSlice T x y,ty,pos,af,bh⟩::rest) n env w:=by
  obtain⟨h0,X⟩:=t;obtain⟨m,rfl⟩:=cl h0;obtain⟨j,z',hi,w0,f,o,ry⟩:=r.info;have c:=s.info;rw[hi]at c;simp only[dk,eV,hX]at c;have Ys:m<=m*bytes:=pa _ l;have N:m*bytes<=140737488355328:=by
    have:((m*bytes:Nat):Int)<=140737488355328:=by rw[A6];exact X
    omega
  obtain⟨w',hr,ho,ab⟩:=run_make_full (P:=P) w 0 T E j z 1 r.desc hi c.1 f .i64 .i64 m (by rw[o,mD];omega) (by unfold mx;omega) (gj _);have g:Grow w w':=(EG (v:=.slice bh 0 0) ab).weaken λ_ h _=>h.elim;have e:(bm (ev n env) ⟨d,.makeSlice T x y,ty,pos,af,bh⟩).run P w=.ok (.value<|.slice (U ⟨w.heap.size,0,bh⟩) m m) w':=by
    simp only[bm,cC,cR,bW,F,C,hr]
  refine aC e<|kk w' _<|h.wU i g ⟨(madeCells z.cells<|m*1).toList,?_,?_⟩ ?_
  · rw[W,mj];exact ho
  · intro q p;simp only[mj]at p;have S:q<m:=p;rw[W,s.cell,toList_madeCells_one];have:(oS (q*1)<|bt (m*1) z).take 1=[z]:=by
      rw[List.drop_replicate,List.take_replicate,show min 1 (m*1-q*1)=1 by omega];rfl
    rw[this];simp only[List.getElem_replicate];exact al _ _
  · intro b l;have:b=w.heap.size:=l;omega
variable{A:BS}
theorem run_appS{E u:bk}{l s:uH}(z:lT P T E 1 1)(hz:One P E (.int .u8 0))(Ys:P.underlying u=U .string)(aq:ρ x=v)(N:dC gL E w A v l)(ab:ρ y=bJ s)(r:(O l+O s)*1<=140737488355328)(hm:O l+O s<=9223372036854775807):
    ∃k w',(bm ρ ⟨d,.call {callee:=.builtin .append,args:= #[x,y],argTypes:= #[T,u]},ty,pos,af,g⟩).run P w=.ok (.value k) w'/\dC gL E w' A k (l++s)/\bF (ob v) w w'/\(∀b,ob k b->b<w.heap.size->ob v b):=by
  obtain⟨xs,ho,hr⟩:=N;obtain⟨i,z',hi,S,f,m,R⟩:=z.info;have c:=hz.info;rw[hi]at c;simp only[dk,eV,hX]at c;have e:(qs (ar s)).size=O s:=by simp[me]
  obtain⟨k,w',n,h2,h3,h4⟩:=Lib.run_append_own_string (P:=P) w 0 T u ty E i z.desc Ys hi c.1 f m v (O l) xs ho ⟨ar s⟩ (by rw[e];unfold mx;omega) (by rw[e];omega) (gj _);have M:=EG h3;have o:O xs=O l:=by simpa[gL]using ho.1
  have p:(bm ρ ⟨d,.call {callee:=.builtin .append,args:= #[x,y],argTypes:= #[T,u]},ty,pos,af,g⟩).run P w=.ok (.value k) w':=by
    simp only[bm,jK,mw,lQ,cC,cR,bW,hQ,cF,js,aq,ab];rw[show(jz #[T,u] ty #[v,bJ s]).run P w=_ from n];rfl
  have w0:vd ⟨ar s⟩=s.map λb=>dd .u8 (b.toNat:Int):=by simp[vd]
  refine⟨k,w',p,⟨xs++vd ⟨ar s⟩,?_,?_⟩,M,?_⟩
  · rw[bn,<-e];exact h2
  · intro q X;show jD 1 (oS (q*1) _)=_;rw[oj,w0];by_cases t:q<O l
    · have:=hr q t;have K:jD 1 (oS (q*1) xs)=[.int .u8 (l[q].toNat:Int)]:=this;rw[oj]at K;rw[hU V,de (by rw[cQ];omega),K,fl t]
    · rw[bn]at X;rw[gA V,lx,cq V,ck,o,cp (by simp;omega)];simp
  · intro b r hl;rcases ho.2 with⟨rfl,hn⟩|⟨gg,cap,cur,rfl,_,hgg,hc,hcm,hcs',htake⟩
    · by_cases C:O s=0
      · have al:s=[]:=cE C;subst al;have:k=.slice bh 0 0:=h4.2 ⟨Z,e⟩;subst this;exact r
      · have a:=run_append_nil_string (P:=P) w T u ty E i (.int .u8 0) z.desc Ys hi c.1 ⟨ar s⟩ V V (by rw[m];omega);rw[a]at n;cases n;simp[ob]at r;omega
    · by_cases F:O l+O s<=cap
      · have ry:cur.size=cap:=by simpa[gL]using hcs'
        have a:=Lib.run_append_room_string (P:=P) w T u ty E i z.desc Ys hi f gg (O l) cap cur hgg ⟨ar s⟩ V V;rw[a]at n;cases n;exact r
      · have holds:∀j u,xs[j]? =U u->w.cell? ((⟨gg,0,bh⟩:nF).add j)=U u:=ho.cells (g:=gg) Z;have a:=Lib.run_append_grow_string (P:=P) w T u ty E i (.int .u8 0) z.desc Ys hi c.1 ⟨gg,0,bh⟩ (O l) cap xs (by rw[f];simpa using o) holds ⟨ar s⟩ V V (by rw[m];exact growslice_fits V V);rw[a]at n;cases n;simp[ob]at r;omega
variable{E D:bk}
theorem RC{Ys A:BS}{l:uH}(W:P.underlying T=U (.slice E))(f:P.underlying E=U (.int .u8))(m:P.underlying D=U .string)(u:ρ x=v)(s:dN gL w Ys A v l):
    (bm ρ ⟨d,.convert T D x,ty,pos,af,g⟩).run P w=.ok (.value (bJ l)) w:=by
  obtain⟨a,cap,rfl,K,ry,M,p⟩:=s;have i:(convert T D<|.slice a (O l) cap).run P w=.ok (bJ l) w:=by
    cases l with
    |nil=>
      cases a with
      |none=>
        rw[run_convert_bytes_string w T D E bh _ _ W f m];simp[Conv.bytesToString,bJ];rfl
      |some a=>
        exact xT w T D E a cap [] W f m λj k=>ZD k<|ia _
    |cons c r=>
      obtain⟨b,o,cells,w0,al,rfl,_,_,_⟩:=p 0 C3;refine xT w T D E ⟨b,o,bh⟩ cap (c::r) W f m λj k=>?_;obtain⟨b',F,e,E2,C,y,_,z,t⟩:=p j k;cases y;have n:jD 1 (oS (o+j*1) e.toList)=[.int .u8 ((c::r)[j].toNat:Int)]:=t;rw[oj]at n;have q:e.toList[o+j]? =U (.int .u8 ((c::r)[j].toNat:Int)):=by
        have:=ZS (·[0]?) n;simpa[ca,ct]using this
      rw[E5];simpa[fc,z]using q
  simp only[bm,cC,cR,u,i,bW]
theorem w_s2b{s:uH}(h:SH I M K w J)(i:Nat)(W:P.underlying D=U .string)(q:P.underlying T=U (.slice E))(o:P.underlying E=U (.int .u8))(g:ev n env x=bJ s)(hl:O s<=140737488355328)(k:∀w' u,SH I M K w' (df J i (.rd gL u s))->Grow w w'->WL P ops aq rest n (gy env d u) w'):
    WL P ops aq (⟨d,.convert D T x,ty,pos,af,bh⟩::rest) n env w:=by
  have f:=Lib.run_convert_string_bytes (P:=P) w D T E ⟨ar s⟩ W q o;have c:(qs (ar s)).size=O s:=by simp[me]
  rw[c]at f;have a:(bm (ev n env) ⟨d,.convert D T x,ty,pos,af,bh⟩).run P w=.ok (.value<|.slice (U ⟨w.heap.size,0,bh⟩) (O s)<|iL w (O s) 0 E) (lA w E ⟨ar s⟩):=by
    simp only[bm,cC,cR,g,bJ,f,bW]
  have e:Grow w (lA w E ⟨ar s⟩):=⟨Z,Z,Z,by rw[wq];omega,λb _ p=>vt w E _ b p⟩;refine aC a<|k _ _ (h.wL i e ?_) e;refine⟨U ⟨w.heap.size,0,bh⟩,_,Z,Ax w (O s) 0 E,sR w (O s) 0 E (by unfold mx;omega),(λh=>by cases h),λj l=>⟨w.heap.size,0,_,E,_,rfl,?_,Lib.bytesWorld_at_new w E _,?_⟩⟩
  · intro m;exact Nat.lt_irrefl _<|h.lt _ m
  · show jD 1 (oS (0+j*1) _)=_;rw[hE,oj];simp only[Lib.bytesCells];rw[cp (by simp;omega)];simp[l]
theorem Wc(s:uH)(a b:Nat):(qs (ar s)).extract a b=⟨ar ((s.take b).drop a)⟩:=by
 apply wk;simp[ByteArray.data_extract,eo]
theorem pq(s:uH):(qs (ar s)).size=O s:=by simp[me]
def subs?(s:uH)(a b:Int):B uH:=iE (0<=a/\a<=b/\b<=O s) (U (cut s a b))
variable{lo hi:B br}
theorem r_sls{s:uH}{a b:Int}(f:P.underlying T=U .string)(q:ρ x=bJ s)(l:Wq (lo.map ρ) a 0)(k:Wq (hi.map ρ) b (O s))(n:0<=a)(j:a<=b)(r:b<=O s):
    (bm ρ ⟨d,.slice T x lo hi bh,ty,pos,af,g⟩).run P w=.ok (.value (bJ (cut s a b))) w:=by
  obtain⟨a,rfl⟩:=cl n;obtain⟨b,rfl⟩:=cl<|Int.le_trans n j;have m:a<=b:=by omega
  have o:b<=O s:=by omega
  have p:cut s (a:Int) (b:Int)=(s.take b).drop a:=by simp[cut]
  have i:(lR T (bJ s) (lo.map ρ) (hi.map ρ) bh).run P w=.ok (bJ ((s.take b).drop a)) w:=by
    unfold bJ;rcases l with⟨e1,e2⟩|e1<;>rcases k with⟨e3,e4⟩|e3
    · have e:a=0:=by omega
      have c:b=O s:=by omega
      subst e c;rw[e1,e3,run_slice_string_all w T _ f,Wc,pq]
    · have e:a=0:=by omega
      subst e;rw[e1,e3,run_slice_string_to_if w T _ _ _ f,Z2 ⟨by omega,by rw[pq];omega⟩,Wc];simp
    · have c:b=O s:=by omega
      subst c;rw[e1,e3,run_slice_string_from_if w T _ _ _ f,Z2 ⟨by omega,by rw[pq];omega⟩,Wc,pq];simp
    · rw[e1,e3,run_slice_string w T _ _ _ _ _ f V V (by rw[pq];omega),Wc];simp
  rw[p];simp only[bm,cC,cR,q,Option.map_none,run_sliceAt_string w T _ _ _ _ f,i,bW]
variable{s r:uH}
theorem X2{a b:Int}(i:r=cut s a b)(j:P.underlying T=U .string)(m:ρ x=bJ s)(f:Wq (lo.map ρ) a 0)(e:Wq (hi.map ρ) b (O s))(l:0<=a)(c:a<=b)(k:b<=O s):
  (bm ρ ⟨d,.slice T x lo hi bh,ty,pos,af,g⟩).run P w=.ok (.value (bJ r)) w:=by
 subst i;exact r_sls j m f e l c k
theorem Wr{a b:Int}(h:subs? s a b=U r):0<=a/\a<=b/\b<=O s/\r=cut s a b:=by
 obtain⟨c,d⟩:=dh h;exact⟨c.1,c.2.1,c.2.2,(dq d).symm⟩
theorem Q6{E b:bk}{sz bytes:Nat}{k:Nat}(j:lT P T E sz bytes)(W:R.sz=sz)(r:P.underlying b=U (.int .i64))(q:ev n env x=.slice bh 0 0)(p:ev n env y=.int .i64 (k:Nat))(m:0<k)(s:0<bytes)(t:k*bytes<=140737488355328)(h:∀w' gg cap,Grow w w'->w.heap.size<=gg->gg<w'.heap.size->k<=cap->dC R E w' A (.slice (U ⟨gg,0,bh⟩) 0 cap) ([]:H α)->WL P ops aq rest n (gy env d (.slice (U ⟨gg,0,bh⟩) k cap)) w'):
    WL P ops aq (⟨d,.call {callee:=.builtin .append,args:= #[x,y],argTypes:= #[T,b]},ty,pos,af,bh⟩::rest) n env w:=by
  obtain⟨i,z,hi,u,l,f,e⟩:=j.info;have g:=R.pos;have o:k<=k*bytes:=pa _ s;have v:=Lib.run_append_nil_zeros (P:=P) w T b ty E i z .i64 .i64 j.desc r hi u k m V V (by rw[f];omega);have a:(bm (ev n env) ⟨d,.call {callee:=.builtin .append,args:= #[x,y],argTypes:= #[T,b]},ty,pos,af,bh⟩).run P w=.ok (.value<|.slice (U ⟨w.heap.size,0,bh⟩) k<|iL w k 0 E) (w.drew.alloc<|.cells (cI z.cells k++cI z.cells (iL w k 0 E-k)) E):=by
    simp only[bm,jK,mw,lQ,cC,cR,bW,hQ,cF,js,q,p,v]
  have D1:=Ax w k 0 E;have c:iL w k 0 E<=maxLen:=sR w k 0 E (by unfold mx;omega);refine aC a<|h _ _ _ ((Grow.drew w).trans<|Grow.alloc _ _) (cj _) ?_ D1 ⟨[],⟨by simp,.inr ⟨w.heap.size,_,_,Z,gj _,heap_alloc_new w.drew _,gj _,c,?_,by simp⟩⟩,λi h=>ZD h<|ia _⟩
  · show w.heap.size<(w.drew.alloc _).heap.size;rw[alloc_size];exact Ar _
  · rw[Array.size_append,oE,oE,e,W,<-cf];congr 1;omega
end
end
open Go.RowKit
structure qf(P:cc)(g:Nat)(w:ay):Prop where
 pow:px P w "internal/strconv.uint64pow10" .u64 ve
 syn:∃t p,w.var? P "strconv.ErrSyntax" =U #[.iface t p]
 ran:∃t p,w.var? P "strconv.ErrRange" =U #[.iface t p]
 max:∃m,w.cell? ⟨g,0,bh⟩=U (.int .i64 m)
 many:P.globals.size<=w.heap.size
 gmax:g<P.globals.size
 asc:∀q,P.globalNamed "strings.asciiSpace" =U q->px P w "strings.asciiSpace" .u8 Lib.asciiSpaceTab
section
variable{P:cc}{s:String}
theorem Kd{i:Nat}(h:P.globalNamed s=U i):i<P.globals.size:=by
  unfold Program.globalNamed at h;split at h
  · rename_i g a;cases h;have:i∈(List.range P.globals.size).filter λg=>(P.globals[g]?).any (·.name==s):=by rw[a];simp
    exact List.mem_range.1 (List.mem_filter.1 this).1
  · cases h
variable{K:BS}{w w':ay}
theorem bF.var{cs:Array Q}(d:bF K w w')(a:∀b,K b->P.globals.size<=b)(h:w.var? P s=U cs):w'.var? P s=U cs:=by
 unfold World.var? at h⊢;cases hg:P.globalNamed s with
 |none=>simp[hg]at h
 |some g=>
  have hl:=Kd hg;simp only[hg,cG]at h⊢;cases hb:w.heap[g]? with
  |none=>simp[hb]at h
  |some o=>rw[d.blk hb (λc=>ZD (a _ c) V)];rw[hb]at h;exact h
variable{g:Nat}
theorem qf.WZ(h:qf P g w)(a:bF K w w')(c:∀b,K b->P.globals.size<=b):qf P g w':=by
 obtain⟨j,⟨t2,r,p⟩,⟨n,f,s⟩,⟨m,d⟩,k,i,l⟩:=h;refine⟨a.var c j,⟨t2,r,a.var c p⟩,⟨n,f,a.var c s⟩,⟨m,?_⟩,cN k a.size,i,λq e=>a.var c<|l q e⟩;unfold fc at d⊢;cases hb:w.heap[g]? with
 |none=>simp[hb]at d
 |some o=>rw[a.blk hb (λe=>ZD (c _ e) V)];rw[hb]at d;exact d
theorem qf.go(h:qf P g w)(a:Grow w w'):qf P g w':=h.WZ a (λ_ h=>h.elim)
theorem SH.zX{I w:ay}{M K:BS}{J:Nat->Chunk}{C:Chunk}(h:SH I M K w J)(c:qf P g I)(a:∀b,K b->P.globals.size<=b)(i:Nat)(hi:J i=C):∀b,C.own' b->P.globals.size<=b:=by
  subst hi;intro b d;rcases cH b I.heap.size with hl|hl
  · exact a b<|h.old i b d hl
  · exact cN c.many hl
end
theorem Grow.drewN(w:ay)(k:Nat):Grow w (w.drewN k):=⟨rfl,rfl,rfl,cj _,λ_ _ _=>rfl⟩
theorem Grow.H5{w:ay}{os:Array Obj}:Grow w (mS w os):=⟨rfl,rfl,rfl,by simp[mS],λb _ a=>by simp[mS,ti a]⟩
def Oa(n:Int):B uH:=iE (ky n) (U (ey n))
def Ob(s:uH):B (Int×Yi):=iE (O s<=281474976710656) (U (match fq s with| .ok v=>(v,aw)| .range=>(vA s,bd)|_=>(0,bd)))
def L7(s:uH):B (Int×Yi):=iE (O s<=281474976710656) (U (match kj 64 s with| .ok v=>(v,aw)| .range=>(ya 64 s,bd)|_=>(0,bd)))
def Hw(l:H uH)(sep:uH):B uH:=iE (O l<=140737488355328/\O (tv l sep)<=140737488355328) (U (tv l sep))
def Tp(s sep:uH):B (H uH):=iE (O s<4294967281/\1<=O sep) (U (AF s sep))
def Ji(s sep:uH):B (H uH):=iE (O s<4294967281/\1<=O sep) (U (yb sep (O sep) (uF s sep) s))
def cutS(s sep:uH):B (uH×uH×Yi):=iE (O s<4294967281) (U (sf s sep))
def Q7(s p:uH):B Yi:=iE (O s<=281474976710656) (U (Lib.hasSuffix s p))
section
variable{P:cc}{g:Nat}{I:ay}{f:mT}{M:BS}
section
variable{a:Int}
theorem itoa_w(b:∀n,-9223372036854775808<=n->n<=9223372036854775807->∀w,px P w "internal/strconv.uint64pow10" .u64 ve->bp P f #[.int .i64 n] w λe w'=>e=.returned (.string ⟨ar (ey n)⟩)/\∃k os,w'=mS (w.drewN k) os)(c:qf P g I){r:uH}(W:Oa a=U r):bp P f #[.int .i64 a] I (Yf I (bJ r)):=by
 obtain⟨h,W⟩:=dh W;cases W;refine(b a h.1 h.2 I c.pow).mono ?_;rintro e w'⟨rfl,k,os,rfl⟩;exact⟨(Grow.drewN I k).trans Grow.H5,Z⟩
theorem format_w(b:∀n,-9223372036854775808<=n->n<=9223372036854775807->∀w,px P w "internal/strconv.uint64pow10" .u64 ve->bp P f #[.int .i64 n,.int .i64 10] w λe w'=>e=.returned (.string ⟨ar (ey n)⟩)/\∃k os,w'=mS (w.drewN k) os)(c:qf P g I){r:uH}(W:Oa a=U r):bp P f #[.int .i64 a,.int .i64 10] I (Yf I (bJ r)):=by
 obtain⟨h,W⟩:=dh W;cases W;refine(b a h.1 h.2 I c.pow).mono ?_;rintro e w'⟨rfl,k,os,rfl⟩;exact⟨(Grow.drewN I k).trans Grow.H5,Z⟩
theorem bw_grow(w:ay)(t:bk)(s:ByteArray):Grow w (lA w t s):=⟨rfl,rfl,rfl,by rw[wq];omega,λb _ a=>vt w t _ b a⟩
variable{T5 T168 T210:bk}{nm:ByteArray}{r:Int×Yi}
theorem atoi_w(l:∀s:ByteArray,s.size<=9223372036854775806->∀v,fq s.data.toList=.ok v->∀w,bp P f #[.string s] w λe w'=>e=.returned (.tuple #[.int .i64 v,.nilIface])/\(w'=w\/∃t,w'=lA w T5 t))(j:∀s:ByteArray,s.size<=281474976710656->∀e,fq s.data.toList=e->(∀v,e≠ .ok v)->e≠ .range->∀a p w,w.var? P "strconv.ErrSyntax" =U #[.iface a p]->bp P f #[.string s] w λe w'=>∃N,e=.returned (.tuple #[.int .i64 0,.iface T168 (.pointer (U ⟨N,0,bh⟩))])/\w.heap.size<=N/\w'.heap[N]? =U (.cells #[.string nm,.string s,.iface a p] T210 (0,0))/\Below w.heap.size w w')(m:∀s:ByteArray,s.size<=281474976710656->fq s.data.toList=.range->∀a p w,w.var? P "strconv.ErrRange" =U #[.iface a p]->bp P f #[.string s] w λe w'=>∃N,e=.returned (.tuple #[.int .i64 (vA s.data.toList),.iface T168 (.pointer (U ⟨N,0,bh⟩))])/\w.heap.size<=N/\w'.heap[N]? =U (.cells #[.string nm,.string s,.iface a p] T210 (0,0))/\Below w.heap.size w w')(d:qf P g I){s:uH}(W:Ob s=U r):bp P f #[bJ s] I (λe w'=>Grow I w'/\∃u,e=.returned (.tuple #[.int .i64 r.1,u])/\Pc u r.2):=by
  obtain⟨h,W⟩:=dh W;have i:=pq s;cases hq:fq s with
  |ok v=>
    rw[hq]at W;cases W;refine(l ⟨ar s⟩ V v (by simpa using hq) I).mono ?_;rintro e w'⟨rfl,k⟩;refine⟨?_,_,Z,.inl ⟨Z,Z⟩⟩;rcases k with rfl|⟨t,rfl⟩
    · exact bF.refl _ _
    · exact bw_grow _ _ _
  |range=>
    rw[hq]at W;cases W;obtain⟨t,p,b⟩:=d.ran;refine(m ⟨ar s⟩ V (by simpa using hq) t p I b).mono ?_;rintro e w'⟨N,rfl,_,_,c⟩;refine⟨Grow.of_below c,.iface T168<|.pointer<|some ⟨N,0,bh⟩,by simp,.inr ⟨Z,_,_,Z⟩⟩
  |_=>
    rw[hq]at W;cases W;obtain⟨t,p,b⟩:=d.syn;refine(j ⟨ar s⟩ V _ (by simpa using hq) (λv=>by simp) C3 t p I b).mono ?_;rintro e w'⟨N,rfl,_,_,c⟩;exact⟨Grow.of_below c,_,Z,.inr ⟨Z,_,_,Z⟩⟩
theorem parse_w(l:∀s:ByteArray,s.size<=9223372036854775806->∀v,kj 64 s.data.toList=.ok v->∀w,bp P f #[.string s,.int .i64 10,.int .i64 64] w λe w'=>e=.returned (.tuple #[.int .i64 v,.nilIface])/\(w'=w\/∃t,w'=lA w T5 t))(j:∀s:ByteArray,s.size<=281474976710656->∀e,kj 64 s.data.toList=e->(∀v,e≠ .ok v)->e≠ .range->∀a p w,w.var? P "strconv.ErrSyntax" =U #[.iface a p]->bp P f #[.string s,.int .i64 10,.int .i64 64] w λe w'=>∃N,e=.returned (.tuple #[.int .i64 0,.iface T168 (.pointer (U ⟨N,0,bh⟩))])/\w.heap.size<=N/\w'.heap[N]? =U (.cells #[.string nm,.string s,.iface a p] T210 (0,0))/\Below w.heap.size w w')(m:∀s:ByteArray,s.size<=281474976710656->kj 64 s.data.toList=.range->∀a p w,w.var? P "strconv.ErrRange" =U #[.iface a p]->bp P f #[.string s,.int .i64 10,.int .i64 64] w λe w'=>∃N,e=.returned (.tuple #[.int .i64 (ya 64 s.data.toList),.iface T168 (.pointer (U ⟨N,0,bh⟩))])/\w.heap.size<=N/\w'.heap[N]? =U (.cells #[.string nm,.string s,.iface a p] T210 (0,0))/\Below w.heap.size w w')(d:qf P g I){s:uH}(W:L7 s=U r):bp P f #[bJ s,.int .i64 10,.int .i64 64] I (λe w'=>Grow I w'/\∃u,e=.returned (.tuple #[.int .i64 r.1,u])/\Pc u r.2):=by
  obtain⟨h,W⟩:=dh W;have i:=pq s;cases hq:kj 64 s with
  |ok v=>
    rw[hq]at W;cases W;refine(l ⟨ar s⟩ V v (by simpa using hq) I).mono ?_;rintro e w'⟨rfl,k⟩;refine⟨?_,_,Z,.inl ⟨Z,Z⟩⟩;rcases k with rfl|⟨t,rfl⟩
    · exact bF.refl _ _
    · exact bw_grow _ _ _
  |range=>
    rw[hq]at W;cases W;obtain⟨t,p,b⟩:=d.ran;refine(m ⟨ar s⟩ V (by simpa using hq) t p I b).mono ?_;rintro e w'⟨N,rfl,_,_,c⟩;refine⟨Grow.of_below c,.iface T168<|.pointer<|some ⟨N,0,bh⟩,by simp,.inr ⟨Z,_,_,Z⟩⟩
  |_=>
    rw[hq]at W;cases W;obtain⟨t,p,b⟩:=d.syn;refine(j ⟨ar s⟩ V _ (by simpa using hq) (λv=>by simp) C3 t p I b).mono ?_;rintro e w'⟨N,rfl,_,_,c⟩;exact⟨Grow.of_below c,_,Z,.inr ⟨Z,_,_,Z⟩⟩
variable{A Ys:BS}{l:H uH}
theorem rdStr_at{a:B nF}{n c:Nat}(q:dN KD I Ys A (.slice a n c) l)(hl:0<O l):∃g o,a=U ⟨g,o,bh⟩/\g<I.heap.size/\∀j x,l[j]? =U x->I.cell? ⟨g,o+j,bh⟩=U (bJ x):=by
  obtain⟨a',cap,e,z,C,F,m⟩:=q;cases e;obtain⟨b,o,cells,E,y,rfl,_,s,_⟩:=m 0 hl;refine⟨b,o,Z,jh s,λj x u=>?_⟩;obtain⟨i,f⟩:=List.getElem?_eq_some_iff.1 u;obtain⟨b',w,d,E2,v,e,_,t,r⟩:=m j i;cases e;have k:jD 1 (oS (o+j*1) d.toList)=[bJ l[j]]:=r;rw[oj]at k;have p:d.toList[o+j]? =U (bJ l[j]):=by
    have:=ZS (·[0]?) k;simpa[ca,ct]using this
  rw[<-f];simpa[fc,t]using p
theorem join_w(t:∀(a:B nF) (c:Nat) (sep:ByteArray) (w:ay),bp P f #[.slice a 0 c,.string sep] w λe w'=>e=.returned (.string ⟨#[]⟩)/\w'=w)(q:∀(d o c:Nat) (xs:H ByteArray) (sep:ByteArray) (w:ay),(∀(j:Nat) x,xs[j]? =U x->w.cell? ⟨d,o+j,bh⟩=U (.string x))->d<w.heap.size->O xs<=140737488355328->O xs<=c->O (tv (xs.map (·.data.toList)) sep.data.toList)<=140737488355328->
      bp P f #[.slice (U ⟨d,o,bh⟩) (O xs) c,.string sep] w λe w'=>e=.returned (.string ⟨ar (tv (xs.map (·.data.toList)) sep.data.toList)⟩)/\Below w.heap.size w w') {v:Q} {sep r:uH} (i:dN KD I Ys A v l) (W:Hw l sep=U r):bp P f #[v,bJ sep] I (Yf I (bJ r)):=by
  obtain⟨h,W⟩:=dh W;cases W;have g:=i;obtain⟨a,cap,rfl,k1,k2,z,u⟩:=i;cases l with
  |nil=>
    refine(t a cap _ I).mono ?_;rintro e w'⟨rfl,rfl⟩;exact⟨bF.refl _ _,Z⟩
  |cons x l=>
    obtain⟨d,o,rfl,p,m⟩:=rdStr_at g C3;have k:((x::l).map λs=>(⟨ar s⟩:ByteArray)).map (·.data.toList)=x::l:=by simp[Function.comp_def]
    have:=q d o cap ((x::l).map λs=>⟨ar s⟩) ⟨ar sep⟩ I (λj y b=>by
      rw[en]at b;cases hq:(x::l)[j]? with
      |none=>rw[hq]at b;cases b
      |some s=>rw[hq]at b;cases b;exact m j s hq) p (by simpa using h.1) (by simpa using k1) (by rw[k];simpa using h.2)
    rw[k,dr]at this;refine this.mono ?_;rintro e w'⟨rfl,n⟩;exact⟨Grow.of_below n,by simp[bJ]⟩
variable{E:bk}
theorem TX{l:H ByteArray}{A:BS}{cells:Array Q}{cap:Nat}(w:ay)(m:∀b,A b->b<w.heap.size)(d:O l<=cap)(g:cap<=mx)(a:∀j (h:j<O l),cells[j]? =U (.string l[j])):bY KD (w.alloc (.cells cells E)) A (.slice (U ⟨w.heap.size,0,bh⟩) (O l) cap) (l.map (·.data.toList)):=by
  refine⟨U ⟨w.heap.size,0,bh⟩,cap,by simp,by simpa using d,g,(λh=>by cases h),λj i=>⟨w.heap.size,0,cells,E,(0,0),Z,?_,Pm w _,?_⟩⟩
  · intro k;exact Nat.lt_irrefl _ (m _ k)
  · have f:j<O l:=by simpa using i
    show jD 1 (oS (0+j*1) cells.toList)=_;have e:=a j f;have c:j<O cells.toList:=by
      rw[cx];rcases cH j cells.size with q|q
      · exact q
      · rw[oY q]at e;cases e
    rw[hE,oj,cp c];have:cells.toList[j]=.string l[j]:=by
      have:=e;rw[<-ie,bl c]at this;exact dq this
    rw[this];simp[bJ]
variable{s sep:uH}
theorem split_w(d:∀(s sep:ByteArray) (m:Int) (w:ay),s.size<4294967281->w.cell? ⟨g,0,bh⟩=U (.int .i64 m)->1<=sep.size->
  bp P f #[.string s,.string sep] w λe w'=>e=.returned (.slice (U ⟨w.heap.size,0,bh⟩) (ei s sep+1) (ei s sep+1))/\w'=w.alloc (.cells (ar ((kC sep 0 (ei s sep) s).map pb)) E)) (p:∀b,M b->b<I.heap.size) (k:qf P g I) {r:H uH} (W:Tp s sep=U r):bp P f #[bJ s,bJ sep] I (λe w'=>Grow I w'/\∃u,e=.returned u/\bY KD w' M u r):=by
 obtain⟨h,W⟩:=dh W;cases W;obtain⟨m,c⟩:=k.max;refine(d ⟨ar s⟩ ⟨ar sep⟩ m I (by rw[pq];exact h.1) c (by rw[pq];exact h.2)).mono ?_;rintro e w'⟨rfl,rfl⟩;refine⟨Grow.alloc _ _,_,Z,?_⟩;have a:=Cm ⟨ar sep⟩ (by rw[pq];exact h.2) 0 _ ⟨ar s⟩ Z;have o:=Bx ⟨ar sep⟩ 0 (ei ⟨ar s⟩ ⟨ar sep⟩) ⟨ar s⟩;have q:ei ⟨ar s⟩ ⟨ar sep⟩=uF s sep:=by simp[ei]
 have n:=Lib.countB_le ⟨ar sep⟩ (by rw[pq];exact h.2) _ ⟨ar s⟩ (cj _);rw[pq]at n;have:=TX (E:=E) (l:=kC ⟨ar sep⟩ 0 (ei ⟨ar s⟩ ⟨ar sep⟩) ⟨ar s⟩) (cap:=ei ⟨ar s⟩ ⟨ar sep⟩+1) (cells:=((kC ⟨ar sep⟩ 0 (ei ⟨ar s⟩ ⟨ar sep⟩) ⟨ar s⟩).map pb).toArray) I p (by rw[a];exact cj _) (by unfold mx;omega) (λj i=>by simp[i]);rw[a,o]at this;simpa[AF,q]using this
theorem genSplit_w(k:∀(s sep:ByteArray) (a:Nat) (n:Int) (N:Nat) (m:Int) (w:ay),s.size<4294967281->w.cell? ⟨g,0,bh⟩=U (.int .i64 m)->1<=sep.size->a<=sep.size->n≠0->n<=9223372036854775807->(N:Int)=min (if n<0 then(ei s sep:Int)+1 else n) ((s.size:Int)+1)->
  bp P f #[.string s,.string sep,.int .i64 a,.int .i64 n] w λe w'=>e=.returned (.slice (U ⟨w.heap.size,0,bh⟩) (O (kC sep a (N-1) s)) N)/\w'=w.alloc (.cells (vI (kC sep a (N-1) s) N) E)) (t:∀b,M b->b<I.heap.size) (p:qf P g I) {r:H uH} (W:Ji s sep=U r):bp P f #[bJ s,bJ sep,.int .i64 (O sep:Int),.int .i64 (-1)] I (λe w'=>Grow I w'/\∃u,e=.returned u/\bY KD w' M u r):=by
 obtain⟨h,W⟩:=dh W;cases W;obtain⟨m,i⟩:=p.max;have v:ei ⟨ar s⟩ ⟨ar sep⟩=uF s sep:=by simp[ei]
 have o:=Lib.countB_le ⟨ar sep⟩ (by rw[pq];exact h.2) _ ⟨ar s⟩ (cj _);rw[pq]at o;refine(k ⟨ar s⟩ ⟨ar sep⟩ (O sep) (-1) (ei ⟨ar s⟩ ⟨ar sep⟩+1) m I (by rw[pq];exact h.1) i (by rw[pq];exact h.2) (by rw[pq];exact cj _) tz tz (by rw[Z2 tz,pq];omega)).mono ?_;rintro e w'⟨rfl,rfl⟩;refine⟨Grow.alloc _ _,_,Z,?_⟩;rw[Nat.add_sub_cancel];have q:=Cm ⟨ar sep⟩ (by rw[pq];exact h.2) (O sep) _ ⟨ar s⟩ Z;have d:=Bx ⟨ar sep⟩ (O sep) (ei ⟨ar s⟩ ⟨ar sep⟩) ⟨ar s⟩;have:=TX (E:=E) (l:=kC ⟨ar sep⟩ (O sep) (ei ⟨ar s⟩ ⟨ar sep⟩) ⟨ar s⟩) (cap:=ei ⟨ar s⟩ ⟨ar sep⟩+1) (cells:=vI (kC ⟨ar sep⟩ (O sep) (ei ⟨ar s⟩ ⟨ar sep⟩) ⟨ar s⟩) (ei ⟨ar s⟩ ⟨ar sep⟩+1)) I t (by rw[q];exact cj _) (by unfold mx;omega) (λj c=>by unfold vI;rw[List.getElem?_toArray,List.getElem?_append_left (by simpa using c)];simp[c]);rw[d]at this;simpa[v]using this
theorem hasSuf_w(a:∀(s p:ByteArray) (w:ay),s.size<=9223372036854775807->bp P f #[.string s,.string p] w λe w'=>e=.returned (.bool (Lib.hasSuffix s.data.toList p.data.toList))/\w'=w)
  {s p:uH} {r:Yi} (W:Q7 s p=U r):bp P f #[bJ s,bJ p] I (Yf I (.bool r)):=by
 obtain⟨h,W⟩:=dh W;cases W;refine(a ⟨ar s⟩ ⟨ar p⟩ I (by rw[pq];omega)).mono ?_;rintro e w'⟨rfl,rfl⟩;exact⟨bF.refl _ _,by simp⟩
theorem cut_w(b:∀(s sep:ByteArray) (m:Int) (w:ay),s.size<4294967281->w.cell? ⟨g,0,bh⟩=U (.int .i64 m)->bp P f #[.string s,.string sep] w λe w'=>e=.returned (.tuple #[.string ⟨ar (sf s.data.toList sep.data.toList).1⟩,.string ⟨ar (sf s.data.toList sep.data.toList).2.1⟩,.bool (sf s.data.toList sep.data.toList).2.2])/\∃n,w'=w.drewN n)(c:qf P g I){r:uH×uH×Yi}(W:cutS s sep=U r):bp P f #[bJ s,bJ sep] I (Yf I (.tuple #[bJ r.1,bJ r.2.1,.bool r.2.2])):=by
 obtain⟨h,W⟩:=dh W;cases W;obtain⟨m,a⟩:=c.max;refine(b ⟨ar s⟩ ⟨ar sep⟩ m I (by rw[pq];exact h) a).mono ?_;rintro e w'⟨rfl,n,rfl⟩;exact⟨Grow.drewN _ _,by simp[bJ]⟩
end
end
open Go.RowKit
section
variable{P:cc}{ops:Array ec}{aq:fY->Act->ay->Prop}{n:Nat}{env:Nat->Q}{w w' I:ay}{M K:BS}{J:Nat->Chunk}{rest:H ec}
 {d:B Nat} {op:Op} {ty:bk} {pos:String} {af:Array hR} {v:Q} {g:B (Nat×Yi)} {T:bk} {ρ:br->Q} {x y:br} {i fuel:Nat} {listed:Array Yi}
theorem SH.Ww{c:Chunk}(h:SH I M K w J)(i:Nat)(hi:J i=c)(d:bF c.own' w w'):SH I M K w' (df J i .no):=
 h.step i d (λb a _=>by rw[hi];exact a) (λb a=>a.elim) an
theorem SH.ym{c e:Chunk}(h:SH I M K w J)(i j:Nat)(a:i≠j)(hi:J i=c)(d:J j=e)(f:bF (λb=>c.own' b\/e.own' b) w w'):SH I M K w' (df (df (df J j .no) i (.two (J i) (J j))) i .no):=by
 refine(h.pair i j a).Ww i (c:=.two (J i)<|J j) (dJ _ _ _) ?_;rw[hi,d];exact f
theorem jV{zs:H Q}(h:SH I M K w J)(i:Nat)(a:zg P T zs)(k:∀w' b,SH I M K w' (df J i (.blk b zs))->Grow w w'->w.heap.size<=b->WL P ops aq rest n (gy env d (.pointer (U ⟨b,0,bh⟩))) w'):WL P ops aq (⟨d,.alloc T,ty,pos,af,bh⟩::rest) n env w:=
 aC (r_allocN a) (k _ _ (h.newB i zs T) (Grow.alloc _ _) (cj _))
section
variable{b o:Nat}{cs:H Q}
theorem fA{z:Q}(h:SH I M K w J)(i:Nat)(a:H Q)(hi:J i=.blk b cs)(e:One P T z)(l:ev n env x=.pointer (U ⟨b,o,bh⟩))(f:ev n env y=v)(ho:cs.set o v=a)(hl:mv o (O cs)=bd)(c:v.oneCell'=bd)(k:∀w',SH I M K w' (df J i (.blk b a))->bF (λx=>x=b) w w'->WL P ops aq rest n (gy env d gx) w'):
  WL P ops aq (⟨d,.store T x y,ty,pos,af,bh⟩::rest) n env w:=by
 obtain⟨E,j⟩:=h.pU i hi;have:=h.putB i hi a E;subst ho;have m:=Y9 (d:=d) (ty:=ty) (pos:=pos) (af:=af) (g:=bh) e l j (by rw[pn]at hl;simpa using hl) f c;refine BX m<|k _ ?_<|bF.yG _ _ _;simpa using this
variable{zs vs:H Q}
theorem jN(h:SH I M K w J)(i:Nat)(a:H Q)(hi:J i=.blk b cs)(f:zg P T zs)(l:ev n env x=.pointer (U ⟨b,o,bh⟩))(g:ev n env y=.agg (ar vs))(hl:O vs=O zs)(ho:QW cs o vs=a)(j:lr (o+O vs) (O cs)=bd)(e:∀v∈vs,v.oneCell'=bd)(k:∀w',SH I M K w' (df J i (.blk b a))->bF (λx=>x=b) w w'->WL P ops aq rest n (gy env d gx) w'):
  WL P ops aq (⟨d,.store T x y,ty,pos,af,bh⟩::rest) n env w:=by
 obtain⟨E,c⟩:=h.pU i hi;subst ho;exact BX (Za f l c g hl (gC j) e)<|k _ (h.putB i hi _ E)<|bF.yG _ _ _
theorem jS{α:Type}{R:uQ α}{E:bk}{sz bytes:Nat}{u:Q}{l m:H α}(h:SH I M K w J)(i:Nat)(hi:J i=.own R E v l)(s:dN R w BE (SH.A M J) u m)(q:lT P T E sz bytes)(W:R.sz=sz)(p:ev n env x=v)(o:ev n env y=u)
    (a:(O l+O m)*bytes<=140737488355328) (j:O l+O m<=9223372036854775807)
    (k:∀w' c,SH I M K w' (df J i (.own R E c (l++m)))->bF (ob v) w w'->(∀b,ob c b->b<w.heap.size->ob v b)->WL P ops aq rest n (gy env d c) w'):
    WL P ops aq (⟨d,.call {callee:=.builtin .append,args:= #[x,y],argTypes:= #[T,T]},ty,pos,af,bh⟩::rest) n env w:=by
  obtain⟨c,w',r,t,f,e⟩:=US (d:=d) (ty:=ty) (pos:=pos) (af:=af) (g:=bh) q W p (h.bZ i hi) o s (λb a=>.inr ⟨i,by rw[hi];exact a⟩) a j;refine aC r (k w' c (h.step i f (λb a _=>by rw[hi];exact a) (λb a hl=>by rw[hi];exact e b a hl) ?_) f e);refine dC.go t (bF.refl BE w') (λ_ h=>h.elim) (λ_ h=>h.elim) λb a _=>?_;rcases a with a|a|a
  · exact .inl<|.inl a
  · exact .inl<|.inr<|nV a
  · exact .inr a
theorem HE{E u:bk}{l s:uH}(h:SH I M K w J)(i:Nat)(hi:J i=.own gL E v l)(r:lT P T E 1 1)(z:One P E (.int .u8 0))(m:P.underlying u=U .string)(j:ev n env x=v)(f:ev n env y=bJ s)
  (q:(O l+O s)*1<=140737488355328) (p:O l+O s<=9223372036854775807)
  (k:∀w' a,SH I M K w' (df J i (.own gL E a (l++s)))->bF (ob v) w w'->(∀b,ob a b->b<w.heap.size->ob v b)->WL P ops aq rest n (gy env d a) w'):
  WL P ops aq (⟨d,.call {callee:=.builtin .append,args:= #[x,y],argTypes:= #[T,u]},ty,pos,af,bh⟩::rest) n env w:=by
 obtain⟨a,w',t,o,e,c⟩:=run_appS (d:=d) (ty:=ty) (pos:=pos) (af:=af) (g:=bh) r z m j (h.giveO i hi) f q p;exact aC t<|k w' a (h.given i hi o e c) e c
variable{fn:Func}{R:sC->ay->Prop}
theorem fZ{u a:Tmp}{T:bk}{v2:Q}{b:Nat}(j:fn.results= #[.cell a T,.tmp u])(k:ev n env (.tmp a)=.pointer (U ⟨b,0,bh⟩))(l:ev n env (.tmp u)=v2)(f:SH I M K w J)(i:Nat)(hi:J i=.blk b vs)(g:zg P T zs)(hl:O vs=O zs)(h:R (.returned (.tuple #[.agg (ar vs),v2])) w):ks P fn R .ret (C6 n env) w:=by
 refine⟨Z,_,?_,h⟩;have c:=congrFun (jG n env)<|.tmp u;have d:=congrFun (jG n env)<|.tmp a;rw[l]at c;rw[k]at d;simp only[kh]at c d;rw[da]at c d;have e:=F5 (P:=P) f hi g hl Z;unfold results;rw[j];simp[c,d,asAddr,e]
variable{t u a:Tmp}
theorem KF{T:bk}{v2 v3:Q}{b:Nat}(l:fn.results= #[.cell a T,.tmp t,.tmp u])(m:ev n env (.tmp a)=.pointer (U ⟨b,0,bh⟩))(j:ev n env (.tmp t)=v2)(o:ev n env (.tmp u)=v3)(g:SH I M K w J)(i:Nat)(hi:J i=.blk b vs)(k:zg P T zs)(hl:O vs=O zs)(h:R (.returned (.tuple #[.agg (ar vs),v2,v3])) w):ks P fn R .ret (C6 n env) w:=by
 refine⟨Z,_,?_,h⟩;have e:=congrFun (jG n env)<|.tmp t;have c:=congrFun (jG n env)<|.tmp u;have d:=congrFun (jG n env)<|.tmp a;rw[j]at e;rw[o]at c;rw[m]at d;simp only[kh]at e c d;rw[da]at e c d;have f:=F5 (P:=P) g hi k hl Z;unfold results;rw[l];simp[e,c,d,asAddr,f]
theorem fin3{v1 v2 v3:Q}(f:fn.results= #[.tmp t,.tmp u,.tmp a])(e:ev n env (.tmp t)=v1)(g:ev n env (.tmp u)=v2)(i:ev n env (.tmp a)=v3)(h:R (.returned (.tuple #[v1,v2,v3])) w):ks P fn R .ret (C6 n env) w:=by
 refine⟨Z,_,?_,h⟩;have c:=congrFun (jG n env)<|.tmp t;have d:=congrFun (jG n env)<|.tmp u;have b:=congrFun (jG n env)<|.tmp a;rw[e]at c;rw[g]at d;rw[i]at b;simp only[kh]at c d b;rw[da]at c d b;unfold results;rw[f];simp[c,d,b]
theorem At.grow(h:At w b o cs)(a:Grow w w'):At w' b o cs:=by
 obtain⟨cells,E,d,c,e⟩:=h;exact⟨cells,E,d,a.blk c,e⟩
variable{ry:BS}{ws:ay}
theorem Bh(a:bF ry ws w)(h:Po P ops ry w aq fuel listed n env w):Po P ops ry ws aq fuel listed n env w:=⟨RM (λ_ h=>a.same h) _ _ _ _ h.out⟩
theorem sD{ws w:ay}{v u:Q}(d:ws.heap.size<=w.heap.size)(a:∀b,ob v b->ws.heap.size<=b)(hn:∀b,ob u b->b<w.heap.size->ob v b):∀b,ob u b->ws.heap.size<=b:=
 λb c=>Ab λhl=>Nat.not_lt_of_le (a b (hn b c (er hl d))) hl
def EffOk(P:cc)(ops:Array ec)(Q1:Nat->fY->Act->ay->Prop)(n:Nat)(env:Nat->Q)(w:ay)(i:Nat):Prop:=
 ∃d op ty pos af g,ops[i]? =U ⟨d,op,ty,pos,af,g⟩/\cm ⟨d,op,ty,pos,af,g⟩ (eN ops (C6 n env).tmps)=bd/\WL P ops (Q1 i) [⟨d,op,ty,pos,af,bh⟩] n env w
variable{Q1:Nat->fY->Act->ay->Prop}
theorem Fx(i:Nat)(hi:ops[i]? =U ⟨d,op,ty,pos,af,g⟩)(a:cm ⟨d,op,ty,pos,af,g⟩ (eN ops (C6 n env).tmps)=bd)(h:WL P ops (Q1 i) [⟨d,op,ty,pos,af,bh⟩] n env w):EffOk P ops Q1 n env w i:=⟨_,_,_,_,_,_,hi,a,h⟩
def EffAll(P:cc)(ops:Array ec)(Q1:Nat->fY->Act->ay->Prop)(n:Nat)(env:Nat->Q)(w:ay):H Nat->Prop
 |[]=>True
 |i::r=>EffOk P ops Q1 n env w i/\EffAll P ops Q1 n env w r
theorem HU:∀{l:H Nat},EffAll P ops Q1 n env w l->∀k∈l,EffOk P ops Q1 n env w k
  |i::r,⟨h1,h2⟩,k,hk=>by
    rcases bs.1 hk with rfl|hk
    · exact h1
    · exact HU h2 k hk
theorem whk_effs(l:H Nat)(e:dy .any ops listed=l)(hl:l≠[])(h:EffAll P ops (λi=>WX P ops ry ws aq fuel (listed.setIfInBounds i bd)) n env w l):Po P ops ry ws aq (fuel+1) listed n env w:=by
 refine⟨Ck e hl λk a=>?_⟩;obtain⟨d,op,ty,pos,af,g,b,c,f⟩:=HU h k a;exact Zf b c f
end
end
open Go.RowKit Go.ChangeShapes
theorem opens_byte{P:cc}{T:bk}(c:P.underlying T=U (.int .u8)):Ca P T gL:=by
 intro Zs enc w spare held fuel cs x h;obtain⟨n,rfl,_,a⟩:=An c h;simp only[Lit.wf,Bool.and_eq_true,decide_eq_true_eq]at a;have b:0<=n:=a.1;have d:n<=255:=a.2;refine⟨UInt8.ofNat n.toNat,?_⟩;show [dd .u8 n]=[.int .u8 ((UInt8.ofNat n.toNat).toNat:Int)];have:(UInt8.ofNat n.toNat).toNat=n.toNat:=by
  have e:n.toNat%256=n.toNat:=Nat.mod_eq_of_lt V;simpa[UInt8.toNat_ofNat']using e
 rw[this,Int.toNat_of_nonneg b]
theorem W4{Zs:Type}{enc:bk×Q->Zs}{a:Assume}{C:Checked}{os:Os}{f:mT}{fn:Func}{s:ChangeSpec}{l:H PathCond}{c fresh k zy:Yi}{X:ay->Array Q->Prop}
  (K:∀(w w':ay) (args:Array Q),w.heap=w'.heap->X w args->X w' args)
  (own:ownKnob C.prog.godebug=bh) (o:os.Started) (p:C.prog.inits.idxOf? f=bh) (F:C.prog.funcs[f]? =U fn)
  (n:∃(w:ay) (d:Tape) (i:Input),w.os=os/\(w.forCall d i).Shaped C.prog/\i.vars=[]/\Input.okWide C.prog (w.forCall d i) .any w.heap.size f i/\
   ((s.pre enc C.prog fn l c (w.forCall d i).memory i.args/\X (w.forCall d i).memory i.args)/\sizedMet enc C.prog fn (OpenSpec.ofChange s) c (w.forCall d i).memory i.args)/\a.holds C.prog (lone (Frame.enter C.prog f i.args .normal) [] (w.forCall d i)))
  (m:∀(b:ay) (q:Nat) (args:Array Q) (z y:H (DataW Zs)) (g:H uT),
   (∀(j:Nat) t v,fn.params[j]? =U t->args[j]? =U v->Value.okWide C.prog b .any q t v)->
   DataW.Whole enc C.prog fn.params.toList s.vars c b args.toList z y g->
   l.all (PathCond.test C.prog ⟨fn.params.toList,z,s.plain.varTypes C.prog,y⟩)=bd->X b args->b.ShapedOpen C.prog->
   bp C.prog f args b λe w0=>∃v,e=.returned v/\s.post enc C.prog fn c fresh k zy b args v w0):
  ReturnsInHanded a C os f .any (λw args=>(s.pre enc C.prog fn l c w args/\X w args)/\sizedMet enc C.prog fn (OpenSpec.ofChange s) c w args) (s.post enc C.prog fn c fresh k zy):=by
 refine returnsInHanded_of_calls own o p n ?_;intro w d i _ Ys _ al x _;obtain⟨_,_,_,A,r,_,_,_,_,u⟩:=al;have e:A=fn:=dq<|r.symm.trans F;subst e;obtain⟨⟨⟨z,y,g,M,ab⟩,N⟩,_⟩:=x;have E:=DataW.Whole.of_heap (w':=w.forCall d i) (by rfl) M;refine(m (w.forCall d i) w.heap.size i.args z y g u E ab (K _ _ _ (by rfl) N) Ys).mono λe w0⟨v,ry,J⟩=>?_;subst ry;exact ChangeSpec.post_blind J
def laidIn(w:ay)(g:Nat)(a:Array Q):World:=
 {w with heap:=w.heap.modify g fun| .cells _ t fz=>.cells a t fz|o=>o}
def tabCells:DataW Unit->Array Q
 | .agg l=>ar (l.map fun| .lit (.int k z)=>dd k z|_=>Value.nilIface)
 |_=> #[]
structure gD where
 B:List UInt8
 z:List UInt8
deriving DecidableEq
def rDisk:uQ gD where
 sz:=2
 rd w A cs x:=∃Jj,∃Jk,cs=[Jj,Jk]/\bY gL w A Jj x.B/\bY gL w A Jk x.z
 len:=by rintro w A cs x ⟨Jj,Jk,rfl,h0,h1⟩;rfl
 one:=by rintro w A cs x ⟨Jj,Jk,rfl,h0,h1⟩ u hu;simp only[bs,dp,or_false]at hu;rcases hu with rfl|rfl<;>first|rfl|exact h0.one|exact h1.one
 pos:=by decide
 go:=by rintro w A cs x w2 A2 K ⟨Jj,Jk,rfl,h0,h1⟩ hk hK hA;exact⟨_,_,Z,h0.go hk hK hA,h1.go hk hK hA⟩
theorem rDisk_open{w:ay}{A:BS}{cs:H Q}{x:gD}(h:rDisk.rd w A cs x):∃a,∃b,cs=[a,b]/\bY gL w A a x.B/\bY gL w A b x.z:=h
theorem puint_app(a:Nat)(c:UInt8):∀(l:uH),mz a (l++[c])=match mz a l with| .ok m=>mz m [c]|e=>e:=by
  intro l;induction l generalizing a with
  |nil=>simp[mz]
  |cons b r ih=>
    simp only[gf,mz];split
    · split
      · rfl
      · split
        · rfl
        · rw[ih];rfl
    · rfl
def numOf(w:uH):B Int:=match fq w with| .ok v=>if ey v=w then U v else bh|_=>bh
theorem numOf_some{w:uH}{n:Int}(h:numOf w=U n):w=ey n/\ky n:=by
  unfold numOf at h;cases e:fq w with
  |ok v=>
    rw[e]at h;simp only at h;split at h
    · rename_i a;cases h;have:=Lib.atoiAll_bounds e;exact⟨a.symm,this⟩
    · cases h
  |_=>rw[e]at h;cases h
theorem itoa_len{n:Int}(h:ky n):O (ey n)<=21:=Lib.itoa_length_le n h.1 h.2
def mH(c:UInt8):uH->H uH
 |[]=>[[]]
 |b::r=>if b=c then []::mH c r else match mH c r with|x::xs=>(b::x)::xs|[]=>[[b]]
theorem Ie(c:UInt8):∀(s:uH),mH c s≠[]
  |[]=>by simp[mH]
  |b::r=>by
    unfold mH;split
    · simp
    · split<;>simp
theorem Tq{c:UInt8}:∀{x:uH},c∉x->mH c x=[x]
 |[],_=>rfl
 |b::r,h=>by
  have a:¬b=c:=λe=>h (by rw[e];exact fo);rw[mH,Z3 a,Tq (x:=r) (λe=>h (bo _ e))]
theorem Ig{c:UInt8}{r:uH}:∀{x:uH},c∉x->mH c (x++c::r)=x::mH c r
 |[],_=>by simp[mH]
 |b::x,h=>by
  have a:¬b=c:=λe=>h (by rw[e];exact fo);rw[gf,mH,Z3 a,Ig (x:=x) (λe=>h (bo _ e))]
theorem idx1(c:UInt8):∀(s:uH),(na s [c]= -1/\c∉s)\/∃x r,s=x++c::r/\c∉x/\na s [c]=O x
  |[]=>by left;exact⟨by simp[na],by simp⟩
  |b::l=>by
    by_cases h:b=c
    · subst h;right;exact⟨[],l,Z,by simp,by simp[na,ta]⟩
    · have a:¬c=b:=λe=>h e.symm;have J:ta [c] (b::l)=false:=by simp[ta,a]
      rcases idx1 c l with⟨h1,h2⟩|⟨x,r,h1,h2,h3⟩
      · left;refine⟨by rw[na,J,h1];simp,?_⟩;simp[h2,a]
      · right;refine⟨b::x,r,by rw[h1];rfl,by simp[h2,a],?_⟩;have:¬(na l [c]== -1)=true:=by rw[h3];simp
        rw[na,J,Z3 C3,Z3 this,h3];simp
theorem splitK_C(c:UInt8):∀(k:Nat) (s:uH),uF s [c]=k->yb [c] 0 k s=mH c s:=by
  intro k;induction k with
  |zero=>
    intro s W;rcases idx1 c s with⟨h1,h2⟩|⟨x,r,h1,h2,h3⟩
    · rw[Tq h2];rfl
    · rw[Lib.count_hit C3 h3]at W;omega
  |succ k ih=>
    intro s W;rcases idx1 c s with⟨h1,h2⟩|⟨x,r,h1,h2,h3⟩
    · rw[Lib.count_miss h1]at W;omega
    · have a:¬(na s [c]== -1)=true:=by rw[h3];simp
      rw[Lib.count_hit C3 h3]at W;have b:s.drop (O x+O [c])=r:=by rw[h1];simp
      rw[yb,Z3 a,h3];simp only[Int.toNat_natCast,Nat.add_zero];rw[b]at W⊢;rw[ih r V,h1,Ig h2,lj]
theorem split_C(c:UInt8)(s:uH):AF s [c]=mH c s:=splitK_C c _ s Z
def DZ(c:UInt8)(l:H uH):uH:=tv l [c]
theorem K7(c:UInt8)(x:uH):DZ c [x]=x:=Lib.join_one x [c]
theorem Ih(c:UInt8)(x y:uH)(l:H uH):DZ c (x::y::l)=x++c::DZ c (y::l):=by
 unfold DZ;rw[Lib.join_cons,Lib.join_cons];simp[Lib.joinTail]
theorem Cs(c:UInt8):∀(s:uH),DZ c (mH c s)=s
  |[]=>K7 c []
  |b::r=>by
    have a:=Cs c r;unfold mH;split
    · rename_i h;subst h;cases e:mH b r with
      |nil=>exact ZD e (Ie b r)
      |cons y l=>rw[Ih,<-e,a];rfl
    · split
      · rename_i x xs e;rw[e]at a;cases xs with
        |nil=>rw[K7]at a⊢;rw[a]
        |cons y l=>rw[Ih]at a⊢;rw[gf,a]
      · rename_i e;exact ZD e<|Ie c r
theorem EN(c:UInt8):∀(s:uH),O (mH c s)<=O s+1
  |[]=>by simp[mH]
  |b::r=>by
    have a:=EN c r;unfold mH;split
    · simp;omega
    · split
      · rename_i x xs e;rw[e]at a;simp at a⊢;omega
      · simp
theorem Ct(c:UInt8):∀(s x:uH),x∈mH c s->O x<=O s/\c∉x
  |[],x,h=>by simp[mH]at h;subst h;simp
  |b::r,x,h=>by
    unfold mH at h;split at h
    · rcases bs.1 h with rfl|h
      · simp
      · have:=Ct c r x h;exact⟨by simp;omega,this.2⟩
    · rename_i d;split at h
      · rename_i y f e;rcases bs.1 h with rfl|h
        · have:=Ct c r y (by rw[e];exact fo);refine⟨by simp;exact this.1,?_⟩;intro a;rcases bs.1 a with a|a
          · exact d a.symm
          · exact this.2 a
        · have:=Ct c r x (by rw[e];exact bo _ h);exact⟨by simp;omega,this.2⟩
      · rename_i e;exact ZD e<|Ie c r
theorem Ge(c:UInt8)(m:Nat):∀(l:H uH),(∀x∈l,O x<=m)->O (DZ c l)<=O l*(m+1)
 |[],_=>by simp[DZ,Lib.join_nil]
 |[x],h=>by rw[K7];have:=h x C3;simp;omega
 |x::y::l,h=>by
  have b:=h x C3;have d:=Ge c m (y::l) λz a=>h z<|bo _ a;rw[Ih,bn,bw,bw,Nat.succ_mul];omega
def Zl(c:UInt8)(s:uH):B (H Int):=(mH c s).mapM numOf
theorem IY:∀{w:H uH} {l:H Int},w.mapM numOf=U l->w=l.map ey/\∀x∈l,ky x
  |[],l,h=>by cases h;exact⟨Z,by simp⟩
  |x::w,l,h=>by
    rw[tE]at h;cases e:numOf x with
    |none=>rw[e]at h;cases h
    |some v=>
      rw[e]at h;cases e2:w.mapM numOf with
      |none=>rw[e2]at h;cases h
      |some m=>
        rw[e2]at h;cases h;obtain⟨c,d⟩:=IY e2;obtain⟨f,b⟩:=numOf_some e;refine⟨by rw[cF,<-c,<-f],?_⟩;intro y a;rcases bs.1 a with rfl|a
        · exact b
        · exact d y a
theorem join_nums{c:UInt8}{s:uH}{l:H Int}(h:Zl c s=U l):s=DZ c (l.map ey)/\(∀x∈l,ky x)/\l≠[]:=by
 obtain⟨a,b⟩:=IY h;refine⟨by rw[<-a,Cs],b,?_⟩;rintro rfl;exact Ie c s a
theorem Zm{n:Int}(h:ky n):Oa n=U (ey n):=by unfold Oa;rw[gJ h]
theorem atoiS_eq{w:uH}(h:O w<=281474976710656):Ob w=U (match fq w with| .ok v=>(v,aw)| .range=>(vA w,bd)|_=>(0,bd)):=by unfold Ob;rw[gJ h];all_goals (cases fq w<;>rfl)
theorem parseS_eq{w:uH}(h:O w<=281474976710656):L7 w=U (match fq w with| .ok v=>(v,aw)| .range=>(ya 64 w,bd)|_=>(0,bd)):=by unfold L7;rw[gJ h,Lib.parseIntB_64];all_goals (cases fq w<;>rfl)
theorem Sh{s:uH}(c:UInt8)(h:O s<4294967281):Tp s [c]=U (mH c s):=by unfold Tp;rw[gJ ⟨h,cj _⟩,split_C]
theorem joinS_eq{l:H uH}(c:UInt8)(h:O l<=140737488355328)(a:O (DZ c l)<=140737488355328):Hw l [c]=U (DZ c l):=by unfold Hw;rw[gJ ⟨h,a⟩];rfl
end Go.LX